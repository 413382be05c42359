/- Texts of this claim. -/
import Derived.Test.YtlmegkgkipjgbaaDoorS0
set_option linter.unusedVariables false
set_option linter.unusedSimpArgs false
namespace Go.Proofs.YtlmegkgkipjgbaaDoor.S33
set_option maxHeartbeats 20000000
open Go Go.Proofs.YtlmegkgkipjgbaaDoor.Vc Go.Proofs
set_option maxRecDepth 100000
theorem horner_lin (z x:UInt8):horner z [x,1]=z^^^x:=by
 show mulL (mulL 0 z^^^1) z^^^x=_
 rw [zero_mul',UInt8.zero_xor,one_mul']
theorem horner_const (z c:UInt8):horner z [c]=c:=by
 show mulL 0 z^^^c=c
 rw [zero_mul',UInt8.zero_xor]
theorem trim_lin (x:UInt8):trimL [x,1]= [x,1]:=trimL_snoc 1 [x]
theorem sz_lin (x:UInt8):sz [x,1]=2:=by unfold sz;rw [trim_lin];rfl
theorem xor_zero_iff {a b:UInt8}:a^^^b=0↔a=b:=UInt8.xor_eq_zero_iff
theorem sz_one {p:List UInt8} (h:sz p≤1) (z:UInt8):horner z p=co p 0:=by
 have e:∀i,co p i=co [co p 0] i:=fun i=>by
  cases i with
  |zero=>rfl
  |succ i=>rw [co_succ];exact sz_co p _ (by omega)
 rw [horner_ext z e,horner_const]
theorem sum_nil (p:List UInt8):sumL [p, []]=trimL p:=by rw [sumL_two,xorL_nil]
theorem factor (p:List UInt8) (x:UInt8) (h:horner x p=0):trimL p=prodL (divQ p [x,1]) [x,1]:=by
 have hb:trimL [x,1]≠ []:=by rw [trim_lin];simp
 have h1:=div_sum p [x,1] hb
 have h2:=div_rem p [x,1] hb
 rw [sz_lin] at h2
 have h3:horner x (trimL (divR p [x,1]).2)=0:=by
  have:=congrArg (horner x) h1
  rw [horner_sum,horner_prod,horner_lin,UInt8.xor_self,mul_zero',UInt8.zero_xor] at this
  rw [this,horner_trim,h]
 have h4:trimL (divR p [x,1]).2= []:=by
  refine trim_zero _ fun i=> ?_
  cases i with
  |zero=>rw [horner_trim,sz_one (by omega)] at h3;exact h3
  |succ i=>exact sz_co _ _ (by omega)
 rw [h4,sum_nil] at h1
 rw [←h1]
 exact prod_trim _ _
theorem sz_factor (p:List UInt8) (x:UInt8) (h:horner x p=0) (hp:trimL p≠ []):trimL (divQ p [x,1])≠ []∧sz (divQ p [x,1])+1=sz p:=by
 have h1:=factor p x h
 have hq:trimL (divQ p [x,1])≠ []:=fun e=>by
  rw [prod_zero_l _ _ e] at h1
  exact hp h1
 have h2:=sz_prod (divQ p [x,1]) [x,1] hq (by rw [trim_lin];simp)
 rw [sz_lin] at h2
 have h3:sz p=sz (prodL (divQ p [x,1]) [x,1]):=by rw [←h1,sz_trim]
 exact⟨hq,by omega⟩
theorem roots_lt:∀(xs:List UInt8) (p:List UInt8),xs.Nodup→(∀x∈xs,horner x p=0)→trimL p≠ []→xs.length<sz p
 |[],p,_,_,hp=>List.length_pos_iff.2 hp
 | x::xs,p,hn,h,hp=>by
  have h1:=factor p x (h x (by simp))
  obtain⟨h2,h3⟩:=sz_factor p x (h x (by simp)) hp
  rw [List.nodup_cons] at hn
  have:=roots_lt xs (divQ p [x,1]) hn.2 (fun z hz=>by
   have h4:horner z (trimL p)=0:=by rw [horner_trim];exact h z (by simp [hz])
   rw [h1,horner_prod,horner_lin] at h4
   rcases mul_eq_zero' h4 with e|e
   ·exact e
   ·exact absurd (xor_zero_iff.1 e▸hz) hn.1) h2
  simp only [List.length_cons]
  omega
theorem poly_zero (xs p:List UInt8) (hn:xs.Nodup) (h:∀x∈xs,horner x p=0) (hs:sz p≤xs.length):trimL p= []:=
 Classical.byContradiction fun hp=>by
  have:=roots_lt xs p hn h hp
  omega
theorem poly_unique (xs p q:List UInt8) (hn:xs.Nodup) (h:∀x∈xs,horner x p=horner x q) (hp:sz p≤xs.length) (hq:sz q≤xs.length):trimL p=trimL q:=by
 have hz:trimL (xorL p q)= []:=poly_zero xs _ hn (fun x hx=>by rw [horner_xor,h x hx,UInt8.xor_self]) (sz_le fun i hi=>by rw [co_xor,sz_co p i (by omega),sz_co q i (by omega)];rfl)
 refine trim_ext _ _ fun i=> ?_
 have:co (xorL p q) i=0:=by rw [←co_trim,hz];rfl
 rw [co_xor] at this
 exact xor_zero_iff.1 this

theorem roots_val (z:UInt8):∀(xs p:List UInt8),(z∈xs→horner z (xs.foldl (fun p x=>prodL p [x,1]) p)=0)∧(horner z p=0→horner z (xs.foldl (fun p x=>prodL p [x,1]) p)=0)
 |[],p=>⟨fun h=>by simp at h,fun h=>h⟩
 |x::xs,p=>by
  obtain⟨h1,h2⟩:=roots_val z xs (prodL p [x,1])
  refine⟨fun h=> ?_,fun h=>h2 (by rw [horner_prod,h,zero_mul'])⟩
  rcases List.mem_cons.1 h with e|e
  ·exact h2 (by rw [horner_prod,horner_lin,e,UInt8.xor_self,mul_zero'])
  ·exact h1 e
theorem rootsL_zero (xs:List UInt8) (z:UInt8) (h:z∈xs):horner z (rootsL xs)=0:=(roots_val z xs [1]).1 h
theorem roots_sz:∀(xs p:List UInt8),trimL p≠ []→trimL (xs.foldl (fun p x=>prodL p [x,1]) p)≠ []∧sz (xs.foldl (fun p x=>prodL p [x,1]) p)=sz p+xs.length
 |[],p,h=>⟨h,rfl⟩
 | x::xs,p,h=>by
  have hl:trimL [x,1]≠ []:=by rw [trim_lin];simp
  have h1:=sz_prod p [x,1] h hl
  rw [sz_lin] at h1
  have h2:trimL (prodL p [x,1])≠ []:=fun e=>by
   rw [prod_trim] at e
   rcases prod_eq_nil e with e|e
   ·exact h e
   ·exact hl e
  obtain⟨h3,h4⟩:=roots_sz xs (prodL p [x,1]) h2
  exact⟨h3,by show sz (xs.foldl _ (prodL p [x,1]))=_;rw [h4];simp only [List.length_cons];omega⟩
theorem trim_one:trimL [1]= [1]:=trimL_snoc 1 []
theorem rootsL_sz (xs:List UInt8):trimL (rootsL xs)≠ []∧sz (rootsL xs)=xs.length+1:=by
 obtain⟨h1,h2⟩:=roots_sz xs [1] (by rw [trim_one];simp)
 refine⟨h1,?_⟩
 have:sz [1]=1:=by unfold sz;rw [trim_one];rfl
 unfold rootsL
 omega

theorem part_val (xs:List UInt8) (hn:xs.Nodup) (x y z:UInt8) (hx:x∈xs) (hz:z∈xs):horner z (partL (rootsL xs) x y)=if z=x then y else 0:=by
 have hr:=rootsL_zero xs
 have h1:=factor (rootsL xs) x (hr x hx)
 have hs:=sz_factor (rootsL xs) x (hr x hx) (rootsL_sz xs).1
 have hq:∀z∈xs,z≠x→horner z (divQ (rootsL xs) [x,1])=0:=fun z hz hne=>by
  have h4:horner z (trimL (rootsL xs))=0:=by rw [horner_trim];exact hr z hz
  rw [h1,horner_prod,horner_lin] at h4
  rcases mul_eq_zero' h4 with e|e
  ·exact e
  ·exact absurd (xor_zero_iff.1 e) hne
 have hx0:horner x (divQ (rootsL xs) [x,1])≠0:=fun e=>by
  have:=roots_lt xs (divQ (rootsL xs) [x,1]) hn (fun z hz=>by
   by_cases hzx:z=x
   ·rw [hzx];exact e
   ·exact hq z hz hzx) hs.1
  have:=(rootsL_sz xs).2
  omega
 unfold partL
 rw [horner_prod,horner_const]
 by_cases hzx:z=x
 ·rw [if_pos hzx,hzx]
  have:∀a b:UInt8,a≠0→mulL a (mulL b (invL a))=b:=fun a b ha=>by
   rw [mul_comm' b,←mul_assoc',mul_inv' a ha,one_mul']
  exact this _ _ hx0
 ·rw [if_neg hzx,hq z hz hzx,zero_mul']
theorem part_sz (xs:List UInt8) (x y:UInt8) (hx:x∈xs):sz (partL (rootsL xs) x y)≤xs.length:=by
 have hs:=sz_factor (rootsL xs) x (rootsL_zero xs x hx) (rootsL_sz xs).1
 have h1:=(rootsL_sz xs).2
 unfold partL
 have h2:=sz_prod_le (divQ (rootsL xs) [x,1]) [mulL y (invL (horner x (divQ (rootsL xs) [x,1])))]
 have h3:=sz_len [mulL y (invL (horner x (divQ (rootsL xs) [x,1])))]
 simp only [List.length_cons,List.length_nil] at h3
 omega
def at1 (z:UInt8) (zs:List (UInt8×UInt8)) (s:UInt8):UInt8:=zs.foldl (fun s q=>s^^^(if z=q.1 then q.2 else 0)) s
theorem thrF_val (xs:List UInt8) (hn:xs.Nodup) (z:UInt8) (hz:z∈xs):∀(zs:List (UInt8×UInt8)) (p:List UInt8),(∀q∈zs,q.1∈xs)→horner z (zs.foldl (fun p q=>sumL [p,partL (rootsL xs) q.1 q.2]) p)=at1 z zs (horner z p)
 |[],p,_=>rfl
 |q::zs,p,h=>by
  show horner z (zs.foldl _ (sumL [p,partL (rootsL xs) q.1 q.2]))=at1 z zs (horner z p^^^(if z=q.1 then q.2 else 0))
  rw [thrF_val xs hn z hz zs _ (fun r hr=>h r (by simp [hr])),horner_sum,part_val xs hn q.1 q.2 z (h q (by simp)) hz]
theorem at1_zip (z:UInt8):∀(xs ys:List UInt8) (s:UInt8),xs.Nodup→xs.length=ys.length→(z∉xs→at1 z (xs.zip ys) s=s)∧∀k,k<xs.length→xs.getD k 0=z→at1 z (xs.zip ys) s=s^^^ys.getD k 0
 |[],ys,s,_,_=>⟨fun _=>rfl,fun k h=>by simp at h⟩
 |x::xs, [],s,_,h=>by simp at h
 | x::xs,y::ys,s,hn,hl=>by
  rw [List.nodup_cons] at hn
  have ih:=fun s=>at1_zip z xs ys s hn.2 (by simpa using hl)
  refine⟨fun h=> ?_,fun k hk he=> ?_⟩
  ·have hne:z≠x:=fun e=>h (by simp [e])
   show at1 z (xs.zip ys) (s^^^if z=x then y else 0)=s
   rw [if_neg hne,(ih _).1 (fun hm=>h (by simp [hm]))]
   simp
  ·show at1 z (xs.zip ys) (s^^^if z=x then y else 0)=_
   cases k with
   |zero=>
    have e:x=z:=he
    rw [if_pos e.symm,(ih _).1 (e▸hn.1)]
    rfl
   |succ k=>
    have he:xs.getD k 0=z:=he
    have hk:k<xs.length:=by simpa using hk
    have hm:z∈xs:=by rw [←he];simp [List.getElem?_eq_getElem hk]
    have hne:z≠x:=fun e=>hn.1 (e▸hm)
    rw [if_neg hne,(ih _).2 k hk he]
    simp
theorem thrL_val (xs ys:List UInt8) (h:rightP xs ys) (k:Nat) (hk:k<xs.length):horner (xs.getD k 0) (thrL xs ys)=ys.getD k 0:=by
 have hm:xs.getD k 0∈xs:=by simp [List.getElem?_eq_getElem hk]
 have h1:=thrF_val xs h.1 _ hm (xs.zip ys) [] fun q hq=>(List.of_mem_zip hq).1
 have h2:=(at1_zip (xs.getD k 0) xs ys (horner (xs.getD k 0) []) h.1 h.2).2 k hk rfl
 unfold thrL thrF
 rw [h1,h2]
 show 0^^^_=_
 simp
theorem thrF_sz (xs:List UInt8):∀(zs:List (UInt8×UInt8)) (p:List UInt8),(∀q∈zs,q.1∈xs)→sz p≤xs.length→sz (zs.foldl (fun p q=>sumL [p,partL (rootsL xs) q.1 q.2]) p)≤xs.length
 |[],p,_,h=>h
 |q::zs,p,hq,h=>thrF_sz xs zs _ (fun r hr=>hq r (by simp [hr])) (sz_sum_le _ _ _ h (part_sz xs q.1 q.2 (hq q (by simp))))
theorem thrL_sz (xs ys:List UInt8):sz (thrL xs ys)≤xs.length:=thrF_sz xs _ [] (fun q hq=>(List.of_mem_zip hq).1) (Nat.zero_le _)
theorem fold_trim {α:Type} (f:List UInt8→α→List UInt8) (hf:∀p a,trimL (f p a)=f p a):∀(l:List α) (p:List UInt8),trimL p=p→trimL (l.foldl f p)=l.foldl f p
 |[],p,h=>h
 |a::l,p,_=>fold_trim f hf l _ (hf p a)
theorem thrL_trim (xs ys:List UInt8):trimL (thrL xs ys)=thrL xs ys:=fold_trim _ (fun p q=>sum_trim _ _) _ _ rfl
theorem thrL_unique (xs ys p:List UInt8) (h:rightP xs ys) (hp:sz p≤xs.length) (hv:∀k,k<xs.length→horner (xs.getD k 0) p=ys.getD k 0):thrL xs ys=trimL p:=by
 rw [←thrL_trim]
 refine poly_unique xs _ _ h.1 (fun x hx=> ?_) (thrL_sz xs ys) hp
 obtain⟨k,hk,rfl⟩:=List.mem_iff_getElem.1 hx
 have e:xs.getD k 0=xs[k]:=by simp [List.getElem?_eq_getElem hk]
 rw [←e,thrL_val xs ys h k hk,hv k hk]
set_option linter.unusedVariables false
def decT (a b:List UInt8) (d w:Int):List UInt8×List Int×Int:=(decL a b d w).getD ([], [],0)
def sDecT:List V→Option (Prop×V×List Blk)
 |[.sl false .u8 a,.sl false .u8 b,.int .i64 d,.int .i64 w]=>some (a.length≤10000∧b.length≤10000∧(decL a b d w).isSome=true,.tup [.own .u8 0,.own (.int .i64) 1,.int .i64 ((decT a b d w).2.2)], [.row true .u8 ((decT a b d w).1),.row true (.int .i64) ((decT a b d w).2.1)])
 |_=>none
theorem bDecT (a b:List UInt8) (d w:Int) (hp0:a.length≤10000) (hp1:b.length≤10000) (hp2:(decL a b d w).isSome=true):bodyP (En C23 tys G6 []) Tryd.f76 [.o .u8,.o (.int .i64),.k] [.sl false .u8 a,.sl false .u8 b,.int .i64 d,.int .i64 w] (.tup [.own .u8 0,.own (.int .i64) 1,.int .i64 ((decT a b d w).2.2)]) [.row true .u8 ((decT a b d w).1),.row true (.int .i64) ((decT a b d w).2.1)]:=by
 obtain⟨x,hx⟩:=Option.isSome_iff_exists.1 hp2
 obtain⟨p,l,e⟩:=x
 have h:=bDec a b d w p l e hp0 hp1 hx
 unfold decT
 rw [hx]
 exact h
def CDecT:List (Nat×Con):=(76,pureC [.v (.sl .u8),.v (.sl .u8),.v (.int .i64),.v (.int .i64)] sDecT)::C23
theorem kDecT:Known Tryd.prog (En CDecT tys G6 []):=k23.add Tryd.func76 Tryd.call76 [.o .u8,.o (.int .i64),.k] fun ds p v bs h hp=>by
 unfold sDecT at h
 split at h<;>simp only [Option.some.injEq,Prod.mk.injEq,reduceCtorEq] at h
 obtain⟨rfl,rfl,rfl⟩:=h
 exact bDecT _ _ _ _ hp.1 hp.2.1 hp.2.2
def sRMul:List V→Option (Prop×V×List Blk)
 |[.u8 a,.u8 b]=>some (True,.u8 (mulL a b), [])
 |_=>none
theorem bRMul (a b:UInt8)  :bodyP (En CDecT tys G6 []) Tryd.f108 [.k] [.u8 a,.u8 b] (.u8 (mulL a b)) []:=by
 rw [←mul_same]
 exact bRmul a b
def CRMul:List (Nat×Con):=(108,pureC [.v .u8,.v .u8] sRMul)::CDecT
theorem kRMul:Known Tryd.prog (En CRMul tys G6 []):=kDecT.add Tryd.func108 Tryd.call108 [.k] fun ds p v bs h hp=>by
 unfold sRMul at h
 split at h<;>simp only [Option.some.injEq,Prod.mk.injEq,reduceCtorEq] at h
 obtain⟨rfl,rfl,rfl⟩:=h
 exact bRMul _ _
def rinvM (a:UInt8):Nat→Nat→UInt8
 |0,_=>0
 |f+1,b=>if mulL a (UInt8.ofNat b)=1 then UInt8.ofNat b else rinvM a f (b+1)
theorem rinvM_same (a:UInt8):∀f b,rinvM a f b=rinvF a f b
 |0,b=>rfl
 |f+1,b=>by unfold rinvM rinvF;rw [mul_same,rinvM_same a f]
theorem rinvM_ok (a:UInt8):rinvM a 255 1=invL a:=by rw [rinvM_same];exact inv_same a
def sRInv:List V→Option (Prop×V×List Blk)
 |[.u8 a]=>some (True,.u8 (invL a), [])
 |_=>none
theorem bRInv (a:UInt8):bodyQ (En CRMul tys G6 []) Tryd.f118 [.k] sRInv [.u8 a]:=by
 intro _
 refine⟨0, [(0,.k),(3,.k)],fun nM vs H=>∃(b:Nat),1≤b∧b≤256∧rinvM a (256-b) b=invL a∧nM=256-b∧vs= [.u8 a,.i b]∧H= [],⟨rfl,255,1,by omega,by omega,rinvM_ok a,by omega,rfl,rfl⟩,?_⟩
 rintro nM vs H ⟨b,hc1_0,hc1_1,hc1_2,rfl,rfl,rfl⟩
 refine yn ((b:Int)<256) (fun h0=> ?_) fun h0=> ?_
 ·have hm:((b:Int)%256).toNat=b:=by omega
  rw [show 256-b=(255-b)+1 by omega,rinvM] at hc1_2
  refine⟨trivial,yn ((mulL a (UInt8.ofNat ((b:Int)%256).toNat))=1) (fun h1=> ?_) fun h1=> ?_⟩
  ·rw [hm] at h1
   rw [if_pos h1] at hc1_2
   refine⟨rfl,rfl,?_,rfl⟩
   show V.u8 (UInt8.ofNat ((b:Int)%256).toNat)= .u8 (invL a)
   rw [hm,hc1_2]
  ·rw [hm] at h1
   refine⟨r64 (b+1),?_⟩
   rw [if_neg h1] at hc1_2
   exact⟨rfl,256-(b+1),by omega,b+1,by omega,by omega,by rw [←hc1_2];congr 1;omega,rfl,rfl,rfl⟩
 ·have hb:b=256:=by omega
  subst hb
  rw [←hc1_2]
  exact d4'
def CRInv:List (Nat×Con):=(118,pureC [.v .u8] sRInv)::CRMul
theorem kRInv:Known Tryd.prog (En CRInv tys G6 []):=kRMul.addQ Tryd.func118 Tryd.call118 [.k] fun ds _ _ _ h=>by unfold sRInv at h;split at h;exact bRInv _;cases h
def rEvA (x:UInt8):List UInt8→UInt8→UInt8→UInt8
 |[],_,s=>s
 |c::p,w,s=>rEvA x p (mulL w x) (s^^^mulL c w)
theorem rEvA_ok (x:UInt8):∀(p:List UInt8) (w s:UInt8),rEvA x p w s=s^^^mulL w (horner x p)
 |[],w,s=>by simp [rEvA,horner,mul_zero']
 |c::p,w,s=>by
  rw [rEvA,rEvA_ok x p,horner,mulL_addr,mul_comm' c w,mul_comm' (horner x p) x,←mul_assoc']
  ac_rfl
theorem reval_ok (x:UInt8) (p:List UInt8):rEvA x p 1 0=horner x p:=by rw [rEvA_ok,one_mul'];simp
def sREval:List V→Option (Prop×V×List Blk)
 |[.sl false .u8 p,.u8 x]=>some (p.length≤1000000,.u8 (horner x p), [])
 |_=>none
theorem bREval (p:List UInt8) (x:UInt8):bodyQ (En CRInv tys G6 []) Tryd.f94 [.k] sREval [.sl false .u8 p,.u8 x]:=by
 intro hp0
 refine⟨0, [(0,.k),(1,.k),(5,.k),(6,.k),(7,.k)],fun nM vs H=>∃(k:Nat) (s w:UInt8),k≤p.length∧rEvA x (p.drop k) w s=horner x p∧nM=p.length-k∧vs= [.sl false .u8 p,.u8 x,.u8 s,.u8 w,.i k]∧H= [],⟨rfl,p.length,0,0,1,by omega,reval_ok x p,by omega,rfl,rfl⟩,?_⟩
 rintro nM vs H ⟨k,s,w,hc1_0,hc1_1,rfl,rfl,rfl⟩
 refine yn ((k:Int)<(p.length:Int)) (fun h0=> ?_) fun h0=> ?_
 ·refine⟨ix k p.length,trivial,trivial,r64 (k+1),?_⟩
  rw [drop_one p k (by omega),rEvA] at hc1_1
  exact⟨rfl,p.length-(k+1),by omega,k+1,_,_,by omega,hc1_1,rfl,rfl,rfl⟩
 ·have hk:k=p.length:=by omega
  rw [hk,List.drop_length,rEvA] at hc1_1
  rw [hc1_1]
  exact d4'
def CREval:List (Nat×Con):=(94,pureC [.v (.sl .u8),.v .u8] sREval)::CRInv
theorem kREval:Known Tryd.prog (En CREval tys G6 []):=kRInv.addQ Tryd.func94 Tryd.call94 [.k] fun ds _ _ _ h=>by unfold sREval at h;split at h;exact bREval _ _;cases h
def sRDeg:List V→Option (Prop×V×List Blk)
 |[.sl false .u8 p]=>some (p.length≤1000000,.int .i64 (degL p), [])
 |_=>none
theorem bRDeg (p:List UInt8):bodyQ (En CREval tys G6 []) Tryd.f125 [.k] sRDeg [.sl false .u8 p]:=by
 intro hp0
 refine⟨0, [(0,.k),(3,.k),(4,.k)],fun nM vs H=>∃(k:Nat),k≤p.length∧nM=p.length-k∧vs= [.sl false .u8 p,.i (degL (p.take k)),.i k]∧H= [],⟨rfl,p.length,0,by omega,by omega,rfl,rfl⟩,?_⟩
 rintro nM vs H ⟨k,hc1_0,rfl,rfl,rfl⟩
 refine yn ((k:Int)<(p.length:Int)) (fun h0=> ?_) fun h0=> ?_
 ·refine⟨ix k p.length,yn ((p.getD k 0)≠0) (fun h1=> ?_) fun h1=> ?_⟩
  ·refine⟨r64 (k+1),?_⟩
   have e:degL (p.take (k+1))=_:=congrArg (fun l:List UInt8=>(l.length:Int)-1) (by rw [take_snoc p k (by omega),trimL_snoc])
   refine⟨rfl,p.length-(k+1),by omega,k+1,by omega,rfl,?_,rfl⟩
   rw [e]
   first|rw [if_pos (nw h1)]|(rw [if_neg h1];simp only [List.length_append,List.length_take,List.length_cons,List.length_nil,Nat.min_eq_left hc1_0];rw [show((k+(0+1):Nat):Int)-1=k by omega])
   rfl
  ·refine⟨r64 (k+1),?_⟩
   have e:degL (p.take (k+1))=_:=congrArg (fun l:List UInt8=>(l.length:Int)-1) (by rw [take_snoc p k (by omega),trimL_snoc])
   refine⟨rfl,p.length-(k+1),by omega,k+1,by omega,rfl,?_,rfl⟩
   rw [e]
   first|rw [if_pos (nw h1)]|(rw [if_neg h1];simp only [List.length_append,List.length_take,List.length_cons,List.length_nil,Nat.min_eq_left hc1_0];rw [show((k+(0+1):Nat):Int)-1=k by omega])
   rfl
 ·have hk:k=p.length:=by omega
  rw [hk,List.take_length]
  exact d4'
def CRDeg:List (Nat×Con):=(125,pureC [.v (.sl .u8)] sRDeg)::CREval
theorem kRDeg:Known Tryd.prog (En CRDeg tys G6 []):=kREval.addQ Tryd.func125 Tryd.call125 [.k] fun ds _ _ _ h=>by unfold sRDeg at h;split at h;exact bRDeg _;cases h
def sRTrim:List V→Option (Prop×V×List Blk)
 |[.sl false .u8 p]=>some (p.length≤1000000,.own .u8 0, [.row true .u8 (trimL p)])
 |_=>none
theorem bRTrim (p:List UInt8):bodyQ (En CRDeg tys G6 []) Tryd.f124 [.o .u8] sRTrim [.sl false .u8 p]:=by
 intro hp0
 have h1:=trimL_len p
 have h2:degL p=(trimL p).length-1:=rfl
 refine⟨om (p.length≤1000000),0, [(0,.k),(3,.o .u8),(4,.k),(5,.k)],fun nM vs H=>∃(k:Nat),k≤(trimL p).length∧nM=(trimL p).length-k∧vs= [.sl false .u8 p,.own .u8 0,.int .i64 (degL p),.int .i64 (k:Int)]∧H= [.row true .u8 (p.take k)],⟨rfl,(trimL p).length,0,by omega,by omega,rfl,rfl⟩,?_⟩
 rintro nM vs H ⟨k,hc1_0,rfl,rfl,rfl⟩
 have hl:(p.take k).length=k:=by rw [List.length_take];omega
 refine yn ((k:Int)≤(degL p)) (fun h0=> ?_) fun h0=> ?_
 ·refine⟨ix k p.length,w2',lT p k,r64 (k+1),?_⟩
  refine⟨rfl,(trimL p).length-(k+1),by omega,k+1,by omega,rfl,rfl,?_⟩
  rw [take_snoc p k (by omega)]
  rfl
 ·have hk:k=(trimL p).length:=by omega
  rw [hk,trimL_take]
  exact d4'
def CRTrim:List (Nat×Con):=(124,pureC [.v (.sl .u8)] sRTrim)::CRDeg
theorem kRTrim:Known Tryd.prog (En CRTrim tys G6 []):=kRDeg.addQ Tryd.func124 Tryd.call124 [.o .u8] fun ds _ _ _ h=>by unfold sRTrim at h;split at h;exact bRTrim _;cases h
theorem xorL_step (z l:List UInt8) (k:Nat) (hk:k<l.length) (hl:l.length≤z.length):xorL z (l.take (k+1))=(xorL z (l.take k)).set k ((xorL z (l.take k)).getD k 0^^^l.getD k 0):=by
 have h:=xorL_snoc (l.getD k 0) z (l.take k)
 rw [←take_snoc l k hk,List.length_take,Nat.min_eq_left (by omega),xorL_length,List.length_take,Nat.min_eq_left (by omega:k≤l.length),Nat.max_eq_left (by omega:k≤z.length),if_neg (by omega)] at h
 exact h
theorem xorL_zeros:∀(n:Nat) (a:List UInt8),n≤a.length→xorL (List.replicate n 0) a=a
 |0,a,h=>by cases a<;>rfl
 |n+1, [],h=>by simp at h
 |n+1,x::a,h=>by rw [List.replicate_succ,xorL,xorL_zeros n a (by simpa using h)];simp
theorem trimL_zeros (a:List UInt8):∀n,trimL (a++List.replicate n 0)=trimL a
 |0=>by simp
 |n+1=>by rw [List.replicate_succ',←List.append_assoc,trimL_snoc,if_pos rfl,trimL_zeros a n]
theorem xorL_zeros_ge:∀(n:Nat) (a:List UInt8),a.length≤n→xorL (List.replicate n 0) a=a++List.replicate (n-a.length) 0
 |n, [],h=>by simp [xorL_nil]
 |0,x::a,h=>by simp at h
 |n+1,x::a,h=>by rw [List.replicate_succ,xorL,xorL_zeros_ge n a (by simpa using h)];simp
theorem xorL_pad:∀(a b:List UInt8) (n:Nat),∃m,xorL (a++List.replicate n 0) b=xorL a b++List.replicate m 0
 |[],b,n=>by
  rw [List.nil_append,xorL]
  rcases Nat.le_total n b.length with h|h
  ·exact⟨0,by rw [xorL_zeros n b h];simp⟩
  ·exact⟨_,xorL_zeros_ge n b h⟩
 |x::a, [],n=>⟨n,by simp [xorL]⟩
 |x::a,y::b,n=>by
  obtain⟨m,hm⟩:=xorL_pad a b n
  exact⟨m,by rw [List.cons_append,xorL,hm,xorL];rfl⟩
theorem radd_ok (a b:List UInt8):trimL (xorL (xorL (List.replicate (max a.length b.length) 0) a) b)=sumL [a,b]:=by
 have e:sumL [a,b]=trimL (xorL a b):=by simp [sumL,sumA,xorL]
 rw [e,xorL_zeros_ge _ a (by omega)]
 obtain⟨m,hm⟩:=xorL_pad a b (max a.length b.length-a.length)
 rw [hm,trimL_zeros]
def sRAdd:List V→Option (Prop×V×List Blk)
 |[.sl false .u8 a,.sl false .u8 b]=>some (a.length≤1000000∧b.length≤1000000,.own .u8 0, [.row true .u8 (sumL [a,b])])
 |_=>none
theorem bRAdd (a b:List UInt8):bodyQ (En CRTrim tys G6 []) Tryd.f120 [.o .u8] sRAdd [.sl false .u8 a,.sl false .u8 b]:=by
 rintro⟨hp0,hp1⟩
 obtain⟨z,hz⟩:∃z:List UInt8,z=List.replicate (max a.length b.length) 0:=⟨_,rfl⟩
 have hzl:z.length=max a.length b.length:=by rw [hz,List.length_replicate]
 have hmx:(max (a.length:Int) (b.length:Int)).toNat=max a.length b.length:=by omega
 refine⟨⟨rfl,om ((0:Int)≤max (a.length:Int) (b.length:Int)),om (max (a.length:Int) (b.length:Int)≤(1000000000:Int))⟩,0, [(0,.k),(1,.k),(5,.o .u8),(6,.k)],fun nM vs H=>∃(k:Nat),k≤a.length∧nM=a.length-k∧vs= [.sl false .u8 a,.sl false .u8 b,.own .u8 0,.int .i64 (k:Int)]∧H= [.row true .u8 (xorL z (a.take k))],⟨rfl,a.length,0,by omega,by omega,rfl,by rw [List.take_zero,xorL_nil,hz,←hmx];rfl⟩,?_⟩
 rintro nM vs H ⟨k,hc1_0,rfl,rfl,rfl⟩
 have hl:(xorL z (a.take k)).length=max a.length b.length:=by rw [xorL_length,List.length_take];omega
 refine yn ((k:Int)<(a.length:Int)) (fun h0=> ?_) fun h0=> ?_
 ·refine⟨by kernel_rfl,ix k (xorL z (a.take k)).length,ix k a.length,ix k (xorL z (a.take k)).length,w2',r64 (k+1),?_⟩
  exact⟨rfl,a.length-(k+1),by omega,k+1,by omega,rfl,rfl,by rw [xorL_step z a k (by omega) (by omega)];rfl⟩
 ·have hk:k=a.length:=by omega
  refine⟨0, [(1,.k),(5,.o .u8),(7,.k)],fun nM vs H=>∃(k:Nat),k≤b.length∧nM=b.length-k∧vs= [.sl false .u8 b,.own .u8 0,.i k]∧H= [.r .u8 (xorL (xorL z a) (b.take k))],⟨rfl,b.length,0,by omega,by omega,rfl,by rw [hk];rw [List.take_zero,xorL_nil,List.take_length];rfl⟩,?_⟩
  rintro nM vs H ⟨k,hc2_0,rfl,rfl,rfl⟩
  have hl:(xorL (xorL z a) (b.take k)).length=max a.length b.length:=by rw [xorL_length,xorL_length,List.length_take];omega
  refine yn ((k:Int)<(b.length:Int)) (fun h1=> ?_) fun h1=> ?_
  ·refine⟨by kernel_rfl,ix k (xorL (xorL z a) (b.take k)).length,ix k b.length,ix k (xorL (xorL z a) (b.take k)).length,w2',r64 (k+1),?_⟩
   exact⟨rfl,b.length-(k+1),by omega,k+1,by omega,rfl,rfl,by rw [xorL_step (xorL z a) b k (by omega) (by rw [xorL_length];omega)];rfl⟩
  ·have hk:k=b.length:=by omega
   refine⟨os ((xorL (xorL z a) (b.take k)).length≤1000000),?_⟩
   rw [hk,List.take_length,hz,radd_ok]
   exact d4'
def CRAdd:List (Nat×Con):=(120,pureC [.v (.sl .u8),.v (.sl .u8)] sRAdd)::CRTrim
theorem kRAdd:Known Tryd.prog (En CRAdd tys G6 []):=kRTrim.addQ Tryd.func120 Tryd.call120 [.o .u8] fun ds _ _ _ h=>by unfold sRAdd at h;split at h;exact bRAdd _ _;cases h
def sRProd:List V→Option (Prop×V×List Blk)
 |[.sl false .u8 a,.sl false .u8 b]=>some (a.length≤100000∧b.length≤100000,.own .u8 0, [.row true .u8 (prodL a b)])
 |_=>none
theorem bRProd (a b:List UInt8):bodyQ (En CRAdd tys G6 []) Tryd.f119 [.o .u8] sRProd [.sl false .u8 a,.sl false .u8 b]:=by
 rintro⟨hp0,hp1⟩
 obtain⟨fin,hfin⟩:∃fin,fin=prodA b (List.replicate (a.length+b.length) 0) 0 a:=⟨_,rfl⟩
 have hfl:fin.length=a.length+b.length:=by rw [hfin,prodA_len,List.length_replicate]
 have hab:((a.length:Int)+(b.length:Int)).toNat=a.length+b.length:=by omega
 refine⟨r64 (a.length+b.length),⟨rfl,om ((0:Int)≤((a.length:Int)+(b.length:Int))),om (((a.length:Int)+(b.length:Int))≤(1000000000:Int))⟩,0, [(0,.k),(1,.k),(5,.o .u8),(6,.k)],fun nM vs H=>∃(i:Nat) (cur:List UInt8),i≤a.length∧cur.length=a.length+b.length∧prodA b cur i (a.drop i)=fin∧nM=a.length-i∧vs= [.sl false .u8 a,.sl false .u8 b,.own .u8 0,.int .i64 (i:Int)]∧H= [.row true .u8 cur],⟨rfl,a.length,0,List.replicate (a.length+b.length) 0,by omega,by rw [List.length_replicate],hfin.symm,by omega,rfl,by rw [←hab];rfl⟩,?_⟩
 rintro nM vs H ⟨i,cur,hc1_0,hc1_1,hc1_2,rfl,rfl,rfl⟩
 refine yn ((i:Int)<(a.length:Int)) (fun h0=> ?_) fun h0=> ?_
 ·rw [drop_one a i (by omega),prodA] at hc1_2
  refine⟨0, [(0,.k),(1,.k),(5,.o .u8),(6,.k),(7,.k)],fun nM vs H=>∃(k:Nat) (c2:List UInt8),k≤b.length∧c2.length=a.length+b.length∧rowA (a.getD i 0) c2 (i+k) (b.drop k)=rowA (a.getD i 0) cur i b∧nM=b.length-k∧vs= [.sl false .u8 a,.sl false .u8 b,.own .u8 0,.i i,.i k]∧H= [.r .u8 c2],⟨rfl,b.length,0,cur,by omega,hc1_1,rfl,by omega,rfl,rfl⟩,?_⟩
  rintro nM vs H ⟨k,c2,hc2_0,hc2_1,hc2_2,rfl,rfl,rfl⟩
  refine yn ((k:Int)<(b.length:Int)) (fun h1=> ?_) fun h1=> ?_
  ·refine⟨by kernel_rfl,r64 (i+k),r64 (i+k),ix (i+k) c2.length,ix i a.length,ix k b.length,trivial,ix (i+k) c2.length,w2',r64 (k+1),?_⟩
   rw [drop_one b k (by omega),rowA] at hc2_2
   exact⟨rfl,b.length-(k+1),by omega,k+1,_,by omega,by rw [addAt_len];exact hc2_1,hc2_2,rfl,rfl,rfl⟩
  ·have hk:k=b.length:=by omega
   rw [hk,List.drop_length,rowA] at hc2_2
   refine⟨r64 (i+1),?_⟩
   exact⟨rfl,a.length-(i+1),by omega,i+1,c2,by omega,hc2_1,by rw [hc2_2];exact hc1_2,rfl,rfl,rfl⟩
 ·refine⟨om (cur.length≤1000000),?_⟩
  have hi:i=a.length:=by omega
  rw [hi,List.drop_length,prodA] at hc1_2
  rw [hc1_2,hfin]
  exact d4'
def CRProd:List (Nat×Con):=(119,pureC [.v (.sl .u8),.v (.sl .u8)] sRProd)::CRAdd
theorem kRProd:Known Tryd.prog (En CRProd tys G6 []):=kRAdd.addQ Tryd.func119 Tryd.call119 [.o .u8] fun ds _ _ _ h=>by unfold sRProd at h;split at h;exact bRProd _ _;cases h
def sRRight:List V→Option (Prop×V×List Blk)
 |[.sl false .u8 a,.sl false .u8 b]=>some (a.length≤2000000∧b.length≤2000000,.b (rightP a b), [])
 |_=>none
theorem bRRight (a b:List UInt8):bodyQ (En CRProd tys G6 []) Tryd.f104 [.k] sRRight [.sl false .u8 a,.sl false .u8 b]:=by
 rintro⟨hp0,hp1⟩
 refine⟨0, [(0,.k),(1,.k),(5,.k)],fun nM vs H=>∃(i:Nat),i≤a.length∧(a.take i).Nodup∧nM=a.length-i∧vs= [.sl false .u8 a,.sl false .u8 b,.i i]∧H= [],⟨rfl,a.length,0,by omega,by simp,by omega,rfl,rfl⟩,?_⟩
 rintro nM vs H ⟨i,hc1_0,hc1_1,rfl,rfl,rfl⟩
 refine yn ((i:Int)<(a.length:Int)) (fun h0=> ?_) fun h0=> ?_
 ·refine⟨0, [(0,.k),(1,.k),(5,.k),(6,.k)],fun nM vs H=>∃(k:Nat),k≤i∧a.getD i 0∉a.take k∧nM=i-k∧vs= [.sl false .u8 a,.sl false .u8 b,.i i,.i k]∧H= [],⟨rfl,i,0,by omega,by simp,by omega,rfl,rfl⟩,?_⟩
  rintro nM vs H ⟨k,hc2_0,hc2_1,rfl,rfl,rfl⟩
  refine yn ((k:Int)<(i:Int)) (fun h1=> ?_) fun h1=> ?_
  ·refine⟨by kernel_rfl,ix i a.length,ix k a.length,yn ((a.getD i 0)=(a.getD k 0)) (fun h2=> ?_) fun h2=> ?_⟩
   ·have hno:¬rightP a b:=fun h=>by
     have h3:(a.take (i+1)).Nodup:=h.1.sublist (List.take_sublist _ _)
     rw [take_snoc a i (by omega),nodup_snoc] at h3
     refine h3.2 ?_
     rw [h2]
     have h4:a.take (k+1)=a.take k++ [a.getD k 0]:=take_snoc a k (by omega)
     have h5:a.getD k 0∈a.take (k+1):=by rw [h4];simp
     exact(List.take_sublist_take_left (by omega:k+1≤i)).subset h5
    exact⟨rfl,rfl,congrArg V.b (propext ⟨fun h=>absurd h (by decide),fun h=>absurd h hno⟩),rfl⟩
   ·refine⟨r64 (k+1),?_⟩
    refine⟨rfl,i-(k+1),by omega,k+1,by omega,?_,rfl,rfl,rfl⟩
    rw [take_snoc a k (by omega),List.mem_append,List.mem_singleton]
    exact fun h=>h.elim hc2_1 h2
  ·refine⟨r64 (i+1),?_⟩
   have hk:k=i:=by omega
   exact⟨rfl,a.length-(i+1),by omega,i+1,by omega,by rw [take_snoc a i (by omega),nodup_snoc];exact⟨hc1_1,hk▸hc2_1⟩,rfl,rfl,rfl⟩
 ·have hi:i=a.length:=by omega
  rw [hi,List.take_length] at hc1_1
  refine⟨rfl,rfl,congrArg V.b (propext ?_),rfl⟩
  show(a.length:Int)=b.length↔rightP a b
  exact⟨fun h=>⟨hc1_1,by omega⟩,fun h=>by have:=h.2;omega⟩
def CRRight:List (Nat×Con):=(104,pureC [.v (.sl .u8),.v (.sl .u8)] sRRight)::CRProd
theorem kRRight:Known Tryd.prog (En CRRight tys G6 []):=kRProd.addQ Tryd.func104 Tryd.call104 [.k] fun ds _ _ _ h=>by unfold sRRight at h;split at h;exact bRRight _ _;cases h
def lnA (xk:UInt8) (k:Nat):List UInt8→Nat→List UInt8→List UInt8
 |[],_,p=>p
 |x::rest,i,p=>lnA xk k rest (i+1) (if i≠k then prodL p [mulL x (invL (xk^^^x)),invL (xk^^^x)] else p)
def lnO (xs ys:List UInt8):Nat→Nat→List UInt8→List UInt8
 |0,_,out=>out
 |f+1,k,out=>lnO xs ys f (k+1) (sumL [out,lnA (xs.getD k 0) k xs 0 [ys.getD k 0]])
def lineL (xs ys:List UInt8):List UInt8:=lnO xs ys xs.length 0 []
theorem lnA_len (xk:UInt8) (k:Nat):∀(xs:List UInt8) (i:Nat) (p:List UInt8),(lnA xk k xs i p).length≤p.length+2*xs.length
 |[],i,p=>by simp [lnA]
 |x::xs,i,p=>by
  rw [lnA]
  refine Nat.le_trans (lnA_len xk k xs (i+1) _) ?_
  have:=prodL_len p [mulL x (invL (xk^^^x)),invL (xk^^^x)]
  simp only [List.length_cons,List.length_nil] at this ⊢
  split<;>omega
theorem sumL_two_len (a b:List UInt8) (n:Nat) (ha:a.length≤n) (hb:b.length≤n):(sumL [a,b]).length≤n:=by
 refine Nat.le_trans (trimL_len _) (sumA_len _ _ fun r hr=> ?_)
 simp only [List.mem_cons,List.not_mem_nil,or_false] at hr
 rcases hr with h|h<;>subst h<;>assumption
def sRLine:List V→Option (Prop×V×List Blk)
 |[.sl false .u8 a,.sl false .u8 b]=>some (a.length≤10000∧a.length≤b.length,.own .u8 0, [.row true .u8 (lineL a b)])
 |_=>none
theorem bRLine (a b:List UInt8):bodyQ (En CRRight tys G6 []) Tryd.f105 [.o .u8] sRLine [.sl false .u8 a,.sl false .u8 b]:=by
 rintro⟨hp0,hp1⟩
 refine⟨0, [(0,.k),(1,.k),(5,.o .u8),(6,.k)],fun nM vs H=>∃(k:Nat) (out:List UInt8),k≤a.length∧out.length≤2*a.length+1∧lnO a b (a.length-k) k out=lineL a b∧nM=a.length-k∧vs= [.sl false .u8 a,.sl false .u8 b,.own .u8 0,.i k]∧H= [.r .u8 out],⟨rfl,a.length,0, [],by omega,Nat.zero_le _,rfl,by omega,rfl,rfl⟩,?_⟩
 rintro nM vs H ⟨k,out,hc1_0,hc1_1,hc1_2,rfl,rfl,rfl⟩
 refine yn ((k:Int)<(a.length:Int)) (fun h0=> ?_) fun h0=> ?_
 ·rw [show a.length-k=(a.length-(k+1))+1 by omega,lnO] at hc1_2
  refine⟨ix k b.length,0, [(0,.k),(1,.k),(5,.o .u8),(6,.k),(7,.o .u8),(8,.k)],fun nM vs H=>∃(i:Nat) (p:List UInt8),i≤a.length∧p.length≤2*i+1∧lnA (a.getD k 0) k (a.drop i) i p=lnA (a.getD k 0) k a 0 [b.getD k 0]∧nM=a.length-i∧vs= [.sl false .u8 a,.sl false .u8 b,.own .u8 0,.int .i64 (k:Int),.own .u8 1,.int .i64 (i:Int)]∧H= [.row true .u8 out,.row true .u8 p],⟨rfl,a.length,0, [b.getD k 0],by omega,Nat.le_refl _,rfl,by omega,rfl,rfl⟩,?_⟩
  rintro nM vs H ⟨i,p,hc2_0,hc2_1,hc2_2,rfl,rfl,rfl⟩
  refine yn ((i:Int)<(a.length:Int)) (fun h1=> ?_) fun h1=> ?_
  ·refine yn ((i:Int)≠(k:Int)) (fun h2=> ?_) fun h2=> ?_
   ·refine⟨by kernel_rfl,ix k a.length,ix i a.length,trivial,ix i a.length,trivial,⟨om (p.length≤100000),os (([mulL (a.getD i 0) (invL ((a.getD k 0)^^^(a.getD i 0))),invL ((a.getD k 0)^^^(a.getD i 0))]:List UInt8).length≤100000)⟩,r64 (i+1),?_⟩
    rw [drop_one a i (by omega),lnA] at hc2_2
    first
     |rw [if_pos (fun h=>h2 (congrArg Int.ofNat h))] at hc2_2
     |rw [if_neg (fun h=>h2 (fun e=>h (by omega)))] at hc2_2
    have hpl:=prodL_len p [mulL (a.getD i 0) (invL (a.getD k 0^^^a.getD i 0)),invL (a.getD k 0^^^a.getD i 0)]
    exact⟨rfl,a.length-(i+1),by omega,i+1,_,by omega,by simp only [List.length_cons,List.length_nil] at hpl;omega,hc2_2,rfl,rfl,rfl⟩
   ·refine⟨r64 (i+1),?_⟩
    rw [drop_one a i (by omega),lnA] at hc2_2
    first
     |rw [if_pos (fun h=>h2 (congrArg Int.ofNat h))] at hc2_2
     |rw [if_neg (fun h=>h2 (fun e=>h (by omega)))] at hc2_2
    have hpl:=prodL_len p [mulL (a.getD i 0) (invL (a.getD k 0^^^a.getD i 0)),invL (a.getD k 0^^^a.getD i 0)]
    exact⟨rfl,a.length-(i+1),by omega,i+1,_,by omega,by simp only [List.length_cons,List.length_nil] at hpl;omega,hc2_2,rfl,rfl,rfl⟩
  ·refine⟨⟨om (out.length≤1000000),om (p.length≤1000000)⟩,r64 (k+1),?_⟩
   have hi:i=a.length:=by omega
   rw [hi,List.drop_length,lnA] at hc2_2
   have hl:=lnA_len (a.getD k 0) k a 0 [b.getD k 0]
   rw [←hc2_2] at hl
   refine⟨rfl,a.length-(k+1),by omega,k+1,sumL [out,p],by omega,sumL_two_len _ _ _ hc1_1 (by simp only [List.length_cons,List.length_nil] at hl;omega),?_,rfl,rfl,rfl⟩
   rw [hc2_2]
   exact hc1_2
 ·have hk:k=a.length:=by omega
  rw [hk,Nat.sub_self,lnO] at hc1_2
  rw [hc1_2]
  exact d4'
def CRLine:List (Nat×Con):=(105,pureC [.v (.sl .u8),.v (.sl .u8)] sRLine)::CRRight
theorem kRLine:Known Tryd.prog (En CRLine tys G6 []):=kRRight.addQ Tryd.func105 Tryd.call105 [.o .u8] fun ds _ _ _ h=>by unfold sRLine at h;split at h;exact bRLine _ _;cases h
def sRMissed:List V→Option (Prop×V×List Blk)
 |[.sl false .u8 p,.sl false .u8 a,.sl false .u8 b]=>some (p.length≤1000000∧a.length≤100000∧a.length≤b.length,.own (.int .i64) 0, [.row true (.int .i64) (missA p a b a.length)])
 |_=>none
theorem bRMissed (p a b:List UInt8):bodyQ (En CRLine tys G6 []) Tryd.f106 [.o (.int .i64)] sRMissed [.sl false .u8 p,.sl false .u8 a,.sl false .u8 b]:=by
 rintro⟨hp0,hp1,hp2⟩
 refine⟨0, [(0,.k),(1,.k),(2,.k),(7,.o (.int .i64)),(8,.k)],fun nM vs H=>∃(k:Nat),k≤a.length∧nM=a.length-k∧vs= [.sl false .u8 p,.sl false .u8 a,.sl false .u8 b,.own (.int .i64) 0,.i k]∧H= [.r (.int .i64) (missA p a b k)],⟨rfl,a.length,0,by omega,by omega,rfl,rfl⟩,?_⟩
 rintro nM vs H ⟨k,hc1_0,rfl,rfl,rfl⟩
 have hml:=missA_len p a b k
 refine yn ((k:Int)<(a.length:Int)) (fun h0=> ?_) fun h0=> ?_
 ·refine⟨by kernel_rfl,ix k a.length,om (p.length≤1000000),ix k b.length,yn ((horner (a.getD k 0) p)≠(b.getD k 0)) (fun h1=> ?_) fun h1=> ?_⟩
  ·refine⟨rfl,w2',l9 (missA p a b k).length,r64 (k+1),?_⟩
   refine⟨rfl,a.length-(k+1),by omega,k+1,by omega,rfl,rfl,?_⟩
   first
    |rw [show missA p a b (k+1)=_ from if_pos h1]
    |rw [show missA p a b (k+1)=_ from if_neg h1]
   rfl
  ·refine⟨r64 (k+1),?_⟩
   refine⟨rfl,a.length-(k+1),by omega,k+1,by omega,rfl,rfl,?_⟩
   first
    |rw [show missA p a b (k+1)=_ from if_pos h1]
    |rw [show missA p a b (k+1)=_ from if_neg h1]
   rfl
 ·have hk:k=a.length:=by omega
  rw [hk]
  exact d4'
def CRMissed:List (Nat×Con):=(106,pureC [.v (.sl .u8),.v (.sl .u8),.v (.sl .u8)] sRMissed)::CRLine
theorem kRMissed:Known Tryd.prog (En CRMissed tys G6 []):=kRLine.addQ Tryd.func106 Tryd.call106 [.o (.int .i64)] fun ds _ _ _ h=>by unfold sRMissed at h;split at h;exact bRMissed _ _ _;cases h
theorem lnO_len (xs ys:List UInt8):∀(f k:Nat) (out:List UInt8),out.length≤2*xs.length+1→(lnO xs ys f k out).length≤2*xs.length+1
 |0,k,out,h=>h
 |f+1,k,out,h=>by
  rw [lnO]
  refine lnO_len xs ys f _ _ (sumL_two_len _ _ _ h ?_)
  have:=lnA_len (xs.getD k 0) k xs 0 [ys.getD k 0]
  simp only [List.length_cons,List.length_nil] at this
  omega
theorem lineL_len (xs ys:List UInt8):(lineL xs ys).length≤2*xs.length+1:=lnO_len _ _ _ _ _ (Nat.zero_le _)
def pickL (xs:List UInt8) (set:Nat):Nat→List UInt8
 |0=> []
 |k+1=>if set/2^k%2=1 then pickL xs set k++ [xs.getD k 0] else pickL xs set k
theorem pickL_len (xs:List UInt8) (set:Nat):∀k,(pickL xs set k).length≤k
 |0=>Nat.le_refl _
 |k+1=>by
  have:=pickL_len xs set k
  unfold pickL
  split
  ·rw [List.length_append,List.length_singleton];omega
  ·omega
theorem pickL_same (xs ys:List UInt8) (set:Nat):∀k,(pickL xs set k).length=(pickL ys set k).length
 |0=>rfl
 |k+1=>by
  have:=pickL_same xs ys set k
  unfold pickL
  split
  ·rw [List.length_append,List.length_append,this];rfl
  ·exact this
def rdOk (a b:List UInt8) (d w:Int) (set:Nat):Prop:=((pickL a set a.length).length:Int)=d+1∧((missA (lineL (pickL a set a.length) (pickL b set a.length)) a b a.length).length:Int)≤w
instance (a b:List UInt8) (d w:Int) (set:Nat):Decidable (rdOk a b d w set):=inferInstanceAs (Decidable (_∧_))
def rdF (a b:List UInt8) (d w:Int):Nat→Nat→Option Nat
 |0,_=>none
 |f+1,set=>if rdOk a b d w set then some set else rdF a b d w f (set+1)
def rdEnd (a b:List UInt8):Option Nat→List UInt8×List Int×Int
 |some set=>(lineL (pickL a set a.length) (pickL b set a.length),missA (lineL (pickL a set a.length) (pickL b set a.length)) a b a.length,0)
 |none=>([], [],17)
def rdecL (a b:List UInt8) (d w:Int):List UInt8×List Int×Int:=
 if rightP a b then
  if d<0∨w<0∨(a.length:Int)≤d∨(a.length:Int)<w∨(a.length:Int)<d+1+2*w then([], [],3)
  else rdEnd a b (rdF a b d w (2^a.length) 0)
 else([], [],1)
theorem bit_nat (s k:Nat):(((((s:Int)/2^k).toNat&&&1:Nat):Int)=1)↔s/2^k%2=1:=by
 have e:(s:Int)/2^k=((s/2^k:Nat):Int):=by rw [Int.natCast_ediv,Int.natCast_pow];rfl
 rw [e,Int.toNat_natCast,Nat.and_one_is_mod]
 omega
def sRDec:List V→Option (Prop×V×List Blk)
 |[.sl false .u8 a,.sl false .u8 b,.int .i64 d,.int .i64 w]=>some (a.length≤12∧b.length≤12,.agg [.own .u8 0,.own (.int .i64) 1,.int .i64 ((rdecL a b d w).2.2)], [.row true .u8 ((rdecL a b d w).1),.row true (.int .i64) ((rdecL a b d w).2.1)])
 |_=>none
theorem bRDec (a b:List UInt8) (d w:Int):bodyQ (En CRMissed tys G6 []) Tryd.f81 [.o .u8,.o (.int .i64),.k] sRDec [.sl false .u8 a,.sl false .u8 b,.int .i64 d,.int .i64 w]:=by
 rintro⟨hp0,hp1⟩
 refine⟨⟨om (a.length≤2000000),om (b.length≤2000000)⟩,yn (¬(rightP a b)) (fun h0=> ?_) fun h0=> ?_⟩
 ·rw [show rdecL a b d w=_ from if_neg h0]
  refine⟨w4',?_⟩
  exact d4'
 ·have hr:rightP a b:=nw h0
  have hr2:=hr.2
  have bad:∀(hx:d<0∨w<0∨(a.length:Int)≤d∨(a.length:Int)<w∨(a.length:Int)<d+1+2*w),rdecL a b d w=([], [],3):=fun hx=>by unfold rdecL;rw [if_pos hr,if_pos hx]
  refine ny (d<0) (fun h1=> ?_) fun h1=> ?_
  ·refine ny (w<0) (fun h2=> ?_) fun h2=> ?_
   ·refine ny ((a.length:Int)≤d) (fun h3=> ?_) fun h3=> ?_
    ·refine ny ((a.length:Int)<w) (fun h4=> ?_) fun h4=> ?_
     ·refine⟨r64 (d+1),r64 (2*w),r64 ((d+1)+(2*w)),yn ((a.length:Int)<((d+1)+(2*w))) (fun h5=> ?_) fun h5=> ?_⟩
      ·rw [bad (.inr (.inr (.inr (.inr h5))))]
       refine⟨w4',?_⟩
       exact d4'
      ·obtain⟨R,hR⟩:∃R,R=rdF a b d w (2^a.length) 0:=⟨_,rfl⟩
       have hx:¬(d<0∨w<0∨(a.length:Int)≤d∨(a.length:Int)<w∨(a.length:Int)<d+1+2*w):=by
        rintro(h|h|h|h|h)
        ·exact h1 h
        ·exact h2 h
        ·exact h3 h
        ·exact h4 h
        ·exact h5 h
       have hm:rdecL a b d w=rdEnd a b R:=by rw [hR];unfold rdecL;rw [if_pos hr,if_neg hx]
       have hpow:2^a.length≤2^12:=Nat.pow_le_pow_right (by decide) hp0
       have hpowI:((2:Int)^a.length)=((2^a.length:Nat):Int):=by rw [Int.natCast_pow];rfl
       refine⟨1, [(0,.k),(1,.k),(2,.k),(3,.k),(8,.k),(10,.k),(11,.k)],fun nM vs H=>∃(set:Nat),set≤2^a.length∧rdF a b d w (2^a.length-set) set=R∧nM=2^a.length-set∧vs= [.sl false .u8 a,.sl false .u8 b,.i d,.i w,.p 0,.i (a.length:Int),.i set]∧H= [.cells [.nils,.nils,.i 0]],⟨rfl,2^a.length,0,Nat.zero_le _,hR.symm,(Nat.sub_zero _).symm,rfl,rfl⟩,?_⟩
       rintro nM vs H ⟨set,hc1_0,hc1_1,rfl,rfl,rfl⟩
       refine⟨⟨om ((0:Int)≤(a.length:Int)),om ((a.length:Int)≤(64:Int))⟩,⟨by show(-9223372036854775808:Int)≤1*2^a.length;rw [hpowI];omega,by show(1:Int)*2^a.length≤9223372036854775807;rw [hpowI];omega⟩,yn ((set:Int)<((1:Int)*2^a.length)) (fun h6=> ?_) fun h6=> ?_⟩
       ·rw [hpowI] at h6
        rw [show 2^a.length-set=(2^a.length-(set+1))+1 by omega,rdF] at hc1_1
        refine⟨1, [(0,.k),(1,.k),(2,.k),(3,.k),(8,.k),(10,.k),(11,.k),(12,.o .u8),(13,.o .u8),(14,.k)],fun nM vs H=>∃(k:Nat),k≤a.length∧nM=a.length-k∧vs= [.sl false .u8 a,.sl false .u8 b,.i d,.i w,.p 0,.i (a.length:Int),.i set,.own .u8 1,.own .u8 2,.i k]∧H= [.cells [.nils,.nils,.i 0],.r .u8 (pickL a set k),.r .u8 (pickL b set k)],⟨rfl,a.length,0,by omega,by omega,rfl,rfl⟩,?_⟩
        rintro nM vs H ⟨k,hc2_0,rfl,rfl,rfl⟩
        have hq1:=pickL_len a set k
        have hq2:=pickL_len b set k
        have hd0:(0:Int)≤((set:Int)/2^k):=Int.ediv_nonneg (by omega) (Int.le_of_lt (Int.pow_pos (by decide)))
        refine yn ((k:Int)<(a.length:Int)) (fun h7=> ?_) fun h7=> ?_
        ·refine⟨⟨om ((0:Int)≤(k:Int)),om ((k:Int)≤(64:Int))⟩,.inl ⟨⟨om ((0:Int)≤((set:Int)/2^k)),om ((0:Int)≤1)⟩,?_⟩⟩
         refine yn ((((((set:Int)/2^k).toNat)&&&1:Nat):Int)=1) (fun h8=> ?_) fun h8=> ?_
         ·refine⟨ix k a.length,w2',l9 (pickL a set k).length,ix k b.length,w2',l9 (pickL b set k).length,r64 (k+1),?_⟩
          refine⟨rfl,a.length-(k+1),by omega,k+1,by omega,rfl,rfl,?_⟩
          first
           |rw [show pickL a set (k+1)=_ from if_pos ((bit_nat set k).1 h8),show pickL b set (k+1)=_ from if_pos ((bit_nat set k).1 h8)]
           |rw [show pickL a set (k+1)=_ from if_neg (fun h=>h8 ((bit_nat set k).2 h)),show pickL b set (k+1)=_ from if_neg (fun h=>h8 ((bit_nat set k).2 h))]
          rfl
         ·refine⟨r64 (k+1),?_⟩
          refine⟨rfl,a.length-(k+1),by omega,k+1,by omega,rfl,rfl,?_⟩
          first
           |rw [show pickL a set (k+1)=_ from if_pos ((bit_nat set k).1 h8),show pickL b set (k+1)=_ from if_pos ((bit_nat set k).1 h8)]
           |rw [show pickL a set (k+1)=_ from if_neg (fun h=>h8 ((bit_nat set k).2 h)),show pickL b set (k+1)=_ from if_neg (fun h=>h8 ((bit_nat set k).2 h))]
          rfl
        ·have hk:k=a.length:=by omega
         have hpl:=pickL_len a set k
         have hps:=pickL_same a b set k
         have hll:=lineL_len (pickL a set k) (pickL b set k)
         refine⟨r64 (d+1),yn ((((pickL a set k).length:Nat):Int)≠(d+1)) (fun h9=> ?_) fun h9=> ?_⟩
         ·rw [hk] at h9
          rw [if_neg (fun h=>h9 h.1)] at hc1_1
          refine⟨r64 (set+1),?_⟩
          exact⟨rfl,2^a.length-(set+1),by omega,set+1,by omega,hc1_1,rfl,rfl,rfl⟩
         ·have h9:=nw h9
          rw [hk] at h9
          refine⟨⟨om ((pickL a set k).length≤10000),om ((pickL a set k).length≤(pickL b set k).length)⟩,⟨om ((lineL (pickL a set k) (pickL b set k)).length≤1000000),om (a.length≤100000),om (a.length≤b.length)⟩,yn ((((missA (lineL (pickL a set k) (pickL b set k)) a b a.length).length:Nat):Int)≤w) (fun h10=> ?_) fun h10=> ?_⟩
          ·rw [hk] at h10
           rw [if_pos (show rdOk a b d w set from⟨h9,h10⟩)] at hc1_1
           refine⟨w4',?_⟩
           rw [hm,←hc1_1,hk]
           exact d4'
          ·rw [hk] at h10
           rw [if_neg (fun h=>h10 h.2)] at hc1_1
           refine⟨r64 (set+1),?_⟩
           exact⟨rfl,2^a.length-(set+1),by omega,set+1,by omega,hc1_1,rfl,rfl,rfl⟩
       ·rw [hpowI] at h6
        have hs:set=2^a.length:=by omega
        rw [hs,Nat.sub_self,rdF] at hc1_1
        rw [hm,←hc1_1]
        refine⟨w4',?_⟩
        exact d4'
     ·rw [bad (.inr (.inr (.inr (.inl h4))))]
      refine⟨w4',?_⟩
      exact d4'
    ·rw [bad (.inr (.inr (.inl h3)))]
     refine⟨w4',?_⟩
     exact d4'
   ·rw [bad (.inr (.inl h2))]
    refine⟨w4',?_⟩
    exact d4'
  ·rw [bad (.inl h1)]
   refine⟨w4',?_⟩
   exact d4'
def CRDec:List (Nat×Con):=(81,pureC [.v (.sl .u8),.v (.sl .u8),.v (.int .i64),.v (.int .i64)] sRDec)::CRMissed
theorem kRDec:Known Tryd.prog (En CRDec tys G6 []):=kRMissed.addQ Tryd.func81 Tryd.call81 [.o .u8,.o (.int .i64),.k] fun ds _ _ _ h=>by unfold sRDec at h;split at h;exact bRDec _ _ _ _;cases h
theorem lin2_val (z x c:UInt8):horner z [mulL x c,c]=mulL (z^^^x) c:=by
 show mulL (mulL 0 z^^^c) z^^^mulL x c=_
 rw [zero_mul',UInt8.zero_xor,mul_comm' c z,mulL_add]
theorem lnA_keep (z xk:UInt8) (k:Nat) (hz:z=xk):∀(xs:List UInt8) (i:Nat) (p:List UInt8),(∀m,m<xs.length→i+m≠k→xs.getD m 0≠xk)→horner z (lnA xk k xs i p)=horner z p
 |[],i,p,_=>rfl
 | x::xs,i,p,h=>by
  rw [lnA,lnA_keep z xk k hz xs (i+1) _ fun m hm hne=>h (m+1) (by simpa using hm) (by omega)]
  by_cases hi:i≠k
  ·rw [if_pos hi,horner_prod,lin2_val,hz]
   have hx:x≠xk:=h 0 (by simp) (by omega)
   rw [mul_inv' _ (fun e=>hx (xor_zero_iff.1 e).symm),mul_one']
  ·rw [if_neg hi]
theorem lnA_dies (z xk:UInt8) (k:Nat):∀(xs:List UInt8) (i:Nat) (p:List UInt8),(horner z p=0→horner z (lnA xk k xs i p)=0)∧∀m,m<xs.length→i+m≠k→xs.getD m 0=z→horner z (lnA xk k xs i p)=0
 |[],i,p=>⟨fun h=>h,fun m hm=>by simp at hm⟩
 | x::xs,i,p=>by
  rw [lnA]
  obtain⟨h1,h2⟩:=lnA_dies z xk k xs (i+1) (if i≠k then prodL p [mulL x (invL (xk^^^x)),invL (xk^^^x)] else p)
  refine⟨fun h=>h1 ?_,fun m hm hne he=> ?_⟩
  ·split
   ·rw [horner_prod,h,zero_mul']
   ·exact h
  ·cases m with
   |zero=>
    have he:x=z:=he
    refine h1 ?_
    rw [if_pos (by omega),horner_prod,lin2_val,he,UInt8.xor_self,zero_mul',mul_zero']
   |succ m=>exact h2 m (by simpa using hm) (by omega) he
theorem lnA_sz (xk:UInt8) (k:Nat):∀(xs:List UInt8) (i:Nat) (p:List UInt8),sz (lnA xk k xs i p)≤sz p+xs.length∧(i≤k→k<i+xs.length→sz (lnA xk k xs i p)+1≤sz p+xs.length)
 |[],i,p=>⟨Nat.le_refl _,fun h1 h2=>by simp at h2;omega⟩
 | x::xs,i,p=>by
  rw [lnA]
  obtain⟨h1,h2⟩:=lnA_sz xk k xs (i+1) (if i≠k then prodL p [mulL x (invL (xk^^^x)),invL (xk^^^x)] else p)
  have h3:=sz_prod_le p [mulL x (invL (xk^^^x)),invL (xk^^^x)]
  have h4:=sz_len [mulL x (invL (xk^^^x)),invL (xk^^^x)]
  simp only [List.length_cons,List.length_nil] at h4 ⊢
  by_cases hi:i=k
  ·rw [if_neg (by omega)] at h1 h2 ⊢
   exact⟨by omega,fun _ _=>by omega⟩
  ·rw [if_pos hi] at h1 h2 ⊢
   exact⟨by omega,fun h5 h6=>by have:=h2 (by omega) (by omega);omega⟩
theorem nodup_inj (xs:List UInt8) (hn:xs.Nodup) (i j:Nat) (hi:i<xs.length) (hj:j<xs.length) (h:xs.getD i 0=xs.getD j 0):i=j:=by
 simp only [List.getD_eq_getElem?_getD,List.getElem?_eq_getElem hi,List.getElem?_eq_getElem hj,Option.getD_some] at h
 have hp:=List.pairwise_iff_getElem.1 hn
 rcases Nat.lt_trichotomy i j with g|g|g
 ·exact absurd h (hp i j hi hj g)
 ·exact g
 ·exact absurd h.symm (hp j i hj hi g)
theorem lnO_val (xs ys:List UInt8) (hn:xs.Nodup) (j:Nat) (hj:j<xs.length):∀(f k:Nat) (out:List UInt8),k+f=xs.length→horner (xs.getD j 0) (lnO xs ys f k out)=horner (xs.getD j 0) out^^^(if k≤j then ys.getD j 0 else 0)
 |0,k,out,h=>by rw [lnO,if_neg (by omega)];simp
 | f+1,k,out,h=>by
  rw [lnO,lnO_val xs ys hn j hj f (k+1) _ (by omega),horner_sum]
  have hne:∀m,m<xs.length→m≠k→xs.getD m 0≠xs.getD k 0:=fun m hm hmk e=>by
   have hk:k<xs.length:=by omega
   exact hmk (nodup_inj xs hn m k hm hk e)
  by_cases hjk:j=k
  ·have h1:=lnA_keep (xs.getD j 0) (xs.getD k 0) k (by rw [hjk]) xs 0 [ys.getD k 0] fun m hm hmk=>hne m hm (by omega)
   rw [h1,horner_const,if_neg (by omega),if_pos (by omega),hjk]
   simp
  ·have h1:=(lnA_dies (xs.getD j 0) (xs.getD k 0) k xs 0 [ys.getD k 0]).2 j hj (by omega) rfl
   rw [h1]
   by_cases hlt:k≤j
   ·rw [if_pos (by omega),if_pos hlt];simp
   ·rw [if_neg (by omega),if_neg hlt];simp
theorem lnO_sz (xs ys:List UInt8):∀(f k:Nat) (out:List UInt8),k+f=xs.length→sz out≤xs.length→sz (lnO xs ys f k out)≤xs.length
 |0,k,out,_,h=>h
 |f+1,k,out,hk,h=>by
  rw [lnO]
  refine lnO_sz xs ys f (k+1) _ (by omega) (sz_sum_le _ _ _ h ?_)
  have h1:=(lnA_sz (xs.getD k 0) k xs 0 [ys.getD k 0]).2 (Nat.zero_le _) (by omega)
  have h2:=sz_len [ys.getD k 0]
  simp only [List.length_cons,List.length_nil] at h2
  omega
theorem lnO_trim (xs ys:List UInt8):∀(f k:Nat) (out:List UInt8),trimL out=out→trimL (lnO xs ys f k out)=lnO xs ys f k out
 |0,k,out,h=>h
 |f+1,k,out,_=>lnO_trim xs ys f (k+1) _ (sum_trim _ _)
theorem lineL_val (xs ys:List UInt8) (hn:xs.Nodup) (j:Nat) (hj:j<xs.length):horner (xs.getD j 0) (lineL xs ys)=ys.getD j 0:=by
 unfold lineL
 rw [lnO_val xs ys hn j hj _ _ _ (by omega),if_pos (by omega)]
 show 0^^^_=_
 simp
theorem lineL_sz (xs ys:List UInt8):sz (lineL xs ys)≤xs.length:=lnO_sz xs ys _ _ _ (by omega) (Nat.zero_le _)
theorem lineL_trim (xs ys:List UInt8):trimL (lineL xs ys)=lineL xs ys:=lnO_trim xs ys _ _ _ rfl
theorem thr_line (xs ys:List UInt8) (h:rightP xs ys):thrL xs ys=lineL xs ys:=by
 rw [←lineL_trim]
 exact thrL_unique xs ys _ h (lineL_sz xs ys) fun k hk=>lineL_val xs ys h.1 k hk
theorem sz_eq_len {p:List UInt8} (h:trimL p=p):sz p=p.length:=by unfold sz;rw [h]
theorem sz_sum_right (a b:List UInt8) (h:sz a<sz b):sz (sumL [a,b])=sz b:=by
 have hb:trimL b≠ []:=fun e=>by have:=sz_zero.2 e;omega
 have h1:sz (sumL [a,b])=sz b-1+1:=sz_eq (fun i hi=>by rw [co_sum,sz_co a i (by omega),sz_co b i (by omega)];rfl) (by
  rw [co_sum,sz_co a _ (by omega),UInt8.zero_xor]
  exact trim_last b hb)
 omega
theorem divQ_sz (a b:List UInt8) (hb:trimL b≠ []) (h:sz b≤sz a):sz (divQ a b)+sz b=sz a+1:=by
 have h1:=div_sum a b hb
 have h2:=div_rem a b hb
 have h0:0<sz b:=List.length_pos_iff.2 hb
 have ha:sz (sumL [prodL (divQ a b) b,trimL (divR a b).2])=sz a:=by
  show sz (sumL [prodL (trimL (divR a b).1) b,trimL (divR a b).2])=sz a
  rw [h1,sz_trim]
 have hq:trimL (divQ a b)≠ []:=fun e=>by
  have h3:prodL (divQ a b) b= []:=prod_zero_l _ _ e
  have h4:=sz_sum_le (prodL (divQ a b) b) (trimL (divR a b).2) (sz b-1) (by rw [h3];exact Nat.zero_le _) (by rw [sz_trim];omega)
  omega
 have h5:=sz_prod (divQ a b) b hq hb
 have hq0:0<sz (divQ a b):=List.length_pos_iff.2 hq
 have h6:sz (sumL [prodL (divQ a b) b,trimL (divR a b).2])=sz (prodL (divQ a b) b):=by
  have e:sumL [prodL (divQ a b) b,trimL (divR a b).2]=sumL [trimL (divR a b).2,prodL (divQ a b) b]:=by
   refine(sum_trim _ _).symm.trans ((trim_ext _ _ fun i=> ?_).trans (sum_trim _ _))
   rw [co_sum,co_sum,UInt8.xor_comm]
  rw [e]
  exact sz_sum_right _ _ (by rw [sz_trim];omega)
 omega
structure EuInv (xs ys:List UInt8) (m:Int) (a b u v:List UInt8):Prop where
 ta:trimL a=a
 tb:trimL b=b
 tu:trimL u=u
 tv:trimL v=v
 ea:∀k,k<xs.length→horner (xs.getD k 0) a=mulL (horner (xs.getD k 0) u) (ys.getD k 0)
 eb:∀k,k<xs.length→horner (xs.getD k 0) b=mulL (horner (xs.getD k 0) v) (ys.getD k 0)
 lt:sz b<sz a
 uv:sz u<sz v
 sum:sz v+sz a=xs.length+2
 big:m≤2*degL a
theorem eu_ok (xs ys:List UInt8) (hxs:xs.length≤10000) (m:Int) (hm:0≤m):∀(f:Nat) (a b u v:List UInt8),sz b<f→EuInv xs ys m a b u v→
  ∃b' v',eu f m a b u v=some (b',v')∧trimL v'≠ []∧2*degL b'<m∧m+2*degL v'≤2*xs.length∧∀k,k<xs.length→horner (xs.getD k 0) b'=mulL (horner (xs.getD k 0) v') (ys.getD k 0)
 |0,a,b,u,v,h,_=>by omega
 | f+1,a,b,u,v,h,I=>by
  have h1:=I.sum
  have h2:=I.lt
  have h3:=I.uv
  have hsm:small a∧small b∧small u∧small v:=by
   have e1:=sz_eq_len I.ta
   have e2:=sz_eq_len I.tb
   have e3:=sz_eq_len I.tu
   have e4:=sz_eq_len I.tv
   unfold small
   omega
  unfold eu
  rw [if_pos hsm]
  by_cases hb:2*degL b<m
  ·rw [if_pos hb]
   refine⟨b,v,rfl,fun e=> ?_,hb,?_,I.eb⟩
   ·have:=sz_zero.2 e;omega
   ·have:=I.big
    rw [degL_sz] at this ⊢
    omega
  ·rw [if_neg hb]
   have hb0:trimL b≠ []:=fun e=>by
    have:=sz_zero.2 e
    rw [degL_sz] at hb
    omega
   rw [if_neg hb0]
   have hr:=div_rem a b hb0
   have hq:=divQ_sz a b hb0 (by omega)
   have hv0:trimL v≠ []:=fun e=>by have:=sz_zero.2 e;omega
   have hq0:trimL (divQ a b)≠ []:=fun e=>by have:=sz_zero.2 e;omega
   have hqv:=sz_prod (divQ a b) v hq0 hv0
   have hsv:sz (sumL [u,prodL (divQ a b) v])=sz (prodL (divQ a b) v):=sz_sum_right _ _ (by omega)
   have hrem:sz (divM a b)=sz (divR a b).2:=sz_trim _
   refine eu_ok xs ys hxs m hm f b (divM a b) v (sumL [u,prodL (divQ a b) v]) (by rw [hrem];omega) ⟨I.tb,trim_idem _,I.tv,sum_trim _ _,I.eb,fun k hk=> ?_,by rw [hrem];exact hr,by omega,by omega,by omega⟩
   have hd:=congrArg (horner (xs.getD k 0)) (div_sum a b hb0)
   rw [horner_sum,horner_prod,horner_trim (xs.getD k 0) a] at hd
   have e1:horner (xs.getD k 0) (divM a b)=horner (xs.getD k 0) a^^^mulL (horner (xs.getD k 0) (divQ a b)) (horner (xs.getD k 0) b):=by
    rw [←hd]
    show _=(mulL (horner (xs.getD k 0) (divQ a b)) (horner (xs.getD k 0) b)^^^horner (xs.getD k 0) (divM a b))^^^_
    have:∀x y:UInt8,y=x^^^y^^^x:=fun x y=>by
     have:x^^^y^^^x=y^^^(x^^^x):=by ac_rfl
     rw [this];simp
    exact this _ _
   rw [e1,I.ea k hk,I.eb k hk,horner_sum,horner_prod,mulL_add,←mul_assoc']
theorem eu_start (xs ys:List UInt8) (h:rightP xs ys) (d:Int) (hd:d<xs.length):EuInv xs ys (xs.length+d+1) (rootsL xs) (thrL xs ys) [] [1] where
 ta:=fold_trim _ (fun p x=>prod_trim _ _) _ _ trim_one
 tb:=thrL_trim xs ys
 tu:=rfl
 tv:=trim_one
 ea k hk:=by
  rw [rootsL_zero xs _ (by simp [List.getElem?_eq_getElem hk])]
  exact(zero_mul' _).symm
 eb k hk:=by
  rw [thrL_val xs ys h k hk,horner_const,one_mul']
 lt:=by
  have h1:=(rootsL_sz xs).2
  have h2:=thrL_sz xs ys
  omega
 uv:=by
  have:sz [1]=1:=by unfold sz;rw [trim_one];rfl
  rw [this];exact Nat.zero_lt_one
 sum:=by
  have h1:=(rootsL_sz xs).2
  have:sz [1]=1:=by unfold sz;rw [trim_one];rfl
  omega
 big:=by
  have h1:=(rootsL_sz xs).2
  rw [degL_sz]
  omega
def missX (p xs ys:List UInt8):Nat→List UInt8
 |0=> []
 |k+1=>if horner (xs.getD k 0) p≠ys.getD k 0 then missX p xs ys k++ [xs.getD k 0] else missX p xs ys k
theorem missX_len (p xs ys:List UInt8):∀n,(missX p xs ys n).length=(missA p xs ys n).length
 |0=>rfl
 |n+1=>by
  have:=missX_len p xs ys n
  unfold missX missA
  split
  ·rw [List.length_append,List.length_append,this];rfl
  ·exact this
theorem missX_mem (p xs ys:List UInt8):∀n k,k<n→horner (xs.getD k 0) p≠ys.getD k 0→xs.getD k 0∈missX p xs ys n
 |0,k,h,_=>by omega
 | n+1,k,h,hne=>by
  unfold missX
  by_cases e:k=n
  ·rw [e] at hne ⊢
   rw [if_pos hne]
   simp
  ·have:=missX_mem p xs ys n k (by omega) hne
   split
   ·exact List.mem_append_left _ this
   ·exact this
theorem missA_ext (p q xs ys:List UInt8) (h:∀x,horner x p=horner x q):∀n,missA p xs ys n=missA q xs ys n
 |0=>rfl
 |n+1=>by
  unfold missA
  rw [missA_ext p q xs ys h n,h]
theorem missA_trim (p xs ys:List UInt8) (n:Nat):missA (trimL p) xs ys n=missA p xs ys n:=missA_ext _ _ _ _ (fun x=>horner_trim x p) n
def decOk (xs:List UInt8) (d w:Int):Prop:=¬(d<0∨w<0∨(xs.length:Int)≤d∨((xs.length:Int)-d-1)/2<w)
theorem dec_run (xs ys:List UInt8) (hr:rightP xs ys) (hxs:xs.length≤10000) (d w:Int) (hc:decOk xs d w):
  ∃b v,decL xs ys d w=decEnd xs ys d w b v∧trimL v≠ []∧2*degL b<xs.length+d+1∧d+1+2*degL v≤xs.length∧∀k,k<xs.length→horner (xs.getD k 0) b=mulL (horner (xs.getD k 0) v) (ys.getD k 0):=by
 unfold decOk at hc
 have h1:=thrL_sz xs ys
 obtain⟨b,v,he,hv,hb,hs,hk⟩:=eu_ok xs ys hxs (xs.length+d+1) (by omega) 20000 _ _ _ _ (by omega) (eu_start xs ys hr d (by omega))
 refine⟨b,v,?_,hv,hb,by omega,hk⟩
 unfold decL
 rw [if_pos hr,if_neg hc,he]
theorem decEnd_cases (xs ys:List UInt8) (d w:Int) (b v:List UInt8) (hv:trimL v≠ []):
  (decEnd xs ys d w b v=some ([], [],17))∨(decEnd xs ys d w b v=some (divQ b v,missA (divQ b v) xs ys xs.length,0)∧degL (divQ b v)≤d∧((missA (divQ b v) xs ys xs.length).length:Int)≤w):=by
 unfold decEnd
 rw [if_neg hv]
 split
 ·exact .inl rfl
 ·split
  ·exact .inl rfl
  ·split
   ·exact .inl rfl
   ·exact .inr ⟨rfl,by omega,by omega⟩
theorem dec_complete (xs ys:List UInt8) (hr:rightP xs ys) (hxs:xs.length≤10000) (d w:Int) (hc:decOk xs d w) (q:List UInt8) (hq:degL q≤d) (hm:((missA q xs ys xs.length).length:Int)≤w):
  decL xs ys d w=some (trimL q,missA q xs ys xs.length,0):=by
 obtain⟨b,v,he,hv,hb,hs,hk⟩:=dec_run xs ys hr hxs d w hc
 unfold decOk at hc
 obtain⟨e,hee⟩:∃e,e=rootsL (missX q xs ys xs.length):=⟨_,rfl⟩
 have hes:trimL e≠ []∧sz e=(missA q xs ys xs.length).length+1:=by rw [hee,←missX_len];exact rootsL_sz _
 have hv1:0<sz v:=List.length_pos_iff.2 hv
 rw [degL_sz] at hq hb hs
 have hbe:=sz_prod_le b e
 have hve:=sz_prod_le v e
 have hveq:=sz_prod_le (prodL v e) q
 have hAB:trimL (prodL b e)=trimL (prodL (prodL v e) q):=by
  refine poly_unique xs _ _ hr.1 (fun x hx=> ?_) (by omega) (by omega)
  obtain⟨k,hk',rfl⟩:=List.mem_iff_getElem.1 hx
  have e1:xs.getD k 0=xs[k]:=by simp [List.getElem?_eq_getElem hk']
  rw [←e1,horner_prod,horner_prod,horner_prod,hk k hk']
  by_cases hmiss:horner (xs.getD k 0) q=ys.getD k 0
  ·rw [hmiss];ac_rfl
  ·have:horner (xs.getD k 0) e=0:=by rw [hee];exact rootsL_zero _ _ (missX_mem q xs ys _ k hk' hmiss)
   rw [this,mul_zero',mul_zero',zero_mul']
 have hb1:trimL b=trimL (prodL v q):=by
  refine(div_unique e b (prodL v q) [] [] hes.1 (fun n=> ?_) (fun _ _=>rfl) (fun _ _=>rfl)).1
  congr 1
  rw [←co_prod,←co_prod]
  refine co_eq_of_trim ?_ n
  rw [hAB,prod_assoc,prod_assoc,prod_comm e q]
 have hd:=div_ok b v hv
 have h0:0<sz v:=hv1
 obtain⟨h5,h6⟩:=div_unique v (divR b v).1 q (divR b v).2 [] hv (fun n=>by
  rw [hd.1 n,co_nil,co_eq_of_trim hb1 n,co_prod,cv_comm];simp) hd.2 (fun _ _=>rfl)
 have hQ:divQ b v=trimL q:=h5
 have hM:divM b v= []:=h6
 rw [he]
 unfold decEnd
 rw [if_neg hv,hM,if_neg (by simp),hQ,if_neg (by rw [degL_sz,sz_trim];omega),missA_trim,if_neg (by omega)]
theorem dec_sound (xs ys:List UInt8) (hr:rightP xs ys) (hxs:xs.length≤10000) (d w:Int) (hc:decOk xs d w):
  decL xs ys d w=some ([], [],17)∨∃p,decL xs ys d w=some (p,missA p xs ys xs.length,0)∧trimL p=p∧degL p≤d∧((missA p xs ys xs.length).length:Int)≤w:=by
 obtain⟨b,v,he,hv,hb,hs,hk⟩:=dec_run xs ys hr hxs d w hc
 rw [he]
 rcases decEnd_cases xs ys d w b v hv with h|⟨h1,h2,h3⟩
 ·exact .inl h
 ·exact .inr ⟨divQ b v,h1,trim_idem _,h2,h3⟩
theorem dec_some (xs ys:List UInt8) (hxs:xs.length≤10000) (d w:Int):(decL xs ys d w).isSome=true:=by
 by_cases hr:rightP xs ys
 ·by_cases hc:decOk xs d w
  ·rcases dec_sound xs ys hr hxs d w hc with h|⟨p,h,_⟩<;>rw [h]<;>rfl
  ·unfold decOk at hc
   unfold decL
   rw [if_pos hr,if_pos (nw hc)]
   rfl
 ·unfold decL
  rw [if_neg hr]
  rfl
theorem pickL_sub (xs:List UInt8) (s:Nat):∀k,k≤xs.length→(pickL xs s k).Sublist (xs.take k)
 |0,_=>by rw [List.take_zero];exact .slnil
 |k+1,h=>by
  have ih:=pickL_sub xs s k (by omega)
  rw [take_snoc xs k (by omega),pickL]
  split
  ·exact ih.append (List.Sublist.refl _)
  ·exact ih.trans (List.sublist_append_left _ _)
theorem pickL_nodup (xs:List UInt8) (s:Nat) (hn:xs.Nodup):(pickL xs s xs.length).Nodup:=by
 have:=pickL_sub xs s xs.length (Nat.le_refl _)
 rw [List.take_length] at this
 exact hn.sublist this
theorem bit_low (s k j:Nat) (hj:j<k):(s+2^k)/2^j%2=s/2^j%2:=by
 have e:2^k=2^j*(2*2^(k-j-1)):=by
  rw [←Nat.pow_succ',←Nat.pow_add]
  congr 1
  omega
 rw [e,Nat.add_mul_div_left _ _ (Nat.pow_pos (by decide))]
 omega
theorem pickL_low (xs:List UInt8) (s k:Nat):∀j,j≤k→pickL xs (s+2^k) j=pickL xs s j
 |0,_=>rfl
 |j+1,h=>by
  unfold pickL
  rw [bit_low s k j (by omega),pickL_low xs s k j (by omega)]
theorem choose (xs:List UInt8) (good:Nat→Prop) [DecidablePred good] (c:Nat):∀n,∃s,s<2^n∧(∀k,k<n→s/2^k%2=1→good k)∧(pickL xs s n).length=min c ((List.range n).countP fun k=>decide (good k))
 |0=>⟨0,by decide,fun k h=>by omega,by simp [pickL]⟩
 | n+1=>by
  obtain⟨s,h1,h2,h3⟩:=choose xs good c n
  have hz:s/2^n%2=0:=by rw [Nat.div_eq_of_lt h1]
  by_cases hg:good n∧(pickL xs s n).length<c
  ·refine⟨s+2^n,by rw [Nat.pow_succ];omega,fun k hk hb=> ?_,?_⟩
   ·by_cases e:k=n
    ·rw [e];exact hg.1
    ·rw [bit_low s n k (by omega)] at hb
     exact h2 k (by omega) hb
   ·have hb:(s+2^n)/2^n%2=1:=by
     rw [Nat.add_div_right _ (Nat.pow_pos (by decide)),Nat.div_eq_of_lt h1]
    rw [pickL,if_pos hb,pickL_low xs s n n (Nat.le_refl _),List.length_append,List.length_singleton,List.range_succ,List.countP_append,List.countP_singleton,if_pos (by simpa using hg.1),h3]
    omega
  ·refine⟨s,by rw [Nat.pow_succ];omega,fun k hk hb=> ?_,?_⟩
   ·by_cases e:k=n
    ·rw [e,hz] at hb;omega
    ·exact h2 k (by omega) hb
   ·rw [pickL,if_neg (by omega),List.range_succ,List.countP_append,List.countP_singleton,h3]
    by_cases hgn:good n
    ·have:¬(pickL xs s n).length<c:=fun h=>hg ⟨hgn,h⟩
     rw [if_pos (by simpa using hgn)]
     omega
    ·rw [if_neg (by simpa using hgn)]
     rfl
theorem pickL_vals (xs ys p:List UInt8) (s:Nat):∀n,(∀k,k<n→s/2^k%2=1→horner (xs.getD k 0) p=ys.getD k 0)→pickL ys s n=(pickL xs s n).map (fun x=>horner x p)
 |0,_=>rfl
 | n+1,h=>by
  have ih:=pickL_vals xs ys p s n fun k hk=>h k (by omega)
  unfold pickL
  split
  ·rename_i hb
   rw [List.map_append,ih,←h n (by omega) hb]
   rfl
  ·exact ih
theorem miss_count (p xs ys:List UInt8):∀n,(missA p xs ys n).length+((List.range n).countP fun k=>decide (horner (xs.getD k 0) p=ys.getD k 0))=n
 |0=>rfl
 |n+1=>by
  have ih:=miss_count p xs ys n
  rw [List.range_succ,List.countP_append,List.countP_singleton,missA]
  by_cases h:horner (xs.getD n 0) p=ys.getD n 0
  ·rw [if_neg (fun h'=>h' h),if_pos (by simpa using h)];omega
  ·rw [if_pos h,if_neg (by simpa using h),List.length_append,List.length_singleton];omega
theorem rdF_none (a b:List UInt8) (d w:Int):∀(f s:Nat),rdF a b d w f s=none→∀t,s≤t→t<s+f→¬rdOk a b d w t
 |0,s,_,t,h1,h2=>by omega
 | f+1,s,h,t,h1,h2=>by
  unfold rdF at h
  split at h
  ·cases h
  ·rename_i hn
   by_cases e:t=s
   ·rw [e];exact hn
   ·exact rdF_none a b d w f (s+1) h t (by omega) (by omega)
theorem rdF_some (a b:List UInt8) (d w:Int):∀(f s t:Nat),rdF a b d w f s=some t→rdOk a b d w t
 |0,s,t,h=>by cases h
 |f+1,s,t,h=>by
  unfold rdF at h
  split at h
  ·cases h;assumption
  ·exact rdF_some a b d w f (s+1) t h
theorem lineL_vals (xs p:List UInt8) (hn:xs.Nodup) (hp:sz p≤xs.length):lineL xs (xs.map (fun x=>horner x p))=trimL p:=by
 have hr:rightP xs (xs.map (fun x=>horner x p)):=⟨hn,by rw [List.length_map]⟩
 rw [←thr_line xs _ hr]
 refine thrL_unique xs _ p hr hp fun k hk=> ?_
 simp [List.getElem?_eq_getElem hk]
theorem dec_same (a b:List UInt8) (d w:Int) (ha:a.length≤10000):decL a b d w=some (rdecL a b d w):=by
 by_cases hr:rightP a b
 ·by_cases hc:decOk a d w
  ·have hc':¬(d<0∨w<0∨(a.length:Int)≤d∨(a.length:Int)<w∨(a.length:Int)<d+1+2*w):=by
    unfold decOk at hc
    omega
   unfold rdecL
   rw [if_pos hr,if_neg hc']
   cases hF:rdF a b d w (2^a.length) 0 with
   |some t=>
    have ht:=rdF_some a b d w _ _ t hF
    have h1:=lineL_sz (pickL a t a.length) (pickL b t a.length)
    have h2:=ht.1
    rw [dec_complete a b hr ha d w hc _ (by rw [degL_sz];omega) ht.2,lineL_trim]
    rfl
   | none=>
    have hno:=rdF_none a b d w _ _ hF
    rcases dec_sound a b hr ha d w hc with h|⟨p,h,hp,hdp,hw⟩
    ·rw [h];rfl
    ·exfalso
     have hcnt:=miss_count p a b a.length
     obtain⟨s,hs1,hs2,hs3⟩:=choose a (fun k=>horner (a.getD k 0) p=b.getD k 0) (d+1).toNat a.length
     have hlen:(pickL a s a.length).length=(d+1).toNat:=by
      rw [hs3]
      omega
     have hv:=pickL_vals a b p s a.length hs2
     have hl:lineL (pickL a s a.length) (pickL b s a.length)=p:=by
      rw [hv,lineL_vals _ p (pickL_nodup a s hr.1) (by rw [hlen];rw [degL_sz] at hdp;omega),hp]
     refine hno s (Nat.zero_le _) (by omega) ⟨?_,?_⟩
     ·rw [hlen];omega
     ·rw [hl];exact hw
  ·have hc':(d<0∨w<0∨(a.length:Int)≤d∨(a.length:Int)<w∨(a.length:Int)<d+1+2*w):=by
    unfold decOk at hc
    omega
   unfold decOk at hc
   unfold decL rdecL
   rw [if_pos hr,if_pos (nw hc),if_pos hr,if_pos hc']
 ·unfold decL rdecL
  rw [if_neg hr,if_neg hr]
theorem decT_len {xs ys:List UInt8} {d w:Int} (hxs:xs.length≤10000):((decT xs ys d w).1.length:Int)≤max 0 (d+1):=by
 unfold decT
 by_cases hr:rightP xs ys
 ·by_cases hc:decOk xs d w
  ·rcases dec_sound xs ys hr hxs d w hc with h|⟨p,h,h1,h2,_⟩<;>rw [h]
   ·show((0:Nat):Int)≤_
    omega
   ·show(p.length:Int)≤_
    have e:p.length=sz p:=(sz_eq_len h1).symm
    rw [degL_sz] at h2
    omega
  ·unfold decOk at hc
   unfold decL
   rw [if_pos hr,if_pos (nw hc)]
   show((0:Nat):Int)≤_
   omega
 ·unfold decL
  rw [if_neg hr]
  show((0:Nat):Int)≤_
  omega
open Go
def fillF (f:Nat→UInt8) (n k:Nat):List UInt8:=(List.range n).map fun i=>if i<k then f i else 0
theorem fill_len (f:Nat→UInt8) (n k:Nat):(fillF f n k).length=n:=by simp [fillF]
theorem fill_zero (f:Nat→UInt8) (n:Nat):fillF f n 0=List.replicate n 0:=by
 apply List.ext_getElem
 ·simp [fillF]
 ·intro i h1 h2;simp [fillF]
theorem fill_set (f:Nat→UInt8) {n k:Nat} (h:k<n):(fillF f n k).set k (f k)=fillF f n (k+1):=by
 apply List.ext_getElem
 ·simp [fillF]
 ·intro i h1 h2
  rw [List.getElem_set]
  simp only [fillF,List.getElem_map,List.getElem_range]
  by_cases e:k=i
  ·subst e;simp
  ·rw [if_neg e]
   by_cases g:i<k
   ·rw [if_pos g,if_pos (by omega)]
   ·rw [if_neg g,if_neg (by omega)]
theorem fill_all (f:Nat→UInt8) (n:Nat):fillF f n n=(List.range n).map f:=by
 apply List.map_congr_left
 intro i hi
 rw [List.mem_range] at hi
 rw [if_pos hi]
def scaleF (c:UInt8) (s:List UInt8) (i:Nat):UInt8:=mulL c (s.getD i 0)
def scaleB (c:UInt8) (s:List UInt8):List UInt8:=(List.range s.length).map (scaleF c s)
def sumG (a b:List UInt8) (i:Nat):UInt8:=if i<b.length then a.getD i 0^^^b.getD i 0 else a.getD i 0
def sumF (a b:List UInt8):List UInt8:=(List.range a.length).map (sumG a b)
def sumB (a b:List UInt8):List UInt8:=if a.length<b.length then sumF b a else sumF a b
theorem scale_len (c:UInt8) (s:List UInt8):(scaleB c s).length=s.length:=by simp [scaleB]
theorem sum_len (a b:List UInt8):(sumB a b).length=max a.length b.length:=by
 unfold sumB
 split<;>simp [sumF]<;>omega
def sGSc:List V→Option (Prop×V×List Blk)
 |[.int .i64 k,.rp false .u8 c 0,.rp false .str s 0]=>some (0≤k∧k<(s.length:Int),.u8 (scaleF c s k.toNat), [])
 |_=>none
theorem bGSc (k:Int) (c:UInt8) (s:List UInt8):bodyQ (En CRDec tys G6 []) Tryd.f91 [.k] sGSc [.int .i64 k,.rp false .u8 c 0,.rp false .str s 0]:=by
 rintro⟨hp0,hp1⟩
 refine⟨by kernel_rfl,ix k s.length,trivial,?_⟩
 exact d4'
def CGSc:List (Nat×Con):=(91,pureC [.v (.int .i64),.ref .u8,.ref .str] sGSc)::CRDec
theorem kGSc:Known Tryd.prog (En CGSc tys G6 []):=kRDec.addQ Tryd.func91 Tryd.call91 [.k] fun ds _ _ _ h=>by unfold sGSc at h;split at h;exact bGSc _ _ _;cases h
def sGSm:List V→Option (Prop×V×List Blk)
 |[.int .i64 k,.rp false .str b 0,.rp false .str a 0]=>some (0≤k∧k<(a.length:Int),.u8 (sumG a b k.toNat), [])
 |_=>none
theorem bGSm (k:Int) (b a:List UInt8):bodyQ (En CGSc tys G6 []) Tryd.f93 [.k] sGSm [.int .i64 k,.rp false .str b 0,.rp false .str a 0]:=by
 rintro⟨hp0,hp1⟩
 refine yn (k<(b.length:Int)) (fun h0=> ?_) fun h0=> ?_
 ·refine⟨by kernel_rfl,ix k a.length,ix k b.length,?_⟩
  rw [show sumG a b k.toNat=_ from if_pos (by omega)]
  exact d4'
 ·refine⟨ix k a.length,?_⟩
  rw [show sumG a b k.toNat=_ from if_neg (by omega)]
  exact d4'
def CGSm:List (Nat×Con):=(93,pureC [.v (.int .i64),.ref .str,.ref .str] sGSm)::CGSc
theorem kGSm:Known Tryd.prog (En CGSm tys G6 []):=kGSc.addQ Tryd.func93 Tryd.call93 [.k] fun ds _ _ _ h=>by unfold sGSm at h;split at h;exact bGSm _ _ _;cases h
theorem bGBu0 (z:Int) (c:UInt8) (s:List UInt8) (hp0:z=(s.length:Int)) (hp1:s.length≤1000000000):bodyP (En CGSm tys G6 []) Tryd.f90 [.k] [.int .i64 z,.fn 91 [.rp false .u8 c 0,.rp false .str s 0]] (.str (scaleB c s)) []:=by
 refine⟨⟨rfl,om ((0:Int)≤z),om (z≤(1000000000:Int))⟩,0, [(1,.k),(5,.o .u8),(9,.k),(10,.k)],fun nM vs H=>∃(k:Nat),(k:Int)≤z∧nM=z.toNat-k∧vs= [.fn 91 [.rp false .u8 c 0,.rp false .str s 0],.own .u8 0,.int .i64 z,.int .i64 (k:Int)]∧H= [.row true .u8 (fillF (scaleF c s) z.toNat k)],⟨rfl,z.toNat,0,by omega,by omega,rfl,by rw [fill_zero];rfl⟩,?_⟩
 rintro nM vs H ⟨k,hc1_0,rfl,rfl,rfl⟩
 refine yn ((k:Int)<z) (fun h0=> ?_) fun h0=> ?_
 ·have hl:=fill_len (scaleF c s) z.toNat k
  refine⟨rfl,⟨om (0≤(k:Int)),om ((k:Int)<(s.length:Int))⟩,ix k (fillF (scaleF c s) z.toNat k).length,w2',r64 (k+1),?_⟩
  exact⟨rfl,z.toNat-(k+1),by omega,k+1,by omega,rfl,rfl,by rw [←fill_set _ (by omega:k<z.toNat)];rfl⟩
 ·rw [show k=z.toNat by omega,fill_all,show z.toNat=s.length by omega]
  exact d4'
theorem bGBu1 (z:Int) (b a:List UInt8) (hp0:z=(a.length:Int)) (hp1:a.length≤1000000000):bodyP (En CGSm tys G6 []) Tryd.f90 [.k] [.int .i64 z,.fn 93 [.rp false .str b 0,.rp false .str a 0]] (.str (sumF a b)) []:=by
 refine⟨⟨rfl,om ((0:Int)≤z),om (z≤(1000000000:Int))⟩,0, [(1,.k),(5,.o .u8),(9,.k),(10,.k)],fun nM vs H=>∃(k:Nat),(k:Int)≤z∧nM=z.toNat-k∧vs= [.fn 93 [.rp false .str b 0,.rp false .str a 0],.own .u8 0,.int .i64 z,.int .i64 (k:Int)]∧H= [.row true .u8 (fillF (sumG a b) z.toNat k)],⟨rfl,z.toNat,0,by omega,by omega,rfl,by rw [fill_zero];rfl⟩,?_⟩
 rintro nM vs H ⟨k,hc1_0,rfl,rfl,rfl⟩
 refine yn ((k:Int)<z) (fun h0=> ?_) fun h0=> ?_
 ·have hl:=fill_len (sumG a b) z.toNat k
  refine⟨rfl,⟨om (0≤(k:Int)),om ((k:Int)<(a.length:Int))⟩,ix k (fillF (sumG a b) z.toNat k).length,w2',r64 (k+1),?_⟩
  exact⟨rfl,z.toNat-(k+1),by omega,k+1,by omega,rfl,rfl,by rw [←fill_set _ (by omega:k<z.toNat)];rfl⟩
 ·rw [show k=z.toNat by omega,fill_all,show z.toNat=a.length by omega]
  exact d4'
def sGBu:List V→Option (Prop×V×List Blk)
 |[.int .i64 z,.fn 91 [.rp false .u8 c 0,.rp false .str s 0]]=>some (z=(s.length:Int)∧s.length≤1000000000,.str (scaleB c s), [])
 |[.int .i64 z,.fn 93 [.rp false .str b 0,.rp false .str a 0]]=>some (z=(a.length:Int)∧a.length≤1000000000,.str (sumF a b), [])
 |_=>none
def CGBu:List (Nat×Con):=(90,pureC [.v (.int .i64),.fn [(91, [.ref .u8,.ref .str]),(93, [.ref .str,.ref .str])]] sGBu)::CGSm
theorem kGBu:Known Tryd.prog (En CGBu tys G6 []):=kGSm.add Tryd.func90 Tryd.call90 [.k] fun ds p v bs h hp=>by
 unfold sGBu at h
 split at h<;>simp only [Option.some.injEq,Prod.mk.injEq,reduceCtorEq] at h
 ·obtain⟨rfl,rfl,rfl⟩:=h
  exact bGBu0 _ _ _ hp.1 hp.2
 ·obtain⟨rfl,rfl,rfl⟩:=h
  exact bGBu1 _ _ _ hp.1 hp.2
def sGScl:List V→Option (Prop×V×List Blk)
 |[.u8 c,.str s]=>some (s.length≤1000000000,.str (scaleB c s), [])
 |_=>none
theorem bGScl (c:UInt8) (s:List UInt8):bodyQ (En CGBu tys G6 []) Tryd.f62 [.k] sGScl [.u8 c,.str s]:=by
 intro hp0
 refine⟨rfl,⟨om ((s.length:Int)=(s.length:Int)),om (s.length≤1000000000)⟩,?_⟩
 exact d4'
def CGScl:List (Nat×Con):=(62,pureC [.v .u8,.v .str] sGScl)::CGBu
theorem kGScl:Known Tryd.prog (En CGScl tys G6 []):=kGBu.addQ Tryd.func62 Tryd.call62 [.k] fun ds _ _ _ h=>by unfold sGScl at h;split at h;exact bGScl _ _;cases h
def sGSum:List V→Option (Prop×V×List Blk)
 |[.str a,.str b]=>some (a.length≤1000000000∧b.length≤1000000000,.str (sumB a b), [])
 |_=>none
theorem bGSum (a b:List UInt8):bodyQ (En CGScl tys G6 []) Tryd.f64 [.k] sGSum [.str a,.str b]:=by
 rintro⟨hp0,hp1⟩
 refine yn ((a.length:Int)<(b.length:Int)) (fun h0=> ?_) fun h0=> ?_
 ·refine⟨w3',w3',rfl,⟨om ((b.length:Int)=(b.length:Int)),om (b.length≤1000000000)⟩,?_⟩
  rw [show sumB a b=sumF b a from if_pos (by omega)]
  exact d4'
 ·refine⟨rfl,⟨om ((a.length:Int)=(a.length:Int)),om (a.length≤1000000000)⟩,?_⟩
  rw [show sumB a b=sumF a b from if_neg (by omega)]
  exact d4'
def CGSum:List (Nat×Con):=(64,pureC [.v .str,.v .str] sGSum)::CGScl
theorem kGSum:Known Tryd.prog (En CGSum tys G6 []):=kGScl.addQ Tryd.func64 Tryd.call64 [.k] fun ds _ _ _ h=>by unfold sGSum at h;split at h;exact bGSum _ _;cases h
theorem dropD {α:Type} (d:α) (l:List α) (k:Nat) (h:k<l.length):l.drop k=l.getD k d::l.drop (k+1):=by
 rw [List.drop_eq_getElem_cons h]
 simp [List.getD_eq_getElem?_getD,h]
theorem takeD {α:Type} (d:α) (l:List α) (k:Nat) (h:k<l.length):l.take (k+1)=l.take k++ [l.getD k d]:=by
 rw [List.take_succ_eq_append_getElem h]
 simp [List.getD_eq_getElem?_getD,h]
theorem getD_mem {α:Type} (d:α) (l:List α) (k:Nat) (h:k<l.length):l.getD k d∈l:=by
 simp [List.getD_eq_getElem?_getD,h]
theorem all_bad {α:Type} {d:α} {p:α→Bool} {l:List α} {k:Nat} (hk:k<l.length) (hc:(l.drop k).all p=l.all p) (h:p (l.getD k d)=false):l.all p=false:=by
 rw [←hc,dropD d l k hk,List.all_cons,h,Bool.false_and]
theorem all_next {α:Type} {d:α} {p:α→Bool} {l:List α} {k:Nat} (hk:k<l.length) (hc:(l.drop k).all p=l.all p) (h:p (l.getD k d)=true):(l.drop (k+1)).all p=l.all p:=by
 rw [←hc,dropD d l k hk,List.all_cons,h,Bool.true_and]
theorem all_stop {α:Type} {p:α→Bool} {l:List α} {k:Nat} (hk:l.length≤k) (hc:(l.drop k).all p=l.all p):l.all p=true:=by
 rw [←hc,List.drop_eq_nil_of_le hk];rfl
theorem drop_cons {α:Type} {l r:List α} {x d:α} {k:Nat} (h:l.drop k=x::r):k<l.length∧l.getD k d=x∧l.drop (k+1)=r:=by
 have hk:k<l.length:=by
  rcases Nat.lt_or_ge k l.length with g|g
  ·exact g
  ·rw [List.drop_eq_nil_of_le g] at h;cases h
 rw [dropD d l k hk] at h
 injection h with h1 h2
 exact⟨hk,h1,h2⟩
theorem drop_nil {α:Type} {l:List α} {k:Nat} (hk:k≤l.length) (h:l.drop k= []):k=l.length:=by
 have:=List.drop_eq_nil_iff.1 h;omega

abbrev Rw:=List (List UInt8)
def sumAll (l:Rw):List UInt8:=(l.drop 1).foldl sumB (l.getD 0 [])
theorem foldl_len {N:Nat}:∀(l:Rw) (s:List UInt8),s.length≤N→(∀x∈l,x.length≤N)→(l.foldl sumB s).length≤N
 |[],s,h,_=>h
 |x::l,s,h,hl=>foldl_len l (sumB s x) (by rw [sum_len];have:=hl x (by simp);omega) fun y hy=>hl y (by simp [hy])
theorem foldl_snoc (l:Rw) (s:List UInt8) (k:Nat) (h:k<l.length):(l.take (k+1)).foldl sumB s=sumB ((l.take k).foldl sumB s) (l.getD k []):=by
 rw [takeD [] l k h,List.foldl_append];rfl
def atL:Rw→UInt8→List UInt8
 |[],_=> []
 |[s],_=>s
 |s::t::r,x=>sumB (scaleB x (atL (t::r) x)) s
theorem atL_drop (l:Rw) (x:UInt8) (k:Nat) (h:k+1<l.length):atL (l.drop k) x=sumB (scaleB x (atL (l.drop (k+1)) x)) (l.getD k []):=by
 rw [dropD [] l k (by omega),dropD [] l (k+1) h]
 rfl
theorem atL_last (l:Rw) (x:UInt8) (h:1≤l.length):atL (l.drop (l.length-1)) x=l.getD (l.length-1) []:=by
 rw [dropD [] l (l.length-1) (by omega),show l.length-1+1=l.length by omega,List.drop_length];rfl
theorem atL_len {N:Nat}:∀(l:Rw) (x:UInt8),(∀s∈l,s.length≤N)→(atL l x).length≤N
 |[],x,_=>Nat.zero_le _
 |[s],x,h=>h s (by simp)
 |s::t::r,x,h=>by
  rw [atL,sum_len,scale_len]
  have h1:=atL_len (t::r) x fun y hy=>h y (by simp [hy])
  have h2:=h s (by simp)
  omega
theorem drop_all {α:Type} {P:α→Prop} {l:List α} (h:∀s∈l,P s) (k:Nat):∀s∈l.drop k,P s:=fun s hs=>h s (List.mem_of_mem_drop hs)
theorem two_len {a b:List UInt8} {N:Nat} (h1:a.length≤N) (h2:b.length≤N):∀s∈ [a,b],s.length≤N:=fun s hs=>by
 rcases List.mem_cons.1 hs with e|hs
 ·rw [e];exact h1
 ·rw [List.mem_singleton.1 hs];exact h2
def pt (h:Int):UInt8:=UInt8.ofNat ((h+1)%256).toNat
def n0 (r:Rw):Nat:=(r.getD 0 []).length
def rightB (r:Rw):Bool:=decide (1≤r.length)&&decide (r.length<12)&&r.all fun s=>decide (s.length=n0 r)&&decide (s.length≤4096)
theorem right_ok {r:Rw} (h:rightB r=true):1≤r.length∧r.length<12∧(∀s∈r,s.length=n0 r)∧n0 r≤4096:=by
 unfold rightB at h
 simp only [Bool.and_eq_true,decide_eq_true_eq,List.all_eq_true] at h
 obtain⟨⟨h1,h2⟩,h3⟩:=h
 refine⟨h1,h2,fun s hs=>(h3 s hs).1,?_⟩
 have:=h3 _ (getD_mem [] r 0 (by omega))
 exact this.2
theorem right_len {r:Rw} (h:rightB r=true):∀s∈r,s.length≤4096:=fun s hs=>by
 obtain⟨_,_,h3,h4⟩:=right_ok h
 rw [h3 s hs];exact h4
theorem right_no1 {r:Rw} (h:r.length<1∨12≤r.length):rightB r=false:=by
 unfold rightB
 rcases h with h|h
 ·rw [decide_eq_false (by omega:¬1≤r.length)];rfl
 ·rw [decide_eq_false (by omega:¬r.length<12)];simp
theorem right_all {r:Rw} (h1:1≤r.length) (h2:r.length<12):rightB r=r.all fun s=>decide (s.length=n0 r)&&decide (s.length≤4096):=by
 unfold rightB
 rw [decide_eq_true h1,decide_eq_true h2];rfl
def alikeP (a b:Rw):Prop:=a.length=b.length∧n0 a=n0 b
instance (a b:Rw):Decidable (alikeP a b):=by unfold alikeP;infer_instance
def agrP (a:Rw) (h:Int) (b:Rw) (o:Int):Prop:=atL a (pt o)=atL b (pt h)
instance (a:Rw) (h:Int) (b:Rw) (o:Int):Decidable (agrP a h b o):=by unfold agrP;infer_instance
def knw (h:Int):Prop:=0≤h∧h<12
instance (h:Int):Decidable (knw h):=by unfold knw;infer_instance
def valE (r:Rw) (h:Int):Int:=if rightB r=true then(if knw h then 0 else 8) else 1
def valS (r:Rw) (h:Int):List UInt8:=if valE r h=0 then atL r (pt h) else []
def agE (a:Rw) (h:Int) (b:Rw) (o:Int):Int:=if rightB a=true∧rightB b=true∧alikeP a b then(if knw h∧knw o then 0 else 8) else 1
def agQ (a:Rw) (h:Int) (b:Rw) (o:Int):Prop:=agE a h b o=0∧agrP a h b o
instance (a:Rw) (h:Int) (b:Rw) (o:Int):Decidable (agQ a h b o):=by unfold agQ;infer_instance
def sKnw:List V→Option (Prop×V×List Blk)
 |[.int .i64 h]=>some (True,.b (knw h), [])
 |_=>none
theorem bKnw (h:Int):bodyQ (En CGSum tys G6 []) Tryd.f66 [.k] sKnw [.int .i64 h]:=by
 intro _
 refine yn (0≤h) (fun h0=> ?_) fun h0=> ?_
 ·exact⟨rfl,rfl,congrArg V.b (propext (by unfold knw;constructor<;>intro g<;>first|omega|exact Bool.noConfusion g|(exfalso;omega))),rfl⟩
 ·exact⟨rfl,rfl,congrArg V.b (propext (by unfold knw;constructor<;>intro g<;>first|omega|exact Bool.noConfusion g|(exfalso;omega))),rfl⟩
def CKnw:List (Nat×Con):=(66,pureC [.v (.int .i64)] sKnw)::CGSum
theorem kKnw:Known Tryd.prog (En CKnw tys G6 []):=kGSum.addQ Tryd.func66 Tryd.call66 [.k] fun ds _ _ _ h=>by unfold sKnw at h;split at h;exact bKnw _;cases h
def sSumA:List V→Option (Prop×V×List Blk)
 |[.sl false .str l]=>some (1≤l.length∧l.length≤1000000∧(∀x∈l,x.length≤1048576),.str (sumAll l), [])
 |_=>none
theorem bSumA (l:List (List UInt8)):bodyQ (En CKnw tys G6 []) Tryd.f77 [.k] sSumA [.sl false .str l]:=by
 rintro⟨hp0,hp1,(hp2:(∀x∈l,x.length≤1048576))⟩
 have hld:(l.drop 1).length=l.length-1:=List.length_drop ..
 have hm0:(l.getD 0 []).length≤1048576:=hp2 _ (getD_mem [] l 0 (by omega))
 refine⟨ix 0 l.length,⟨by omega,by omega⟩,0, [(3,.k),(10,.k),(11,.k),(12,.k)],fun nM vs H=>∃(k:Nat),k≤(l.drop 1).length∧nM=(l.drop 1).length-k∧vs= [.str (((l.drop 1).take k).foldl sumB (l.getD 0 [])),.sl false .str (l.drop 1),.int .i64 (((l.drop 1).length:Nat):Int),.int .i64 (k:Int)]∧H= [],⟨rfl,(l.drop 1).length,0,by omega,by omega,rfl,rfl⟩,?_⟩
 rintro nM vs H ⟨k,hc1_0,rfl,rfl,rfl⟩
 refine yn ((k:Int)<(((l.drop 1).length:Nat):Int)) (fun h0=> ?_) fun h0=> ?_
 ·have hs:((l.drop 1).drop k)=(l.drop 1).drop k:=rfl
  have hm1:=foldl_len (N:=1048576) ((l.drop 1).take k) (l.getD 0 []) hm0 fun x hx=>drop_all hp2 1 x (List.mem_of_mem_take hx)
  have hm2:=drop_all hp2 1 _ (getD_mem [] (l.drop 1) k (by omega))
  refine⟨ix k (l.drop 1).length,⟨os ((((l.drop 1).take k).foldl sumB (l.getD 0 [])).length≤1000000000),os (((l.drop 1).getD k []).length≤1000000000)⟩,r64 (k+1),?_⟩
  exact⟨rfl,(l.drop 1).length-(k+1),by omega,k+1,by omega,rfl,by rw [foldl_snoc _ _ _ (by omega:k<(l.drop 1).length)];rfl,rfl⟩
 ·rw [show sumAll l=((l.drop 1).take k).foldl sumB (l.getD 0 []) by rw [List.take_of_length_le (by omega)];rfl]
  exact d4'
def CSumA:List (Nat×Con):=(77,pureC [.v (.sl .str)] sSumA)::CKnw
theorem kSumA:Known Tryd.prog (En CSumA tys G6 []):=kKnw.addQ Tryd.func77 Tryd.call77 [.k] fun ds _ _ _ h=>by unfold sSumA at h;split at h;exact bSumA _;cases h
def sAt:List V→Option (Prop×V×List Blk)
 |[.sl false .str l,.u8 x]=>some (1≤l.length∧l.length≤1000000∧(∀x∈l,x.length≤1048576),.str (atL l x), [])
 |_=>none
theorem bAt (l:List (List UInt8)) (x:UInt8):bodyQ (En CSumA tys G6 []) Tryd.f67 [.k] sAt [.sl false .str l,.u8 x]:=by
 rintro⟨hp0,hp1,(hp2:(∀x∈l,x.length≤1048576))⟩
 refine⟨r64 (l.length-1),ix (l.length-1) l.length,r64 (l.length-2),0, [(0,.k),(1,.k),(5,.k),(6,.k)],fun nM vs H=>∃(k:Nat),k<l.length∧nM=k+1∧vs= [.sl false .str l,.u8 x,.str (atL (l.drop k) x),.int .i64 ((k:Int)-1)]∧H= [],⟨rfl,l.length-1+1,l.length-1,by omega,by omega,by rw [atL_last l x hp0,show((l.length-1:Nat):Int)-1=(l.length:Int)-2 by omega,show l.length-1=((l.length:Int)-1).toNat by omega];rfl,rfl⟩,?_⟩
 rintro nM vs H ⟨k,hc1_0,rfl,rfl,rfl⟩
 refine yn (0≤((k:Int)-1)) (fun h0=> ?_) fun h0=> ?_
 ·obtain⟨j,hj⟩:∃j,k=j+1:=⟨k-1,by omega⟩
  have ek:((k:Int)-1).toNat=j:=by omega
  have hl1:=atL_len (N:=1048576) (l.drop k) x (drop_all hp2 k)
  have hl2:=hp2 _ (getD_mem [] l j (by omega))
  refine⟨by kernel_rfl,os ((atL (l.drop k) x).length≤1000000000),ix (k-1) l.length,⟨os (1≤([scaleB x (atL (l.drop k) x),l.getD (((k:Int)-1).toNat) []]:List (List UInt8)).length),os (([scaleB x (atL (l.drop k) x),l.getD (((k:Int)-1).toNat) []]:List (List UInt8)).length≤1000000),by rw [ek];exact two_len (by rw [scale_len];exact hl1) hl2⟩,r64 (((k:Int)-1)-1),?_⟩
  exact⟨rfl,j+1,by omega,j,by omega,rfl,by(subst hj;have ej:((j+1:Nat):Int)-1=(j:Int):=(by omega);rw [ej,atL_drop l x j (by omega)];rfl),rfl⟩
 ·rw [show k=0 by omega]
  exact d4'
def CAt:List (Nat×Con):=(67,pureC [.v (.sl .str),.v .u8] sAt)::CSumA
theorem kAt:Known Tryd.prog (En CAt tys G6 []):=kSumA.addQ Tryd.func67 Tryd.call67 [.k] fun ds _ _ _ h=>by unfold sAt at h;split at h;exact bAt _ _;cases h
def sRgt:List V→Option (Prop×V×List Blk)
 |[.sl false .str r]=>some (r.length≤1048576,.b (rightB r=true), [])
 |_=>none
theorem bRgt (r:List (List UInt8)):bodyQ (En CAt tys G6 []) Tryd.f74 [.k] sRgt [.sl false .str r]:=by
 intro hp0
 refine ny ((r.length:Int)<1) (fun h0=> ?_) fun h0=> ?_
 ·refine yn (12≤(r.length:Int)) (fun h1=> ?_) fun h1=> ?_
  ·rw [right_no1 (r:=r) (.inr (by omega))]
   exact d4'
  ·have hall:=right_all (r:=r) (by omega) (by omega)
   refine⟨0, [(0,.k),(13,.k),(14,.k),(15,.k)],fun nM vs H=>∃(k:Nat),k≤r.length∧(r.drop k).all (fun s=>decide (s.length=n0 r)&&decide (s.length≤4096))=r.all (fun s=>decide (s.length=n0 r)&&decide (s.length≤4096))∧nM=r.length-k∧vs= [.sl false .str r,.sl false .str r,.i (r.length:Int),.i k]∧H= [],⟨rfl,r.length,0,by omega,rfl,by omega,rfl,rfl⟩,?_⟩
   rintro nM vs H ⟨k,hc1_0,hc1_1,rfl,rfl,rfl⟩
   refine yn ((k:Int)<(r.length:Int)) (fun h2=> ?_) fun h2=> ?_
   ·have hk:k<r.length:=by omega
    refine⟨ix k r.length,ix 0 r.length,ny ((((r.getD k []).length:Nat):Int)≠(((r.getD 0 []).length:Nat):Int)) (fun h3=> ?_) fun h3=> ?_⟩
    ·refine yn (4096<(((r.getD k []).length:Nat):Int)) (fun h4=> ?_) fun h4=> ?_
     ·have e:rightB r=false:=by rw [hall];exact all_bad (d:= []) hk hc1_1 (by show(decide ((r.getD k []).length=n0 r)&&decide ((r.getD k []).length≤4096))=false;rw [decide_eq_false (by omega:¬(r.getD k []).length≤4096),Bool.and_false])
      rw [e]
      exact d4'
     ·have hok:(decide ((r.getD k []).length=n0 r)&&decide ((r.getD k []).length≤4096))=true:=by rw [decide_eq_true (by unfold n0;omega:(r.getD k []).length=n0 r),decide_eq_true (by omega:(r.getD k []).length≤4096)];rfl
      refine⟨r64 (k+1),?_⟩
      exact⟨rfl,r.length-(k+1),by omega,k+1,by omega,all_next (d:= []) hk hc1_1 hok,rfl,rfl,rfl⟩
    ·have e:rightB r=false:=by rw [hall];exact all_bad (d:= []) hk hc1_1 (by show(decide ((r.getD k []).length=n0 r)&&decide ((r.getD k []).length≤4096))=false;rw [decide_eq_false (by unfold n0;omega:¬(r.getD k []).length=n0 r),Bool.false_and])
     rw [e]
     exact d4'
   ·have e:rightB r=true:=by rw [hall];exact all_stop (by omega) hc1_1
    rw [e]
    exact d4'
 ·rw [right_no1 (r:=r) (.inl (by omega))]
  exact d4'
def CRgt:List (Nat×Con):=(74,pureC [.v (.sl .str)] sRgt)::CAt
theorem kRgt:Known Tryd.prog (En CRgt tys G6 []):=kAt.addQ Tryd.func74 Tryd.call74 [.k] fun ds _ _ _ h=>by unfold sRgt at h;split at h;exact bRgt _;cases h
def n00 (cf:List Rw):Nat:=n0 (cf.getD 0 [])
def lenB (cf:List Rw) (l:Rw):Bool:=decide (l.length=cf.length)&&decide ((cf.getD 0 []).length=cf.length)&&l.all fun s=>decide (s.length=n00 cf)
def symB (cf:List Rw) (m:Nat):Bool:=(List.range m).all fun a=>(List.range a).all fun b=>decide ((cf.getD a []).getD b []=(cf.getD b []).getD a [])
def chkD (need:Int) (cf:List Rw):Int:=
 if need<2∨12<need then 3 else if(cf.length:Int)≠need-1 then 1 else if cf.all (lenB cf)=false then 1 else if 4096<n00 cf then 2 else if symB cf cf.length=false then 1 else 0
structure Deal (need:Int) (cf:List Rw):Prop where
 n2:2≤need
 n12:need≤12
 len:(cf.length:Int)=need-1
 rows:∀l∈cf,l.length=cf.length
 strs:∀l∈cf,∀s∈l,s.length=n00 cf
 max:n00 cf≤4096
 sym:∀a b,a<cf.length→b<cf.length→(cf.getD a []).getD b []=(cf.getD b []).getD a []
theorem all_false {α:Type} {p:α→Bool} {l:List α} (h:¬l.all p=false):∀x∈l,p x=true:=fun x hx=>by
 have:l.all p=true:=by simpa using h
 exact List.all_eq_true.1 this x hx
theorem chkD0 {need:Int} {cf:List Rw} (h:chkD need cf=0):Deal need cf:=by
 unfold chkD at h
 split at h
 ·cases h
 ·split at h
  ·cases h
  ·split at h
   ·cases h
   ·split at h
    ·cases h
    ·split at h
     ·cases h
     ·rename_i h1 h2 h3 h4 h5
      have h3:=all_false h3
      have hl:∀l∈cf,l.length=cf.length∧∀s∈l,s.length=n00 cf:=fun l hl=>by
       have:=h3 l hl
       unfold lenB at this
       simp only [Bool.and_eq_true,decide_eq_true_eq,List.all_eq_true] at this
       exact⟨this.1.1,this.2⟩
      have hs:∀a b,a<cf.length→b<a→(cf.getD a []).getD b []=(cf.getD b []).getD a []:=fun a b ha hb=>by
       have:=all_false h5 a (List.mem_range.2 ha)
       simp only [List.all_eq_true,decide_eq_true_eq] at this
       exact this b (List.mem_range.2 hb)
      refine⟨by omega,by omega,by omega,fun l h=>(hl l h).1,fun l h=>(hl l h).2,by omega,fun a b ha hb=> ?_⟩
      rcases Nat.lt_trichotomy a b with g|g|g
      ·exact(hs b a hb g).symm
      ·subst g;rfl
      ·exact hs a b ha g
def rowD (cf:List Rw) (h:Int):Rw:=cf.map fun l=>atL l (pt h)
def rowE (need:Int) (cf:List Rw) (h:Int):Int:=if chkD need cf=0 then(if knw h then 0 else 8) else chkD need cf
def rowL (need:Int) (cf:List Rw) (h:Int):Rw:=if rowE need cf h=0 then rowD cf h else []
theorem map_take_snoc {α β:Type} (d:α) (f:α→β) (l:List α) (k:Nat) (h:k<l.length):(l.take (k+1)).map f=(l.take k).map f++ [f (l.getD k d)]:=by
 rw [takeD d l k h,List.map_append];rfl

theorem rangeBad {p:Nat→Bool} {k m:Nat} (hk:k<m) (h:p k=false):(List.range m).all p=false:=by
 rw [Bool.eq_false_iff]
 intro e
 rw [List.all_eq_true.1 e k (List.mem_range.2 hk)] at h
 cases h
theorem rangeAll {p:Nat→Bool} {k:Nat} (h:(List.range k).all p=true) (hk:p k=true):(List.range (k+1)).all p=true:=by
 rw [List.range_succ,List.all_append,h,List.all_cons,hk];rfl
theorem lenB_bad1 {cf:List Rw} {l:Rw} (h:¬l.length=cf.length):lenB cf l=false:=by unfold lenB;rw [decide_eq_false h,Bool.false_and,Bool.false_and]
theorem lenB_bad2 {cf:List Rw} {l:Rw} (h:¬(cf.getD 0 []).length=cf.length):lenB cf l=false:=by unfold lenB;rw [decide_eq_false h,Bool.and_false,Bool.false_and]
theorem lenB_bad3 {cf:List Rw} {l:Rw} (h:(l.all fun s=>decide (s.length=n00 cf))=false):lenB cf l=false:=by unfold lenB;rw [h,Bool.and_false]
theorem lenB_yes {cf:List Rw} {l:Rw} (h1:l.length=cf.length) (h2:(cf.getD 0 []).length=cf.length) (h:(l.all fun s=>decide (s.length=n00 cf))=true):lenB cf l=true:=by unfold lenB;rw [h,decide_eq_true h1,decide_eq_true h2];rfl
theorem lenB_len {cf:List Rw} (h:cf.all (lenB cf)=true):∀l∈cf,l.length=cf.length:=fun l hl=>by
 have:=List.all_eq_true.1 h l hl
 unfold lenB at this
 simp only [Bool.and_eq_true,decide_eq_true_eq] at this
 exact this.1.1

def updB (h:Int) (b:List UInt8) (rows:List Rw):List UInt8:=rows.foldl (fun s r=>sumB s (scaleB (pt h) (r.getD 0 []))) b
def updOk (b:List UInt8) (r:Rw):Bool:=rightB r&&decide (n0 r=b.length)
def updE (h:Int) (b:List UInt8) (rows:List Rw):Int:=if knw h then(if b.length≤4096 then(if rows.all (updOk b)=true then 0 else 1) else 2) else 8
theorem upd_len {h:Int} {b:List UInt8}:∀(rows:List Rw) (s:List UInt8),s.length=b.length→(∀r∈rows,updOk b r=true)→(updB h s rows).length=b.length
 |[],s,hs,_=>hs
 |r::rows,s,hs,hr=>by
  have h1:=hr r (by simp)
  unfold updOk at h1
  simp only [Bool.and_eq_true,decide_eq_true_eq] at h1
  have h2:(r.getD 0 []).length=b.length:=h1.2
  exact upd_len rows _ (by rw [sum_len,scale_len];omega) fun x hx=>hr x (by simp [hx])

theorem upd_snoc {h:Int} {b:List UInt8} {rows:List Rw} {k:Nat} (hk:k<rows.length):updB h b (rows.take (k+1))=sumB (updB h b (rows.take k)) (scaleB (pt h) ((rows.getD k []).getD 0 [])):=by
 unfold updB
 rw [takeD [] rows k hk,List.foldl_append];rfl
def updH (h:Int) (b:List UInt8) (rows:List Rw):Int:=if updE h b rows=0 then h else 0
def updS (h:Int) (b:List UInt8) (rows:List Rw):List UInt8:=if updE h b rows=0 then updB h b rows else []
theorem updOk_bad1 {b:List UInt8} {r:Rw} (h:¬rightB r=true):updOk b r=false:=by unfold updOk;rw [Bool.eq_false_iff.2 h];rfl
theorem updOk_bad2 {b:List UInt8} {r:Rw} (h:¬n0 r=b.length):updOk b r=false:=by unfold updOk;rw [decide_eq_false h,Bool.and_false]
theorem updOk_yes {b:List UInt8} {r:Rw} (h1:rightB r=true) (h:n0 r=b.length):updOk b r=true:=by unfold updOk;rw [h1,decide_eq_true h];rfl
theorem updOk_no {b:List UInt8} {r:Rw} (h:updOk b r=true):rightB r=true∧n0 r=b.length:=by
 unfold updOk at h
 simp only [Bool.and_eq_true,decide_eq_true_eq] at h
 exact h

end Go.Proofs.YtlmegkgkipjgbaaDoor.S33

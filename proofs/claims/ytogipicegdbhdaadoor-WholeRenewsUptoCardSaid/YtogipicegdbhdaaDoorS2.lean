/- Texts of this claim. -/
import Derived.Test.YtogipicegdbhdaaDoorS1
import Derived.Test.YtogipicegdbhdaaDoorVc11
set_option linter.unusedVariables false
set_option linter.unusedSimpArgs false
namespace Go.Proofs.YtogipicegdbhdaaDoor.S72
set_option maxHeartbeats 20000000
open Go Go.Proofs.YtogipicegdbhdaaDoor.Vc Go.Proofs
set_option maxRecDepth 100000
set_option linter.unusedVariables false
theorem aCB (sz:Int) (nz:List UInt8) (hz:0≤sz) (h1:sz≤4096) (hl:(nz.length:Int)=sz*((6:Nat):Int)):bL (En sF tys G6 [] [1000000,1000001]) Tryd.f30 [.m 1 .str,.k] [.int .i64 4,.int .i64 sz,.str nz] (.tup [.agg [.int .i64 4,.sl true (.sl .str) (iw 3 sz.toNat nz)],.int .i64 0]) []:=by
 have c:= @xW sz nz 6 hz hl
 refine⟨fun h0=> ?_,cn ((4:Int)<2)⟩
 refine⟨fun h1=> ?_,cn ((12:Int)<4)⟩
 refine ny (sz<0) (fun h2=> ?_) fun h2=> ?_
 ·refine yn (4096<sz) (fun h3=> ?_) fun h3=> ?_
  ·omega
  ·refine⟨q,aj (sz*3),q,aj ((sz*3)*4),.inl ⟨⟨om ((0:Int)≤((sz*3)*4)),om ((0:Int)<2)⟩,?_⟩⟩
   refine yn ((nz.length:Int)≠(((sz*3)*4)/2)) (fun h4=> ?_) fun h4=> ?_
   ·omega
   ·refine⟨⟨rfl,by decide,by decide⟩,cm,.inr ?_⟩
    refine yy q ?_
    refine⟨by kernel_rfl,⟨rfl,q,q⟩,q,yE,q,yy q ?_⟩
    refine⟨by kernel_rfl,⟨rfl,q,q⟩,q,yE,q,yy q ?_⟩
    refine⟨by kernel_rfl,⟨rfl,q,q⟩,q,yE,q,nn q ?_⟩
    refine .inr (yy q ?_)
    refine .inr (yy q ?_)
    refine⟨by kernel_rfl,q,q,(c 0 q),(c 0 q),q,ww,q,ww,(c 0 q),q,yy q ?_⟩
    refine⟨by kernel_rfl,q,q,(c 1 q),(c 1 q),q,ww,q,ww,(c 1 q),q,yy q ?_⟩
    refine⟨by kernel_rfl,q,q,(c 2 q),(c 2 q),q,ww,q,ww,(c 2 q),q,nn q ?_⟩
    refine⟨q,yy q ?_⟩
    refine .inr (yy q ?_)
    refine⟨by kernel_rfl,q,q,(c 3 q),(c 3 q),q,ww,q,ww,(c 3 q),q,yy q ?_⟩
    refine⟨by kernel_rfl,q,q,(c 4 q),(c 4 q),q,ww,q,ww,(c 4 q),q,nn q ?_⟩
    refine⟨q,yy q ?_⟩
    refine .inr (yy q ?_)
    refine⟨by kernel_rfl,q,q,(c 5 q),(c 5 q),q,ww,q,ww,(c 5 q),q,nn q ?_⟩
    refine⟨q,nn q ?_⟩
    refine⟨cm,?_⟩
    exact Mf (v:= .tup [.agg [.int .i64 4,.sl true (.sl .str) (iw 3 sz.toNat nz)],.int .i64 0]) (by kernel_rfl)
 ·omega
theorem aCA (sz:Int) (nz:List UInt8) (hz:0≤sz) (h1:sz≤4096) (hl:(nz.length:Int)=sz*((10:Nat):Int)):bL (En sF tys G6 [] [1000000,1000001]) Tryd.f30 [.m 1 .str,.k] [.int .i64 5,.int .i64 sz,.str nz] (.tup [.agg [.int .i64 5,.sl true (.sl .str) (iw 4 sz.toNat nz)],.int .i64 0]) []:=by
 have c:= @xW sz nz 10 hz hl
 refine⟨fun h0=> ?_,cn ((5:Int)<2)⟩
 refine⟨fun h1=> ?_,cn ((12:Int)<5)⟩
 refine ny (sz<0) (fun h2=> ?_) fun h2=> ?_
 ·refine yn (4096<sz) (fun h3=> ?_) fun h3=> ?_
  ·omega
  ·refine⟨q,aj (sz*4),q,aj ((sz*4)*5),.inl ⟨⟨om ((0:Int)≤((sz*4)*5)),om ((0:Int)<2)⟩,?_⟩⟩
   refine yn ((nz.length:Int)≠(((sz*4)*5)/2)) (fun h4=> ?_) fun h4=> ?_
   ·omega
   ·refine⟨⟨rfl,by decide,by decide⟩,cm,.inr ?_⟩
    refine yy q ?_
    refine⟨by kernel_rfl,⟨rfl,om ((0:Int)≤4),om (4≤(1000000000:Int))⟩,q,yE,q,yy q ?_⟩
    refine⟨by kernel_rfl,⟨rfl,om ((0:Int)≤4),om (4≤(1000000000:Int))⟩,q,yE,q,yy q ?_⟩
    refine⟨by kernel_rfl,⟨rfl,om ((0:Int)≤4),om (4≤(1000000000:Int))⟩,q,yE,q,yy q ?_⟩
    refine⟨by kernel_rfl,⟨rfl,om ((0:Int)≤4),om (4≤(1000000000:Int))⟩,q,yE,q,nn q ?_⟩
    refine .inr (yy q ?_)
    refine .inr (yy q ?_)
    refine⟨by kernel_rfl,q,q,(c 0 q),(c 0 q),q,ww,q,ww,(c 0 q),q,yy q ?_⟩
    refine⟨by kernel_rfl,q,q,(c 1 q),(c 1 q),q,ww,q,ww,(c 1 q),q,yy q ?_⟩
    refine⟨by kernel_rfl,q,q,(c 2 q),(c 2 q),q,ww,q,ww,(c 2 q),q,yy q ?_⟩
    refine⟨by kernel_rfl,q,q,(c 3 q),(c 3 q),q,ww,q,ww,(c 3 q),q,nn q ?_⟩
    refine⟨q,yy q ?_⟩
    refine .inr (yy q ?_)
    refine⟨by kernel_rfl,q,q,(c 4 q),(c 4 q),q,ww,q,ww,(c 4 q),q,yy q ?_⟩
    refine⟨by kernel_rfl,q,q,(c 5 q),(c 5 q),q,ww,q,ww,(c 5 q),q,yy q ?_⟩
    refine⟨by kernel_rfl,q,q,(c 6 q),(c 6 q),q,ww,q,ww,(c 6 q),q,nn q ?_⟩
    refine⟨q,yy q ?_⟩
    refine .inr (yy q ?_)
    refine⟨by kernel_rfl,q,q,(c 7 q),(c 7 q),q,ww,q,ww,(c 7 q),q,yy q ?_⟩
    refine⟨by kernel_rfl,q,q,(c 8 q),(c 8 q),q,ww,q,ww,(c 8 q),q,nn q ?_⟩
    refine⟨q,yy q ?_⟩
    refine .inr (yy q ?_)
    refine⟨by kernel_rfl,q,q,(c 9 q),(c 9 q),q,ww,q,ww,(c 9 q),q,nn q ?_⟩
    refine⟨q,nn q ?_⟩
    refine⟨cm,?_⟩
    exact Mf (v:= .tup [.agg [.int .i64 5,.sl true (.sl .str) (iw 4 sz.toNat nz)],.int .i64 0]) (by kernel_rfl)
 ·omega
theorem aB9 (sz:Int) (nz:List UInt8) (hz:0≤sz) (h1:sz≤4096) (hl:(nz.length:Int)=sz*((15:Nat):Int)):bL (En sF tys G6 [] [1000000,1000001]) Tryd.f30 [.m 1 .str,.k] [.int .i64 6,.int .i64 sz,.str nz] (.tup [.agg [.int .i64 6,.sl true (.sl .str) (iw 5 sz.toNat nz)],.int .i64 0]) []:=by
 have c:= @xW sz nz 15 hz hl
 refine⟨fun h0=> ?_,cn ((6:Int)<2)⟩
 refine⟨fun h1=> ?_,cn ((12:Int)<6)⟩
 refine ny (sz<0) (fun h2=> ?_) fun h2=> ?_
 ·refine yn (4096<sz) (fun h3=> ?_) fun h3=> ?_
  ·omega
  ·refine⟨q,aj (sz*5),q,aj ((sz*5)*6),.inl ⟨⟨om ((0:Int)≤((sz*5)*6)),om ((0:Int)<2)⟩,?_⟩⟩
   refine yn ((nz.length:Int)≠(((sz*5)*6)/2)) (fun h4=> ?_) fun h4=> ?_
   ·omega
   ·refine⟨⟨rfl,by decide,by decide⟩,cm,.inr ?_⟩
    refine yy q ?_
    refine⟨by kernel_rfl,⟨rfl,om ((0:Int)≤5),om (5≤(1000000000:Int))⟩,q,yE,q,yy q ?_⟩
    refine⟨by kernel_rfl,⟨rfl,om ((0:Int)≤5),om (5≤(1000000000:Int))⟩,q,yE,q,yy q ?_⟩
    refine⟨by kernel_rfl,⟨rfl,om ((0:Int)≤5),om (5≤(1000000000:Int))⟩,q,yE,q,yy q ?_⟩
    refine⟨by kernel_rfl,⟨rfl,om ((0:Int)≤5),om (5≤(1000000000:Int))⟩,q,yE,q,yy q ?_⟩
    refine⟨by kernel_rfl,⟨rfl,om ((0:Int)≤5),om (5≤(1000000000:Int))⟩,q,yE,q,nn q ?_⟩
    refine .inr (yy q ?_)
    refine .inr (yy q ?_)
    refine⟨by kernel_rfl,q,q,(c 0 q),(c 0 q),q,ww,q,ww,(c 0 q),q,yy q ?_⟩
    refine⟨by kernel_rfl,q,q,(c 1 q),(c 1 q),q,ww,q,ww,(c 1 q),q,yy q ?_⟩
    refine⟨by kernel_rfl,q,q,(c 2 q),(c 2 q),q,ww,q,ww,(c 2 q),q,yy q ?_⟩
    refine⟨by kernel_rfl,q,q,(c 3 q),(c 3 q),q,ww,q,ww,(c 3 q),q,yy q ?_⟩
    refine⟨by kernel_rfl,q,q,(c 4 q),(c 4 q),q,ww,q,ww,(c 4 q),q,nn q ?_⟩
    refine⟨q,yy q ?_⟩
    refine .inr (yy q ?_)
    refine⟨by kernel_rfl,q,q,(c 5 q),(c 5 q),q,ww,q,ww,(c 5 q),q,yy q ?_⟩
    refine⟨by kernel_rfl,q,q,(c 6 q),(c 6 q),q,ww,q,ww,(c 6 q),q,yy q ?_⟩
    refine⟨by kernel_rfl,q,q,(c 7 q),(c 7 q),q,ww,q,ww,(c 7 q),q,yy q ?_⟩
    refine⟨by kernel_rfl,q,q,(c 8 q),(c 8 q),q,ww,q,ww,(c 8 q),q,nn q ?_⟩
    refine⟨q,yy q ?_⟩
    refine .inr (yy q ?_)
    refine⟨by kernel_rfl,q,q,(c 9 q),(c 9 q),q,ww,q,ww,(c 9 q),q,yy q ?_⟩
    refine⟨by kernel_rfl,q,q,(c 10 q),(c 10 q),q,ww,q,ww,(c 10 q),q,yy q ?_⟩
    refine⟨by kernel_rfl,q,q,(c 11 q),(c 11 q),q,ww,q,ww,(c 11 q),q,nn q ?_⟩
    refine⟨q,yy q ?_⟩
    refine .inr (yy q ?_)
    refine⟨by kernel_rfl,q,q,(c 12 q),(c 12 q),q,ww,q,ww,(c 12 q),q,yy q ?_⟩
    refine⟨by kernel_rfl,q,q,(c 13 q),(c 13 q),q,ww,q,ww,(c 13 q),q,nn q ?_⟩
    refine⟨q,yy q ?_⟩
    refine .inr (yy q ?_)
    refine⟨by kernel_rfl,q,q,(c 14 q),(c 14 q),q,ww,q,ww,(c 14 q),q,nn q ?_⟩
    refine⟨q,nn q ?_⟩
    refine⟨cm,?_⟩
    exact Mf (v:= .tup [.agg [.int .i64 6,.sl true (.sl .str) (iw 5 sz.toNat nz)],.int .i64 0]) (by kernel_rfl)
 ·omega
def sMk:List V→Option (Prop×V×List Blk)
 |[.int .i64 nd,.int .i64 sz,.str nz]=>some (nd≤6,.tup [.agg [.int .i64 (jL nd sz nz),.sl true (.sl .str) (fH nd sz nz)],.int .i64 (kp nd sz nz)], [])
 |_=>none
theorem bMk (nd sz:Int) (nz:List UInt8) (hp0:nd≤6):bL (En sF tys G6 [] [1000000,1000001]) Tryd.f30 [.m 1 .str,.k] [.int .i64 nd,.int .i64 sz,.str nz] (.tup [.agg [.int .i64 (jL nd sz nz),.sl true (.sl .str) (fH nd sz nz)],.int .i64 (kp nd sz nz)]) []:=by
 by_cases hn:nd<2∨12<nd∨sz<0∨4096<sz
 ·obtain⟨e1,e2,e3⟩:=aAw (s:=nz) hn
  rw [e1,e2,e3];exact aCE nd sz nz hn
 ·by_cases hl:(nz.length:Int)=sz*(((nd-1)*nd)/2)
  ·obtain⟨e1,e2,e3⟩:=aAy hn hl
   rw [e1,e2,e3]
   obtain rfl|rfl|rfl|rfl|rfl:nd=2∨nd=3∨nd=4∨nd=5∨nd=6:=by omega
   ·exact aCD sz nz (by omega) (by omega) (by omega)
   ·exact aCC sz nz (by omega) (by omega) (by omega)
   ·exact aCB sz nz (by omega) (by omega) (by omega)
   ·exact aCA sz nz (by omega) (by omega) (by omega)
   ·exact aB9 sz nz (by omega) (by omega) (by omega)
  ·obtain⟨e1,e2,e3⟩:=aAx hn hl
   rw [e1,e2,e3]
   obtain⟨p1,p2,p3⟩:=Ao (nd:=nd) (sz:=sz) (by omega) (by omega) (by omega) (by omega)
   exact aB8 nd sz nz (by omega) (by omega) (by omega) (by omega) p1 p2 (by rw [p3];exact hl)
def CMk:List (Nat×bI):=(30,aS [.v (.int .i64),.v (.int .i64),.v .str] sMk)::sF
theorem kMk:Known Tryd.prog (En CMk tys G6 []):=Known.frz0<|(aA6.frz [1000000,1000001]).add Tryd.func30 Tryd.call30 [.m 1 .str,.k] fun ds p v bs h hp=>by
 unfold sMk at h
 split at h<;>simp only [Option.some.injEq,Prod.mk.injEq,reduceCtorEq] at h
 obtain⟨rfl,rfl,rfl⟩:=h
 exact bMk _ _ _ hp
theorem G7 (cf:List Rw) (h:Int):(g9 cf h).length=cf.length:=List.length_map ..
theorem Rf (a b:List UInt8) (d:Int):(lG a b d).1.length≤2*a.length+3:=by
 unfold lG
 split
 ·split
  ·simp
  ·split
   ·exact Nat.zero_le _
   ·have:=vW a b
    split<;>simp<;>omega
 ·simp
def xs' (f:Nat→UInt8):Nat→UInt8
 |0=>0
 |n+1=>xs' f n^^^f n
theorem cq {f g:Nat→UInt8}:∀{n:Nat},(∀i,i<n→f i=g i)→xs' f n=xs' g n
 |0,_=>rfl
 |n+1,h=>by
  show xs' f n^^^f n=xs' g n^^^g n
  rw [cq fun i hi=>h i (by omega),h n (by omega)]
theorem tL:∀(n:Nat),xs' (fun _=>0) n=0
 |0=>rfl
 |n+1=>by
  show xs' _ n^^^0=0
  rw [tL n];rfl
theorem Fb (f g:Nat→UInt8):∀n,xs' (fun i=>f i^^^g i) n=xs' f n^^^xs' g n
 |0=>by simp [xs']
 |n+1=>by
  show xs' _ n^^^(f n^^^g n)=(xs' f n^^^f n)^^^(xs' g n^^^g n)
  rw [Fb f g n];ac_rfl
theorem pd (c:UInt8) (f:Nat→UInt8):∀n,xs' (fun i=>aI c (f i)) n=aI c (xs' f n)
 |0=>(bN c).symm
 |n+1=>by
  show xs' _ n^^^aI c (f n)=aI c (xs' f n^^^f n)
  rw [pd c f n,dc]
theorem tM (f:Nat→Nat→UInt8) (m:Nat):∀n,xs' (fun i=>xs' (f i) m) n=xs' (fun j=>xs' (fun i=>f i j) n) m
 |0=>(tL m).symm
 |n+1=>by
  show xs' (fun i=>xs' (f i) m) n^^^xs' (f n) m=_
  rw [tM f m n,←Fb]
  rfl
def pw (x:UInt8):Nat→UInt8
 |0=>1
 |n+1=>aI x (pw x n)
theorem vP (f:Nat→UInt8):∀n,xs' f (n+1)=f 0^^^xs' (fun i=>f (i+1)) n
 |0=>by show(0:UInt8)^^^f 0=f 0^^^0;simp
 |n+1=>by
  show xs' f (n+1)^^^f (n+1)=f 0^^^(xs' (fun i=>f (i+1)) n^^^f (n+1))
  rw [vP f n];ac_rfl
theorem nV (x:UInt8):∀(p:List UInt8) (n:Nat),p.length≤n→aB x p=xs' (fun i=>aI (co p i) (pw x i)) n
 |[],n,_=>by
  rw [show(fun i=>aI (co [] i) (pw x i))=fun _=>0 from funext fun i=>by rw [ut,bM],tL];rfl
 |c::p,0,h=>by simp at h
 | c::p,n+1,h=>by
  rw [vP]
  show aI (aB x p) x^^^c=aI c (pw x 0)^^^_
  rw [show pw x 0=1 from rfl,mI,nV x p n (by simpa using h),a9 _ x,←pd,UInt8.xor_comm]
  congr 1
  exact cq fun i _=>by
   show aI x (aI (co p i) (pw x i))=aI (co p i) (aI x (pw x i))
   ac_rfl
def lZ (l:Rw) (k:Nat):List UInt8:=l.map fun s=>s.getD k 0
theorem iV (l:Rw) (k:Nat):(lZ l k).length=l.length:=List.length_map ..
theorem J4 (l:Rw) (k i:Nat):co (lZ l k) i=(l.getD i []).getD k 0:=by
 unfold co lZ
 rw [List.getD_eq_getElem?_getD,List.getElem?_map,List.getD_eq_getElem?_getD (l:=l)]
 cases l[i]? <;>rfl
theorem kM {c:UInt8} {s:List UInt8} {k:Nat} (h:k<s.length):(cF c s).getD k 0=aI c (s.getD k 0):=by
 simp [cF,nF,List.getD_eq_getElem?_getD,h]
theorem ij {a b:List UInt8} {k:Nat} (hl:a.length=b.length) (h:k<a.length):(cU a b).getD k 0=a.getD k 0^^^b.getD k 0:=by
 unfold cU
 rw [if_neg (by omega)]
 simp [vg,vb,List.getD_eq_getElem?_getD,h,hl▸h]
theorem mX {a b:List UInt8} {N:Nat} (ha:a.length=N) (hb:b.length=N) (h:∀k,k<N→a.getD k 0=b.getD k 0):a=b:=by
 apply List.ext_getElem (by omega)
 intro i h1 h2
 have:=h i (by omega)
 simpa [List.getD_eq_getElem?_getD,h1,h2] using this
theorem nk {x:UInt8} {N:Nat}:∀(l:Rw),1≤l.length→(∀s∈l,s.length=N)→(dy l x).length=N
 |[],h,_=>by simp at h
 |[s],_,h=>h s (by simp)
 |s::t::r,_,h=>by
  rw [dy,cM,bw,nk (t::r) (by simp) fun y hy=>h y (by simp [hy]),h s (by simp)]
  omega
theorem u9 {x:UInt8} {N k:Nat} (hk:k<N):∀(l:Rw),1≤l.length→(∀s∈l,s.length=N)→(dy l x).getD k 0=aB x (lZ l k)
 |[],h,_=>by simp at h
 |[s],_,h=>by
  show s.getD k 0=aI 0 x^^^s.getD k 0
  rw [bM];simp
 |s::t::r,_,h=>by
  have hl:=nk (x:=x) (t::r) (by simp) fun y hy=>h y (by simp [hy])
  have hs:=h s (by simp)
  rw [dy,ij (by rw [bw];omega) (by rw [bw];omega),kM (by omega),u9 hk (t::r) (by simp) fun y hy=>h y (by simp [hy]),a9]
  rfl
theorem M3 {nd:Int} {cf:List Rw} (h:Deal nd cf) (x:Int):∀s∈g9 cf x,s.length=m6 cf:=fun s hs=>by
 obtain⟨l,hl,rfl⟩:=List.mem_map.1 hs
 have:=h.rows l hl
 have h2:=h.n2
 have h3:=h.len
 exact nk l (by omega) (h.strs l hl)
theorem pI {nd:Int} {cf:List Rw} (h:Deal nd cf) (x:Int) (i:Nat) (hi:i<cf.length):(g9 cf x).getD i []=dy (cf.getD i []) (pt x):=by
 simp [g9,List.getD_eq_getElem?_getD,hi]
theorem Mz {nd:Int} {cf:List Rw} (h:Deal nd cf) (x y:Int) (j:Nat) (hj:j<m6 cf):aB (pt y) (lZ (g9 cf x) j)=aB (pt x) (lZ (g9 cf y) j):=by
 have key:∀x y:Int,aB (pt y) (lZ (g9 cf x) j)=xs' (fun a=>xs' (fun b=>aI (aI (((cf.getD a []).getD b []).getD j 0) (pw (pt x) b)) (pw (pt y) a)) cf.length) cf.length:=fun x y=>by
  rw [nV _ _ cf.length (by rw [iV,G7];omega)]
  refine cq fun a ha=> ?_
  have hm:=getD_mem [] cf a ha
  have hr:=h.rows _ hm
  have h2:=h.n2
  have h3:=h.len
  rw [J4,pI h x a ha,u9 hj _ (by omega) (h.strs _ hm),nV _ _ cf.length (by rw [iV];omega),a9,←pd]
  exact cq fun b _=>by rw [J4,a9]
 rw [key x y,key y x,tM]
 exact cq fun b hb=>cq fun a ha=>by
  rw [h.sym a b ha hb];ac_rfl
theorem yp {h:Nat} (hh:h<12):(pt (h:Int)).toNat=h+1:=by
 unfold pt
 rw [show(((h:Int)+1)%256).toNat=h+1 by omega]
 simp;omega
theorem Sw {a b:Nat} (ha:a<12) (hb:b<12) (h:pt (a:Int)=pt (b:Int)):a=b:=by
 have:=congrArg UInt8.toNat h
 rw [yp ha,yp hb] at this;omega
def x8 (xs:List UInt8) (k:Nat):List UInt8:=e8 xs (vR xs.length k)
def zD (xs:List UInt8) (v:Nat→UInt8):Nat→List UInt8
 |0=> []
 |n+1=>dC [zD xs v n,(x8 xs n).map (aI (v n))]
theorem Ft (m k:Nat):(vR m k).length=m:=by simp [vR]
theorem Fu (m k i:Nat) (hi:i<m):(vR m k).getD i 0=if i=k then 1 else 0:=by
 unfold vR
 rw [List.getD_eq_getElem?_getD,List.getElem?_set]
 by_cases e:k=i
 ·subst e;simp [hi]
 ·rw [if_neg e,if_neg (fun h=>e h.symm)]
  simp [hi]
theorem mP (xs:List UInt8) (v:Nat→UInt8) (z:UInt8):∀n,aB z (zD xs v n)=xs' (fun k=>aI (aB z (x8 xs k)) (v k)) n
 |0=>rfl
 |n+1=>by
  show aB z (dC [_,_])=xs' _ n^^^aI (aB z (x8 xs n)) (v n)
  rw [dU,mP xs v z n,i6,a9]
theorem F8 (c:UInt8) (p:List UInt8):sz (p.map (aI c))≤sz p:=py fun i hi=>by rw [zT,ed p i hi,bN]
theorem uM (xs:List UInt8) (v:Nat→UInt8):∀n,sz (zD xs v n)≤xs.length
 |0=>Nat.zero_le _
 |n+1=>gv _ _ _ (uM xs v n) (Nat.le_trans (F8 _ _) (pB _ _))
theorem N1 (xs:List UInt8) (hn:xs.Nodup) (k i:Nat) (hi:i<xs.length):aB (xs.getD i 0) (x8 xs k)=if i=k then 1 else 0:=by
 unfold x8
 rw [pr xs _ ⟨hn,(Ft _ _).symm⟩ i hi,Fu _ _ _ hi]
theorem zn (g:Nat→UInt8) (i:Nat):∀n,xs' (fun k=>aI (if i=k then 1 else 0) (g k)) n=if i<n then g i else 0
 |0=>rfl
 | n+1=>by
  show xs' _ n^^^aI (if i=n then 1 else 0) (g n)=_
  rw [zn g i n]
  by_cases e:i=n
  ·subst e;rw [if_neg (by omega),if_pos rfl,if_pos (by omega),jp];simp
  ·rw [if_neg e,bM]
   by_cases h:i<n
   ·rw [if_pos h,if_pos (by omega)];simp
   ·rw [if_neg h,if_neg (by omega)];rfl
theorem Be (xs:List UInt8) (hn:xs.Nodup) (v:Nat→UInt8) (i:Nat) (hi:i<xs.length):aB (xs.getD i 0) (zD xs v xs.length)=v i:=by
 rw [mP,show(fun k=>aI (aB (xs.getD i 0) (x8 xs k)) (v k))=fun k=>aI (if i=k then 1 else 0) (v k) from funext fun k=>by rw [N1 xs hn k i hi],zn,if_pos hi]
theorem N2 (xs:List UInt8) (hn:xs.Nodup) (q:List UInt8) (hq:sz q≤xs.length) (v:Nat→UInt8) (hv:∀k,k<xs.length→v k=aB (xs.getD k 0) q):aF (zD xs v xs.length)=aF q:=by
 refine db xs _ _ hn (fun x hx=> ?_) (uM _ _ _) hq
 obtain⟨i,hi,rfl⟩:=List.mem_iff_getElem.1 hx
 have e:xs.getD i 0=xs[i]:=by simp [List.getD_eq_getElem?_getD,hi]
 rw [←e,Be xs hn v i hi,hv i hi]
theorem uL (xs:List UInt8) (hn:xs.Nodup) (q:List UInt8) (hq:sz q≤xs.length) (z:UInt8):aB z q=xs' (fun k=>aI (aB z (x8 xs k)) (aB (xs.getD k 0) q)) xs.length:=by
 rw [←mP,←au z (zD _ _ _),N2 xs hn q hq _ fun k _=>rfl,au]
def sN (s:(Int×List UInt8×Unit)):Bool:=decide (s.2.1.length≤4096)
def iy (l:List (Int×List UInt8×Unit)):Nat:=(l.getD 0 (0, [],())).2.1.length
def Xx (l:List (Int×List UInt8×Unit)) (k:Nat):Prop:=fJ (l.getD k (0, [],())).1∧(k=0∨(l.getD (k-1) (0, [],())).1<(l.getD k (0, [],())).1)∧(l.getD k (0, [],())).2.1.length=iy l
instance (l:List (Int×List UInt8×Unit)) (k:Nat):Decidable (Xx l k):=by unfold Xx;infer_instance
def Nr (l:List (Int×List UInt8×Unit)) (k:Nat):Bool:=decide (Xx l k)
def ep (l:List (Int×List UInt8×Unit)):Int:=if 12<l.length∨l.all sN=false then 2 else if(List.range l.length).all (Nr l)=true then 0 else 1
structure ShOk (l:List (Int×List UInt8×Unit)):Prop where
 len:l.length≤12
 max:iy l≤4096
 bytes:∀s∈l,s.2.1.length=iy l
 house:∀s∈l,fJ s.1
 up:∀k,k+1<l.length→(l.getD k (0, [],())).1<(l.getD (k+1) (0, [],())).1
theorem Yx {l:List (Int×List UInt8×Unit)} (h:12<l.length∨l.all sN=false):ep l=2:=if_pos h
theorem O1 {l:List (Int×List UInt8×Unit)} (h1:¬12<l.length) (h2:¬l.all sN=false) {k:Nat} (hk:k<l.length) (h:¬Xx l k):ep l=1:=by
 unfold ep
 rw [if_neg (fun e=>e.elim h1 h2),if_neg]
 rw [jh hk (show Nr l k=false from decide_eq_false h)];decide
theorem Q1 {l:List (Int×List UInt8×Unit)} (h1:¬12<l.length) (h2:¬l.all sN=false) (h:(List.range l.length).all (Nr l)=true):ep l=0:=by
 unfold ep
 rw [if_neg (fun e=>e.elim h1 h2),if_pos h]
theorem sA {l:List (Int×List UInt8×Unit)} (h:ep l=0):ShOk l:=by
 unfold ep at h
 split at h
 ·cases h
 ·rename_i h1
  split at h
  ·rename_i h2
   have h3:∀k,k<l.length→Xx l k:=fun k hk=>of_decide_eq_true (List.all_eq_true.1 h2 k (List.mem_range.2 hk))
   have h4:∀s∈l,s.2.1.length≤4096:=fun s hs=>of_decide_eq_true (oC (fun e=>h1 (.inr e)) s hs)
   refine⟨Nat.le_of_not_lt fun e=>h1 (.inl e),?_,fun s hs=> ?_,fun s hs=> ?_,fun k hk=> ?_⟩
   ·rcases Nat.eq_zero_or_pos l.length with g|g
    ·have:=List.eq_nil_of_length_eq_zero g;subst this;simp [iy]
    ·exact h4 _ (getD_mem (0, [],()) l 0 g)
   ·obtain⟨k,hk,rfl⟩:=ff (d:=(0, [],())) hs
    exact(h3 k hk).2.2
   ·obtain⟨k,hk,rfl⟩:=ff (d:=(0, [],())) hs
    exact(h3 k hk).1
   ·have:=(h3 (k+1) hk).2.1
    rcases this with g|g
    ·omega
    ·simpa using g
  ·cases h
theorem Au {l:List (Int×List UInt8×Unit)} {k:Nat} (h:∀j,j<k→Nr l j=true) (hk:Nr l k=true):∀j,j<k+1→Nr l j=true:=fun j hj=>by
 rcases Nat.lt_or_eq_of_le (Nat.le_of_lt_succ hj) with g|g
 ·exact h j g
 ·rw [g];exact hk
theorem Uh {l:List (Int×List UInt8×Unit)} {k:Nat} (h1:¬12<l.length) (h2:¬l.all sN=false) (h:∀j,j<k→Nr l j=true) (hk:l.length≤k):ep l=0:=
 Q1 h1 h2 (List.all_eq_true.2 fun j hj=>h j (by have:=List.mem_range.1 hj;omega))
theorem Av {l:List (Int×List UInt8×Unit)} {k:Nat} (h1:fJ (l.getD k (0, [],())).1) (h2:k=0∨¬(l.getD k (0, [],())).1≤(l.getD ((k:Int)-1).toNat (0, [],())).1) (h3:¬(((l.getD k (0, [],())).2.1.length:Nat):Int)≠(((l.getD 0 (0, [],())).2.1.length:Nat):Int)):Nr l k=true:=by
 refine decide_eq_true ⟨h1,?_,by unfold iy;omega⟩
 rcases h2 with h|h
 ·exact .inl h
 ·rw [show((k:Int)-1).toNat=k-1 by omega] at h;exact .inr (by omega)
def Tm (l:List (Int×List UInt8×Unit)):Int:=if l.all sN=true then -1 else((l.takeWhile sN).length:Int)
theorem lz {α:Type} {p:α→Bool} {d:α}:∀{l:List α} {k:Nat},k<l.length→(l.take k).all p=true→p (l.getD k d)=false→(l.takeWhile p).length=k
 |[],k,h,_,_=>by simp at h
 |x::l,0,_,_,h=>by
  have h:p x=false:=h
  simp [List.takeWhile,h]
 |x::l,k+1,hk,ha,h=>by
  simp only [List.take_succ_cons,List.all_cons,Bool.and_eq_true] at ha
  rw [List.takeWhile_cons,if_pos ha.1,List.length_cons,lz (by simpa using hk) ha.2 (by simpa using h)]
theorem F6 {α:Type} {p:α→Bool} {d:α} {l:List α} {k:Nat} (hk:k<l.length) (h:(l.take k).all p=true) (hp:p (l.getD k d)=true):(l.take (k+1)).all p=true:=by
 rw [oI d l k hk,List.all_append,h];show(true&&(p (l.getD k d)&&true))=true;rw [hp];rfl
theorem F5 {α:Type} {p:α→Bool} {d:α} {l:List α} {k:Nat} (hk:k<l.length) (hp:p (l.getD k d)=false):l.all p=false:=by
 rw [List.all_eq_false]
 exact⟨_,getD_mem d l k hk,by rw [hp];decide⟩
theorem Tl {l:List (Int×List UInt8×Unit)} {k:Nat} (hk:k<l.length) (hc:(l.take k).all sN=true) (h:sN (l.getD k (0, [],()))=false):Tm l=(k:Int):=by
 unfold Tm
 rw [if_neg (by rw [F5 hk h];decide),lz hk hc h]
theorem N5 {l:List (Int×List UInt8×Unit)} {k:Nat} (hk:l.length≤k) (hc:(l.take k).all sN=true):Tm l= -1:=by
 rw [List.take_of_length_le hk] at hc
 exact if_pos hc
theorem Tj (l:List (Int×List UInt8×Unit)):0≤Tm l↔l.all sN=false:=by
 unfold Tm
 split
 ·rename_i h;rw [h];constructor<;>intro g
  ·omega
  ·cases g
 ·rename_i h;exact⟨fun _=>by simpa using h,fun _=>by omega⟩

def kw (l:List (Int×List UInt8×Unit)):List UInt8:=l.map fun s=>pt s.1
def lu (l:List (Int×List UInt8×Unit)) (k:Nat):List UInt8:=l.map fun s=>s.2.1.getD k 0
theorem fL (l:List (Int×List UInt8×Unit)):(kw l).length=l.length:=List.length_map ..
theorem zm (l:List (Int×List UInt8×Unit)) (k:Nat):(lu l k).length=l.length:=List.length_map ..
def xF (l:List (Int×List UInt8×Unit)) (i:Nat):UInt8:=pt (l.getD i (0, [],())).1
def yF (l:List (Int×List UInt8×Unit)) (k:Nat) (i:Nat):UInt8:=(l.getD i (0, [],())).2.1.getD k 0
theorem kR {α β:Type} (d:α) (f:α→β) (l:List α):(List.range l.length).map (fun i=>f (l.getD i d))=l.map f:=by
 apply List.ext_getElem
 ·simp
 ·intro i h1 h2
  simp at h2
  simp [List.getElem?_eq_getElem h2]
theorem Mq (l:List (Int×List UInt8×Unit)):ck (xF l) l.length l.length=kw l:=by rw [jw];exact kR (0, [],()) (fun s=>pt s.1) l
theorem Mo (l:List (Int×List UInt8×Unit)) (k:Nat):ck (yF l k) l.length l.length=lu l k:=by rw [jw];exact kR (0, [],()) (fun s=>s.2.1.getD k 0) l

def hsP (hs:List Int) (k:Nat):Prop:=fJ (hs.getD k 0)∧(k=0∨hs.getD (k-1) 0<hs.getD k 0)
instance (hs:List Int) (k:Nat):Decidable (hsP hs k):=by unfold hsP;infer_instance
def Qs (hs:List Int) (k:Nat):Bool:=decide (hsP hs k)
def lU (hs:List Int):Bool:=(List.range hs.length).all (Qs hs)
def gQ (sec:List UInt8) (nd:Int) (hs:List Int) (nz:List UInt8):Int:=
 if 4096<sec.length then 2 else if nd<1∨12<nd then 3 else if(hs.length:Int)<nd then 1 else if lU hs=false then 1 else if(nz.length:Int)=(sec.length:Int)*(nd-1) then 0 else 1
def O3 (nz:List UInt8) (n m k:Nat):List UInt8:=(List.range m).map fun a=>nz.getD (a*n+k) 0
def kG (nz:List UInt8) (n m:Nat) (x:UInt8) (j:Nat):List UInt8:=(List.range n).map fun k=>aI (aB x ((O3 nz n m k).drop j)) x
def Ma (sec nz:List UInt8) (m:Nat) (x:UInt8):List UInt8:=(List.range sec.length).map fun k=>aB x (sec.getD k 0::O3 nz sec.length m k)
def P7 (sec:List UInt8) (nd:Int) (nz:List UInt8) (h:Int):(Int×List UInt8×Unit):=(h,Ma sec nz (nd-1).toNat (pt h),())
def jK (sec:List UInt8) (nd:Int) (hs:List Int) (nz:List UInt8):List (Int×List UInt8×Unit):=if gQ sec nd hs nz=0 then hs.map (P7 sec nd nz) else []
theorem uy (nz:List UInt8) (n m k:Nat):(O3 nz n m k).length=m:=by simp [O3]
theorem O2 {nz:List UInt8} {n m k a:Nat} (h:a<m):(O3 nz n m k).getD a 0=nz.getD (a*n+k) 0:=by
 simp [O3,List.getElem?_map,List.getElem?_range h]
theorem eW (nz:List UInt8) (n m:Nat) (x:UInt8) (j:Nat):(kG nz n m x j).length=n:=by simp [kG]
theorem Ad (sec nz:List UInt8) (m:Nat) (x:UInt8):(Ma sec nz m x).length=sec.length:=by simp [Ma]
theorem cb {f:Nat→UInt8} {n k:Nat} (h:k<n):((List.range n).map f).getD k 0=f k:=by
 simp [List.getElem?_map,List.getElem?_range h]
theorem Pq (nz:List UInt8) (n m:Nat) (x:UInt8):kG nz n m x m=List.replicate n 0:=by
 apply mX (eW ..) (List.length_replicate ..)
 intro k hk
 rw [kG,cb hk,List.drop_of_length_le (by rw [uy];exact Nat.le_refl _),aB,bM]
 simp [hk]
theorem K5 {nz:List UInt8} {n m:Nat} {x:UInt8} {j:Nat} (hj:j<m) (hn:nz.length=n*m) {c:List UInt8} (hc:c=(nz.drop (j*n)).take n):cF x (cU (kG nz n m x (j+1)) c)=kG nz n m x j:=by
 have hle:(j+1)*n≤nz.length:=by rw [hn,Nat.mul_comm n m];exact Nat.mul_le_mul_right n hj
 have hcl:c.length=n:=by rw [hc,List.length_take,List.length_drop];rw [Nat.succ_mul] at hle;omega
 have hsl:(cU (kG nz n m x (j+1)) c).length=n:=by rw [cM,eW,hcl];omega
 refine mX (by rw [bw,hsl]) (eW ..) fun k hk=> ?_
 rw [kM (by omega),ij (by rw [eW,hcl]) (by rw [eW];exact hk)]
 unfold kG
 rw [cb hk,cb hk,oY x (O3 nz n m k) j (by rw [uy];exact hj),O2 hj,a9 x]
 have:c.getD k 0=nz.getD (j*n+k) 0:=by
  rw [hc,List.getD_eq_getElem?_getD,List.getD_eq_getElem?_getD,List.getElem?_take,if_pos hk,List.getElem?_drop]
 rw [this]
theorem Pr {sec nz:List UInt8} {m:Nat} {x:UInt8}:cU (kG nz sec.length m x 0) sec=Ma sec nz m x:=by
 refine mX (by rw [cM,eW];omega) (Ad ..) fun k hk=> ?_
 rw [ij (eW ..) (by rw [eW];exact hk)]
 unfold kG Ma
 rw [cb hk,cb hk,List.drop_zero]
 rfl

def nN (sec:List UInt8) (nd:Int) (hs:List Int) (nz:List UInt8) (k:Nat):List (Int×List UInt8×Unit):=(List.range hs.length).map fun i=>if i<k then P7 sec nd nz (hs.getD i 0) else(0, [],())
theorem Ng (sec:List UInt8) (nd:Int) (hs:List Int) (nz:List UInt8) (k:Nat):(nN sec nd hs nz k).length=hs.length:=by simp [nN]
theorem Hy (sec:List UInt8) (nd:Int) (hs:List Int) (nz:List UInt8):nN sec nd hs nz 0=List.replicate hs.length (0, [],()):=by
 apply List.ext_getElem
 ·simp [nN]
 ·intro i h1 h2;simp [nN]
theorem Nf {sec:List UInt8} {nd:Int} {hs:List Int} {nz:List UInt8} {k:Nat} (h:k<hs.length) {x:(Int×List UInt8×Unit)} (hx:x=P7 sec nd nz (hs.getD k 0)):(nN sec nd hs nz k).set k x=nN sec nd hs nz (k+1):=by
 subst hx
 apply List.ext_getElem
 ·simp [nN]
 ·intro i h1 h2
  rw [List.getElem_set]
  simp only [nN,List.getElem_map,List.getElem_range]
  by_cases e:k=i
  ·subst e;simp
  ·rw [if_neg e]
   by_cases g:i<k
   ·rw [if_pos g,if_pos (by omega)]
   ·rw [if_neg g,if_neg (by omega)]
theorem Nh {sec:List UInt8} {nd:Int} {hs:List Int} {nz:List UInt8} {k:Nat} (h:hs.length≤k):nN sec nd hs nz k=hs.map (P7 sec nd nz):=by
 rw [←kR 0 (P7 sec nd nz) hs]
 apply List.map_congr_left
 intro i hi
 rw [List.mem_range] at hi
 rw [if_pos (by omega)]
theorem gb {l:List Int} {k:Nat} (h:∀j,j<k→Qs l j=true) (hk:Qs l k=true):∀j,j<k+1→Qs l j=true:=fun j hj=>by
 rcases Nat.lt_or_eq_of_le (Nat.le_of_lt_succ hj) with g|g
 ·exact h j g
 ·rw [g];exact hk
theorem Tp {l:List Int} {k:Nat} (h:∀j,j<k→Qs l j=true) (hk:l.length≤k):lU l=true:=List.all_eq_true.2 fun j hj=>h j (by have:=List.mem_range.1 hj;omega)
theorem i5 {l:List Int} {k:Nat} (h:¬hsP l k) (hk:k<l.length):lU l=false:=jh hk (show Qs l k=false from decide_eq_false h)
theorem zH {l:List Int} (h:lU l=true) {k:Nat} (hk:k<l.length):fJ (l.getD k 0)∧(k=0∨l.getD (k-1) 0<l.getD k 0):=of_decide_eq_true (List.all_eq_true.1 h k (List.mem_range.2 hk))
theorem Jb {l:List Int} {k:Nat} (h1:fJ (l.getD k 0)) (h2:k=0∨¬l.getD k 0≤l.getD ((k:Int)-1).toNat 0):Qs l k=true:=by
 refine decide_eq_true ⟨h1,?_⟩
 rcases h2 with h|h
 ·exact .inl h
 ·rw [show((k:Int)-1).toNat=k-1 by omega] at h;exact .inr (by omega)
theorem y8 {a b:Int} {A B:Nat} (ha:0≤a) (hA:a≤A) (hb:0≤b) (hB:b≤B):0≤a*b∧a*b≤((A*B:Nat):Int):=by
 obtain⟨x,rfl⟩:=Int.eq_ofNat_of_zero_le ha
 obtain⟨y,rfl⟩:=Int.eq_ofNat_of_zero_le hb
 have:=Nat.mul_le_mul (Int.ofNat_le.1 hA) (Int.ofNat_le.1 hB)
 rw [←Int.natCast_mul]
 exact⟨Int.natCast_nonneg _,Int.ofNat_le.2 this⟩

def vK (l:List (Int×List UInt8×Unit)) (nd:Int):Int:=if(l.length:Int)<nd then 29 else if(List.range (iy l)).all (fun k=>decide ((lG (kw l) (lu l k) (nd-1)).2=0))=true then 0 else 14
def Mi (l:List (Int×List UInt8×Unit)) (nd:Int) (x:UInt8) (k:Nat):List UInt8:=(List.range k).map fun i=>aB x (lG (kw l) (lu l i) (nd-1)).1
def Mh (l:List (Int×List UInt8×Unit)) (nd:Int) (x:UInt8):List UInt8:=if vK l nd=0 then Mi l nd x (iy l) else []
theorem N3 (l:List (Int×List UInt8×Unit)) (nd:Int) (x:UInt8) (k:Nat):(Mi l nd x k).length=k:=by simp [Mi]
theorem I3 (l:List (Int×List UInt8×Unit)) (nd:Int) (x:UInt8) (k:Nat):Mi l nd x (k+1)=Mi l nd x k++ [aB x (lG (kw l) (lu l k) (nd-1)).1]:=by unfold Mi;rw [List.range_succ,List.map_append];rfl
def sU (l:List (Int×List UInt8×Unit)) (nd:Int):Int:=if ep l=0 then(if nd<1∨12<nd then 3 else 0) else ep l
theorem rd0 {l:List (Int×List UInt8×Unit)} {nd:Int} (h:sU l nd=0):ep l=0∧1≤nd∧nd≤12:=by
 unfold sU at h
 split at h
 ·rename_i h1
  split at h
  ·cases h
  ·exact⟨h1,by omega,by omega⟩
 ·rename_i h1;exact absurd h h1
def Mg (l:List (Int×List UInt8×Unit)) (nd:Int):Int:=if sU l nd=0 then vK l nd else sU l nd
def Eb (l:List (Int×List UInt8×Unit)) (nd:Int) (x:UInt8):List UInt8:=if sU l nd=0 then Mh l nd x else []
def vM (l:List (Int×List UInt8×Unit)) (nd:Int) (s:List UInt8):Int:=if sU l nd=0∧s.length≤4096∧(l.length=0∨iy l=s.length)∧0≤nd-1-(l.length:Int) then(nd-1-(l.length:Int))*(s.length:Int) else 0
def ry (l:List (Int×List UInt8×Unit)) (nd:Int) (s:List UInt8):Prop:=sU l nd=0∧s.length≤4096∧(l.length=0∨iy l=s.length)∧(0≤nd-1-(l.length:Int)∨(vK l nd=0∧Mh l nd 0=s))
instance (l:List (Int×List UInt8×Unit)) (nd:Int) (s:List UInt8):Decidable (ry l nd s):=by unfold ry;infer_instance
theorem aBf {l:List (Int×List UInt8×Unit)} {nd:Int} (h:(l.length:Int)<nd):vK l nd=29:=if_pos h
theorem aBg {l:List (Int×List UInt8×Unit)} {nd:Int} (h:¬(l.length:Int)<nd) {k:Nat} (hk:k<iy l) (hb:(lG (kw l) (lu l k) (nd-1)).2≠0):vK l nd=14:=by
 unfold vK
 rw [if_neg h,if_neg]
 rw [jh hk (decide_eq_false hb)]
 decide
theorem jn0 {l:List (Int×List UInt8×Unit)} {nd:Int} (h:¬(l.length:Int)<nd) (ha:∀k,k<iy l→(lG (kw l) (lu l k) (nd-1)).2=0):vK l nd=0:=by
 unfold vK
 rw [if_neg h,if_pos (List.all_eq_true.2 fun k hk=>decide_eq_true (ha k (List.mem_range.1 hk)))]
theorem Yn {l:List (Int×List UInt8×Unit)} {nd:Int} {x:UInt8} (h:vK l nd=0):Mh l nd x=Mi l nd x (iy l):=if_pos h
theorem Ym {l:List (Int×List UInt8×Unit)} {nd:Int} {x:UInt8} (h:vK l nd≠0):Mh l nd x= []:=if_neg h
theorem Mt {P:Nat→Prop} {k:Nat} (h:∀j,j<k→P j) (hk:P k):∀j,j<k+1→P j:=fun j hj=>by
 rcases Nat.lt_or_eq_of_le (Nat.le_of_lt_succ hj) with g|g
 ·exact h j g
 ·rw [g];exact hk

def Gr:List V→Option (Prop×V×List Blk)
 |[.agg [.int .i64 h,.str s]]=>some (True,.b (sN (h,s,())=false), [])
 |_=>none
theorem Zb (h:Int) (s:List UInt8):ap (En CMk tys G6 []) Tryd.f96 [.k] Gr [.agg [.int .i64 h,.str s]]:=by
 intro _
 exact⟨rfl,rfl,congrArg V.b (propext (by show _↔decide (s.length≤4096)=false;rw [decide_eq_false_iff_not];constructor<;>intro g<;>omega)),rfl⟩
def Lu:List (Nat×bI):=(96,aS [.v (.cons (.int .i64) (.cons .str .nil))] Gr)::CMk
theorem Yc:Known Tryd.prog (En Lu tys G6 []):=kMk.addQ Tryd.func96 Tryd.call96 [.k] fun ds _ _ _ h=>by unfold Gr at h;split at h;exact Zb _ _;cases h
theorem Zk (l:List (Int×(List UInt8×Unit))) (hp0:l.length≤1048576):bL (En Lu tys G6 []) Tryd.f111 [.k] [.sl false (.cons (.int .i64) (.cons .str .nil)) l,.fn 96 []] (.int .i64 (Tm l)) []:=by
 refine⟨0, [(0,.k),(1,.k),(7,.k),(8,.k)],fun nM vs H=>∃(k:Nat),k≤l.length∧(l.take k).all sN=true∧nM=l.length-k∧vs= [.sl false (.cons (.int .i64) (.cons .str .nil)) l,.fn 96 [],.i (l.length:Int),.i k]∧H= [],⟨rfl,l.length,0,by omega,rfl,by omega,rfl,rfl⟩,?_⟩
 rintro nM vs H ⟨k,hc1_0,hc1_1,rfl,rfl,rfl⟩
 refine yn ((k:Int)<(l.length:Int)) (fun h0=> ?_) fun h0=> ?_
 ·have hk:k<l.length:=by omega
  refine⟨ix k l.length,rfl,trivial,yn (sN (((l.getD k (0,([],()))).1),(((l.getD k (0,([],()))).2).1),())=false) (fun h1=> ?_) fun h1=> ?_⟩
  ·rw [Tl hk hc1_1 h1]
   exact ao
  ·have hok:sN (l.getD k (0, [],()))=true:=by simpa using h1
   refine⟨aj (k+1),?_⟩
   exact⟨rfl,l.length-(k+1),by omega,k+1,by omega,F6 hk hc1_1 hok,rfl,rfl,rfl⟩
 ·rw [N5 (by omega) hc1_1]
  exact ao
def Xg:List V→Option (Prop×V×List Blk)
 |[.sl false (.cons (.int .i64) (.cons .str .nil)) l,.fn 96 []]=>some (l.length≤1048576,.int .i64 (Tm l), [])
 |_=>none
def Vh:List (Nat×bI):=(111,aS [.v (.sl (.cons (.int .i64) (.cons .str .nil))),.fn [(96, [])]] Xg)::Lu
theorem aBL:Known Tryd.prog (En Vh tys G6 []):=Yc.add Tryd.func111 Tryd.call111 [.k] fun ds p v bs h hp=>by
 unfold Xg at h
 split at h<;>simp only [Option.some.injEq,Prod.mk.injEq,reduceCtorEq] at h
 ·obtain⟨rfl,rfl,rfl⟩:=h
  exact Zk _ hp
theorem Zu (l:List (Int×(List UInt8×Unit))) (hp0:l.length≤1048576):bL (En Vh tys G6 []) Tryd.f95 [.k] [.sl false (.cons (.int .i64) (.cons .str .nil)) l,.fn 96 []] (.b (l.all sN=false)) []:=by
 refine⟨om (l.length≤1048576),?_⟩
 exact⟨rfl,rfl,congrArg V.b (propext (Tj l)),rfl⟩
def Xp:List V→Option (Prop×V×List Blk)
 |[.sl false (.cons (.int .i64) (.cons .str .nil)) l,.fn 96 []]=>some (l.length≤1048576,.b (l.all sN=false), [])
 |_=>none
def Vp:List (Nat×bI):=(95,aS [.v (.sl (.cons (.int .i64) (.cons .str .nil))),.fn [(96, [])]] Xp)::Vh
theorem aBU:Known Tryd.prog (En Vp tys G6 []):=aBL.add Tryd.func95 Tryd.call95 [.k] fun ds p v bs h hp=>by
 unfold Xp at h
 split at h<;>simp only [Option.some.injEq,Prod.mk.injEq,reduceCtorEq] at h
 ·obtain⟨rfl,rfl,rfl⟩:=h
  exact Zu _ hp
def Gl:List V→Option (Prop×V×List Blk)
 |[.int .i64 h]=>some (True,.b (fJ h), [])
 |_=>none
theorem Y6 (h:Int):ap (En Vp tys G6 []) Tryd.f44 [.k] Gl [.int .i64 h]:=by
 intro _
 refine yn (0≤h) (fun h0=> ?_) fun h0=> ?_
 ·exact⟨rfl,rfl,congrArg V.b (propext (by unfold fJ;constructor<;>intro g<;>first|omega|exact Bool.noConfusion g|(exfalso;omega))),rfl⟩
 ·exact⟨rfl,rfl,congrArg V.b (propext (by unfold fJ;constructor<;>intro g<;>first|omega|exact Bool.noConfusion g|(exfalso;omega))),rfl⟩
def Lo:List (Nat×bI):=(44,aS [.v (.int .i64)] Gl)::Vp
theorem X7:Known Tryd.prog (En Lo tys G6 []):=aBU.addQ Tryd.func44 Tryd.call44 [.k] fun ds _ _ _ h=>by unfold Gl at h;split at h;exact Y6 _;cases h
def Gj:List V→Option (Prop×V×List Blk)
 |[.int .i64 h]=>some (0≤h∧h<1000000,.u8 (pt h), [])
 |_=>none
theorem Y4 (h:Int):ap (En Lo tys G6 []) Tryd.f46 [.k] Gj [.int .i64 h]:=by
 rintro⟨hp0,hp1⟩
 refine⟨aj (h+1),?_⟩
 exact ao
def Lm:List (Nat×bI):=(46,aS [.v (.int .i64)] Gj)::Lo
theorem X5:Known Tryd.prog (En Lm tys G6 []):=X7.addQ Tryd.func46 Tryd.call46 [.k] fun ds _ _ _ h=>by unfold Gj at h;split at h;exact Y4 _;cases h
def Gs:List V→Option (Prop×V×List Blk)
 |[.sl false (.cons (.int .i64) (.cons .str .nil)) l]=>some (l.length≤1048576,.int .i64 (ep l), [])
 |_=>none
theorem Zc (l:List (Int×(List UInt8×Unit))):ap (En Lm tys G6 []) Tryd.f76 [.k] Gs [.sl false (.cons (.int .i64) (.cons .str .nil)) l]:=by
 intro hp0
 refine ny (12<(l.length:Int)) (fun h0=> ?_) fun h0=> ?_
 ·refine⟨om (l.length≤1048576),yn (l.all sN=false) (fun h1=> ?_) fun h1=> ?_⟩
  ·rw [Yx (.inr h1)]
   exact ao
  ·refine⟨0, [(0,.k),(12,.k),(13,.k),(14,.k)],fun nM vs H=>∃(k:Nat),k≤l.length∧(∀j,j<k→Nr l j=true)∧nM=l.length-k∧vs= [.sl false (.cons (.int .i64) (.cons .str .nil)) l,.sl false (.cons (.int .i64) (.cons .str .nil)) l,.i (l.length:Int),.i k]∧H= [],⟨rfl,l.length,0,by omega,fun j h=>absurd h (Nat.not_lt_zero j),by omega,rfl,rfl⟩,?_⟩
   rintro nM vs H ⟨k,hc1_0,hc1_1,rfl,rfl,rfl⟩
   refine yn ((k:Int)<(l.length:Int)) (fun h2=> ?_) fun h2=> ?_
   ·have hk:k<l.length:=by omega
    refine⟨ix k l.length,cm,by kernel_rfl,rfl,trivial,ny (¬(fJ ((l.getD k (0,([],()))).1))) (fun h3=> ?_) fun h3=> ?_⟩
    ·refine⟨fun h4=> ?_,cn (¬(fJ ((l.getD k (0,([],()))).1)))⟩
     refine⟨fun h5=> ?_,cn (¬(fJ ((l.getD k (0,([],()))).1)))⟩
     refine yn (0<(k:Int)) (fun h6=> ?_) fun h6=> ?_
     ·refine⟨fun h7=> ?_,cp (0<(k:Int))⟩
      refine⟨fun h8=> ?_,cp (0<(k:Int))⟩
      refine⟨aj (k-1),fun h9=> ?_,cp (0<(k:Int))⟩
      refine⟨ix (k-1) l.length,fun h10=> ?_,cp (0<(k:Int))⟩
      refine⟨fun h11=> ?_,cp (0<(k:Int))⟩
      refine⟨fun h12=> ?_,cp (0<(k:Int))⟩
      refine⟨fun h13=> ?_,cp (0<(k:Int))⟩
      refine⟨fun h14=> ?_,cp (0<(k:Int))⟩
      refine⟨fun h15=> ?_,cn (¬(fJ ((l.getD k (0,([],()))).1)))⟩
      refine⟨fun h16=> ?_,cp (0<(k:Int))⟩
      refine⟨cn (¬(fJ ((l.getD k (0,([],()))).1))),fun h17=> ?_⟩
      refine ny (((l.getD k (0,([],()))).1)≤((l.getD (((k:Int)-1).toNat) (0,([],()))).1)) (fun h18=> ?_) fun h18=> ?_
      ·refine⟨fun h19=> ?_,cn (((l.getD k (0,([],()))).1)≤((l.getD (((k:Int)-1).toNat) (0,([],()))).1))⟩
       refine⟨fun h20=> ?_,cn (((l.getD k (0,([],()))).1)≤((l.getD (((k:Int)-1).toNat) (0,([],()))).1))⟩
       refine⟨fun h21=> ?_,cn (((l.getD k (0,([],()))).1)≤((l.getD (((k:Int)-1).toNat) (0,([],()))).1))⟩
       refine⟨fun h22=> ?_,cn (((l.getD k (0,([],()))).1)≤((l.getD (((k:Int)-1).toNat) (0,([],()))).1))⟩
       refine⟨ix 0 l.length,fun h23=> ?_,cn (((l.getD k (0,([],()))).1)≤((l.getD (((k:Int)-1).toNat) (0,([],()))).1))⟩
       refine⟨fun h24=> ?_,cn (((l.getD k (0,([],()))).1)≤((l.getD (((k:Int)-1).toNat) (0,([],()))).1))⟩
       refine⟨fun h25=> ?_,cn (((l.getD k (0,([],()))).1)≤((l.getD (((k:Int)-1).toNat) (0,([],()))).1))⟩
       refine⟨fun h26=> ?_,cn (((l.getD k (0,([],()))).1)≤((l.getD (((k:Int)-1).toNat) (0,([],()))).1))⟩
       refine⟨cn (((l.getD k (0,([],()))).1)≤((l.getD (((k:Int)-1).toNat) (0,([],()))).1)),fun h27=> ?_⟩
       refine yn ((((((l.getD k (0,([],()))).2).1).length:Nat):Int)≠(((((l.getD 0 (0,([],()))).2).1).length:Nat):Int)) (fun h28=> ?_) fun h28=> ?_
       ·have e:ep l=1:=O1 (by omega) h1 hk (fun g=>by have:=g.2.2;unfold iy at this;omega)
        rw [e]
        exact ao
       ·have hok:=Av (l:=l) (nw h3) (.inr h18) h28
        refine⟨aj (k+1),?_⟩
        exact⟨rfl,l.length-(k+1),by omega,k+1,by omega,Au hc1_1 hok,rfl,rfl,rfl⟩
      ·refine⟨cp (((l.getD k (0,([],()))).1)≤((l.getD (((k:Int)-1).toNat) (0,([],()))).1)),fun h29=> ?_⟩
       refine⟨cp (((l.getD k (0,([],()))).1)≤((l.getD (((k:Int)-1).toNat) (0,([],()))).1)),fun h30=> ?_⟩
       refine⟨cp (((l.getD k (0,([],()))).1)≤((l.getD (((k:Int)-1).toNat) (0,([],()))).1)),fun h31=> ?_⟩
       refine⟨cp (((l.getD k (0,([],()))).1)≤((l.getD (((k:Int)-1).toNat) (0,([],()))).1)),fun h32=> ?_⟩
       refine⟨cp (((l.getD k (0,([],()))).1)≤((l.getD (((k:Int)-1).toNat) (0,([],()))).1)),fun h33=> ?_⟩
       refine⟨cp (((l.getD k (0,([],()))).1)≤((l.getD (((k:Int)-1).toNat) (0,([],()))).1)),fun h34=> ?_⟩
       refine⟨cp (((l.getD k (0,([],()))).1)≤((l.getD (((k:Int)-1).toNat) (0,([],()))).1)),fun h35=> ?_⟩
       refine⟨cp (((l.getD k (0,([],()))).1)≤((l.getD (((k:Int)-1).toNat) (0,([],()))).1)),fun h36=> ?_⟩
       refine⟨fun h37=> ?_,cp (((l.getD k (0,([],()))).1)≤((l.getD (((k:Int)-1).toNat) (0,([],()))).1))⟩
       have e:ep l=1:=O1 (by omega) h1 hk (fun g=>by rw [show((k:Int)-1).toNat=k-1 by omega] at h18;have:=g.2.1;omega)
       rw [e]
       exact ao
     ·refine⟨cn (0<(k:Int)),fun h38=> ?_⟩
      refine⟨cn (0<(k:Int)),fun h39=> ?_⟩
      refine⟨cn (0<(k:Int)),fun h40=> ?_⟩
      refine⟨cn (0<(k:Int)),fun h41=> ?_⟩
      refine⟨cn (0<(k:Int)),fun h42=> ?_⟩
      refine⟨cn (0<(k:Int)),fun h43=> ?_⟩
      refine⟨cn (0<(k:Int)),fun h44=> ?_⟩
      refine⟨cn (0<(k:Int)),fun h45=> ?_⟩
      refine⟨fun h46=> ?_,cn (¬(fJ ((l.getD k (0,([],()))).1)))⟩
      refine⟨cn (0<(k:Int)),fun h47=> ?_⟩
      refine⟨cn (¬(fJ ((l.getD k (0,([],()))).1))),fun h48=> ?_⟩
      refine⟨ix 0 l.length,yn ((((((l.getD k (0,([],()))).2).1).length:Nat):Int)≠(((((l.getD 0 (0,([],()))).2).1).length:Nat):Int)) (fun h49=> ?_) fun h49=> ?_⟩
      ·have e:ep l=1:=O1 (by omega) h1 hk (fun g=>by have:=g.2.2;unfold iy at this;omega)
       rw [e]
       exact ao
      ·have hok:=Av (l:=l) (nw h3) (.inl (by omega)) h49
       refine⟨aj (k+1),?_⟩
       exact⟨rfl,l.length-(k+1),by omega,k+1,by omega,Au hc1_1 hok,rfl,rfl,rfl⟩
    ·refine⟨cp (¬(fJ ((l.getD k (0,([],()))).1))),fun h50=> ?_⟩
     refine⟨cp (¬(fJ ((l.getD k (0,([],()))).1))),fun h51=> ?_⟩
     refine⟨cp (¬(fJ ((l.getD k (0,([],()))).1))),fun h52=> ?_⟩
     refine⟨fun h53=> ?_,cp (¬(fJ ((l.getD k (0,([],()))).1)))⟩
     have e:ep l=1:=O1 (by omega) h1 hk (fun g=>h3 g.1)
     rw [e]
     exact ao
   ·rw [Uh (by omega) h1 hc1_1 (by omega)]
    exact ao
 ·rw [Yx (.inl (by omega))]
  exact ao
def Lv:List (Nat×bI):=(76,aS [.v (.sl (.cons (.int .i64) (.cons .str .nil)))] Gs)::Lm
theorem Yd:Known Tryd.prog (En Lv tys G6 []):=X5.addQ Tryd.func76 Tryd.call76 [.k] fun ds _ _ _ h=>by unfold Gs at h;split at h;exact Zc _;cases h
def Gh:List V→Option (Prop×V×List Blk)
 |[.str s,.int .i64 nd,.sl false (.int .i64) hs,.str nz]=>some (s.length≤1048576∧hs.length≤1048576∧nz.length≤1048576,.tup [.own (.cons (.int .i64) (.cons .str .nil)) 0,.int .i64 (gQ s nd hs nz)], [.row true (.cons (.int .i64) (.cons .str .nil)) (jK s nd hs nz)])
 |_=>none
theorem Y2 (s:List UInt8) (nd:Int) (hs:List Int) (nz:List UInt8):ap (En Lv tys G6 []) Tryd.f18 [.o (.cons (.int .i64) (.cons .str .nil)),.k] Gh [.str s,.int .i64 nd,.sl false (.int .i64) hs,.str nz]:=by
 rintro⟨hp0,hp1,hp2⟩
 refine yn (4096<(s.length:Int)) (fun h0=> ?_) fun h0=> ?_
 ·have e:gQ s nd hs nz=2:=by unfold gQ;rw [if_pos (by omega)]
  rw [jK,if_neg (by rw [e];decide),e]
  exact ao
 ·refine ny (nd<1) (fun h1=> ?_) fun h1=> ?_
  ·refine yn (12<nd) (fun h2=> ?_) fun h2=> ?_
   ·have e:gQ s nd hs nz=3:=by unfold gQ;rw [if_neg (by omega:¬4096<s.length),if_pos (by omega)]
    rw [jK,if_neg (by rw [e];decide),e]
    exact ao
   ·refine yn ((hs.length:Int)<nd) (fun h3=> ?_) fun h3=> ?_
    ·have e:gQ s nd hs nz=1:=by unfold gQ;rw [if_neg (by omega:¬4096<s.length),if_neg (by omega:¬(nd<1∨12<nd)),if_pos (by omega)]
     rw [jK,if_neg (by rw [e];decide),e]
     exact ao
    ·refine⟨0, [(0,.k),(1,.k),(2,.k),(3,.k),(10,.k),(35,.k),(36,.k),(37,.k)],fun nM vs H=>∃(k:Nat),k≤hs.length∧(∀j,j<k→Qs hs j=true)∧nM=hs.length-k∧vs= [.str s,.i nd,.sl false (.int .i64) hs,.str nz,.i (s.length:Int),.sl false (.int .i64) hs,.i (hs.length:Int),.i k]∧H= [],⟨rfl,hs.length,0,by omega,fun j h=>absurd h (Nat.not_lt_zero j),by omega,rfl,rfl⟩,?_⟩
     rintro nM vs H ⟨k,hc1_0,hc1_1,rfl,rfl,rfl⟩
     refine yn ((k:Int)<(hs.length:Int)) (fun h4=> ?_) fun h4=> ?_
     ·have hk:k<hs.length:=by omega
      refine⟨ix k hs.length,rfl,trivial,ny (¬(fJ (hs.getD k 0))) (fun h5=> ?_) fun h5=> ?_⟩
      ·refine yn (0<(k:Int)) (fun h6=> ?_) fun h6=> ?_
       ·refine⟨aj (k-1),ix (k-1) hs.length,yn ((hs.getD k 0)≤(hs.getD (((k:Int)-1).toNat) 0)) (fun h7=> ?_) fun h7=> ?_⟩
        ·have hf:lU hs=false:=i5 (fun g=>by rw [show((k:Int)-1).toNat=k-1 by omega] at h7;have:=g.2;omega) hk
         have e:gQ s nd hs nz=1:=by unfold gQ;rw [if_neg (by omega:¬4096<s.length),if_neg (by omega:¬(nd<1∨12<nd)),if_neg (by omega:¬(hs.length:Int)<nd),if_pos hf]
         rw [jK,if_neg (by rw [e];decide),e]
         exact ao
        ·have hok:=Jb (l:=hs) (nw h5) (.inr h7)
         refine⟨aj (k+1),?_⟩
         exact⟨rfl,hs.length-(k+1),by omega,k+1,by omega,gb hc1_1 hok,rfl,rfl,rfl⟩
       ·have hok:=Jb (l:=hs) (nw h5) (.inl (by omega))
        refine⟨aj (k+1),?_⟩
        exact⟨rfl,hs.length-(k+1),by omega,k+1,by omega,gb hc1_1 hok,rfl,rfl,rfl⟩
      ·have hf:lU hs=false:=i5 (fun g=>h5 g.1) hk
       have e:gQ s nd hs nz=1:=by unfold gQ;rw [if_neg (by omega:¬4096<s.length),if_neg (by omega:¬(nd<1∨12<nd)),if_neg (by omega:¬(hs.length:Int)<nd),if_pos hf]
       rw [jK,if_neg (by rw [e];decide),e]
       exact ao
     ·have hso:=Tp hc1_1 (by omega)
      obtain⟨hm1,hm2⟩:=y8 (a:=(s.length:Int)) (b:=nd-1) (A:=4096) (B:=11) (by omega) (by omega) (by omega) (by omega)
      refine⟨aj (nd-1),aj ((s.length:Int)*(nd-1)),yn ((nz.length:Int)≠((s.length:Int)*(nd-1))) (fun h8=> ?_) fun h8=> ?_⟩
      ·have e:gQ s nd hs nz=1:=by unfold gQ;rw [if_neg (by omega:¬4096<s.length),if_neg (by omega:¬(nd<1∨12<nd)),if_neg (by omega:¬(hs.length:Int)<nd),if_neg (by rw [hso];decide),if_neg h8]
       rw [jK,if_neg (by rw [e];decide),e]
       exact ao
      ·have hn:nz.length=s.length*(nd-1).toNat:=Int.ofNat_inj.1 (by rw [Int.natCast_mul,Int.toNat_of_nonneg (by omega)];exact nw h8)
       refine⟨⟨rfl,om ((0:Int)≤(hs.length:Int)),om ((hs.length:Int)≤(1000000000:Int))⟩,0, [(0,.k),(1,.k),(3,.k),(10,.k),(13,.o (.cons (.int .i64) (.cons .str .nil))),(69,.k),(70,.k),(71,.k)],fun nM vs H=>∃(k:Nat),k≤hs.length∧nM=hs.length-k∧vs= [.str s,.int .i64 nd,.str nz,.int .i64 (s.length:Int),.own (.cons (.int .i64) (.cons .str .nil)) 0,.sl false (.int .i64) hs,.int .i64 (hs.length:Int),.int .i64 (k:Int)]∧H= [.row true (.cons (.int .i64) (.cons .str .nil)) (nN s nd hs nz k)],⟨rfl,hs.length,0,by omega,by omega,rfl,by rw [Hy];rfl⟩,?_⟩
       rintro nM vs H ⟨k,hc2_0,rfl,rfl,rfl⟩
       have hol:=Ng s nd hs nz k
       refine yn ((k:Int)<(hs.length:Int)) (fun h9=> ?_) fun h9=> ?_
       ·have hk:k<hs.length:=by omega
        obtain⟨⟨q1,q2⟩,_⟩:=zH hso hk
        refine⟨ix k hs.length,⟨rfl,om ((0:Int)≤(s.length:Int)),om ((s.length:Int)≤(1000000000:Int))⟩,aj (nd-2),1, [(0,.k),(1,.k),(3,.k),(10,.k),(13,.k),(14,.k),(15,.k),(16,.k),(17,.k),(69,.k),(70,.k),(71,.k)],fun nM vs H=>∃(j:Nat),j≤(nd-1).toNat∧nM=j+1∧vs= [.str s,.int .i64 nd,.str nz,.int .i64 (s.length:Int),.own (.cons (.int .i64) (.cons .str .nil)) 0,.int .i64 (k:Int),.int .i64 (hs.getD k 0),.str (kG nz s.length (nd-1).toNat (pt (hs.getD k 0)) j),.int .i64 ((j:Int)-1),.sl false (.int .i64) hs,.int .i64 (hs.length:Int),.int .i64 (k:Int)]∧H= [.row true (.cons (.int .i64) (.cons .str .nil)) (nN s nd hs nz k)],⟨rfl,(nd-1).toNat+1,(nd-1).toNat,by omega,by omega,by rw [Pq,show(((nd-1).toNat:Nat):Int)-1=nd-2 by omega];rfl,rfl⟩,?_⟩
        rintro nM vs H ⟨j,hc3_0,rfl,rfl,rfl⟩
        refine yn (0≤((j:Int)-1)) (fun h10=> ?_) fun h10=> ?_
        ·obtain⟨i,hj⟩:∃i,j=i+1:=⟨j-1,by omega⟩
         have e1:(((j:Int)-1)*(s.length:Int))=((i*s.length:Nat):Int):=by rw [show(j:Int)-1=(i:Int) by omega,Int.natCast_mul]
         have e2:((((j:Int)-1)+1)*(s.length:Int))=((i*s.length:Nat):Int)+(s.length:Int):=by rw [show((j:Int)-1)+1=(i:Int)+1 by omega,Int.add_mul,Int.one_mul,Int.natCast_mul]
         have e3:i*s.length+s.length≤nz.length:=by(have:=Nat.mul_le_mul_left s.length (show i+1≤(nd-1).toNat by omega);rw [←hn,Nat.mul_succ,Nat.mul_comm] at this;exact this)
         have e4:i*s.length≤11*4096:=Nat.mul_le_mul (by omega) (by omega)
         have ey:((((j:Int)-1)+1)*(s.length:Int)).toNat-(((j:Int)-1)*(s.length:Int)).toNat=s.length:=by omega
         have ex:(((j:Int)-1)*(s.length:Int)).toNat=i*s.length:=by omega
         have hst:cF (pt (hs.getD k 0)) (cU (kG nz s.length (nd-1).toNat (pt (hs.getD k 0)) j) ((nz.drop ((((j:Int)-1)*(s.length:Int)).toNat)).take (((((j:Int)-1)+1)*(s.length:Int)).toNat-(((j:Int)-1)*(s.length:Int)).toNat)))=kG nz s.length (nd-1).toNat (pt (hs.getD k 0)) i:=by rw [ey,ex,hj];exact K5 (by omega) hn rfl
         have hal:=eW nz s.length (nd-1).toNat (pt (hs.getD k 0)) j
         have hcl:((nz.drop ((((j:Int)-1)*(s.length:Int)).toNat)).take (((((j:Int)-1)+1)*(s.length:Int)).toNat-(((j:Int)-1)*(s.length:Int)).toNat)).length=s.length:=by rw [ey,List.length_take,List.length_drop];omega
         refine⟨by kernel_rfl,rfl,⟨om (0≤(hs.getD k 0)),om ((hs.getD k 0)<1000000)⟩,aj (((j:Int)-1)*(s.length:Int)),aj (((j:Int)-1)+1),aj ((((j:Int)-1)+1)*(s.length:Int)),⟨by omega,by omega,by omega⟩,⟨om ((kG nz s.length (nd-1).toNat (pt (hs.getD k 0)) j).length≤1000000000),os (((nz.drop ((((j:Int)-1)*(s.length:Int)).toNat)).take (((((j:Int)-1)+1)*(s.length:Int)).toNat-(((j:Int)-1)*(s.length:Int)).toNat)).length≤1000000000)⟩,by show(cU _ _).length≤_;rw [cM,hcl,hal];omega,aj (((j:Int)-1)-1),?_⟩
         exact⟨rfl,i+1,by omega,i,by omega,rfl,by rw [hst,show(j:Int)-1-1=(i:Int)-1 by omega];rfl,rfl⟩
        ·have hfin:cU (kG nz s.length (nd-1).toNat (pt (hs.getD k 0)) j) s=Ma s nz (nd-1).toNat (pt (hs.getD k 0)):=by rw [show j=0 by omega];exact Pr
         have hal:=eW nz s.length (nd-1).toNat (pt (hs.getD k 0)) j
         refine⟨⟨om ((kG nz s.length (nd-1).toNat (pt (hs.getD k 0)) j).length≤1000000000),om (s.length≤1000000000)⟩,ix k (nN s nd hs nz k).length,rfl,⟨fun h=>(by first|rfl|cases h),rfl,rfl⟩,aj (k+1),?_⟩
         exact⟨rfl,hs.length-(k+1),by omega,k+1,by omega,rfl,rfl,by rw [←Nf (x:=(hs.getD k 0,cU (kG nz s.length (nd-1).toNat (pt (hs.getD k 0)) j) s,())) hk (by rw [hfin];rfl)];rfl⟩
       ·have e:gQ s nd hs nz=0:=by unfold gQ;rw [if_neg (by omega:¬4096<s.length),if_neg (by omega:¬(nd<1∨12<nd)),if_neg (by omega:¬(hs.length:Int)<nd),if_neg (by rw [hso];decide),if_pos (nw h8)]
        rw [jK,if_pos e,e,←Nh (by omega:hs.length≤k)]
        exact ao
  ·have e:gQ s nd hs nz=3:=by unfold gQ;rw [if_neg (by omega:¬4096<s.length),if_pos (by omega)]
   rw [jK,if_neg (by rw [e];decide),e]
   exact ao
def Lk:List (Nat×bI):=(18,aS [.v .str,.v (.int .i64),.v (.sl (.int .i64)),.v .str] Gh)::Lv
theorem X3:Known Tryd.prog (En Lk tys G6 []):=Yd.addQ Tryd.func18 Tryd.call18 [.o (.cons (.int .i64) (.cons .str .nil)),.k] fun ds _ _ _ h=>by unfold Gh at h;split at h;exact Y2 _ _ _ _;cases h
def Gq:List V→Option (Prop×V×List Blk)
 |[.int .i64 k,.rp false (.sl (.cons (.int .i64) (.cons .str .nil))) l 0]=>some (0≤k∧l.length≤1048576∧(∀x∈l,k<(x.2.1.length:Int)),.own .u8 0, [.row true .u8 (lu l k.toNat)])
 |_=>none
theorem Za (k:Int) (l:List (Int×(List UInt8×Unit))):ap (En Lk tys G6 []) Tryd.f97 [.o .u8] Gq [.int .i64 k,.rp false (.sl (.cons (.int .i64) (.cons .str .nil))) l 0]:=by
 rintro⟨hp0,hp1,(hp2:(∀x∈l,k<(x.2.1.length:Int)))⟩
 refine⟨⟨rfl,om ((0:Int)≤(l.length:Int)),om ((l.length:Int)≤(1000000000:Int))⟩,0, [(0,.k),(4,.o .u8),(10,.k),(11,.k),(12,.k)],fun nM vs H=>∃(i:Nat),i≤l.length∧nM=l.length-i∧vs= [.int .i64 k,.own .u8 0,.sl false (.cons (.int .i64) (.cons .str .nil)) l,.int .i64 (l.length:Int),.int .i64 (i:Int)]∧H= [.row true .u8 (ck (yF l k.toNat) l.length i)],⟨rfl,l.length,0,by omega,by omega,rfl,by rw [iQ];rfl⟩,?_⟩
 rintro nM vs H ⟨i,hc1_0,rfl,rfl,rfl⟩
 have hfl:=jv (yF l k.toNat) l.length i
 refine yn ((i:Int)<(l.length:Int)) (fun h0=> ?_) fun h0=> ?_
 ·have hi:i<l.length:=by omega
  have hkl:=hp2 _ (getD_mem (0, [],()) l i hi)
  refine⟨ix i l.length,cm,ix k (((l.getD i (0,([],()))).2).1).length,ix i (ck (yF l k.toNat) l.length i).length,fN,aj (i+1),?_⟩
  exact⟨rfl,l.length-(i+1),by omega,i+1,by omega,rfl,rfl,by rw [←iR (yF l k.toNat) hi];rfl⟩
 ·rw [show i=l.length by omega,Mo]
  exact ao
def Ls:List (Nat×bI):=(97,aS [.v (.int .i64),.ref (.sl (.cons (.int .i64) (.cons .str .nil)))] Gq)::Lk
theorem Yb:Known Tryd.prog (En Ls tys G6 []):=X3.addQ Tryd.func97 Tryd.call97 [.o .u8] fun ds _ _ _ h=>by unfold Gq at h;split at h;exact Za _ _;cases h
def Gi:List V→Option (Prop×V×List Blk)
 |[.sl false (.cons (.int .i64) (.cons .str .nil)) l]=>some (l.length≤1048576∧(∀x∈l,fJ x.1),.own .u8 0, [.row true .u8 (kw l)])
 |_=>none
theorem Y3 (l:List (Int×(List UInt8×Unit))):ap (En Ls tys G6 []) Tryd.f79 [.o .u8] Gi [.sl false (.cons (.int .i64) (.cons .str .nil)) l]:=by
 rintro⟨hp0,(hp1:(∀x∈l,fJ x.1))⟩
 refine⟨⟨rfl,om ((0:Int)≤(l.length:Int)),om ((l.length:Int)≤(1000000000:Int))⟩,0, [(3,.o .u8),(9,.k),(10,.k),(11,.k)],fun nM vs H=>∃(i:Nat),i≤l.length∧nM=l.length-i∧vs= [.own .u8 0,.sl false (.cons (.int .i64) (.cons .str .nil)) l,.int .i64 (l.length:Int),.int .i64 (i:Int)]∧H= [.row true .u8 (ck (xF l) l.length i)],⟨rfl,l.length,0,by omega,by omega,rfl,by rw [iQ];rfl⟩,?_⟩
 rintro nM vs H ⟨i,hc1_0,rfl,rfl,rfl⟩
 have hfl:=jv (xF l) l.length i
 refine yn ((i:Int)<(l.length:Int)) (fun h0=> ?_) fun h0=> ?_
 ·have hi:i<l.length:=by omega
  obtain⟨q1,q2⟩:=hp1 _ (getD_mem (0, [],()) l i hi)
  refine⟨ix i l.length,cm,rfl,⟨os (0≤((l.getD i (0,([],()))).1)),os (((l.getD i (0,([],()))).1)<1000000)⟩,ix i (ck (xF l) l.length i).length,fN,aj (i+1),?_⟩
  exact⟨rfl,l.length-(i+1),by omega,i+1,by omega,rfl,rfl,by rw [←iR (xF l) hi];rfl⟩
 ·rw [show i=l.length by omega,Mq]
  exact ao
def Ll:List (Nat×bI):=(79,aS [.v (.sl (.cons (.int .i64) (.cons .str .nil)))] Gi)::Ls
theorem X4:Known Tryd.prog (En Ll tys G6 []):=Yb.addQ Tryd.func79 Tryd.call79 [.o .u8] fun ds _ _ _ h=>by unfold Gi at h;split at h;exact Y3 _;cases h
def P9:List V→Option (Prop×Nat×(Nat→List V))
 |[.rp false (.sl (.cons (.int .i64) (.cons .str .nil))) l 0,.rb (.fn 97 [.rp false (.sl (.cons (.int .i64) (.cons .str .nil))) l2 0])]=>some (1≤l.length∧l.length≤1048576∧iy l≤1048576∧(∀x∈l,x.2.1.length=iy l)∧l2=l,(iy l,fun n=> [.int .i64 ((n:Nat):Int),.sl false .u8 (lu l n)]))
 |_=>none
theorem Y9 (l:List (Int×(List UInt8×Unit))) (l2:List (Int×(List UInt8×Unit))) (hp0:1≤l.length) (hp1:l.length≤1048576) (hp2:iy l≤1048576) (hp3:(∀x∈l,x.2.1.length=iy l)) (hp4:l2=l):s9 (En Ll tys G6 []).inR Tryd.f98 [.rp false (.sl (.cons (.int .i64) (.cons .str .nil))) l 0,.rb (.fn 97 [.rp false (.sl (.cons (.int .i64) (.cons .str .nil))) l2 0])] [.v (.int .i64),.v (.sl .u8)] (iy l,fun n=> [.int .i64 ((n:Nat):Int),.sl false .u8 (lu l n)]):=by
 have hlS:(l.getD 0 (0, [],())).2.1.length=iy l:=rfl
 refine⟨rfl,ix 0 l.length,0, [(0,.k),(2,.k),(9,.k),(10,.k)],fun nM vs H=>∃(k:Nat),k≤iy l∧nM=iy l-k∧vs= [.yld (some k),.rb (.fn 97 [.rp false (.sl (.cons (.int .i64) (.cons .str .nil))) l2 0]),.int .i64 (((((l.getD 0 (0,([],()))).2).1).length:Nat):Int),.int .i64 (k:Int)]∧H= [],⟨rfl,iy l,0,by omega,by omega,rfl,rfl⟩,?_⟩
 rintro nM vs H ⟨k,hc1_0,rfl,rfl,rfl⟩
 refine yn ((k:Int)<(((((l.getD 0 (0,([],()))).2).1).length:Nat):Int)) (fun h0=> ?_) fun h0=> ?_
 ·refine⟨rfl,⟨om (0≤(k:Int)),by rw [hp4];omega,by rw [hp4];exact fun x hx=>by rw [hp3 x hx];omega⟩,rfl,⟨(by omega),by rw [hp4];rfl⟩,?_,?_⟩
  ·refine⟨aj (k+1),?_⟩
   exact⟨rfl,iy l-(k+1),by omega,k+1,by omega,rfl,rfl,rfl⟩
  ·trivial
 ·show(k:Nat)=iy l
  omega
def bi:List (Nat×gU):=(98, [.ref (.sl (.cons (.int .i64) (.cons .str .nil))),.rf [(97, [.ref (.sl (.cons (.int .i64) (.cons .str .nil)))])]],P9):: []
def Lr:List (Nat×bI):=Ll
theorem Ya:Known Tryd.prog (En Lr tys G6 bi):=X4.addSeq Tryd.func98 Tryd.call98 [.v (.int .i64),.v (.sl .u8)] fun ds p L h hp=>by
 unfold P9 at h
 split at h<;>simp only [Option.some.injEq,Prod.mk.injEq,reduceCtorEq] at h
 obtain⟨rfl,rfl⟩:=h
 exact Y9 _ _ hp.1 hp.2.1 hp.2.2.1 hp.2.2.2.1 hp.2.2.2.2
def Gp:List V→Option (Prop×V×List Blk)
 |[.sl false (.cons (.int .i64) (.cons .str .nil)) l]=>some (True,.fn 98 [.ptr 0 1 0 0,.ptr 1 1 0 0], [.cells [.sl false (.cons (.int .i64) (.cons .str .nil)) (l)],.cells [.fn 97 [.ptr 0 1 0 0]]])
 |_=>none
theorem Y8 (l:List (Int×(List UInt8×Unit))):tA (En Lr tys G6 bi) Tryd.f77 [.c []] Gp [.sl false (.cons (.int .i64) (.cons .str .nil)) l]:=by
 intro _
 refine⟨jP,?_⟩
 exact ao
def Lq:List (Nat×bI):=(77,uO [.v (.sl (.cons (.int .i64) (.cons .str .nil)))] Gp)::Lr
theorem X9:Known Tryd.prog (En Lq tys G6 bi):=Ya.addR Tryd.func77 Tryd.call77 [.c []] fun ds _ _ _ h=>by unfold Gp at h;split at h;exact Y8 _;cases h
def Gg:List V→Option (Prop×V×List Blk)
 |[.sl false (.cons (.int .i64) (.cons .str .nil)) l,.int .i64 nd,.u8 x]=>some (ep l=0∧1≤nd∧nd≤12,.tup [.str (Mh l nd x),.int .i64 (vK l nd)], [])
 |_=>none
theorem Y1 (l:List (Int×(List UInt8×Unit))) (nd:Int) (x:UInt8):ap (En Lq tys G6 bi) Tryd.f42 [.k,.k] Gg [.sl false (.cons (.int .i64) (.cons .str .nil)) l,.int .i64 nd,.u8 x]:=by
 rintro⟨hp0,hp1,hp2⟩
 have hc:=sA hp0
 have hcl:=hc.len
 have hcm:=hc.max
 have hcb:=hc.bytes
 have hch:=hc.house
 refine yn ((l.length:Int)<nd) (fun h0=> ?_) fun h0=> ?_
 ·refine⟨jP,jP,?_⟩
  have e:vK l nd=29:=aBf h0
  rw [Ym (by rw [e];decide),e]
  exact ao
 ·refine⟨trivial,rfl,rfl,⟨⟨om (1≤l.length),om (l.length≤1048576),om (iy l≤1048576),hcb,rfl⟩,fun _ _=>rfl⟩,9, [(3,.k),(4,.k),(5,.k),(6,.k),(7,.k),(8,.c [(0,.u8)])],fun n vs H=>n≤iy l∧(∀i,i<n→(lG (kw l) (lu l i) (nd-1)).2=0)∧vs= [.ptr 0 1 0 0,.ptr 1 1 0 0,.ptr 2 1 0 0,.ptr 3 1 0 0,.ptr 4 1 0 0,.ptr 5 1 0 0]∧H= [.cells [.sl false (.cons (.int .i64) (.cons .str .nil)) l],.cells [.int .i64 nd],.cells [.u8 x],.cells [.str ([])],.cells [.int .i64 0],.cells [.own .u8 8],.dead,.dead,.row true .u8 (Mi l nd x n)],⟨rfl,by omega,fun i h=>absurd h (Nat.not_lt_zero i),rfl,rfl⟩,?_,?_⟩
  ·rintro n vs H ⟨hc1_0,hc1_1,rfl,rfl⟩ hn1
   replace hn1:n<iy l:=hn1
   have hjl:=N3 l nd x n
   refine⟨by kernel_rfl,⟨om (l.length≤1048576),by assumption⟩,aj (nd-1),rfl,⟨by show(kw l).length≤10000;rw [fL];omega,by show(lu l n).length≤10000;rw [zm];omega⟩,yn (((lG (kw l) (lu l n) (nd-1)).2)≠0) (fun h1=> ?_) fun h1=> ?_⟩
   ·refine⟨jP,jP,rfl,rfl,?_⟩
    have e:vK l nd=14:=aBg h0 hn1 h1
    rw [Ym (by rw [e];decide),e]
    exact ao
   ·refine⟨by kernel_rfl,by show((lG (kw l) (lu l n) (nd-1)).1).length≤1000000;have:=Rf (kw l) (lu l n) (nd-1);rw [fL] at this;omega,fN,l9 (Mi l nd x n).length,jP,?_⟩
    exact⟨rfl,rfl,by omega,Mt (P:=fun i=>(lG (kw l) (lu l i) (nd-1)).2=0) hc1_1 (nw h1),rfl,by rw [I3];rfl⟩
  ·rintro vs H ⟨hc1_0,hc1_1,rfl,rfl⟩
   refine⟨jP,jP,?_⟩
   have e:=jn0 h0 hc1_1
   rw [Yn e,e]
   exact ao
def Lj:List (Nat×bI):=(42,aS [.v (.sl (.cons (.int .i64) (.cons .str .nil))),.v (.int .i64),.v .u8] Gg)::Lq
theorem X2:Known Tryd.prog (En Lj tys G6 bi):=X9.addQ Tryd.func42 Tryd.call42 [.k,.k] fun ds _ _ _ h=>by unfold Gg at h;split at h;exact Y1 _ _ _;cases h
def Gf:List V→Option (Prop×V×List Blk)
 |[.sl false (.cons (.int .i64) (.cons .str .nil)) l,.int .i64 nd]=>some (l.length≤1048576,.int .i64 (sU l nd), [])
 |_=>none
theorem Y0 (l:List (Int×(List UInt8×Unit))) (nd:Int):ap (En Lj tys G6 bi) Tryd.f41 [.k] Gf [.sl false (.cons (.int .i64) (.cons .str .nil)) l,.int .i64 nd]:=by
 intro hp0
 refine⟨om (l.length≤1048576),yn ((ep l)≠0) (fun h0=> ?_) fun h0=> ?_⟩
 ·rw [show sU l nd=ep l from if_neg h0]
  exact ao
 ·refine ny (nd<1) (fun h1=> ?_) fun h1=> ?_
  ·refine yn (12<nd) (fun h2=> ?_) fun h2=> ?_
   ·rw [show sU l nd=3 by unfold sU;rw [if_pos (nw h0),if_pos (by omega)]]
    exact ao
   ·rw [show sU l nd=0 by unfold sU;rw [if_pos (nw h0),if_neg (by omega)]]
    exact ao
  ·rw [show sU l nd=3 by unfold sU;rw [if_pos (nw h0),if_pos (by omega)]]
   exact ao
def Li:List (Nat×bI):=(41,aS [.v (.sl (.cons (.int .i64) (.cons .str .nil))),.v (.int .i64)] Gf)::Lj
theorem X1:Known Tryd.prog (En Li tys G6 bi):=X2.addQ Tryd.func41 Tryd.call41 [.k] fun ds _ _ _ h=>by unfold Gf at h;split at h;exact Y0 _ _;cases h
def Gk:List V→Option (Prop×V×List Blk)
 |[.sl false (.cons (.int .i64) (.cons .str .nil)) l,.int .i64 nd]=>some (l.length≤1048576,.tup [.str (Eb l nd 0),.int .i64 (Mg l nd)], [])
 |_=>none
theorem Y5 (l:List (Int×(List UInt8×Unit))) (nd:Int):ap (En Li tys G6 bi) Tryd.f15 [.k,.k] Gk [.sl false (.cons (.int .i64) (.cons .str .nil)) l,.int .i64 nd]:=by
 intro hp0
 refine⟨rfl,om (l.length≤1048576),yn ((sU l nd)≠0) (fun h0=> ?_) fun h0=> ?_⟩
 ·rw [show Mg l nd=sU l nd from if_neg h0,show Eb l nd 0= [] from if_neg h0]
  exact ao
 ·have r:=nw h0
  obtain⟨r1,r2,r3⟩:=rd0 r
  have hrl:=(sA r1).len
  refine⟨rfl,⟨om (ep l=0),om (1≤nd),om (nd≤12)⟩,?_⟩
  rw [show Mg l nd=vK l nd from if_pos r,show Eb l nd 0=Mh l nd 0 from if_pos r]
  exact ao
def Ln:List (Nat×bI):=(15,aS [.v (.sl (.cons (.int .i64) (.cons .str .nil))),.v (.int .i64)] Gk)::Li
theorem X6:Known Tryd.prog (En Ln tys G6 bi):=X1.addQ Tryd.func15 Tryd.call15 [.k,.k] fun ds _ _ _ h=>by unfold Gk at h;split at h;exact Y5 _ _;cases h
def Gn:List V→Option (Prop×V×List Blk)
 |[.sl false (.cons (.int .i64) (.cons .str .nil)) l,.int .i64 nd,.str s]=>some (l.length≤1048576∧s.length≤1048576,.tup [.int .i64 (vM l nd s),.b (ry l nd s)], [])
 |_=>none
theorem Y7 (l:List (Int×(List UInt8×Unit))) (nd:Int) (s:List UInt8):ap (En Ln tys G6 bi) Tryd.f14 [.k,.k] Gn [.sl false (.cons (.int .i64) (.cons .str .nil)) l,.int .i64 nd,.str s]:=by
 rintro⟨hp0,hp1⟩
 refine⟨rfl,om (l.length≤1048576),ny ((sU l nd)≠0) (fun h0=> ?_) fun h0=> ?_⟩
 ·have r:=nw h0
  obtain⟨r1,r2,r3⟩:=rd0 r
  have hrl:=(sA r1).len
  refine ny (4096<(s.length:Int)) (fun h1=> ?_) fun h1=> ?_
  ·refine yn (0<(l.length:Int)) (fun h2=> ?_) fun h2=> ?_
   ·refine⟨ix 0 l.length,yn ((((((l.getD 0 (0,([],()))).2).1).length:Nat):Int)≠(s.length:Int)) (fun h3=> ?_) fun h3=> ?_⟩
    ·have e:vM l nd s=0:=if_neg (fun g=>by rcases g.2.2.1 with q|q;(omega);(exact h3 (by show(((l.getD 0 _).2.1.length:Nat):Int)=_;unfold iy at q;omega)))
     have e2:ry l nd s=(false=true):=propext ⟨fun g=>False.elim (by rcases g.2.2.1 with q|q;(omega);(exact h3 (by show(((l.getD 0 _).2.1.length:Nat):Int)=_;unfold iy at q;omega))),fun g=>Bool.noConfusion g⟩
     rw [e,e2]
     exact ao
    ·refine⟨aj (nd-1),aj ((nd-1)-l.length),yn (0≤((nd-1)-(l.length:Int))) (fun h4=> ?_) fun h4=> ?_⟩
     ·obtain⟨b1,b2⟩:=y8 (a:=(nd-1)-(l.length:Int)) (b:=(s.length:Int)) (A:=12) (B:=4096) (by omega) (by omega) (by omega) (by omega)
      refine⟨aj (((nd-1)-(l.length:Int))*(s.length:Int)),?_⟩
      have e:vM l nd s=(nd-1-(l.length:Int))*(s.length:Int):=if_pos ⟨r,by omega,.inr (om ((l.getD 0 _).2.1.length=_)),by omega⟩
      have e2:ry l nd s=(true=true):=propext ⟨fun _=>rfl,fun _=>⟨r,by omega,.inr (om ((l.getD 0 _).2.1.length=_)),.inl (by omega)⟩⟩
      rw [e,e2]
      exact ao
     ·refine⟨rfl,⟨om (ep l=0),om (1≤nd),om (nd≤12)⟩,yn ((vK l nd)=0) (fun h5=> ?_) fun h5=> ?_⟩
      ·have e:vM l nd s=0:=if_neg (fun g=>by have:=g.2.2.2;omega)
       have e2:ry l nd s=(Mh l nd 0=s):=propext ⟨fun g=>(g.2.2.2.resolve_left (by omega)).2,fun g=>⟨r,by omega,.inr (om ((l.getD 0 _).2.1.length=_)),.inr ⟨h5,g⟩⟩⟩
       rw [e,e2]
       exact ao
      ·have e:vM l nd s=0:=if_neg (fun g=>by have:=g.2.2.2;omega)
       have e2:ry l nd s=(false=true):=propext ⟨fun g=>False.elim (by rcases g.2.2.2 with q|q;(omega);(exact h5 q.1)),fun g=>Bool.noConfusion g⟩
       rw [e,e2]
       exact ao
   ·refine⟨aj (nd-1),aj ((nd-1)-l.length),yn (0≤((nd-1)-(l.length:Int))) (fun h6=> ?_) fun h6=> ?_⟩
    ·obtain⟨b1,b2⟩:=y8 (a:=(nd-1)-(l.length:Int)) (b:=(s.length:Int)) (A:=12) (B:=4096) (by omega) (by omega) (by omega) (by omega)
     refine⟨aj (((nd-1)-(l.length:Int))*(s.length:Int)),?_⟩
     have e:vM l nd s=(nd-1-(l.length:Int))*(s.length:Int):=if_pos ⟨r,by omega,.inl (by omega),by omega⟩
     have e2:ry l nd s=(true=true):=propext ⟨fun _=>rfl,fun _=>⟨r,by omega,.inl (by omega),.inl (by omega)⟩⟩
     rw [e,e2]
     exact ao
    ·refine⟨rfl,⟨om (ep l=0),om (1≤nd),om (nd≤12)⟩,yn ((vK l nd)=0) (fun h7=> ?_) fun h7=> ?_⟩
     ·have e:vM l nd s=0:=if_neg (fun g=>by have:=g.2.2.2;omega)
      have e2:ry l nd s=(Mh l nd 0=s):=propext ⟨fun g=>(g.2.2.2.resolve_left (by omega)).2,fun g=>⟨r,by omega,.inl (by omega),.inr ⟨h7,g⟩⟩⟩
      rw [e,e2]
      exact ao
     ·have e:vM l nd s=0:=if_neg (fun g=>by have:=g.2.2.2;omega)
      have e2:ry l nd s=(false=true):=propext ⟨fun g=>False.elim (by rcases g.2.2.2 with q|q;(omega);(exact h7 q.1)),fun g=>Bool.noConfusion g⟩
      rw [e,e2]
      exact ao
  ·have e:vM l nd s=0:=if_neg (fun g=>by have:=g.2.1;omega)
   have e2:ry l nd s=(false=true):=propext ⟨fun g=>False.elim (by have:=g.2.1;omega),fun g=>Bool.noConfusion g⟩
   rw [e,e2]
   exact ao
 ·have e:vM l nd s=0:=if_neg (fun g=>h0 g.1)
  have e2:ry l nd s=(false=true):=propext ⟨fun g=>False.elim (h0 g.1),fun g=>Bool.noConfusion g⟩
  rw [e,e2]
  exact ao
def Lp:List (Nat×bI):=(14,aS [.v (.sl (.cons (.int .i64) (.cons .str .nil))),.v (.int .i64),.v .str] Gn)::Ln
theorem X8:Known Tryd.prog (En Lp tys G6 bi):=X6.addQ Tryd.func14 Tryd.call14 [.k,.k] fun ds _ _ _ h=>by unfold Gn at h;split at h;exact Y7 _ _ _;cases h
theorem tN {l:List (Int×List UInt8×Unit)} {k:Nat} (h:k<l.length):(kw l).getD k 0=pt (l.getD k (0, [],())).1:=by
 simp [kw,List.getD_eq_getElem?_getD,List.getElem?_eq_getElem h]
theorem Mp {l:List (Int×List UInt8×Unit)} {k i:Nat} (h:i<l.length):(lu l k).getD i 0=(l.getD i (0, [],())).2.1.getD k 0:=by
 simp [lu,List.getD_eq_getElem?_getD,List.getElem?_eq_getElem h]
theorem Mw {xs ys:List UInt8} (hr:bv xs ys) {m:Nat} (h1:1≤m) (hm:m≤xs.length) {d:Int} (hd:d=(m:Int)-1):
  ((lG xs ys d).2=0↔∀j,m≤j→j<xs.length→aB (xs.getD j 0) (fq (xs.take m) (ys.take m))=ys.getD j 0)∧((lG xs ys d).2=0→(lG xs ys d).1=fq (xs.take m) (ys.take m)):=by
 have hls:=mO (xs.take m) (ys.take m)
 have hl:(xs.take m).length=m:=by rw [List.length_take];omega
 have hn:(xs.take m).Nodup:=(qH xs ys m hr).1
 have hlv:∀j,j<m→aB (xs.getD j 0) (fq (xs.take m) (ys.take m))=ys.getD j 0:=fun j hj=>by
  have:=fe (xs.take m) (ys.take m) hn j (by omega)
  rwa [iO _ _ _ hj,iO _ _ _ hj] at this
 have key:(lG xs ys d).2=0→e8 xs ys=fq (xs.take m) (ys.take m):=fun h=>by
  have hdg:¬d<dw (e8 xs ys):=fun g=>by
   unfold lG at h
   rw [if_pos hr,if_neg (by omega),if_neg (by omega),if_pos g] at h
   exact absurd h (by decide)
  rw [pq xs ys hr] at hdg ⊢
  rw [←fp xs ys,←fp (xs.take m) (ys.take m)]
  refine db (xs.take m) _ _ hn (fun x hx=> ?_) (by rw [jE] at hdg;omega) (by omega)
  obtain⟨k,hk,rfl⟩:=ff (d:=0) hx
  rw [hl] at hk
  rw [iO _ _ _ hk,fe xs ys hr.1 k (by omega),hlv k hk]
 have hone:(lG xs ys d).2=0→(lG xs ys d).1=e8 xs ys:=fun h=>by
  unfold lG at h ⊢
  rw [if_pos hr,if_neg (by omega),if_neg (by omega)] at h ⊢
  split at h
  ·exact absurd h (by decide)
  ·rename_i g;rw [if_neg g]
 refine⟨⟨fun h j hj hjl=> ?_,fun h=> ?_⟩,fun h=>(hone h).trans (key h)⟩
 ·rw [←key h,pq xs ys hr,fe xs ys hr.1 j hjl]
 ·have hth:e8 xs ys=fq (xs.take m) (ys.take m):=by
   rw [pq xs ys hr,←fp xs ys,←fp (xs.take m) (ys.take m)]
   refine db xs _ _ hr.1 (fun x hx=> ?_) (mO xs ys) (by omega)
   obtain⟨k,hk,rfl⟩:=ff (d:=0) hx
   rw [fe xs ys hr.1 k hk]
   by_cases e:k<m
   ·rw [hlv k e]
   ·rw [h k (by omega) hk]
  unfold lG
  rw [if_pos hr,if_neg (by omega),if_neg (by omega),if_neg]
  rw [hth,jE]
  omega
theorem Am {h:Int} (hh:fJ h):(pt h).toNat=h.toNat+1:=by
 obtain⟨a,b⟩:=hh
 have:=yp (h:=h.toNat) (by omega)
 rwa [Int.toNat_of_nonneg a] at this
theorem P2 {l:List (Int×List UInt8×Unit)} (h:∀k,k+1<l.length→(l.getD k (0, [],())).1<(l.getD (k+1) (0, [],())).1) {i j:Nat} (hij:i<j):j<l.length→(l.getD i (0, [],())).1<(l.getD j (0, [],())).1:=by
 induction j with
 |zero=>omega
 |succ j ih=>
  intro hj
  have h1:=h j hj
  by_cases e:i=j
  ·rw [e];exact h1
  ·have:=ih (by omega) (by omega);omega
theorem ShOk.nodup {l:List (Int×List UInt8×Unit)} (hc:ShOk l):(kw l).Nodup:=by
 rw [List.nodup_iff_pairwise_ne,List.pairwise_iff_getElem]
 intro i j hi hj hij
 rw [fL] at hi hj
 have h1:=P2 hc.up hij hj
 have h2:=Am (hc.house _ (getD_mem (0, [],()) l i hi))
 have h3:=Am (hc.house _ (getD_mem (0, [],()) l j hj))
 have h4:=hc.house _ (getD_mem (0, [],()) l i hi)
 intro e
 have e1:(kw l)[i]=pt (l.getD i (0, [],())).1:=by rw [←tN hi];simp [List.getD_eq_getElem?_getD,hi,fL]
 have e2:(kw l)[j]=pt (l.getD j (0, [],())).1:=by rw [←tN hj];simp [List.getD_eq_getElem?_getD,hj,fL]
 rw [e1,e2] at e
 have:=congrArg UInt8.toNat e
 unfold fJ at h4
 omega
theorem ShOk.right {l:List (Int×List UInt8×Unit)} (hc:ShOk l) (k:Nat):bv (kw l) (lu l k):=⟨hc.nodup,by rw [fL,zm]⟩
theorem Bh:∀(l:List Int) (a b:Int),a≤b→(∀x∈l,a≤x∧x<b)→l.Pairwise (· <·)→(l.length:Int)≤b-a
 |[],a,b,h,_,_=>by simp;omega
 |x::l,a,b,_,hx,hp=>by
  rw [List.pairwise_cons] at hp
  have h1:=hx x (by simp)
  have:=Bh l (x+1) b (by omega) (fun y hy=>by have:=hx y (by simp [hy]);have:=hp.1 y hy;omega) hp.2
  rw [List.length_cons];omega
theorem zW {l:List (Int×List UInt8×Unit)} {n:Nat} (h1:∀s∈l,fJ s.1∧s.2.1.length=n) (hn:n≤4096) (hp:l.Pairwise fun a b=>a.1<b.1):ep l=0:=by
 have hl:((l.map (·.1)).length:Int)≤12-0:=Bh _ 0 12 (by omega) (fun x hx=>by obtain⟨s,hs,rfl⟩:=List.mem_map.1 hx;exact(h1 s hs).1) (List.pairwise_map.2 hp)
 rw [List.length_map] at hl
 have ha:¬l.all sN=false:=fun e=>by
  have:l.all sN=true:=List.all_eq_true.2 fun s hs=>decide_eq_true (by have:=(h1 s hs).2;omega)
  rw [e] at this;cases this
 refine Q1 (by omega) ha (List.all_eq_true.2 fun k hk=>decide_eq_true ?_)
 have hk:=List.mem_range.1 hk
 have hm:=h1 _ (getD_mem (0, [],()) l k hk)
 have h0:=h1 _ (getD_mem (0, [],()) l 0 (by omega))
 refine⟨hm.1,?_,by unfold iy;omega⟩
 rcases Nat.eq_zero_or_pos k with e|e
 ·exact .inl e
 ·right
  have:=List.pairwise_iff_getElem.1 hp (k-1) k (by omega) hk (by omega)
  simpa [List.getD_eq_getElem?_getD,hk,show k-1<l.length by omega] using this
theorem ShOk.pair {l:List (Int×List UInt8×Unit)} (hc:ShOk l):l.Pairwise fun a b=>a.1<b.1:=by
 rw [List.pairwise_iff_getElem]
 intro i j hi hj hij
 have:=P2 hc.up hij hj
 simpa [List.getD_eq_getElem?_getD,hi,hj] using this
theorem Oz {l p:List (Int×List UInt8×Unit)} (hc:ShOk l) (h:p.Sublist l):ep p=0:=
 zW (n:=iy l) (fun s hs=>⟨hc.house s (h.subset hs),hc.bytes s (h.subset hs)⟩) hc.max (hc.pair.sublist h)
theorem Dh {l:List (Int×List UInt8×Unit)} (hc:ShOk l) {m k:Nat} (h1:1≤m) (h2:m≤l.length) {p:List UInt8} (hz:sz p≤m) (hv:∀s∈l,s.2.1.getD k 0=aB (pt s.1) p):
  (lG (kw l) (lu l k) ((m:Int)-1)).2=0∧∀x,aB x (lG (kw l) (lu l k) ((m:Int)-1)).1=aB x p:=by
 have ht:=Mw (hc.right k) h1 (by rw [fL];exact h2) (d:=(m:Int)-1) rfl
 have hr:=qH (kw l) (lu l k) m (hc.right k)
 have hl:((kw l).take m).length=m:=by rw [List.length_take,fL];omega
 have hval:∀j,j<l.length→aB ((kw l).getD j 0) p=(lu l k).getD j 0:=fun j hj=>by
  rw [tN hj,Mp hj,hv _ (getD_mem (0, [],()) l j hj)]
 have hline:aF (fq ((kw l).take m) ((lu l k).take m))=aF p:=by
  refine db ((kw l).take m) _ _ hr.1 (fun x hx=> ?_) (by have:=mO ((kw l).take m) ((lu l k).take m);omega) (by omega)
  obtain⟨j,hj,rfl⟩:=ff (d:=0) hx
  rw [hl] at hj
  rw [fe _ _ hr.1 j (by omega),iO _ _ _ hj,iO _ _ _ hj,hval j (by omega)]
 have hh:∀x,aB x (fq ((kw l).take m) ((lu l k).take m))=aB x p:=fun x=>by rw [←au x (fq _ _),hline,au]
 have h0:(lG (kw l) (lu l k) ((m:Int)-1)).2=0:=ht.1.2 fun j _ hj=>by rw [fL] at hj;rw [hh,hval j hj]
 exact⟨h0,fun x=>by rw [ht.2 h0,hh]⟩
theorem Ea {l:List (Int×List UInt8×Unit)} (hc:ShOk l) {nd:Int} (h1:1≤nd) (h2:nd≤(l.length:Int)) {P:Nat→List UInt8} (hP:∀k,k<iy l→sz (P k)≤nd.toNat∧∀s∈l,s.2.1.getD k 0=aB (pt s.1) (P k)) (x:UInt8):
  vK l nd=0∧Mh l nd x=(List.range (iy l)).map fun k=>aB x (P k):=by
 have key:∀k,k<iy l→(lG (kw l) (lu l k) (nd-1)).2=0∧∀x,aB x (lG (kw l) (lu l k) (nd-1)).1=aB x (P k):=fun k hk=>by
  have:=Dh hc (m:=nd.toNat) (k:=k) (by omega) (by omega) (hP k hk).1 (hP k hk).2
  rwa [Int.toNat_of_nonneg (by omega)] at this
 have e:=jn0 (l:=l) (nd:=nd) (by omega) fun k hk=>(key k hk).1
 refine⟨e,?_⟩
 rw [Yn e]
 unfold Mi
 apply List.map_congr_left
 intro k hk
 exact(key k (List.mem_range.1 hk)).2 x
structure Spl (sec:List UInt8) (nd:Int) (hs:List Int) (nz:List UInt8):Prop where
 len:sec.length≤4096
 n1:1≤nd
 n12:nd≤12
 hl:nd≤(hs.length:Int)
 ok:lU hs=true
 nz:(nz.length:Int)=(sec.length:Int)*(nd-1)
theorem Spl.e {sec:List UInt8} {nd:Int} {hs:List Int} {nz:List UInt8} (h:Spl sec nd hs nz):gQ sec nd hs nz=0:=by
 unfold gQ
 rw [if_neg (by have:=h.len;omega),if_neg (by have:=h.n1;have:=h.n12;omega),if_neg (by have:=h.hl;omega),if_neg (by rw [h.ok];decide),if_pos h.nz]
theorem Spl.l {sec:List UInt8} {nd:Int} {hs:List Int} {nz:List UInt8} (h:Spl sec nd hs nz):jK sec nd hs nz=hs.map (P7 sec nd nz):=if_pos h.e
theorem uR {hs:List Int} (h:lU hs=true):hs.Pairwise (· <·):=by
 have h1:∀k,k+1<hs.length→hs.getD k 0<hs.getD (k+1) 0:=fun k hk=>by
  have:=(zH h hk).2
  rcases this with e|e
  ·omega
  ·simpa using e
 have h2:∀i j,i<j→j<hs.length→hs.getD i 0<hs.getD j 0:=fun i j hij=>by
  induction j with
  |zero=>omega
  |succ j ih=>
   intro hj
   have h3:=h1 j hj
   by_cases e:i=j
   ·rw [e];exact h3
   ·have:=ih (by omega) (by omega);omega
 rw [List.pairwise_iff_getElem]
 intro i j hi hj hij
 simpa [List.getD_eq_getElem?_getD,hi,hj] using h2 i j hij hj
theorem qu {hs:List Int} (h:lU hs=true):∀x∈hs,fJ x:=fun x hx=>by
 obtain⟨k,hk,rfl⟩:=ff (d:=0) hx
 exact(zH h hk).1
def Ho (sec nz:List UInt8) (nd:Int) (k:Nat):List UInt8:=sec.getD k 0::O3 nz sec.length (nd-1).toNat k
theorem My (sec nz:List UInt8) (nd h:Int) {k:Nat} (hk:k<sec.length):(P7 sec nd nz h).2.1.getD k 0=aB (pt h) (Ho sec nz nd k):=cb hk
theorem Spl.mem {sec:List UInt8} {nd:Int} {hs:List Int} {nz:List UInt8} (h:Spl sec nd hs nz) {s:(Int×List UInt8×Unit)} (hs':s∈jK sec nd hs nz):fJ s.1∧s.2.1.length=sec.length∧∀k,k<sec.length→s.2.1.getD k 0=aB (pt s.1) (Ho sec nz nd k):=by
 rw [h.l] at hs'
 obtain⟨x,hx,rfl⟩:=List.mem_map.1 hs'
 exact⟨qu h.ok x hx,Ad _ _ _ _,fun k hk=>My sec nz nd x hk⟩
theorem Spl.chk {sec:List UInt8} {nd:Int} {hs:List Int} {nz:List UInt8} (h:Spl sec nd hs nz):ep (jK sec nd hs nz)=0:=by
 refine zW (n:=sec.length) (fun s hs'=>⟨(h.mem hs').1,(h.mem hs').2.1⟩) h.len ?_
 rw [h.l]
 exact List.pairwise_map.2 (uR h.ok)
theorem xA (c:UInt8) (p:List UInt8):aB 0 (c::p)=c:=by
 rw [aB,bN];simp
theorem yk (s:List UInt8):(List.range s.length).map (fun k=>s.getD k 0)=s:=by
 have:=kR 0 (fun x:UInt8=>x) s
 simpa using this
def Mc (s:List UInt8) (a k:Nat):UInt8:=if 0<s.length then s.getD ((a+k)%s.length) 0 else 0
def cB (s:List UInt8) (a n:Nat):List UInt8:=(List.range n).map (Mc s a)
theorem bb (s:List UInt8) (a n:Nat):(cB s a n).length=n:=by simp [cB]
theorem Nu {s:List UInt8} {a n k:Nat} (h:¬0<s.length):ck (Mc s a) n (k+1)=ck (Mc s a) n k:=by
 apply List.map_congr_left
 intro i hi
 by_cases e:i=k
 ·subst e
  rw [if_pos (by omega),if_neg (by omega),Mc,if_neg h]
 ·by_cases g:i<k
  ·rw [if_pos g,if_pos (by omega)]
  ·rw [if_neg g,if_neg (by omega)]
theorem Xy {s:List UInt8} {a k:Nat} (h:0<s.length):Mc s a k=s.getD ((a+k)%s.length) 0:=if_pos h

theorem qM:∀m,m<12→∀a,a<m→∀b,b<m→lM m a b<m*(m+1)/2∧lM m a b=lM m b a:=by decide+kernel
theorem iv {m z:Nat} {s:List UInt8} {a b:Nat} (ha:a<m) (hb:b<m):((iw m z s).getD a []).getD b []=(dn z (lM m a b) s).take z:=by
 simp [iw,List.getD_eq_getElem?_getD,ha,hb]
theorem uG {m z:Nat} {s:List UInt8} {l:Rw} (h:l∈iw m z s):∃a,a<m∧l=(List.range m).map fun b=>(dn z (lM m a b) s).take z:=by
 obtain⟨a,ha,rfl⟩:=List.mem_map.1 h
 exact⟨a,List.mem_range.1 ha,rfl⟩
theorem fS (m z:Nat) (s:List UInt8):(iw m z s).length=m:=by simp [iw]
theorem mL {m z:Nat} {s:List UInt8} (hm:m<12) (hl:s.length=z*(m*(m+1)/2)) {a b:Nat} (ha:a<m) (hb:b<m):((dn z (lM m a b) s).take z).length=z:=by
 rw [List.length_take,uh,hl]
 have h:=(qM m hm a ha b hb).1
 generalize lM m a b=p at h
 generalize m*(m+1)/2=K at h
 have h2:(p+1)*z≤K*z:=Nat.mul_le_mul_right z h
 rw [Nat.succ_mul] at h2
 rw [Nat.mul_comm z K]
 omega
theorem mK {nd sz:Int} {s:List UInt8} (h:kp nd sz s=0):dE nd (fH nd sz s)=0∧m6 (fH nd sz s)=sz.toNat:=by
 have hC:fH nd sz s=iw (nd-1).toNat sz.toNat s:=if_pos h
 unfold kp at h
 split at h
 ·cases h
 ·rename_i h1
  split at h
  ·rename_i h2
   rw [hC]
   generalize hm:(nd-1).toNat=m
   have hm1:1≤m∧m<12:=by omega
   have hnd:nd=(m:Int)+1:=by omega
   have hl:s.length=sz.toNat*(m*(m+1)/2):=by
    have e:(nd-1)*nd/2=((m*(m+1)/2:Nat):Int):=by
     rw [hnd,show(m:Int)+1-1=(m:Int) by omega,Int.natCast_ediv,Int.natCast_mul,Int.natCast_add];rfl
    rw [e] at h2
    have:((s.length:Nat):Int)=((sz.toNat*(m*(m+1)/2):Nat):Int):=by rw [h2,Int.natCast_mul,Int.toNat_of_nonneg (by omega)]
    exact Int.ofNat_inj.1 this
   have h00:m6 (iw m sz.toNat s)=sz.toNat:=by
    show(((iw m sz.toNat s).getD 0 []).getD 0 []).length=_
    rw [iv (by omega) (by omega),mL hm1.2 hl (by omega) (by omega)]
   refine⟨?_,h00⟩
   unfold dE
   rw [if_neg (by omega),if_neg (by rw [fS];omega),if_neg,if_neg (by omega),if_neg]
   ·intro e
    have:Ga (iw m sz.toNat s) (iw m sz.toNat s).length=true:=by
     rw [fS]
     refine List.all_eq_true.2 fun a ha=>List.all_eq_true.2 fun b hb=>decide_eq_true ?_
     have ha:=List.mem_range.1 ha
     have hb:=List.mem_range.1 hb
     rw [iv ha (by omega),iv (by omega) ha,(qM m hm1.2 a ha b (by omega)).2]
    rw [this] at e;cases e
   ·intro e
    have:(iw m sz.toNat s).all (iK (iw m sz.toNat s))=true:=by
     refine List.all_eq_true.2 fun l hl'=> ?_
     obtain⟨a,ha,rfl⟩:=uG hl'
     refine qh (by rw [fS];simp) ?_ (List.all_eq_true.2 fun x hx=>decide_eq_true ?_)
     ·rw [fS]
      simp [iw,List.getD_eq_getElem?_getD,show 0<m by omega]
     ·obtain⟨b,hb,rfl⟩:=List.mem_map.1 hx
      rw [h00,mL hm1.2 hl ha (List.mem_range.1 hb)]
    rw [this] at e;cases e
  ·cases h

structure Fine (key:List UInt8) (nd:Int) (hs:List Int) (l:List (Int×List UInt8×Unit)):Prop where
 hm:l.map (·.1)=hs
 len:∀s∈l,s.2.1.length=key.length
 pol:∀k,k<key.length→∃p:List UInt8,p.length≤nd.toNat∧aB 0 p=key.getD k 0∧∀s∈l,s.2.1.getD k 0=aB (pt s.1) p
theorem xN {key:List UInt8} {nd:Int} {hs:List Int} {nz:List UInt8} (h:Spl key nd hs nz):Fine key nd hs (jK key nd hs nz) where
 hm:=by
  rw [h.l,List.map_map]
  show hs.map (fun x=>x)=hs
  exact List.map_id _
 len s hs':=(h.mem hs').2.1
 pol k hk:=⟨Ho key nz nd k,by
  have:=h.n1
  unfold Ho
  rw [List.length_cons,uy]
  omega,xA _ _,fun s hs'=>(h.mem hs').2.2 k hk⟩
def Fp (nd:Int) (cf:List Rw) (s:Int×List UInt8×Unit):Int×List UInt8×Unit:=(rq s.1 s.2.1 [rowL nd cf s.1],m7 s.1 s.2.1 [rowL nd cf s.1],())
theorem Fl {nd:Int} {cf:List Rw} (hc:dE nd cf=0) {s:Int×List UInt8×Unit} (hk:fJ s.1) (hn:s.2.1.length=m6 cf):
  nG nd cf s.1=0∧fg s.1 s.2.1 [rowL nd cf s.1]=0∧(Fp nd cf s).1=s.1∧(Fp nd cf s).2.1.length=s.2.1.length∧
  ∀k p,k<m6 cf→s.2.1.getD k 0=aB (pt s.1) p→(Fp nd cf s).2.1.getD k 0=aB (pt s.1) (cC p (0::lZ (cf.getD 0 []) k)):=by
 have D:=s6 hc
 have n2:=D.n2;have n12:=D.n12;have n3:=D.len;have nm:=D.max
 have e1:nG nd cf s.1=0:=by unfold nG;rw [if_pos hc,if_pos hk]
 have e2:rowL nd cf s.1=g9 cf s.1:=if_pos e1
 have hm:=getD_mem [] cf 0 (by omega)
 have hr0:(g9 cf s.1).getD 0 []=dy (cf.getD 0 []) (pt s.1):=pI D _ 0 (by omega)
 have hrl:=D.rows _ hm
 have hrs:=D.strs _ hm
 have hal:(dy (cf.getD 0 []) (pt s.1)).length=m6 cf:=nk _ (by omega) hrs
 have hrow:=M3 D s.1
 have hdl:(g9 cf s.1).length=cf.length:=List.length_map ..
 have hn0:n0 (g9 cf s.1)=m6 cf:=by unfold n0;rw [hr0,hal]
 have hright:av (g9 cf s.1)=true:=by
  rw [kQ (by omega) (by omega)]
  exact List.all_eq_true.2 fun x hx=>by rw [hrow x hx,hn0,decide_eq_true rfl,decide_eq_true nm];rfl
 have e3:fg s.1 s.2.1 [g9 cf s.1]=0:=by
  unfold fg
  rw [if_pos hk,if_pos (by omega),if_pos]
  rw [List.all_cons,m8 hright (by omega)];rfl
 have e4:lF s.1 s.2.1 [g9 cf s.1]=cU s.2.1 (cF (pt s.1) (dy (cf.getD 0 []) (pt s.1))):=by rw [←hr0];rfl
 refine⟨e1,by rw [e2];exact e3,?_,?_,fun k p hk' hp=> ?_⟩
 ·show rq s.1 s.2.1 [rowL nd cf s.1]=s.1
  rw [e2];exact if_pos e3
 ·show(m7 s.1 s.2.1 [rowL nd cf s.1]).length=s.2.1.length
  rw [e2,m7,if_pos e3,e4,cM,bw,hal];omega
 ·show(m7 s.1 s.2.1 [rowL nd cf s.1]).getD k 0=_
  rw [e2,m7,if_pos e3,e4,ij (by rw [bw,hal,hn]) (by omega),hp,kM (by omega),u9 hk' _ (by omega) hrs,cz]
  show _=_^^^(aI (aB (pt s.1) (lZ (cf.getD 0 []) k)) (pt s.1)^^^0)
  rw [a9 (aB _ _)]
  simp
theorem Tq (p q:List UInt8):aB 0 (cC p (0::q))=aB 0 p:=by
 rw [cz,xA];simp
theorem Oa {key:List UInt8} {nd:Int} {hs:List Int} {l:List (Int×List UInt8×Unit)} (F:Fine key nd hs l) (hk:∀x∈hs,fJ x) {cf:List Rw} (hc:dE nd cf=0) (hn:m6 cf=key.length):Fine key nd hs (l.map (Fp nd cf)):=by
 have K:∀s∈l,fJ s.1:=fun s hs'=>hk _ (by rw [←F.hm];exact List.mem_map.2 ⟨s,hs',rfl⟩)
 have U:=fun s (hs':s∈l)=>Fl hc (K s hs') (by rw [F.len s hs',hn])
 have D:=s6 hc
 have n3:=D.len;have n2:=D.n2
 refine⟨?_,fun x hx=> ?_,fun k hk'=> ?_⟩
 ·rw [List.map_map,←F.hm]
  exact List.map_congr_left fun s hs'=>(U s hs').2.2.1
 ·obtain⟨s,hs',rfl⟩:=List.mem_map.1 hx
  rw [(U s hs').2.2.2.1];exact F.len s hs'
 ·obtain⟨p,h1,h2,h3⟩:=F.pol k hk'
  refine⟨cC p (0::lZ (cf.getD 0 []) k),?_,by rw [Tq,h2],fun x hx=> ?_⟩
  ·have hrl:=D.rows _ (getD_mem [] cf 0 (by omega))
   rw [eZ,List.length_cons,iV];omega
  ·obtain⟨s,hs',rfl⟩:=List.mem_map.1 hx
   rw [(U s hs').2.2.1]
   exact(U s hs').2.2.2.2 k p (by omega) (h3 s hs')
structure Ready (key:List UInt8) (nd:Int) (hs:List Int) (l:List (Int×List UInt8×Unit)):Prop extends Fine key nd hs l where
 ok:lU hs=true
 n1:1≤nd
 n12:nd≤12
 k4:key.length≤4096
theorem Ready.chk {key:List UInt8} {nd:Int} {hs:List Int} {l:List (Int×List UInt8×Unit)} (h:Ready key nd hs l):ep l=0:=by
 refine zW (n:=key.length) (fun s hs'=>⟨qu h.ok _ (by rw [←h.hm];exact List.mem_map.2 ⟨s,hs',rfl⟩),h.len s hs'⟩) h.k4 ?_
 have:=uR h.ok
 rw [←h.hm] at this
 exact List.pairwise_map.1 this
theorem Ready.part {key:List UInt8} {nd:Int} {hs:List Int} {l:List (Int×List UInt8×Unit)} (h:Ready key nd hs l) {p:List (Int×List UInt8×Unit)} (hp:p.Sublist l):
  sU p nd=0∧(¬(p.length:Int)<nd→vK p nd=0∧Mh p nd 0=key):=by
 have hc:=sA h.chk
 have hcp:=Oz hc hp
 have h1:=h.n1;have h2:=h.n12
 refine⟨by unfold sU;rw [if_pos hcp,if_neg (by omega)],fun e=> ?_⟩
 have hln:iy p=key.length:=h.len _ (hp.subset (getD_mem (0, [],()) p 0 (by omega)))
 have hP:∀k,∃q:List UInt8,k<key.length→q.length≤nd.toNat∧aB 0 q=key.getD k 0∧∀s∈l,s.2.1.getD k 0=aB (pt s.1) q:=fun k=>by
  by_cases g:k<key.length
  ·obtain⟨q,hq⟩:=h.pol k g;exact⟨q,fun _=>hq⟩
  ·exact⟨[],fun g'=>absurd g' g⟩
 have key1:=Ea (sA hcp) h1 (by omega) (P:=fun k=>Classical.choose (hP k)) (fun k hk=>by
  obtain⟨a,b,c⟩:=Classical.choose_spec (hP k) (by omega)
  exact⟨Nat.le_trans (jU _) a,fun s hs'=>c s (hp.subset hs')⟩) 0
 refine⟨key1.1,?_⟩
 rw [key1.2,hln]
 refine Eq.trans ?_ (yk key)
 apply List.map_congr_left
 intro k hk
 exact(Classical.choose_spec (hP k) (List.mem_range.1 hk)).2.1
theorem Ready.few {key:List UInt8} {nd:Int} {hs:List Int} {l:List (Int×List UInt8×Unit)} (h:Ready key nd hs l) {p:List (Int×List UInt8×Unit)} (hp:p.Sublist l) (hl:¬nd≤(p.length:Int)) {o:List UInt8} (ho:o.length=key.length):
  ry p nd o∧vM p nd o=(nd-1-(p.length:Int))*(key.length:Int):=by
 have hr:=(h.part hp).1
 have hk4:=h.k4
 have hln:p.length=0∨iy p=o.length:=by
  rcases Nat.eq_zero_or_pos p.length with g|g
  ·exact .inl g
  ·exact .inr (by rw [ho];exact h.len _ (hp.subset (getD_mem (0, [],()) p 0 g)))
 refine⟨⟨hr,by omega,hln,.inl (by omega)⟩,?_⟩
 unfold vM
 rw [if_pos ⟨hr,by omega,hln,by omega⟩,ho]
theorem Ready.many {key:List UInt8} {nd:Int} {hs:List Int} {l:List (Int×List UInt8×Unit)} (h:Ready key nd hs l) {p:List (Int×List UInt8×Unit)} (hp:p.Sublist l) (hl:nd≤(p.length:Int)) {o:List UInt8} (ho:o.length=key.length):
  (ry p nd o↔o=key)∧vM p nd o=0:=by
 obtain⟨hr,hj⟩:=h.part hp
 obtain⟨j1,j2⟩:=hj (by omega)
 have hk4:=h.k4;have h1:=h.n1
 have hln:p.length=0∨iy p=o.length:= .inr (by rw [ho];exact h.len _ (hp.subset (getD_mem (0, [],()) p 0 (by omega))))
 refine⟨⟨fun g=> ?_,fun g=>⟨hr,by omega,hln,.inr ⟨j1,by rw [j2,g]⟩⟩⟩,?_⟩
 ·have:=(g.2.2.2.resolve_left (by omega)).2
  rw [j2] at this;exact this.symm
 ·unfold vM
  rw [if_neg (fun g=>by omega)]
theorem Ready.join {key:List UInt8} {nd:Int} {hs:List Int} {l:List (Int×List UInt8×Unit)} (h:Ready key nd hs l) {p:List (Int×List UInt8×Unit)} (hp:p.Sublist l) (hl:nd≤(p.length:Int)):Mg p nd=0∧Eb p nd 0=key:=by
 obtain⟨hr,hj⟩:=h.part hp
 obtain⟨j1,j2⟩:=hj (by omega)
 exact⟨by unfold Mg;rw [if_pos hr,j1],by unfold Eb;rw [if_pos hr,j2]⟩
theorem Ready.up {key:List UInt8} {nd:Int} {hs:List Int} {l:List (Int×List UInt8×Unit)} (h:Ready key nd hs l) {cf:List Rw} (hc:dE nd cf=0) (hn:m6 cf=key.length):Ready key nd hs (l.map (Fp nd cf)):=
 ⟨Oa h.toFine (qu h.ok) hc hn,h.ok,h.n1,h.n12,h.k4⟩
def zS (s p:List UInt8):Int:=if s.length=p.length then 0 else 1
def gR (s p:List UInt8):List UInt8:=if s.length=p.length then cU s p else []
def Si:List V→Option (Prop×V×List Blk)
 |[.str s,.str p]=>some (s.length≤1048576∧p.length≤1048576,.tup [.str (gR s p),.int .i64 (zS s p)], [])
 |_=>none
theorem aCN (s p:List UInt8):ap (En Lp tys G6 bi) Tryd.f9 [.k,.k] Si [.str s,.str p]:=by
 rintro⟨hp0,hp1⟩
 refine yn ((s.length:Int)≠(p.length:Int)) (fun h0=> ?_) fun h0=> ?_
 ·rw [show gR s p= [] from if_neg (by omega),show zS s p=1 from if_neg (by omega)]
  exact ao
 ·refine⟨⟨om (s.length≤1000000000),om (p.length≤1000000000)⟩,?_⟩
  rw [show gR s p=cU s p from if_pos (by omega),show zS s p=0 from if_pos (by omega)]
  exact ao
def Vq:List (Nat×bI):=(9,aS [.v .str,.v .str] Si)::Lp
theorem aBV:Known Tryd.prog (En Vq tys G6 bi):=X8.addQ Tryd.func9 Tryd.call9 [.k,.k] fun ds _ _ _ h=>by unfold Si at h;split at h;exact aCN _ _;cases h
end Go.Proofs.YtogipicegdbhdaaDoor.S72

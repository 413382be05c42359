/- Texts of this claim. -/
import Derived.Test.YtailffhfhekkpaaDoorS1
import Derived.Test.YtailffhfhekkpaaDoorVc11
set_option linter.unusedVariables false
set_option linter.unusedSimpArgs false
namespace Go.Proofs.YtailffhfhekkpaaDoor.S62
set_option maxHeartbeats 20000000
open Go Go.Proofs.YtailffhfhekkpaaDoor.Vc Go.Proofs
set_option maxRecDepth 100000
set_option linter.unusedVariables false
theorem aBO (sz:Int) (nz:List UInt8) (hz:0≤sz) (h1:sz≤4096) (hl:(nz.length:Int)=sz*((6:Nat):Int)):bI (En rh tys G6 [] [1000000,1000001]) Tryd.f39 [.m 1 .str,.k] [.int .i64 4,.int .i64 sz,.str nz] (.tup [.agg [.int .i64 4,.sl true (.sl .str) (mr 3 sz.toNat nz)],.int .i64 0]) []:=by
 have c:= @s7 sz nz 6 hz hl
 refine⟨fun h0=> ?_,cn ((4:Int)<2)⟩
 refine⟨fun h1=> ?_,cn ((12:Int)<4)⟩
 refine ny (sz<0) (fun h2=> ?_) fun h2=> ?_
 ·refine yn (4096<sz) (fun h3=> ?_) fun h3=> ?_
  ·omega
  ·refine⟨q,ap (sz*3),q,ap ((sz*3)*4),.inl ⟨⟨om ((0:Int)≤((sz*3)*4)),om ((0:Int)<2)⟩,?_⟩⟩
   refine yn ((nz.length:Int)≠(((sz*3)*4)/2)) (fun h4=> ?_) fun h4=> ?_
   ·omega
   ·refine⟨⟨rfl,by decide,by decide⟩,cO,.inr ?_⟩
    refine yy q ?_
    refine⟨by kernel_rfl,⟨rfl,q,q⟩,q,ri,q,yy q ?_⟩
    refine⟨by kernel_rfl,⟨rfl,q,q⟩,q,ri,q,yy q ?_⟩
    refine⟨by kernel_rfl,⟨rfl,q,q⟩,q,ri,q,nn q ?_⟩
    refine .inr (yy q ?_)
    refine .inr (yy q ?_)
    refine⟨by kernel_rfl,q,q,(c 0 q),(c 0 q),q,ww,q,ww,(c 0 q),q,yy q ?_⟩
    refine⟨by kernel_rfl,q,q,(c 1 q),(c 1 q),q,ww,q,ww,(c 1 q),q,yy q ?_⟩
    refine⟨by kernel_rfl,q,q,(c 2 q),(c 2 q),q,ww,q,ww,(c 2 q),q,nn q ?_⟩
    refine⟨q,yy q ?_⟩
    refine .inr (yy q ?_)
    refine⟨by kernel_rfl,q,q,(c 3 q),(c 3 q),q,ww,q,ww,(c 3 q),q,yy q ?_⟩
    refine⟨by kernel_rfl,q,q,(c 4 q),(c 4 q),q,ww,q,ww,(c 4 q),q,nn q ?_⟩
    refine⟨q,yy q ?_⟩
    refine .inr (yy q ?_)
    refine⟨by kernel_rfl,q,q,(c 5 q),(c 5 q),q,ww,q,ww,(c 5 q),q,nn q ?_⟩
    refine⟨q,nn q ?_⟩
    refine⟨cO,?_⟩
    exact H9 (v:= .tup [.agg [.int .i64 4,.sl true (.sl .str) (mr 3 sz.toNat nz)],.int .i64 0]) (by kernel_rfl)
 ·omega
theorem aBN (sz:Int) (nz:List UInt8) (hz:0≤sz) (h1:sz≤4096) (hl:(nz.length:Int)=sz*((10:Nat):Int)):bI (En rh tys G6 [] [1000000,1000001]) Tryd.f39 [.m 1 .str,.k] [.int .i64 5,.int .i64 sz,.str nz] (.tup [.agg [.int .i64 5,.sl true (.sl .str) (mr 4 sz.toNat nz)],.int .i64 0]) []:=by
 have c:= @s7 sz nz 10 hz hl
 refine⟨fun h0=> ?_,cn ((5:Int)<2)⟩
 refine⟨fun h1=> ?_,cn ((12:Int)<5)⟩
 refine ny (sz<0) (fun h2=> ?_) fun h2=> ?_
 ·refine yn (4096<sz) (fun h3=> ?_) fun h3=> ?_
  ·omega
  ·refine⟨q,ap (sz*4),q,ap ((sz*4)*5),.inl ⟨⟨om ((0:Int)≤((sz*4)*5)),om ((0:Int)<2)⟩,?_⟩⟩
   refine yn ((nz.length:Int)≠(((sz*4)*5)/2)) (fun h4=> ?_) fun h4=> ?_
   ·omega
   ·refine⟨⟨rfl,by decide,by decide⟩,cO,.inr ?_⟩
    refine yy q ?_
    refine⟨by kernel_rfl,⟨rfl,om ((0:Int)≤4),om (4≤(1000000000:Int))⟩,q,ri,q,yy q ?_⟩
    refine⟨by kernel_rfl,⟨rfl,om ((0:Int)≤4),om (4≤(1000000000:Int))⟩,q,ri,q,yy q ?_⟩
    refine⟨by kernel_rfl,⟨rfl,om ((0:Int)≤4),om (4≤(1000000000:Int))⟩,q,ri,q,yy q ?_⟩
    refine⟨by kernel_rfl,⟨rfl,om ((0:Int)≤4),om (4≤(1000000000:Int))⟩,q,ri,q,nn q ?_⟩
    refine .inr (yy q ?_)
    refine .inr (yy q ?_)
    refine⟨by kernel_rfl,q,q,(c 0 q),(c 0 q),q,ww,q,ww,(c 0 q),q,yy q ?_⟩
    refine⟨by kernel_rfl,q,q,(c 1 q),(c 1 q),q,ww,q,ww,(c 1 q),q,yy q ?_⟩
    refine⟨by kernel_rfl,q,q,(c 2 q),(c 2 q),q,ww,q,ww,(c 2 q),q,yy q ?_⟩
    refine⟨by kernel_rfl,q,q,(c 3 q),(c 3 q),q,ww,q,ww,(c 3 q),q,nn q ?_⟩
    refine⟨q,yy q ?_⟩
    refine .inr (yy q ?_)
    refine⟨by kernel_rfl,q,q,(c 4 q),(c 4 q),q,ww,q,ww,(c 4 q),q,yy q ?_⟩
    refine⟨by kernel_rfl,q,q,(c 5 q),(c 5 q),q,ww,q,ww,(c 5 q),q,yy q ?_⟩
    refine⟨by kernel_rfl,q,q,(c 6 q),(c 6 q),q,ww,q,ww,(c 6 q),q,nn q ?_⟩
    refine⟨q,yy q ?_⟩
    refine .inr (yy q ?_)
    refine⟨by kernel_rfl,q,q,(c 7 q),(c 7 q),q,ww,q,ww,(c 7 q),q,yy q ?_⟩
    refine⟨by kernel_rfl,q,q,(c 8 q),(c 8 q),q,ww,q,ww,(c 8 q),q,nn q ?_⟩
    refine⟨q,yy q ?_⟩
    refine .inr (yy q ?_)
    refine⟨by kernel_rfl,q,q,(c 9 q),(c 9 q),q,ww,q,ww,(c 9 q),q,nn q ?_⟩
    refine⟨q,nn q ?_⟩
    refine⟨cO,?_⟩
    exact H9 (v:= .tup [.agg [.int .i64 5,.sl true (.sl .str) (mr 4 sz.toNat nz)],.int .i64 0]) (by kernel_rfl)
 ·omega
theorem aBM (sz:Int) (nz:List UInt8) (hz:0≤sz) (h1:sz≤4096) (hl:(nz.length:Int)=sz*((15:Nat):Int)):bI (En rh tys G6 [] [1000000,1000001]) Tryd.f39 [.m 1 .str,.k] [.int .i64 6,.int .i64 sz,.str nz] (.tup [.agg [.int .i64 6,.sl true (.sl .str) (mr 5 sz.toNat nz)],.int .i64 0]) []:=by
 have c:= @s7 sz nz 15 hz hl
 refine⟨fun h0=> ?_,cn ((6:Int)<2)⟩
 refine⟨fun h1=> ?_,cn ((12:Int)<6)⟩
 refine ny (sz<0) (fun h2=> ?_) fun h2=> ?_
 ·refine yn (4096<sz) (fun h3=> ?_) fun h3=> ?_
  ·omega
  ·refine⟨q,ap (sz*5),q,ap ((sz*5)*6),.inl ⟨⟨om ((0:Int)≤((sz*5)*6)),om ((0:Int)<2)⟩,?_⟩⟩
   refine yn ((nz.length:Int)≠(((sz*5)*6)/2)) (fun h4=> ?_) fun h4=> ?_
   ·omega
   ·refine⟨⟨rfl,by decide,by decide⟩,cO,.inr ?_⟩
    refine yy q ?_
    refine⟨by kernel_rfl,⟨rfl,om ((0:Int)≤5),om (5≤(1000000000:Int))⟩,q,ri,q,yy q ?_⟩
    refine⟨by kernel_rfl,⟨rfl,om ((0:Int)≤5),om (5≤(1000000000:Int))⟩,q,ri,q,yy q ?_⟩
    refine⟨by kernel_rfl,⟨rfl,om ((0:Int)≤5),om (5≤(1000000000:Int))⟩,q,ri,q,yy q ?_⟩
    refine⟨by kernel_rfl,⟨rfl,om ((0:Int)≤5),om (5≤(1000000000:Int))⟩,q,ri,q,yy q ?_⟩
    refine⟨by kernel_rfl,⟨rfl,om ((0:Int)≤5),om (5≤(1000000000:Int))⟩,q,ri,q,nn q ?_⟩
    refine .inr (yy q ?_)
    refine .inr (yy q ?_)
    refine⟨by kernel_rfl,q,q,(c 0 q),(c 0 q),q,ww,q,ww,(c 0 q),q,yy q ?_⟩
    refine⟨by kernel_rfl,q,q,(c 1 q),(c 1 q),q,ww,q,ww,(c 1 q),q,yy q ?_⟩
    refine⟨by kernel_rfl,q,q,(c 2 q),(c 2 q),q,ww,q,ww,(c 2 q),q,yy q ?_⟩
    refine⟨by kernel_rfl,q,q,(c 3 q),(c 3 q),q,ww,q,ww,(c 3 q),q,yy q ?_⟩
    refine⟨by kernel_rfl,q,q,(c 4 q),(c 4 q),q,ww,q,ww,(c 4 q),q,nn q ?_⟩
    refine⟨q,yy q ?_⟩
    refine .inr (yy q ?_)
    refine⟨by kernel_rfl,q,q,(c 5 q),(c 5 q),q,ww,q,ww,(c 5 q),q,yy q ?_⟩
    refine⟨by kernel_rfl,q,q,(c 6 q),(c 6 q),q,ww,q,ww,(c 6 q),q,yy q ?_⟩
    refine⟨by kernel_rfl,q,q,(c 7 q),(c 7 q),q,ww,q,ww,(c 7 q),q,yy q ?_⟩
    refine⟨by kernel_rfl,q,q,(c 8 q),(c 8 q),q,ww,q,ww,(c 8 q),q,nn q ?_⟩
    refine⟨q,yy q ?_⟩
    refine .inr (yy q ?_)
    refine⟨by kernel_rfl,q,q,(c 9 q),(c 9 q),q,ww,q,ww,(c 9 q),q,yy q ?_⟩
    refine⟨by kernel_rfl,q,q,(c 10 q),(c 10 q),q,ww,q,ww,(c 10 q),q,yy q ?_⟩
    refine⟨by kernel_rfl,q,q,(c 11 q),(c 11 q),q,ww,q,ww,(c 11 q),q,nn q ?_⟩
    refine⟨q,yy q ?_⟩
    refine .inr (yy q ?_)
    refine⟨by kernel_rfl,q,q,(c 12 q),(c 12 q),q,ww,q,ww,(c 12 q),q,yy q ?_⟩
    refine⟨by kernel_rfl,q,q,(c 13 q),(c 13 q),q,ww,q,ww,(c 13 q),q,nn q ?_⟩
    refine⟨q,yy q ?_⟩
    refine .inr (yy q ?_)
    refine⟨by kernel_rfl,q,q,(c 14 q),(c 14 q),q,ww,q,ww,(c 14 q),q,nn q ?_⟩
    refine⟨q,nn q ?_⟩
    refine⟨cO,?_⟩
    exact H9 (v:= .tup [.agg [.int .i64 6,.sl true (.sl .str) (mr 5 sz.toNat nz)],.int .i64 0]) (by kernel_rfl)
 ·omega
theorem aBL (sz:Int) (nz:List UInt8) (hz:0≤sz) (h1:sz≤4096) (hl:(nz.length:Int)=sz*((21:Nat):Int)):bI (En rh tys G6 [] [1000000,1000001]) Tryd.f39 [.m 1 .str,.k] [.int .i64 7,.int .i64 sz,.str nz] (.tup [.agg [.int .i64 7,.sl true (.sl .str) (mr 6 sz.toNat nz)],.int .i64 0]) []:=by
 have c:= @s7 sz nz 21 hz hl
 refine⟨fun h0=> ?_,cn ((7:Int)<2)⟩
 refine⟨fun h1=> ?_,cn ((12:Int)<7)⟩
 refine ny (sz<0) (fun h2=> ?_) fun h2=> ?_
 ·refine yn (4096<sz) (fun h3=> ?_) fun h3=> ?_
  ·omega
  ·refine⟨q,ap (sz*6),q,ap ((sz*6)*7),.inl ⟨⟨om ((0:Int)≤((sz*6)*7)),om ((0:Int)<2)⟩,?_⟩⟩
   refine yn ((nz.length:Int)≠(((sz*6)*7)/2)) (fun h4=> ?_) fun h4=> ?_
   ·omega
   ·refine⟨⟨rfl,by decide,by decide⟩,cO,.inr ?_⟩
    refine yy q ?_
    refine⟨by kernel_rfl,⟨rfl,om ((0:Int)≤6),om (6≤(1000000000:Int))⟩,q,ri,q,yy q ?_⟩
    refine⟨by kernel_rfl,⟨rfl,om ((0:Int)≤6),om (6≤(1000000000:Int))⟩,q,ri,q,yy q ?_⟩
    refine⟨by kernel_rfl,⟨rfl,om ((0:Int)≤6),om (6≤(1000000000:Int))⟩,q,ri,q,yy q ?_⟩
    refine⟨by kernel_rfl,⟨rfl,om ((0:Int)≤6),om (6≤(1000000000:Int))⟩,q,ri,q,yy q ?_⟩
    refine⟨by kernel_rfl,⟨rfl,om ((0:Int)≤6),om (6≤(1000000000:Int))⟩,q,ri,q,yy q ?_⟩
    refine⟨by kernel_rfl,⟨rfl,om ((0:Int)≤6),om (6≤(1000000000:Int))⟩,q,ri,q,nn q ?_⟩
    refine .inr (yy q ?_)
    refine .inr (yy q ?_)
    refine⟨by kernel_rfl,q,q,(c 0 q),(c 0 q),q,ww,q,ww,(c 0 q),q,yy q ?_⟩
    refine⟨by kernel_rfl,q,q,(c 1 q),(c 1 q),q,ww,q,ww,(c 1 q),q,yy q ?_⟩
    refine⟨by kernel_rfl,q,q,(c 2 q),(c 2 q),q,ww,q,ww,(c 2 q),q,yy q ?_⟩
    refine⟨by kernel_rfl,q,q,(c 3 q),(c 3 q),q,ww,q,ww,(c 3 q),q,yy q ?_⟩
    refine⟨by kernel_rfl,q,q,(c 4 q),(c 4 q),q,ww,q,ww,(c 4 q),q,yy q ?_⟩
    refine⟨by kernel_rfl,q,q,(c 5 q),(c 5 q),q,ww,q,ww,(c 5 q),q,nn q ?_⟩
    refine⟨q,yy q ?_⟩
    refine .inr (yy q ?_)
    refine⟨by kernel_rfl,q,q,(c 6 q),(c 6 q),q,ww,q,ww,(c 6 q),q,yy q ?_⟩
    refine⟨by kernel_rfl,q,q,(c 7 q),(c 7 q),q,ww,q,ww,(c 7 q),q,yy q ?_⟩
    refine⟨by kernel_rfl,q,q,(c 8 q),(c 8 q),q,ww,q,ww,(c 8 q),q,yy q ?_⟩
    refine⟨by kernel_rfl,q,q,(c 9 q),(c 9 q),q,ww,q,ww,(c 9 q),q,yy q ?_⟩
    refine⟨by kernel_rfl,q,q,(c 10 q),(c 10 q),q,ww,q,ww,(c 10 q),q,nn q ?_⟩
    refine⟨q,yy q ?_⟩
    refine .inr (yy q ?_)
    refine⟨by kernel_rfl,q,q,(c 11 q),(c 11 q),q,ww,q,ww,(c 11 q),q,yy q ?_⟩
    refine⟨by kernel_rfl,q,q,(c 12 q),(c 12 q),q,ww,q,ww,(c 12 q),q,yy q ?_⟩
    refine⟨by kernel_rfl,q,q,(c 13 q),(c 13 q),q,ww,q,ww,(c 13 q),q,yy q ?_⟩
    refine⟨by kernel_rfl,q,q,(c 14 q),(c 14 q),q,ww,q,ww,(c 14 q),q,nn q ?_⟩
    refine⟨q,yy q ?_⟩
    refine .inr (yy q ?_)
    refine⟨by kernel_rfl,q,q,(c 15 q),(c 15 q),q,ww,q,ww,(c 15 q),q,yy q ?_⟩
    refine⟨by kernel_rfl,q,q,(c 16 q),(c 16 q),q,ww,q,ww,(c 16 q),q,yy q ?_⟩
    refine⟨by kernel_rfl,q,q,(c 17 q),(c 17 q),q,ww,q,ww,(c 17 q),q,nn q ?_⟩
    refine⟨q,yy q ?_⟩
    refine .inr (yy q ?_)
    refine⟨by kernel_rfl,q,q,(c 18 q),(c 18 q),q,ww,q,ww,(c 18 q),q,yy q ?_⟩
    refine⟨by kernel_rfl,q,q,(c 19 q),(c 19 q),q,ww,q,ww,(c 19 q),q,nn q ?_⟩
    refine⟨q,yy q ?_⟩
    refine .inr (yy q ?_)
    refine⟨by kernel_rfl,q,q,(c 20 q),(c 20 q),q,ww,q,ww,(c 20 q),q,nn q ?_⟩
    refine⟨q,nn q ?_⟩
    refine⟨cO,?_⟩
    exact H9 (v:= .tup [.agg [.int .i64 7,.sl true (.sl .str) (mr 6 sz.toNat nz)],.int .i64 0]) (by kernel_rfl)
 ·omega
def sMk:List V→Option (Prop×V×List Blk)
 |[.int .i64 nd,.int .i64 sz,.str nz]=>some (nd≤7,.tup [.agg [.int .i64 (oj nd sz nz),.sl true (.sl .str) (kz nd sz nz)],.int .i64 (oM nd sz nz)], [])
 |_=>none
theorem bMk (nd sz:Int) (nz:List UInt8) (hp0:nd≤7):bI (En rh tys G6 [] [1000000,1000001]) Tryd.f39 [.m 1 .str,.k] [.int .i64 nd,.int .i64 sz,.str nz] (.tup [.agg [.int .i64 (oj nd sz nz),.sl true (.sl .str) (kz nd sz nz)],.int .i64 (oM nd sz nz)]) []:=by
 by_cases hn:nd<2∨12<nd∨sz<0∨4096<sz
 ·obtain⟨e1,e2,e3⟩:=Z8 (s:=nz) hn
  rw [e1,e2,e3];exact aBR nd sz nz hn
 ·by_cases hl:(nz.length:Int)=sz*(((nd-1)*nd)/2)
  ·obtain⟨e1,e2,e3⟩:=aAA hn hl
   rw [e1,e2,e3]
   obtain rfl|rfl|rfl|rfl|rfl|rfl:nd=2∨nd=3∨nd=4∨nd=5∨nd=6∨nd=7:=by omega
   ·exact aBQ sz nz (by omega) (by omega) (by omega)
   ·exact aBP sz nz (by omega) (by omega) (by omega)
   ·exact aBO sz nz (by omega) (by omega) (by omega)
   ·exact aBN sz nz (by omega) (by omega) (by omega)
   ·exact aBM sz nz (by omega) (by omega) (by omega)
   ·exact aBL sz nz (by omega) (by omega) (by omega)
  ·obtain⟨e1,e2,e3⟩:=Z9 hn hl
   rw [e1,e2,e3]
   obtain⟨p1,p2,p3⟩:=Lz (nd:=nd) (sz:=sz) (by omega) (by omega) (by omega) (by omega)
   exact aBK nd sz nz (by omega) (by omega) (by omega) (by omega) p1 p2 (by rw [p3];exact hl)
def CMk:List (Nat×bW):=(39,aW [.v (.int .i64),.v (.int .i64),.v .str] sMk)::rh
theorem kMk:Known Tryd.prog (En CMk tys G6 []):=Known.frz0<|(aAH.frz [1000000,1000001]).add Tryd.func39 Tryd.call39 [.m 1 .str,.k] fun ds p v bs h hp=>by
 unfold sMk at h
 split at h<;>simp only [Option.some.injEq,Prod.mk.injEq,reduceCtorEq] at h
 obtain⟨rfl,rfl,rfl⟩:=h
 exact bMk _ _ _ hp
theorem Gb (cf:List Rw) (h:Int):(iV cf h).length=cf.length:=List.length_map ..
theorem P3 (a b:List UInt8) (d:Int):(lF a b d).1.length≤2*a.length+3:=by
 unfold lF
 split
 ·split
  ·simp
  ·split
   ·exact Nat.zero_le _
   ·have:=vP a b
    split<;>simp<;>omega
 ·simp
def xs' (f:Nat→UInt8):Nat→UInt8
 |0=>0
 |n+1=>xs' f n^^^f n
theorem dD {f g:Nat→UInt8}:∀{n:Nat},(∀i,i<n→f i=g i)→xs' f n=xs' g n
 |0,_=>rfl
 |n+1,h=>by
  show xs' f n^^^f n=xs' g n^^^g n
  rw [dD fun i hi=>h i (by omega),h n (by omega)]
theorem tI:∀(n:Nat),xs' (fun _=>0) n=0
 |0=>rfl
 |n+1=>by
  show xs' _ n^^^0=0
  rw [tI n];rfl
theorem El (f g:Nat→UInt8):∀n,xs' (fun i=>f i^^^g i) n=xs' f n^^^xs' g n
 |0=>by simp [xs']
 |n+1=>by
  show xs' _ n^^^(f n^^^g n)=(xs' f n^^^f n)^^^(xs' g n^^^g n)
  rw [El f g n];ac_rfl
theorem pY (c:UInt8) (f:Nat→UInt8):∀n,xs' (fun i=>aI c (f i)) n=aI c (xs' f n)
 |0=>(bB c).symm
 |n+1=>by
  show xs' _ n^^^aI c (f n)=aI c (xs' f n^^^f n)
  rw [pY c f n,cx]
theorem tJ (f:Nat→Nat→UInt8) (m:Nat):∀n,xs' (fun i=>xs' (f i) m) n=xs' (fun j=>xs' (fun i=>f i j) n) m
 |0=>(tI m).symm
 |n+1=>by
  show xs' (fun i=>xs' (f i) m) n^^^xs' (f n) m=_
  rw [tJ f m n,←El]
  rfl
def pw (x:UInt8):Nat→UInt8
 |0=>1
 |n+1=>aI x (pw x n)
theorem vI (f:Nat→UInt8):∀n,xs' f (n+1)=f 0^^^xs' (fun i=>f (i+1)) n
 |0=>by show(0:UInt8)^^^f 0=f 0^^^0;simp
 |n+1=>by
  show xs' f (n+1)^^^f (n+1)=f 0^^^(xs' (fun i=>f (i+1)) n^^^f (n+1))
  rw [vI f n];ac_rfl
theorem nS (x:UInt8):∀(p:List UInt8) (n:Nat),p.length≤n→aB x p=xs' (fun i=>aI (co p i) (pw x i)) n
 |[],n,_=>by
  rw [show(fun i=>aI (co [] i) (pw x i))=fun _=>0 from funext fun i=>by rw [rR,bJ],tI];rfl
 |c::p,0,h=>by simp at h
 | c::p,n+1,h=>by
  rw [vI]
  show aI (aB x p) x^^^c=aI c (pw x 0)^^^_
  rw [show pw x 0=1 from rfl,mF,nS x p n (by simpa using h),bC _ x,←pY,UInt8.xor_comm]
  congr 1
  exact dD fun i _=>by
   show aI x (aI (co p i) (pw x i))=aI (co p i) (aI x (pw x i))
   ac_rfl
def lX (l:Rw) (k:Nat):List UInt8:=l.map fun s=>s.getD k 0
theorem iv (l:Rw) (k:Nat):(lX l k).length=l.length:=List.length_map ..
theorem Jf (l:Rw) (k i:Nat):co (lX l k) i=(l.getD i []).getD k 0:=by
 unfold co lX
 rw [List.getD_eq_getElem?_getD,List.getElem?_map,List.getD_eq_getElem?_getD (l:=l)]
 cases l[i]? <;>rfl
theorem kQ {c:UInt8} {s:List UInt8} {k:Nat} (h:k<s.length):(cR c s).getD k 0=aI c (s.getD k 0):=by
 simp [cR,m9,List.getD_eq_getElem?_getD,h]
theorem lz {a b:List UInt8} {k:Nat} (hl:a.length=b.length) (h:k<a.length):(eK a b).getD k 0=a.getD k 0^^^b.getD k 0:=by
 unfold eK
 rw [if_neg (by omega)]
 simp [vU,vT,List.getD_eq_getElem?_getD,h,hl▸h]
theorem pM {a b:List UInt8} {N:Nat} (ha:a.length=N) (hb:b.length=N) (h:∀k,k<N→a.getD k 0=b.getD k 0):a=b:=by
 apply List.ext_getElem (by omega)
 intro i h1 h2
 have:=h i (by omega)
 simpa [List.getD_eq_getElem?_getD,h1,h2] using this
theorem nh {x:UInt8} {N:Nat}:∀(l:Rw),1≤l.length→(∀s∈l,s.length=N)→(oZ l x).length=N
 |[],h,_=>by simp at h
 |[s],_,h=>h s (by simp)
 |s::t::r,_,h=>by
  rw [oZ,fa,cD,nh (t::r) (by simp) fun y hy=>h y (by simp [hy]),h s (by simp)]
  omega
theorem u5 {x:UInt8} {N k:Nat} (hk:k<N):∀(l:Rw),1≤l.length→(∀s∈l,s.length=N)→(oZ l x).getD k 0=aB x (lX l k)
 |[],h,_=>by simp at h
 |[s],_,h=>by
  show s.getD k 0=aI 0 x^^^s.getD k 0
  rw [bJ];simp
 |s::t::r,_,h=>by
  have hl:=nh (x:=x) (t::r) (by simp) fun y hy=>h y (by simp [hy])
  have hs:=h s (by simp)
  rw [oZ,lz (by rw [cD];omega) (by rw [cD];omega),kQ (by omega),u5 hk (t::r) (by simp) fun y hy=>h y (by simp [hy]),bC]
  rfl
theorem Ls {nd:Int} {cf:List Rw} (h:Deal nd cf) (x:Int):∀s∈iV cf x,s.length=oi cf:=fun s hs=>by
 obtain⟨l,hl,rfl⟩:=List.mem_map.1 hs
 have:=h.rows l hl
 have h2:=h.n2
 have h3:=h.len
 exact nh l (by omega) (h.strs l hl)
theorem zy {nd:Int} {cf:List Rw} (h:Deal nd cf) (x:Int) (i:Nat) (hi:i<cf.length):(iV cf x).getD i []=oZ (cf.getD i []) (pt x):=by
 simp [iV,List.getD_eq_getElem?_getD,hi]
theorem Lr {nd:Int} {cf:List Rw} (h:Deal nd cf) (x y:Int) (j:Nat) (hj:j<oi cf):aB (pt y) (lX (iV cf x) j)=aB (pt x) (lX (iV cf y) j):=by
 have key:∀x y:Int,aB (pt y) (lX (iV cf x) j)=xs' (fun a=>xs' (fun b=>aI (aI (((cf.getD a []).getD b []).getD j 0) (pw (pt x) b)) (pw (pt y) a)) cf.length) cf.length:=fun x y=>by
  rw [nS _ _ cf.length (by rw [iv,Gb];omega)]
  refine dD fun a ha=> ?_
  have hm:=az [] cf a ha
  have hr:=h.rows _ hm
  have h2:=h.n2
  have h3:=h.len
  rw [Jf,zy h x a ha,u5 hj _ (by omega) (h.strs _ hm),nS _ _ cf.length (by rw [iv];omega),bC,←pY]
  exact dD fun b _=>by rw [Jf,bC]
 rw [key x y,key y x,tJ]
 exact dD fun b hb=>dD fun a ha=>by
  rw [h.sym a b ha hb];ac_rfl
theorem yc {h:Nat} (hh:h<12):(pt (h:Int)).toNat=h+1:=by
 unfold pt
 rw [show(((h:Int)+1)%256).toNat=h+1 by omega]
 simp;omega
theorem Q4 {a b:Nat} (ha:a<12) (hb:b<12) (h:pt (a:Int)=pt (b:Int)):a=b:=by
 have:=congrArg UInt8.toNat h
 rw [yc ha,yc hb] at this;omega
def xx (xs:List UInt8) (k:Nat):List UInt8:=fM xs (vK xs.length k)
def yv (xs:List UInt8) (v:Nat→UInt8):Nat→List UInt8
 |0=> []
 |n+1=>dS [yv xs v n,(xx xs n).map (aI (v n))]
theorem E0 (m k:Nat):(vK m k).length=m:=by simp [vK]
theorem E3 (m k i:Nat) (hi:i<m):(vK m k).getD i 0=if i=k then 1 else 0:=by
 unfold vK
 rw [List.getD_eq_getElem?_getD,List.getElem?_set]
 by_cases e:k=i
 ·subst e;simp [hi]
 ·rw [if_neg e,if_neg (fun h=>e h.symm)]
  simp [hi]
theorem mL (xs:List UInt8) (v:Nat→UInt8) (z:UInt8):∀n,aB z (yv xs v n)=xs' (fun k=>aI (aB z (xx xs k)) (v k)) n
 |0=>rfl
 |n+1=>by
  show aB z (dS [_,_])=xs' _ n^^^aI (aB z (xx xs n)) (v n)
  rw [dk,mL xs v z n,jK,bC]
theorem Fb (c:UInt8) (p:List UInt8):sz (p.map (aI c))≤sz p:=pp fun i hi=>by rw [zJ,eJ p i hi,bB]
theorem uK (xs:List UInt8) (v:Nat→UInt8):∀n,sz (yv xs v n)≤xs.length
 |0=>Nat.zero_le _
 |n+1=>iQ _ _ _ (uK xs v n) (Nat.le_trans (Fb _ _) (ot _ _))
theorem Mt (xs:List UInt8) (hn:xs.Nodup) (k i:Nat) (hi:i<xs.length):aB (xs.getD i 0) (xx xs k)=if i=k then 1 else 0:=by
 unfold xx
 rw [pn xs _ ⟨hn,(E0 _ _).symm⟩ i hi,E3 _ _ _ hi]
theorem ze (g:Nat→UInt8) (i:Nat):∀n,xs' (fun k=>aI (if i=k then 1 else 0) (g k)) n=if i<n then g i else 0
 |0=>rfl
 | n+1=>by
  show xs' _ n^^^aI (if i=n then 1 else 0) (g n)=_
  rw [ze g i n]
  by_cases e:i=n
  ·subst e;rw [if_neg (by omega),if_pos rfl,if_pos (by omega),ju];simp
  ·rw [if_neg e,bJ]
   by_cases h:i<n
   ·rw [if_pos h,if_pos (by omega)];simp
   ·rw [if_neg h,if_neg (by omega)];rfl
theorem A4 (xs:List UInt8) (hn:xs.Nodup) (v:Nat→UInt8) (i:Nat) (hi:i<xs.length):aB (xs.getD i 0) (yv xs v xs.length)=v i:=by
 rw [mL,show(fun k=>aI (aB (xs.getD i 0) (xx xs k)) (v k))=fun k=>aI (if i=k then 1 else 0) (v k) from funext fun k=>by rw [Mt xs hn k i hi],ze,if_pos hi]
theorem Mv (xs:List UInt8) (hn:xs.Nodup) (q:List UInt8) (hq:sz q≤xs.length) (v:Nat→UInt8) (hv:∀k,k<xs.length→v k=aB (xs.getD k 0) q):aF (yv xs v xs.length)=aF q:=by
 refine dE xs _ _ hn (fun x hx=> ?_) (uK _ _ _) hq
 obtain⟨i,hi,rfl⟩:=List.mem_iff_getElem.1 hx
 have e:xs.getD i 0=xs[i]:=by simp [List.getD_eq_getElem?_getD,hi]
 rw [←e,A4 xs hn v i hi,hv i hi]
theorem uJ (xs:List UInt8) (hn:xs.Nodup) (q:List UInt8) (hq:sz q≤xs.length) (z:UInt8):aB z q=xs' (fun k=>aI (aB z (xx xs k)) (aB (xs.getD k 0) q)) xs.length:=by
 rw [←mL,←ao z (yv _ _ _),Mv xs hn q hq _ fun k _=>rfl,ao]
def sH (s:(Int×List UInt8×Unit)):Bool:=decide (s.2.1.length≤4096)
def jF (l:List (Int×List UInt8×Unit)):Nat:=(l.getD 0 (0, [],())).2.1.length
def V0 (l:List (Int×List UInt8×Unit)) (k:Nat):Prop:=gG (l.getD k (0, [],())).1∧(k=0∨(l.getD (k-1) (0, [],())).1<(l.getD k (0, [],())).1)∧(l.getD k (0, [],())).2.1.length=jF l
instance (l:List (Int×List UInt8×Unit)) (k:Nat):Decidable (V0 l k):=by unfold V0;infer_instance
def Mj (l:List (Int×List UInt8×Unit)) (k:Nat):Bool:=decide (V0 l k)
def fK (l:List (Int×List UInt8×Unit)):Int:=if 12<l.length∨l.all sH=false then 2 else if(List.range l.length).all (Mj l)=true then 0 else 1
structure ShOk (l:List (Int×List UInt8×Unit)):Prop where
 len:l.length≤12
 max:jF l≤4096
 bytes:∀s∈l,s.2.1.length=jF l
 house:∀s∈l,gG s.1
 up:∀k,k+1<l.length→(l.getD k (0, [],())).1<(l.getD (k+1) (0, [],())).1
theorem W7 {l:List (Int×List UInt8×Unit)} (h:12<l.length∨l.all sH=false):fK l=2:=if_pos h
theorem Nr {l:List (Int×List UInt8×Unit)} (h1:¬12<l.length) (h2:¬l.all sH=false) {k:Nat} (hk:k<l.length) (h:¬V0 l k):fK l=1:=by
 unfold fK
 rw [if_neg (fun e=>e.elim h1 h2),if_neg]
 rw [jp hk (show Mj l k=false from decide_eq_false h)];decide
theorem Po {l:List (Int×List UInt8×Unit)} (h1:¬12<l.length) (h2:¬l.all sH=false) (h:(List.range l.length).all (Mj l)=true):fK l=0:=by
 unfold fK
 rw [if_neg (fun e=>e.elim h1 h2),if_pos h]
theorem Jl {l:List (Int×List UInt8×Unit)} (h:fK l=0):ShOk l:=by
 unfold fK at h
 split at h
 ·cases h
 ·rename_i h1
  split at h
  ·rename_i h2
   have h3:∀k,k<l.length→V0 l k:=fun k hk=>of_decide_eq_true (List.all_eq_true.1 h2 k (List.mem_range.2 hk))
   have h4:∀s∈l,s.2.1.length≤4096:=fun s hs=>of_decide_eq_true (nr (fun e=>h1 (.inr e)) s hs)
   refine⟨Nat.le_of_not_lt fun e=>h1 (.inl e),?_,fun s hs=> ?_,fun s hs=> ?_,fun k hk=> ?_⟩
   ·rcases Nat.eq_zero_or_pos l.length with g|g
    ·have:=List.eq_nil_of_length_eq_zero g;subst this;simp [jF]
    ·exact h4 _ (az (0, [],()) l 0 g)
   ·obtain⟨k,hk,rfl⟩:=fq (d:=(0, [],())) hs
    exact(h3 k hk).2.2
   ·obtain⟨k,hk,rfl⟩:=fq (d:=(0, [],())) hs
    exact(h3 k hk).1
   ·have:=(h3 (k+1) hk).2.1
    rcases this with g|g
    ·omega
    ·simpa using g
  ·cases h
theorem Ai {l:List (Int×List UInt8×Unit)} {k:Nat} (h:∀j,j<k→Mj l j=true) (hk:Mj l k=true):∀j,j<k+1→Mj l j=true:=fun j hj=>by
 rcases Nat.lt_or_eq_of_le (Nat.le_of_lt_succ hj) with g|g
 ·exact h j g
 ·rw [g];exact hk
theorem Sp {l:List (Int×List UInt8×Unit)} {k:Nat} (h1:¬12<l.length) (h2:¬l.all sH=false) (h:∀j,j<k→Mj l j=true) (hk:l.length≤k):fK l=0:=
 Po h1 h2 (List.all_eq_true.2 fun j hj=>h j (by have:=List.mem_range.1 hj;omega))
theorem Aj {l:List (Int×List UInt8×Unit)} {k:Nat} (h1:gG (l.getD k (0, [],())).1) (h2:k=0∨¬(l.getD k (0, [],())).1≤(l.getD ((k:Int)-1).toNat (0, [],())).1) (h3:¬(((l.getD k (0, [],())).2.1.length:Nat):Int)≠(((l.getD 0 (0, [],())).2.1.length:Nat):Int)):Mj l k=true:=by
 refine decide_eq_true ⟨h1,?_,by unfold jF;omega⟩
 rcases h2 with h|h
 ·exact .inl h
 ·rw [show((k:Int)-1).toNat=k-1 by omega] at h;exact .inr (by omega)
def Rr (l:List (Int×List UInt8×Unit)):Int:=if l.all sH=true then -1 else((l.takeWhile sH).length:Int)
theorem lv {α:Type} {p:α→Bool} {d:α}:∀{l:List α} {k:Nat},k<l.length→(l.take k).all p=true→p (l.getD k d)=false→(l.takeWhile p).length=k
 |[],k,h,_,_=>by simp at h
 |x::l,0,_,_,h=>by
  have h:p x=false:=h
  simp [List.takeWhile,h]
 |x::l,k+1,hk,ha,h=>by
  simp only [List.take_succ_cons,List.all_cons,Bool.and_eq_true] at ha
  rw [List.takeWhile_cons,if_pos ha.1,List.length_cons,lv (by simpa using hk) ha.2 (by simpa using h)]
theorem E9 {α:Type} {p:α→Bool} {d:α} {l:List α} {k:Nat} (hk:k<l.length) (h:(l.take k).all p=true) (hp:p (l.getD k d)=true):(l.take (k+1)).all p=true:=by
 rw [oC d l k hk,List.all_append,h];show(true&&(p (l.getD k d)&&true))=true;rw [hp];rfl
theorem E8 {α:Type} {p:α→Bool} {d:α} {l:List α} {k:Nat} (hk:k<l.length) (hp:p (l.getD k d)=false):l.all p=false:=by
 rw [List.all_eq_false]
 exact⟨_,az d l k hk,by rw [hp];decide⟩
theorem Rq {l:List (Int×List UInt8×Unit)} {k:Nat} (hk:k<l.length) (hc:(l.take k).all sH=true) (h:sH (l.getD k (0, [],()))=false):Rr l=(k:Int):=by
 unfold Rr
 rw [if_neg (by rw [E8 hk h];decide),lv hk hc h]
theorem My {l:List (Int×List UInt8×Unit)} {k:Nat} (hk:l.length≤k) (hc:(l.take k).all sH=true):Rr l= -1:=by
 rw [List.take_of_length_le hk] at hc
 exact if_pos hc
theorem Rp (l:List (Int×List UInt8×Unit)):0≤Rr l↔l.all sH=false:=by
 unfold Rr
 split
 ·rename_i h;rw [h];constructor<;>intro g
  ·omega
  ·cases g
 ·rename_i h;exact⟨fun _=>by simpa using h,fun _=>by omega⟩

def kx (l:List (Int×List UInt8×Unit)):List UInt8:=l.map fun s=>pt s.1
def ln (l:List (Int×List UInt8×Unit)) (k:Nat):List UInt8:=l.map fun s=>s.2.1.getD k 0
theorem fW (l:List (Int×List UInt8×Unit)):(kx l).length=l.length:=List.length_map ..
theorem zd (l:List (Int×List UInt8×Unit)) (k:Nat):(ln l k).length=l.length:=List.length_map ..
def xF (l:List (Int×List UInt8×Unit)) (i:Nat):UInt8:=pt (l.getD i (0, [],())).1
def yF (l:List (Int×List UInt8×Unit)) (k:Nat) (i:Nat):UInt8:=(l.getD i (0, [],())).2.1.getD k 0
theorem kW {α β:Type} (d:α) (f:α→β) (l:List α):(List.range l.length).map (fun i=>f (l.getD i d))=l.map f:=by
 apply List.ext_getElem
 ·simp
 ·intro i h1 h2
  simp at h2
  simp [List.getElem?_eq_getElem h2]
theorem Lh (l:List (Int×List UInt8×Unit)):dA (xF l) l.length l.length=kx l:=by rw [kB];exact kW (0, [],()) (fun s=>pt s.1) l
theorem Lf (l:List (Int×List UInt8×Unit)) (k:Nat):dA (yF l k) l.length l.length=ln l k:=by rw [kB];exact kW (0, [],()) (fun s=>s.2.1.getD k 0) l

def Yq (hs:List Int) (k:Nat):Prop:=gG (hs.getD k 0)∧(k=0∨hs.getD (k-1) 0<hs.getD k 0)
instance (hs:List Int) (k:Nat):Decidable (Yq hs k):=by unfold Yq;infer_instance
def Pf (hs:List Int) (k:Nat):Bool:=decide (Yq hs k)
def nR (hs:List Int):Bool:=(List.range hs.length).all (Pf hs)
def gb (sec:List UInt8) (nd:Int) (hs:List Int) (nz:List UInt8):Int:=
 if 4096<sec.length then 2 else if nd<1∨12<nd then 3 else if(hs.length:Int)<nd then 1 else if nR hs=false then 1 else if(nz.length:Int)=(sec.length:Int)*(nd-1) then 0 else 1
def Nt (nz:List UInt8) (n m k:Nat):List UInt8:=(List.range m).map fun a=>nz.getD (a*n+k) 0
def kM (nz:List UInt8) (n m:Nat) (x:UInt8) (j:Nat):List UInt8:=(List.range n).map fun k=>aI (aB x ((Nt nz n m k).drop j)) x
def K5 (sec nz:List UInt8) (m:Nat) (x:UInt8):List UInt8:=(List.range sec.length).map fun k=>aB x (sec.getD k 0::Nt nz sec.length m k)
def Ov (sec:List UInt8) (nd:Int) (nz:List UInt8) (h:Int):(Int×List UInt8×Unit):=(h,K5 sec nz (nd-1).toNat (pt h),())
def kt (sec:List UInt8) (nd:Int) (hs:List Int) (nz:List UInt8):List (Int×List UInt8×Unit):=if gb sec nd hs nz=0 then hs.map (Ov sec nd nz) else []
theorem uu (nz:List UInt8) (n m k:Nat):(Nt nz n m k).length=m:=by simp [Nt]
theorem Ns {nz:List UInt8} {n m k a:Nat} (h:a<m):(Nt nz n m k).getD a 0=nz.getD (a*n+k) 0:=by
 simp [Nt,List.getElem?_map,List.getElem?_range h]
theorem ew (nz:List UInt8) (n m:Nat) (x:UInt8) (j:Nat):(kM nz n m x j).length=n:=by simp [kM]
theorem zu (sec nz:List UInt8) (m:Nat) (x:UInt8):(K5 sec nz m x).length=sec.length:=by simp [K5]
theorem cy {f:Nat→UInt8} {n k:Nat} (h:k<n):((List.range n).map f).getD k 0=f k:=by
 simp [List.getElem?_map,List.getElem?_range h]
theorem N9 (nz:List UInt8) (n m:Nat) (x:UInt8):kM nz n m x m=List.replicate n 0:=by
 apply pM (ew ..) (List.length_replicate ..)
 intro k hk
 rw [kM,cy hk,List.drop_of_length_le (by rw [uu];exact Nat.le_refl _),aB,bJ]
 simp [hk]
theorem Ka {nz:List UInt8} {n m:Nat} {x:UInt8} {j:Nat} (hj:j<m) (hn:nz.length=n*m) {c:List UInt8} (hc:c=(nz.drop (j*n)).take n):cR x (eK (kM nz n m x (j+1)) c)=kM nz n m x j:=by
 have hle:(j+1)*n≤nz.length:=by rw [hn,Nat.mul_comm n m];exact Nat.mul_le_mul_right n hj
 have hcl:c.length=n:=by rw [hc,List.length_take,List.length_drop];rw [Nat.succ_mul] at hle;omega
 have hsl:(eK (kM nz n m x (j+1)) c).length=n:=by rw [fa,ew,hcl];omega
 refine pM (by rw [cD,hsl]) (ew ..) fun k hk=> ?_
 rw [kQ (by omega),lz (by rw [ew,hcl]) (by rw [ew];exact hk)]
 unfold kM
 rw [cy hk,cy hk,oU x (Nt nz n m k) j (by rw [uu];exact hj),Ns hj,bC x]
 have:c.getD k 0=nz.getD (j*n+k) 0:=by
  rw [hc,List.getD_eq_getElem?_getD,List.getD_eq_getElem?_getD,List.getElem?_take,if_pos hk,List.getElem?_drop]
 rw [this]
theorem Oa {sec nz:List UInt8} {m:Nat} {x:UInt8}:eK (kM nz sec.length m x 0) sec=K5 sec nz m x:=by
 refine pM (by rw [fa,ew];omega) (zu ..) fun k hk=> ?_
 rw [lz (ew ..) (by rw [ew];exact hk)]
 unfold kM K5
 rw [cy hk,cy hk,List.drop_zero]
 rfl

def nH (sec:List UInt8) (nd:Int) (hs:List Int) (nz:List UInt8) (k:Nat):List (Int×List UInt8×Unit):=(List.range hs.length).map fun i=>if i<k then Ov sec nd nz (hs.getD i 0) else(0, [],())
theorem L8 (sec:List UInt8) (nd:Int) (hs:List Int) (nz:List UInt8) (k:Nat):(nH sec nd hs nz k).length=hs.length:=by simp [nH]
theorem G4 (sec:List UInt8) (nd:Int) (hs:List Int) (nz:List UInt8):nH sec nd hs nz 0=List.replicate hs.length (0, [],()):=by
 apply List.ext_getElem
 ·simp [nH]
 ·intro i h1 h2;simp [nH]
theorem L6 {sec:List UInt8} {nd:Int} {hs:List Int} {nz:List UInt8} {k:Nat} (h:k<hs.length) {x:(Int×List UInt8×Unit)} (hx:x=Ov sec nd nz (hs.getD k 0)):(nH sec nd hs nz k).set k x=nH sec nd hs nz (k+1):=by
 subst hx
 apply List.ext_getElem
 ·simp [nH]
 ·intro i h1 h2
  rw [List.getElem_set]
  simp only [nH,List.getElem_map,List.getElem_range]
  by_cases e:k=i
  ·subst e;simp
  ·rw [if_neg e]
   by_cases g:i<k
   ·rw [if_pos g,if_pos (by omega)]
   ·rw [if_neg g,if_neg (by omega)]
theorem L9 {sec:List UInt8} {nd:Int} {hs:List Int} {nz:List UInt8} {k:Nat} (h:hs.length≤k):nH sec nd hs nz k=hs.map (Ov sec nd nz):=by
 rw [←kW 0 (Ov sec nd nz) hs]
 apply List.map_congr_left
 intro i hi
 rw [List.mem_range] at hi
 rw [if_pos (by omega)]
theorem mN {l:List Int} {k:Nat} (h:∀j,j<k→Pf l j=true) (hk:Pf l k=true):∀j,j<k+1→Pf l j=true:=fun j hj=>by
 rcases Nat.lt_or_eq_of_le (Nat.le_of_lt_succ hj) with g|g
 ·exact h j g
 ·rw [g];exact hk
theorem Ru {l:List Int} {k:Nat} (h:∀j,j<k→Pf l j=true) (hk:l.length≤k):nR l=true:=List.all_eq_true.2 fun j hj=>h j (by have:=List.mem_range.1 hj;omega)
theorem nQ {l:List Int} {k:Nat} (h:¬Yq l k) (hk:k<l.length):nR l=false:=jp hk (show Pf l k=false from decide_eq_false h)
theorem yz {l:List Int} (h:nR l=true) {k:Nat} (hk:k<l.length):gG (l.getD k 0)∧(k=0∨l.getD (k-1) 0<l.getD k 0):=of_decide_eq_true (List.all_eq_true.1 h k (List.mem_range.2 hk))
theorem Im {l:List Int} {k:Nat} (h1:gG (l.getD k 0)) (h2:k=0∨¬l.getD k 0≤l.getD ((k:Int)-1).toNat 0):Pf l k=true:=by
 refine decide_eq_true ⟨h1,?_⟩
 rcases h2 with h|h
 ·exact .inl h
 ·rw [show((k:Int)-1).toNat=k-1 by omega] at h;exact .inr (by omega)
theorem yr {a b:Int} {A B:Nat} (ha:0≤a) (hA:a≤A) (hb:0≤b) (hB:b≤B):0≤a*b∧a*b≤((A*B:Nat):Int):=by
 obtain⟨x,rfl⟩:=Int.eq_ofNat_of_zero_le ha
 obtain⟨y,rfl⟩:=Int.eq_ofNat_of_zero_le hb
 have:=Nat.mul_le_mul (Int.ofNat_le.1 hA) (Int.ofNat_le.1 hB)
 rw [←Int.natCast_mul]
 exact⟨Int.natCast_nonneg _,Int.ofNat_le.2 this⟩

def vF (l:List (Int×List UInt8×Unit)) (nd:Int):Int:=if(l.length:Int)<nd then 29 else if(List.range (jF l)).all (fun k=>decide ((lF (kx l) (ln l k) (nd-1)).2=0))=true then 0 else 14
def K9 (l:List (Int×List UInt8×Unit)) (nd:Int) (x:UInt8) (k:Nat):List UInt8:=(List.range k).map fun i=>aB x (lF (kx l) (ln l i) (nd-1)).1
def K8 (l:List (Int×List UInt8×Unit)) (nd:Int) (x:UInt8):List UInt8:=if vF l nd=0 then K9 l nd x (jF l) else []
theorem Mw (l:List (Int×List UInt8×Unit)) (nd:Int) (x:UInt8) (k:Nat):(K9 l nd x k).length=k:=by simp [K9]
theorem Ib (l:List (Int×List UInt8×Unit)) (nd:Int) (x:UInt8) (k:Nat):K9 l nd x (k+1)=K9 l nd x k++ [aB x (lF (kx l) (ln l k) (nd-1)).1]:=by unfold K9;rw [List.range_succ,List.map_append];rfl
def sO (l:List (Int×List UInt8×Unit)) (nd:Int):Int:=if fK l=0 then(if nd<1∨12<nd then 3 else 0) else fK l
theorem rd0 {l:List (Int×List UInt8×Unit)} {nd:Int} (h:sO l nd=0):fK l=0∧1≤nd∧nd≤12:=by
 unfold sO at h
 split at h
 ·rename_i h1
  split at h
  ·cases h
  ·exact⟨h1,by omega,by omega⟩
 ·rename_i h1;exact absurd h h1
def Rn (l:List (Int×List UInt8×Unit)) (nd:Int):Int:=if sO l nd=0 then vF l nd else sO l nd
def Up (l:List (Int×List UInt8×Unit)) (nd:Int) (x:UInt8):List UInt8:=if sO l nd=0 then K8 l nd x else []
def Bg (l:List (Int×List UInt8×Unit)) (nd:Int) (s:List UInt8):Int:=if sO l nd=0∧s.length≤4096∧(l.length=0∨jF l=s.length)∧0≤nd-1-(l.length:Int) then(nd-1-(l.length:Int))*(s.length:Int) else 0
def xB (l:List (Int×List UInt8×Unit)) (nd:Int) (s:List UInt8):Prop:=sO l nd=0∧s.length≤4096∧(l.length=0∨jF l=s.length)∧(0≤nd-1-(l.length:Int)∨(vF l nd=0∧K8 l nd 0=s))
instance (l:List (Int×List UInt8×Unit)) (nd:Int) (s:List UInt8):Decidable (xB l nd s):=by unfold xB;infer_instance
theorem aAr {l:List (Int×List UInt8×Unit)} {nd:Int} (h:(l.length:Int)<nd):vF l nd=29:=if_pos h
theorem aAs {l:List (Int×List UInt8×Unit)} {nd:Int} (h:¬(l.length:Int)<nd) {k:Nat} (hk:k<jF l) (hb:(lF (kx l) (ln l k) (nd-1)).2≠0):vF l nd=14:=by
 unfold vF
 rw [if_neg h,if_neg]
 rw [jp hk (decide_eq_false hb)]
 decide
theorem jn0 {l:List (Int×List UInt8×Unit)} {nd:Int} (h:¬(l.length:Int)<nd) (ha:∀k,k<jF l→(lF (kx l) (ln l k) (nd-1)).2=0):vF l nd=0:=by
 unfold vF
 rw [if_neg h,if_pos (List.all_eq_true.2 fun k hk=>decide_eq_true (ha k (List.mem_range.1 hk)))]
theorem Wq {l:List (Int×List UInt8×Unit)} {nd:Int} {x:UInt8} (h:vF l nd=0):K8 l nd x=K9 l nd x (jF l):=if_pos h
theorem Wp {l:List (Int×List UInt8×Unit)} {nd:Int} {x:UInt8} (h:vF l nd≠0):K8 l nd x= []:=if_neg h
theorem Ll {P:Nat→Prop} {k:Nat} (h:∀j,j<k→P j) (hk:P k):∀j,j<k+1→P j:=fun j hj=>by
 rcases Nat.lt_or_eq_of_le (Nat.le_of_lt_succ hj) with g|g
 ·exact h j g
 ·rw [g];exact hk

def Fz:List V→Option (Prop×V×List Blk)
 |[.agg [.int .i64 h,.str s]]=>some (True,.b (sH (h,s,())=false), [])
 |_=>none
theorem Xm (h:Int) (s:List UInt8):bH (En CMk tys G6 []) Tryd.f67 [.k] Fz [.agg [.int .i64 h,.str s]]:=by
 intro _
 exact⟨rfl,rfl,congrArg V.b (propext (by show _↔decide (s.length≤4096)=false;rw [decide_eq_false_iff_not];constructor<;>intro g<;>omega)),rfl⟩
def Kv:List (Nat×bW):=(67,aW [.v (.cons (.int .i64) (.cons .str .nil))] Fz)::CMk
theorem Wg:Known Tryd.prog (En Kv tys G6 []):=kMk.addQ Tryd.func67 Tryd.call67 [.k] fun ds _ _ _ h=>by unfold Fz at h;split at h;exact Xm _ _;cases h
theorem Xs (l:List (Int×(List UInt8×Unit))) (hp0:l.length≤1048576):bI (En Kv tys G6 []) Tryd.f80 [.k] [.sl false (.cons (.int .i64) (.cons .str .nil)) l,.fn 67 []] (.int .i64 (Rr l)) []:=by
 refine⟨0, [(0,.k),(1,.k),(7,.k),(8,.k)],fun nM vs H=>∃(k:Nat),k≤l.length∧(l.take k).all sH=true∧nM=l.length-k∧vs= [.sl false (.cons (.int .i64) (.cons .str .nil)) l,.fn 67 [],.i (l.length:Int),.i k]∧H= [],⟨rfl,l.length,0,by omega,rfl,by omega,rfl,rfl⟩,?_⟩
 rintro nM vs H ⟨k,hc1_0,hc1_1,rfl,rfl,rfl⟩
 refine yn ((k:Int)<(l.length:Int)) (fun h0=> ?_) fun h0=> ?_
 ·have hk:k<l.length:=by omega
  refine⟨ix k l.length,rfl,trivial,yn (sH (((l.getD k (0,([],()))).1),(((l.getD k (0,([],()))).2).1),())=false) (fun h1=> ?_) fun h1=> ?_⟩
  ·rw [Rq hk hc1_1 h1]
   exact a6
  ·have hok:sH (l.getD k (0, [],()))=true:=by simpa using h1
   refine⟨ap (k+1),?_⟩
   exact⟨rfl,l.length-(k+1),by omega,k+1,by omega,E9 hk hc1_1 hok,rfl,rfl,rfl⟩
 ·rw [My (by omega) hc1_1]
  exact a6
def Vn:List V→Option (Prop×V×List Blk)
 |[.sl false (.cons (.int .i64) (.cons .str .nil)) l,.fn 67 []]=>some (l.length≤1048576,.int .i64 (Rr l), [])
 |_=>none
def Tv:List (Nat×bW):=(80,aW [.v (.sl (.cons (.int .i64) (.cons .str .nil))),.fn [(67, [])]] Vn)::Kv
theorem aAY:Known Tryd.prog (En Tv tys G6 []):=Wg.add Tryd.func80 Tryd.call80 [.k] fun ds p v bs h hp=>by
 unfold Vn at h
 split at h<;>simp only [Option.some.injEq,Prod.mk.injEq,reduceCtorEq] at h
 ·obtain⟨rfl,rfl,rfl⟩:=h
  exact Xs _ hp
theorem X2 (l:List (Int×(List UInt8×Unit))) (hp0:l.length≤1048576):bI (En Tv tys G6 []) Tryd.f66 [.k] [.sl false (.cons (.int .i64) (.cons .str .nil)) l,.fn 67 []] (.b (l.all sH=false)) []:=by
 refine⟨om (l.length≤1048576),?_⟩
 exact⟨rfl,rfl,congrArg V.b (propext (Rp l)),rfl⟩
def Vv:List V→Option (Prop×V×List Blk)
 |[.sl false (.cons (.int .i64) (.cons .str .nil)) l,.fn 67 []]=>some (l.length≤1048576,.b (l.all sH=false), [])
 |_=>none
def Uf:List (Nat×bW):=(66,aW [.v (.sl (.cons (.int .i64) (.cons .str .nil))),.fn [(67, [])]] Vv)::Tv
theorem aAl:Known Tryd.prog (En Uf tys G6 []):=aAY.add Tryd.func66 Tryd.call66 [.k] fun ds p v bs h hp=>by
 unfold Vv at h
 split at h<;>simp only [Option.some.injEq,Prod.mk.injEq,reduceCtorEq] at h
 ·obtain⟨rfl,rfl,rfl⟩:=h
  exact X2 _ hp
def Fv:List V→Option (Prop×V×List Blk)
 |[.int .i64 h]=>some (True,.b (gG h), [])
 |_=>none
theorem Xg (h:Int):bH (En Uf tys G6 []) Tryd.f32 [.k] Fv [.int .i64 h]:=by
 intro _
 refine yn (0≤h) (fun h0=> ?_) fun h0=> ?_
 ·exact⟨rfl,rfl,congrArg V.b (propext (by unfold gG;constructor<;>intro g<;>first|omega|exact Bool.noConfusion g|(exfalso;omega))),rfl⟩
 ·exact⟨rfl,rfl,congrArg V.b (propext (by unfold gG;constructor<;>intro g<;>first|omega|exact Bool.noConfusion g|(exfalso;omega))),rfl⟩
def Kq:List (Nat×bW):=(32,aW [.v (.int .i64)] Fv)::Uf
theorem Wa:Known Tryd.prog (En Kq tys G6 []):=aAl.addQ Tryd.func32 Tryd.call32 [.k] fun ds _ _ _ h=>by unfold Fv at h;split at h;exact Xg _;cases h
def Ft:List V→Option (Prop×V×List Blk)
 |[.int .i64 h]=>some (0≤h∧h<1000000,.u8 (pt h), [])
 |_=>none
theorem Xe (h:Int):bH (En Kq tys G6 []) Tryd.f34 [.k] Ft [.int .i64 h]:=by
 rintro⟨hp0,hp1⟩
 refine⟨ap (h+1),?_⟩
 exact a6
def Kn:List (Nat×bW):=(34,aW [.v (.int .i64)] Ft)::Kq
theorem V8:Known Tryd.prog (En Kn tys G6 []):=Wa.addQ Tryd.func34 Tryd.call34 [.k] fun ds _ _ _ h=>by unfold Ft at h;split at h;exact Xe _;cases h
def F3:List V→Option (Prop×V×List Blk)
 |[.sl false (.cons (.int .i64) (.cons .str .nil)) l]=>some (l.length≤1048576,.int .i64 (fK l), [])
 |_=>none
theorem Xn (l:List (Int×(List UInt8×Unit))):bH (En Kn tys G6 []) Tryd.f48 [.k] F3 [.sl false (.cons (.int .i64) (.cons .str .nil)) l]:=by
 intro hp0
 refine ny (12<(l.length:Int)) (fun h0=> ?_) fun h0=> ?_
 ·refine⟨om (l.length≤1048576),yn (l.all sH=false) (fun h1=> ?_) fun h1=> ?_⟩
  ·rw [W7 (.inr h1)]
   exact a6
  ·refine⟨0, [(0,.k),(12,.k),(13,.k),(14,.k)],fun nM vs H=>∃(k:Nat),k≤l.length∧(∀j,j<k→Mj l j=true)∧nM=l.length-k∧vs= [.sl false (.cons (.int .i64) (.cons .str .nil)) l,.sl false (.cons (.int .i64) (.cons .str .nil)) l,.i (l.length:Int),.i k]∧H= [],⟨rfl,l.length,0,by omega,fun j h=>absurd h (Nat.not_lt_zero j),by omega,rfl,rfl⟩,?_⟩
   rintro nM vs H ⟨k,hc1_0,hc1_1,rfl,rfl,rfl⟩
   refine yn ((k:Int)<(l.length:Int)) (fun h2=> ?_) fun h2=> ?_
   ·have hk:k<l.length:=by omega
    refine⟨ix k l.length,cO,by kernel_rfl,rfl,trivial,ny (¬(gG ((l.getD k (0,([],()))).1))) (fun h3=> ?_) fun h3=> ?_⟩
    ·refine⟨fun h4=> ?_,cn (¬(gG ((l.getD k (0,([],()))).1)))⟩
     refine⟨fun h5=> ?_,cn (¬(gG ((l.getD k (0,([],()))).1)))⟩
     refine yn (0<(k:Int)) (fun h6=> ?_) fun h6=> ?_
     ·refine⟨fun h7=> ?_,cp (0<(k:Int))⟩
      refine⟨fun h8=> ?_,cp (0<(k:Int))⟩
      refine⟨ap (k-1),fun h9=> ?_,cp (0<(k:Int))⟩
      refine⟨ix (k-1) l.length,fun h10=> ?_,cp (0<(k:Int))⟩
      refine⟨fun h11=> ?_,cp (0<(k:Int))⟩
      refine⟨fun h12=> ?_,cp (0<(k:Int))⟩
      refine⟨fun h13=> ?_,cp (0<(k:Int))⟩
      refine⟨fun h14=> ?_,cp (0<(k:Int))⟩
      refine⟨fun h15=> ?_,cn (¬(gG ((l.getD k (0,([],()))).1)))⟩
      refine⟨fun h16=> ?_,cp (0<(k:Int))⟩
      refine⟨cn (¬(gG ((l.getD k (0,([],()))).1))),fun h17=> ?_⟩
      refine ny (((l.getD k (0,([],()))).1)≤((l.getD (((k:Int)-1).toNat) (0,([],()))).1)) (fun h18=> ?_) fun h18=> ?_
      ·refine⟨fun h19=> ?_,cn (((l.getD k (0,([],()))).1)≤((l.getD (((k:Int)-1).toNat) (0,([],()))).1))⟩
       refine⟨fun h20=> ?_,cn (((l.getD k (0,([],()))).1)≤((l.getD (((k:Int)-1).toNat) (0,([],()))).1))⟩
       refine⟨fun h21=> ?_,cn (((l.getD k (0,([],()))).1)≤((l.getD (((k:Int)-1).toNat) (0,([],()))).1))⟩
       refine⟨fun h22=> ?_,cn (((l.getD k (0,([],()))).1)≤((l.getD (((k:Int)-1).toNat) (0,([],()))).1))⟩
       refine⟨ix 0 l.length,fun h23=> ?_,cn (((l.getD k (0,([],()))).1)≤((l.getD (((k:Int)-1).toNat) (0,([],()))).1))⟩
       refine⟨fun h24=> ?_,cn (((l.getD k (0,([],()))).1)≤((l.getD (((k:Int)-1).toNat) (0,([],()))).1))⟩
       refine⟨fun h25=> ?_,cn (((l.getD k (0,([],()))).1)≤((l.getD (((k:Int)-1).toNat) (0,([],()))).1))⟩
       refine⟨fun h26=> ?_,cn (((l.getD k (0,([],()))).1)≤((l.getD (((k:Int)-1).toNat) (0,([],()))).1))⟩
       refine⟨cn (((l.getD k (0,([],()))).1)≤((l.getD (((k:Int)-1).toNat) (0,([],()))).1)),fun h27=> ?_⟩
       refine yn ((((((l.getD k (0,([],()))).2).1).length:Nat):Int)≠(((((l.getD 0 (0,([],()))).2).1).length:Nat):Int)) (fun h28=> ?_) fun h28=> ?_
       ·have e:fK l=1:=Nr (by omega) h1 hk (fun g=>by have:=g.2.2;unfold jF at this;omega)
        rw [e]
        exact a6
       ·have hok:=Aj (l:=l) (nw h3) (.inr h18) h28
        refine⟨ap (k+1),?_⟩
        exact⟨rfl,l.length-(k+1),by omega,k+1,by omega,Ai hc1_1 hok,rfl,rfl,rfl⟩
      ·refine⟨cp (((l.getD k (0,([],()))).1)≤((l.getD (((k:Int)-1).toNat) (0,([],()))).1)),fun h29=> ?_⟩
       refine⟨cp (((l.getD k (0,([],()))).1)≤((l.getD (((k:Int)-1).toNat) (0,([],()))).1)),fun h30=> ?_⟩
       refine⟨cp (((l.getD k (0,([],()))).1)≤((l.getD (((k:Int)-1).toNat) (0,([],()))).1)),fun h31=> ?_⟩
       refine⟨cp (((l.getD k (0,([],()))).1)≤((l.getD (((k:Int)-1).toNat) (0,([],()))).1)),fun h32=> ?_⟩
       refine⟨cp (((l.getD k (0,([],()))).1)≤((l.getD (((k:Int)-1).toNat) (0,([],()))).1)),fun h33=> ?_⟩
       refine⟨cp (((l.getD k (0,([],()))).1)≤((l.getD (((k:Int)-1).toNat) (0,([],()))).1)),fun h34=> ?_⟩
       refine⟨cp (((l.getD k (0,([],()))).1)≤((l.getD (((k:Int)-1).toNat) (0,([],()))).1)),fun h35=> ?_⟩
       refine⟨cp (((l.getD k (0,([],()))).1)≤((l.getD (((k:Int)-1).toNat) (0,([],()))).1)),fun h36=> ?_⟩
       refine⟨fun h37=> ?_,cp (((l.getD k (0,([],()))).1)≤((l.getD (((k:Int)-1).toNat) (0,([],()))).1))⟩
       have e:fK l=1:=Nr (by omega) h1 hk (fun g=>by rw [show((k:Int)-1).toNat=k-1 by omega] at h18;have:=g.2.1;omega)
       rw [e]
       exact a6
     ·refine⟨cn (0<(k:Int)),fun h38=> ?_⟩
      refine⟨cn (0<(k:Int)),fun h39=> ?_⟩
      refine⟨cn (0<(k:Int)),fun h40=> ?_⟩
      refine⟨cn (0<(k:Int)),fun h41=> ?_⟩
      refine⟨cn (0<(k:Int)),fun h42=> ?_⟩
      refine⟨cn (0<(k:Int)),fun h43=> ?_⟩
      refine⟨cn (0<(k:Int)),fun h44=> ?_⟩
      refine⟨cn (0<(k:Int)),fun h45=> ?_⟩
      refine⟨fun h46=> ?_,cn (¬(gG ((l.getD k (0,([],()))).1)))⟩
      refine⟨cn (0<(k:Int)),fun h47=> ?_⟩
      refine⟨cn (¬(gG ((l.getD k (0,([],()))).1))),fun h48=> ?_⟩
      refine⟨ix 0 l.length,yn ((((((l.getD k (0,([],()))).2).1).length:Nat):Int)≠(((((l.getD 0 (0,([],()))).2).1).length:Nat):Int)) (fun h49=> ?_) fun h49=> ?_⟩
      ·have e:fK l=1:=Nr (by omega) h1 hk (fun g=>by have:=g.2.2;unfold jF at this;omega)
       rw [e]
       exact a6
      ·have hok:=Aj (l:=l) (nw h3) (.inl (by omega)) h49
       refine⟨ap (k+1),?_⟩
       exact⟨rfl,l.length-(k+1),by omega,k+1,by omega,Ai hc1_1 hok,rfl,rfl,rfl⟩
    ·refine⟨cp (¬(gG ((l.getD k (0,([],()))).1))),fun h50=> ?_⟩
     refine⟨cp (¬(gG ((l.getD k (0,([],()))).1))),fun h51=> ?_⟩
     refine⟨cp (¬(gG ((l.getD k (0,([],()))).1))),fun h52=> ?_⟩
     refine⟨fun h53=> ?_,cp (¬(gG ((l.getD k (0,([],()))).1)))⟩
     have e:fK l=1:=Nr (by omega) h1 hk (fun g=>h3 g.1)
     rw [e]
     exact a6
   ·rw [Sp (by omega) h1 hc1_1 (by omega)]
    exact a6
 ·rw [W7 (.inl (by omega))]
  exact a6
def Kw:List (Nat×bW):=(48,aW [.v (.sl (.cons (.int .i64) (.cons .str .nil)))] F3)::Kn
theorem Wh:Known Tryd.prog (En Kw tys G6 []):=V8.addQ Tryd.func48 Tryd.call48 [.k] fun ds _ _ _ h=>by unfold F3 at h;split at h;exact Xn _;cases h
def Fp:List V→Option (Prop×V×List Blk)
 |[.str s,.int .i64 nd,.sl false (.int .i64) hs,.str nz]=>some (s.length≤1048576∧hs.length≤1048576∧nz.length≤1048576,.tup [.own (.cons (.int .i64) (.cons .str .nil)) 0,.int .i64 (gb s nd hs nz)], [.row true (.cons (.int .i64) (.cons .str .nil)) (kt s nd hs nz)])
 |_=>none
theorem Xc (s:List UInt8) (nd:Int) (hs:List Int) (nz:List UInt8):bH (En Kw tys G6 []) Tryd.f11 [.o (.cons (.int .i64) (.cons .str .nil)),.k] Fp [.str s,.int .i64 nd,.sl false (.int .i64) hs,.str nz]:=by
 rintro⟨hp0,hp1,hp2⟩
 refine yn (4096<(s.length:Int)) (fun h0=> ?_) fun h0=> ?_
 ·have e:gb s nd hs nz=2:=by unfold gb;rw [if_pos (by omega)]
  rw [kt,if_neg (by rw [e];decide),e]
  exact a6
 ·refine ny (nd<1) (fun h1=> ?_) fun h1=> ?_
  ·refine yn (12<nd) (fun h2=> ?_) fun h2=> ?_
   ·have e:gb s nd hs nz=3:=by unfold gb;rw [if_neg (by omega:¬4096<s.length),if_pos (by omega)]
    rw [kt,if_neg (by rw [e];decide),e]
    exact a6
   ·refine yn ((hs.length:Int)<nd) (fun h3=> ?_) fun h3=> ?_
    ·have e:gb s nd hs nz=1:=by unfold gb;rw [if_neg (by omega:¬4096<s.length),if_neg (by omega:¬(nd<1∨12<nd)),if_pos (by omega)]
     rw [kt,if_neg (by rw [e];decide),e]
     exact a6
    ·refine⟨0, [(0,.k),(1,.k),(2,.k),(3,.k),(10,.k),(35,.k),(36,.k),(37,.k)],fun nM vs H=>∃(k:Nat),k≤hs.length∧(∀j,j<k→Pf hs j=true)∧nM=hs.length-k∧vs= [.str s,.i nd,.sl false (.int .i64) hs,.str nz,.i (s.length:Int),.sl false (.int .i64) hs,.i (hs.length:Int),.i k]∧H= [],⟨rfl,hs.length,0,by omega,fun j h=>absurd h (Nat.not_lt_zero j),by omega,rfl,rfl⟩,?_⟩
     rintro nM vs H ⟨k,hc1_0,hc1_1,rfl,rfl,rfl⟩
     refine yn ((k:Int)<(hs.length:Int)) (fun h4=> ?_) fun h4=> ?_
     ·have hk:k<hs.length:=by omega
      refine⟨ix k hs.length,rfl,trivial,ny (¬(gG (hs.getD k 0))) (fun h5=> ?_) fun h5=> ?_⟩
      ·refine yn (0<(k:Int)) (fun h6=> ?_) fun h6=> ?_
       ·refine⟨ap (k-1),ix (k-1) hs.length,yn ((hs.getD k 0)≤(hs.getD (((k:Int)-1).toNat) 0)) (fun h7=> ?_) fun h7=> ?_⟩
        ·have hf:nR hs=false:=nQ (fun g=>by rw [show((k:Int)-1).toNat=k-1 by omega] at h7;have:=g.2;omega) hk
         have e:gb s nd hs nz=1:=by unfold gb;rw [if_neg (by omega:¬4096<s.length),if_neg (by omega:¬(nd<1∨12<nd)),if_neg (by omega:¬(hs.length:Int)<nd),if_pos hf]
         rw [kt,if_neg (by rw [e];decide),e]
         exact a6
        ·have hok:=Im (l:=hs) (nw h5) (.inr h7)
         refine⟨ap (k+1),?_⟩
         exact⟨rfl,hs.length-(k+1),by omega,k+1,by omega,mN hc1_1 hok,rfl,rfl,rfl⟩
       ·have hok:=Im (l:=hs) (nw h5) (.inl (by omega))
        refine⟨ap (k+1),?_⟩
        exact⟨rfl,hs.length-(k+1),by omega,k+1,by omega,mN hc1_1 hok,rfl,rfl,rfl⟩
      ·have hf:nR hs=false:=nQ (fun g=>h5 g.1) hk
       have e:gb s nd hs nz=1:=by unfold gb;rw [if_neg (by omega:¬4096<s.length),if_neg (by omega:¬(nd<1∨12<nd)),if_neg (by omega:¬(hs.length:Int)<nd),if_pos hf]
       rw [kt,if_neg (by rw [e];decide),e]
       exact a6
     ·have hso:=Ru hc1_1 (by omega)
      obtain⟨hm1,hm2⟩:=yr (a:=(s.length:Int)) (b:=nd-1) (A:=4096) (B:=11) (by omega) (by omega) (by omega) (by omega)
      refine⟨ap (nd-1),ap ((s.length:Int)*(nd-1)),yn ((nz.length:Int)≠((s.length:Int)*(nd-1))) (fun h8=> ?_) fun h8=> ?_⟩
      ·have e:gb s nd hs nz=1:=by unfold gb;rw [if_neg (by omega:¬4096<s.length),if_neg (by omega:¬(nd<1∨12<nd)),if_neg (by omega:¬(hs.length:Int)<nd),if_neg (by rw [hso];decide),if_neg h8]
       rw [kt,if_neg (by rw [e];decide),e]
       exact a6
      ·have hn:nz.length=s.length*(nd-1).toNat:=Int.ofNat_inj.1 (by rw [Int.natCast_mul,Int.toNat_of_nonneg (by omega)];exact nw h8)
       refine⟨⟨rfl,om ((0:Int)≤(hs.length:Int)),om ((hs.length:Int)≤(1000000000:Int))⟩,0, [(0,.k),(1,.k),(3,.k),(10,.k),(13,.o (.cons (.int .i64) (.cons .str .nil))),(69,.k),(70,.k),(71,.k)],fun nM vs H=>∃(k:Nat),k≤hs.length∧nM=hs.length-k∧vs= [.str s,.int .i64 nd,.str nz,.int .i64 (s.length:Int),.own (.cons (.int .i64) (.cons .str .nil)) 0,.sl false (.int .i64) hs,.int .i64 (hs.length:Int),.int .i64 (k:Int)]∧H= [.row true (.cons (.int .i64) (.cons .str .nil)) (nH s nd hs nz k)],⟨rfl,hs.length,0,by omega,by omega,rfl,by rw [G4];rfl⟩,?_⟩
       rintro nM vs H ⟨k,hc2_0,rfl,rfl,rfl⟩
       have hol:=L8 s nd hs nz k
       refine yn ((k:Int)<(hs.length:Int)) (fun h9=> ?_) fun h9=> ?_
       ·have hk:k<hs.length:=by omega
        obtain⟨⟨q1,q2⟩,_⟩:=yz hso hk
        refine⟨ix k hs.length,⟨rfl,om ((0:Int)≤(s.length:Int)),om ((s.length:Int)≤(1000000000:Int))⟩,ap (nd-2),1, [(0,.k),(1,.k),(3,.k),(10,.k),(13,.k),(14,.k),(15,.k),(16,.k),(17,.k),(69,.k),(70,.k),(71,.k)],fun nM vs H=>∃(j:Nat),j≤(nd-1).toNat∧nM=j+1∧vs= [.str s,.int .i64 nd,.str nz,.int .i64 (s.length:Int),.own (.cons (.int .i64) (.cons .str .nil)) 0,.int .i64 (k:Int),.int .i64 (hs.getD k 0),.str (kM nz s.length (nd-1).toNat (pt (hs.getD k 0)) j),.int .i64 ((j:Int)-1),.sl false (.int .i64) hs,.int .i64 (hs.length:Int),.int .i64 (k:Int)]∧H= [.row true (.cons (.int .i64) (.cons .str .nil)) (nH s nd hs nz k)],⟨rfl,(nd-1).toNat+1,(nd-1).toNat,by omega,by omega,by rw [N9,show(((nd-1).toNat:Nat):Int)-1=nd-2 by omega];rfl,rfl⟩,?_⟩
        rintro nM vs H ⟨j,hc3_0,rfl,rfl,rfl⟩
        refine yn (0≤((j:Int)-1)) (fun h10=> ?_) fun h10=> ?_
        ·obtain⟨i,hj⟩:∃i,j=i+1:=⟨j-1,by omega⟩
         have e1:(((j:Int)-1)*(s.length:Int))=((i*s.length:Nat):Int):=by rw [show(j:Int)-1=(i:Int) by omega,Int.natCast_mul]
         have e2:((((j:Int)-1)+1)*(s.length:Int))=((i*s.length:Nat):Int)+(s.length:Int):=by rw [show((j:Int)-1)+1=(i:Int)+1 by omega,Int.add_mul,Int.one_mul,Int.natCast_mul]
         have e3:i*s.length+s.length≤nz.length:=by(have:=Nat.mul_le_mul_left s.length (show i+1≤(nd-1).toNat by omega);rw [←hn,Nat.mul_succ,Nat.mul_comm] at this;exact this)
         have e4:i*s.length≤11*4096:=Nat.mul_le_mul (by omega) (by omega)
         have ey:((((j:Int)-1)+1)*(s.length:Int)).toNat-(((j:Int)-1)*(s.length:Int)).toNat=s.length:=by omega
         have ex:(((j:Int)-1)*(s.length:Int)).toNat=i*s.length:=by omega
         have hst:cR (pt (hs.getD k 0)) (eK (kM nz s.length (nd-1).toNat (pt (hs.getD k 0)) j) ((nz.drop ((((j:Int)-1)*(s.length:Int)).toNat)).take (((((j:Int)-1)+1)*(s.length:Int)).toNat-(((j:Int)-1)*(s.length:Int)).toNat)))=kM nz s.length (nd-1).toNat (pt (hs.getD k 0)) i:=by rw [ey,ex,hj];exact Ka (by omega) hn rfl
         have hal:=ew nz s.length (nd-1).toNat (pt (hs.getD k 0)) j
         have hcl:((nz.drop ((((j:Int)-1)*(s.length:Int)).toNat)).take (((((j:Int)-1)+1)*(s.length:Int)).toNat-(((j:Int)-1)*(s.length:Int)).toNat)).length=s.length:=by rw [ey,List.length_take,List.length_drop];omega
         refine⟨by kernel_rfl,rfl,⟨om (0≤(hs.getD k 0)),om ((hs.getD k 0)<1000000)⟩,ap (((j:Int)-1)*(s.length:Int)),ap (((j:Int)-1)+1),ap ((((j:Int)-1)+1)*(s.length:Int)),⟨by omega,by omega,by omega⟩,⟨om ((kM nz s.length (nd-1).toNat (pt (hs.getD k 0)) j).length≤1000000000),os (((nz.drop ((((j:Int)-1)*(s.length:Int)).toNat)).take (((((j:Int)-1)+1)*(s.length:Int)).toNat-(((j:Int)-1)*(s.length:Int)).toNat)).length≤1000000000)⟩,by show(eK _ _).length≤_;rw [fa,hcl,hal];omega,ap (((j:Int)-1)-1),?_⟩
         exact⟨rfl,i+1,by omega,i,by omega,rfl,by rw [hst,show(j:Int)-1-1=(i:Int)-1 by omega];rfl,rfl⟩
        ·have hfin:eK (kM nz s.length (nd-1).toNat (pt (hs.getD k 0)) j) s=K5 s nz (nd-1).toNat (pt (hs.getD k 0)):=by rw [show j=0 by omega];exact Oa
         have hal:=ew nz s.length (nd-1).toNat (pt (hs.getD k 0)) j
         refine⟨⟨om ((kM nz s.length (nd-1).toNat (pt (hs.getD k 0)) j).length≤1000000000),om (s.length≤1000000000)⟩,ix k (nH s nd hs nz k).length,rfl,⟨fun h=>(by first|rfl|cases h),rfl,rfl⟩,ap (k+1),?_⟩
         exact⟨rfl,hs.length-(k+1),by omega,k+1,by omega,rfl,rfl,by rw [←L6 (x:=(hs.getD k 0,eK (kM nz s.length (nd-1).toNat (pt (hs.getD k 0)) j) s,())) hk (by rw [hfin];rfl)];rfl⟩
       ·have e:gb s nd hs nz=0:=by unfold gb;rw [if_neg (by omega:¬4096<s.length),if_neg (by omega:¬(nd<1∨12<nd)),if_neg (by omega:¬(hs.length:Int)<nd),if_neg (by rw [hso];decide),if_pos (nw h8)]
        rw [kt,if_pos e,e,←L9 (by omega:hs.length≤k)]
        exact a6
  ·have e:gb s nd hs nz=3:=by unfold gb;rw [if_neg (by omega:¬4096<s.length),if_pos (by omega)]
   rw [kt,if_neg (by rw [e];decide),e]
   exact a6
def Kl:List (Nat×bW):=(11,aW [.v .str,.v (.int .i64),.v (.sl (.int .i64)),.v .str] Fp)::Kw
theorem V6:Known Tryd.prog (En Kl tys G6 []):=Wh.addQ Tryd.func11 Tryd.call11 [.o (.cons (.int .i64) (.cons .str .nil)),.k] fun ds _ _ _ h=>by unfold Fp at h;split at h;exact Xc _ _ _ _;cases h
def Fy:List V→Option (Prop×V×List Blk)
 |[.int .i64 k,.rp false (.sl (.cons (.int .i64) (.cons .str .nil))) l 0]=>some (0≤k∧l.length≤1048576∧(∀x∈l,k<(x.2.1.length:Int)),.own .u8 0, [.row true .u8 (ln l k.toNat)])
 |_=>none
theorem Xl (k:Int) (l:List (Int×(List UInt8×Unit))):bH (En Kl tys G6 []) Tryd.f68 [.o .u8] Fy [.int .i64 k,.rp false (.sl (.cons (.int .i64) (.cons .str .nil))) l 0]:=by
 rintro⟨hp0,hp1,(hp2:(∀x∈l,k<(x.2.1.length:Int)))⟩
 refine⟨⟨rfl,om ((0:Int)≤(l.length:Int)),om ((l.length:Int)≤(1000000000:Int))⟩,0, [(0,.k),(4,.o .u8),(10,.k),(11,.k),(12,.k)],fun nM vs H=>∃(i:Nat),i≤l.length∧nM=l.length-i∧vs= [.int .i64 k,.own .u8 0,.sl false (.cons (.int .i64) (.cons .str .nil)) l,.int .i64 (l.length:Int),.int .i64 (i:Int)]∧H= [.row true .u8 (dA (yF l k.toNat) l.length i)],⟨rfl,l.length,0,by omega,by omega,rfl,by rw [il];rfl⟩,?_⟩
 rintro nM vs H ⟨i,hc1_0,rfl,rfl,rfl⟩
 have hfl:=kA (yF l k.toNat) l.length i
 refine yn ((i:Int)<(l.length:Int)) (fun h0=> ?_) fun h0=> ?_
 ·have hi:i<l.length:=by omega
  have hkl:=hp2 _ (az (0, [],()) l i hi)
  refine⟨ix i l.length,cO,ix k (((l.getD i (0,([],()))).2).1).length,ix i (dA (yF l k.toNat) l.length i).length,fY,ap (i+1),?_⟩
  exact⟨rfl,l.length-(i+1),by omega,i+1,by omega,rfl,rfl,by rw [←io (yF l k.toNat) hi];rfl⟩
 ·rw [show i=l.length by omega,Lf]
  exact a6
def Ku:List (Nat×bW):=(68,aW [.v (.int .i64),.ref (.sl (.cons (.int .i64) (.cons .str .nil)))] Fy)::Kl
theorem We:Known Tryd.prog (En Ku tys G6 []):=V6.addQ Tryd.func68 Tryd.call68 [.o .u8] fun ds _ _ _ h=>by unfold Fy at h;split at h;exact Xl _ _;cases h
def Fq:List V→Option (Prop×V×List Blk)
 |[.sl false (.cons (.int .i64) (.cons .str .nil)) l]=>some (l.length≤1048576∧(∀x∈l,gG x.1),.own .u8 0, [.row true .u8 (kx l)])
 |_=>none
theorem Xd (l:List (Int×(List UInt8×Unit))):bH (En Ku tys G6 []) Tryd.f51 [.o .u8] Fq [.sl false (.cons (.int .i64) (.cons .str .nil)) l]:=by
 rintro⟨hp0,(hp1:(∀x∈l,gG x.1))⟩
 refine⟨⟨rfl,om ((0:Int)≤(l.length:Int)),om ((l.length:Int)≤(1000000000:Int))⟩,0, [(3,.o .u8),(9,.k),(10,.k),(11,.k)],fun nM vs H=>∃(i:Nat),i≤l.length∧nM=l.length-i∧vs= [.own .u8 0,.sl false (.cons (.int .i64) (.cons .str .nil)) l,.int .i64 (l.length:Int),.int .i64 (i:Int)]∧H= [.row true .u8 (dA (xF l) l.length i)],⟨rfl,l.length,0,by omega,by omega,rfl,by rw [il];rfl⟩,?_⟩
 rintro nM vs H ⟨i,hc1_0,rfl,rfl,rfl⟩
 have hfl:=kA (xF l) l.length i
 refine yn ((i:Int)<(l.length:Int)) (fun h0=> ?_) fun h0=> ?_
 ·have hi:i<l.length:=by omega
  obtain⟨q1,q2⟩:=hp1 _ (az (0, [],()) l i hi)
  refine⟨ix i l.length,cO,rfl,⟨os (0≤((l.getD i (0,([],()))).1)),os (((l.getD i (0,([],()))).1)<1000000)⟩,ix i (dA (xF l) l.length i).length,fY,ap (i+1),?_⟩
  exact⟨rfl,l.length-(i+1),by omega,i+1,by omega,rfl,rfl,by rw [←io (xF l) hi];rfl⟩
 ·rw [show i=l.length by omega,Lh]
  exact a6
def Km:List (Nat×bW):=(51,aW [.v (.sl (.cons (.int .i64) (.cons .str .nil)))] Fq)::Ku
theorem V7:Known Tryd.prog (En Km tys G6 []):=We.addQ Tryd.func51 Tryd.call51 [.o .u8] fun ds _ _ _ h=>by unfold Fq at h;split at h;exact Xd _;cases h
def Ox:List V→Option (Prop×Nat×(Nat→List V))
 |[.rp false (.sl (.cons (.int .i64) (.cons .str .nil))) l 0,.rb (.fn 68 [.rp false (.sl (.cons (.int .i64) (.cons .str .nil))) l2 0])]=>some (1≤l.length∧l.length≤1048576∧jF l≤1048576∧(∀x∈l,x.2.1.length=jF l)∧l2=l,(jF l,fun n=> [.int .i64 ((n:Nat):Int),.sl false .u8 (ln l n)]))
 |_=>none
theorem Xj (l:List (Int×(List UInt8×Unit))) (l2:List (Int×(List UInt8×Unit))) (hp0:1≤l.length) (hp1:l.length≤1048576) (hp2:jF l≤1048576) (hp3:(∀x∈l,x.2.1.length=jF l)) (hp4:l2=l):xX (En Km tys G6 []).inR Tryd.f69 [.rp false (.sl (.cons (.int .i64) (.cons .str .nil))) l 0,.rb (.fn 68 [.rp false (.sl (.cons (.int .i64) (.cons .str .nil))) l2 0])] [.v (.int .i64),.v (.sl .u8)] (jF l,fun n=> [.int .i64 ((n:Nat):Int),.sl false .u8 (ln l n)]):=by
 have hlS:(l.getD 0 (0, [],())).2.1.length=jF l:=rfl
 refine⟨rfl,ix 0 l.length,0, [(0,.k),(2,.k),(9,.k),(10,.k)],fun nM vs H=>∃(k:Nat),k≤jF l∧nM=jF l-k∧vs= [.yld (some k),.rb (.fn 68 [.rp false (.sl (.cons (.int .i64) (.cons .str .nil))) l2 0]),.int .i64 (((((l.getD 0 (0,([],()))).2).1).length:Nat):Int),.int .i64 (k:Int)]∧H= [],⟨rfl,jF l,0,by omega,by omega,rfl,rfl⟩,?_⟩
 rintro nM vs H ⟨k,hc1_0,rfl,rfl,rfl⟩
 refine yn ((k:Int)<(((((l.getD 0 (0,([],()))).2).1).length:Nat):Int)) (fun h0=> ?_) fun h0=> ?_
 ·refine⟨rfl,⟨om (0≤(k:Int)),by rw [hp4];omega,by rw [hp4];exact fun x hx=>by rw [hp3 x hx];omega⟩,rfl,⟨(by omega),by rw [hp4];rfl⟩,?_,?_⟩
  ·refine⟨ap (k+1),?_⟩
   exact⟨rfl,jF l-(k+1),by omega,k+1,by omega,rfl,rfl,rfl⟩
  ·trivial
 ·show(k:Nat)=jF l
  omega
def bO:List (Nat×iH):=(69, [.ref (.sl (.cons (.int .i64) (.cons .str .nil))),.rf [(68, [.ref (.sl (.cons (.int .i64) (.cons .str .nil)))])]],Ox):: []
def Kt:List (Nat×bW):=Km
theorem Wd:Known Tryd.prog (En Kt tys G6 bO):=V7.addSeq Tryd.func69 Tryd.call69 [.v (.int .i64),.v (.sl .u8)] fun ds p L h hp=>by
 unfold Ox at h
 split at h<;>simp only [Option.some.injEq,Prod.mk.injEq,reduceCtorEq] at h
 obtain⟨rfl,rfl⟩:=h
 exact Xj _ _ hp.1 hp.2.1 hp.2.2.1 hp.2.2.2.1 hp.2.2.2.2
def Fx:List V→Option (Prop×V×List Blk)
 |[.sl false (.cons (.int .i64) (.cons .str .nil)) l]=>some (True,.fn 69 [.ptr 0 1 0 0,.ptr 1 1 0 0], [.cells [.sl false (.cons (.int .i64) (.cons .str .nil)) (l)],.cells [.fn 68 [.ptr 0 1 0 0]]])
 |_=>none
theorem Xi (l:List (Int×(List UInt8×Unit))):xY (En Kt tys G6 bO) Tryd.f49 [.c []] Fx [.sl false (.cons (.int .i64) (.cons .str .nil)) l]:=by
 intro _
 refine⟨gY,?_⟩
 exact a6
def Ks:List (Nat×bW):=(49,uM [.v (.sl (.cons (.int .i64) (.cons .str .nil)))] Fx)::Kt
theorem Wc:Known Tryd.prog (En Ks tys G6 bO):=Wd.addR Tryd.func49 Tryd.call49 [.c []] fun ds _ _ _ h=>by unfold Fx at h;split at h;exact Xi _;cases h
def Fo:List V→Option (Prop×V×List Blk)
 |[.sl false (.cons (.int .i64) (.cons .str .nil)) l,.int .i64 nd,.u8 x]=>some (fK l=0∧1≤nd∧nd≤12,.tup [.str (K8 l nd x),.int .i64 (vF l nd)], [])
 |_=>none
theorem Xb (l:List (Int×(List UInt8×Unit))) (nd:Int) (x:UInt8):bH (En Ks tys G6 bO) Tryd.f31 [.k,.k] Fo [.sl false (.cons (.int .i64) (.cons .str .nil)) l,.int .i64 nd,.u8 x]:=by
 rintro⟨hp0,hp1,hp2⟩
 have hc:=Jl hp0
 have hcl:=hc.len
 have hcm:=hc.max
 have hcb:=hc.bytes
 have hch:=hc.house
 refine yn ((l.length:Int)<nd) (fun h0=> ?_) fun h0=> ?_
 ·refine⟨gY,gY,?_⟩
  have e:vF l nd=29:=aAr h0
  rw [Wp (by rw [e];decide),e]
  exact a6
 ·refine⟨trivial,rfl,rfl,⟨⟨om (1≤l.length),om (l.length≤1048576),om (jF l≤1048576),hcb,rfl⟩,fun _ _=>rfl⟩,9, [(3,.k),(4,.k),(5,.k),(6,.k),(7,.k),(8,.c [(0,.u8)])],fun n vs H=>n≤jF l∧(∀i,i<n→(lF (kx l) (ln l i) (nd-1)).2=0)∧vs= [.ptr 0 1 0 0,.ptr 1 1 0 0,.ptr 2 1 0 0,.ptr 3 1 0 0,.ptr 4 1 0 0,.ptr 5 1 0 0]∧H= [.cells [.sl false (.cons (.int .i64) (.cons .str .nil)) l],.cells [.int .i64 nd],.cells [.u8 x],.cells [.str ([])],.cells [.int .i64 0],.cells [.own .u8 8],.dead,.dead,.row true .u8 (K9 l nd x n)],⟨rfl,by omega,fun i h=>absurd h (Nat.not_lt_zero i),rfl,rfl⟩,?_,?_⟩
  ·rintro n vs H ⟨hc1_0,hc1_1,rfl,rfl⟩ hn1
   replace hn1:n<jF l:=hn1
   have hjl:=Mw l nd x n
   refine⟨by kernel_rfl,⟨om (l.length≤1048576),by assumption⟩,ap (nd-1),rfl,⟨by show(kx l).length≤10000;rw [fW];omega,by show(ln l n).length≤10000;rw [zd];omega⟩,yn (((lF (kx l) (ln l n) (nd-1)).2)≠0) (fun h1=> ?_) fun h1=> ?_⟩
   ·refine⟨gY,gY,rfl,rfl,?_⟩
    have e:vF l nd=14:=aAs h0 hn1 h1
    rw [Wp (by rw [e];decide),e]
    exact a6
   ·refine⟨by kernel_rfl,by show((lF (kx l) (ln l n) (nd-1)).1).length≤1000000;have:=P3 (kx l) (ln l n) (nd-1);rw [fW] at this;omega,fY,l9 (K9 l nd x n).length,gY,?_⟩
    exact⟨rfl,rfl,by omega,Ll (P:=fun i=>(lF (kx l) (ln l i) (nd-1)).2=0) hc1_1 (nw h1),rfl,by rw [Ib];rfl⟩
  ·rintro vs H ⟨hc1_0,hc1_1,rfl,rfl⟩
   refine⟨gY,gY,?_⟩
   have e:=jn0 h0 hc1_1
   rw [Wq e,e]
   exact a6
def Kk:List (Nat×bW):=(31,aW [.v (.sl (.cons (.int .i64) (.cons .str .nil))),.v (.int .i64),.v .u8] Fo)::Ks
theorem V5:Known Tryd.prog (En Kk tys G6 bO):=Wc.addQ Tryd.func31 Tryd.call31 [.k,.k] fun ds _ _ _ h=>by unfold Fo at h;split at h;exact Xb _ _ _;cases h
def Fl:List V→Option (Prop×V×List Blk)
 |[.sl false (.cons (.int .i64) (.cons .str .nil)) l,.int .i64 nd]=>some (l.length≤1048576,.int .i64 (sO l nd), [])
 |_=>none
theorem Xa (l:List (Int×(List UInt8×Unit))) (nd:Int):bH (En Kk tys G6 bO) Tryd.f30 [.k] Fl [.sl false (.cons (.int .i64) (.cons .str .nil)) l,.int .i64 nd]:=by
 intro hp0
 refine⟨om (l.length≤1048576),yn ((fK l)≠0) (fun h0=> ?_) fun h0=> ?_⟩
 ·rw [show sO l nd=fK l from if_neg h0]
  exact a6
 ·refine ny (nd<1) (fun h1=> ?_) fun h1=> ?_
  ·refine yn (12<nd) (fun h2=> ?_) fun h2=> ?_
   ·rw [show sO l nd=3 by unfold sO;rw [if_pos (nw h0),if_pos (by omega)]]
    exact a6
   ·rw [show sO l nd=0 by unfold sO;rw [if_pos (nw h0),if_neg (by omega)]]
    exact a6
  ·rw [show sO l nd=3 by unfold sO;rw [if_pos (nw h0),if_pos (by omega)]]
   exact a6
def Kj:List (Nat×bW):=(30,aW [.v (.sl (.cons (.int .i64) (.cons .str .nil))),.v (.int .i64)] Fl)::Kk
theorem V4:Known Tryd.prog (En Kj tys G6 bO):=V5.addQ Tryd.func30 Tryd.call30 [.k] fun ds _ _ _ h=>by unfold Fl at h;split at h;exact Xa _ _;cases h
def Fu:List V→Option (Prop×V×List Blk)
 |[.sl false (.cons (.int .i64) (.cons .str .nil)) l,.int .i64 nd]=>some (l.length≤1048576,.tup [.str (Up l nd 0),.int .i64 (Rn l nd)], [])
 |_=>none
theorem Xf (l:List (Int×(List UInt8×Unit))) (nd:Int):bH (En Kj tys G6 bO) Tryd.f9 [.k,.k] Fu [.sl false (.cons (.int .i64) (.cons .str .nil)) l,.int .i64 nd]:=by
 intro hp0
 refine⟨rfl,om (l.length≤1048576),yn ((sO l nd)≠0) (fun h0=> ?_) fun h0=> ?_⟩
 ·rw [show Rn l nd=sO l nd from if_neg h0,show Up l nd 0= [] from if_neg h0]
  exact a6
 ·have r:=nw h0
  obtain⟨r1,r2,r3⟩:=rd0 r
  have hrl:=(Jl r1).len
  refine⟨rfl,⟨om (fK l=0),om (1≤nd),om (nd≤12)⟩,?_⟩
  rw [show Rn l nd=vF l nd from if_pos r,show Up l nd 0=K8 l nd 0 from if_pos r]
  exact a6
def Ko:List (Nat×bW):=(9,aW [.v (.sl (.cons (.int .i64) (.cons .str .nil))),.v (.int .i64)] Fu)::Kj
theorem V9:Known Tryd.prog (En Ko tys G6 bO):=V4.addQ Tryd.func9 Tryd.call9 [.k,.k] fun ds _ _ _ h=>by unfold Fu at h;split at h;exact Xf _ _;cases h
def Fw:List V→Option (Prop×V×List Blk)
 |[.sl false (.cons (.int .i64) (.cons .str .nil)) l,.int .i64 nd,.str s]=>some (l.length≤1048576∧s.length≤1048576,.tup [.int .i64 (Bg l nd s),.b (xB l nd s)], [])
 |_=>none
theorem Xh (l:List (Int×(List UInt8×Unit))) (nd:Int) (s:List UInt8):bH (En Ko tys G6 bO) Tryd.f10 [.k,.k] Fw [.sl false (.cons (.int .i64) (.cons .str .nil)) l,.int .i64 nd,.str s]:=by
 rintro⟨hp0,hp1⟩
 refine⟨rfl,om (l.length≤1048576),ny ((sO l nd)≠0) (fun h0=> ?_) fun h0=> ?_⟩
 ·have r:=nw h0
  obtain⟨r1,r2,r3⟩:=rd0 r
  have hrl:=(Jl r1).len
  refine ny (4096<(s.length:Int)) (fun h1=> ?_) fun h1=> ?_
  ·refine yn (0<(l.length:Int)) (fun h2=> ?_) fun h2=> ?_
   ·refine⟨ix 0 l.length,yn ((((((l.getD 0 (0,([],()))).2).1).length:Nat):Int)≠(s.length:Int)) (fun h3=> ?_) fun h3=> ?_⟩
    ·have e:Bg l nd s=0:=if_neg (fun g=>by rcases g.2.2.1 with q|q;(omega);(exact h3 (by show(((l.getD 0 _).2.1.length:Nat):Int)=_;unfold jF at q;omega)))
     have e2:xB l nd s=(false=true):=propext ⟨fun g=>False.elim (by rcases g.2.2.1 with q|q;(omega);(exact h3 (by show(((l.getD 0 _).2.1.length:Nat):Int)=_;unfold jF at q;omega))),fun g=>Bool.noConfusion g⟩
     rw [e,e2]
     exact a6
    ·refine⟨ap (nd-1),ap ((nd-1)-l.length),yn (0≤((nd-1)-(l.length:Int))) (fun h4=> ?_) fun h4=> ?_⟩
     ·obtain⟨b1,b2⟩:=yr (a:=(nd-1)-(l.length:Int)) (b:=(s.length:Int)) (A:=12) (B:=4096) (by omega) (by omega) (by omega) (by omega)
      refine⟨ap (((nd-1)-(l.length:Int))*(s.length:Int)),?_⟩
      have e:Bg l nd s=(nd-1-(l.length:Int))*(s.length:Int):=if_pos ⟨r,by omega,.inr (om ((l.getD 0 _).2.1.length=_)),by omega⟩
      have e2:xB l nd s=(true=true):=propext ⟨fun _=>rfl,fun _=>⟨r,by omega,.inr (om ((l.getD 0 _).2.1.length=_)),.inl (by omega)⟩⟩
      rw [e,e2]
      exact a6
     ·refine⟨rfl,⟨om (fK l=0),om (1≤nd),om (nd≤12)⟩,yn ((vF l nd)=0) (fun h5=> ?_) fun h5=> ?_⟩
      ·have e:Bg l nd s=0:=if_neg (fun g=>by have:=g.2.2.2;omega)
       have e2:xB l nd s=(K8 l nd 0=s):=propext ⟨fun g=>(g.2.2.2.resolve_left (by omega)).2,fun g=>⟨r,by omega,.inr (om ((l.getD 0 _).2.1.length=_)),.inr ⟨h5,g⟩⟩⟩
       rw [e,e2]
       exact a6
      ·have e:Bg l nd s=0:=if_neg (fun g=>by have:=g.2.2.2;omega)
       have e2:xB l nd s=(false=true):=propext ⟨fun g=>False.elim (by rcases g.2.2.2 with q|q;(omega);(exact h5 q.1)),fun g=>Bool.noConfusion g⟩
       rw [e,e2]
       exact a6
   ·refine⟨ap (nd-1),ap ((nd-1)-l.length),yn (0≤((nd-1)-(l.length:Int))) (fun h6=> ?_) fun h6=> ?_⟩
    ·obtain⟨b1,b2⟩:=yr (a:=(nd-1)-(l.length:Int)) (b:=(s.length:Int)) (A:=12) (B:=4096) (by omega) (by omega) (by omega) (by omega)
     refine⟨ap (((nd-1)-(l.length:Int))*(s.length:Int)),?_⟩
     have e:Bg l nd s=(nd-1-(l.length:Int))*(s.length:Int):=if_pos ⟨r,by omega,.inl (by omega),by omega⟩
     have e2:xB l nd s=(true=true):=propext ⟨fun _=>rfl,fun _=>⟨r,by omega,.inl (by omega),.inl (by omega)⟩⟩
     rw [e,e2]
     exact a6
    ·refine⟨rfl,⟨om (fK l=0),om (1≤nd),om (nd≤12)⟩,yn ((vF l nd)=0) (fun h7=> ?_) fun h7=> ?_⟩
     ·have e:Bg l nd s=0:=if_neg (fun g=>by have:=g.2.2.2;omega)
      have e2:xB l nd s=(K8 l nd 0=s):=propext ⟨fun g=>(g.2.2.2.resolve_left (by omega)).2,fun g=>⟨r,by omega,.inl (by omega),.inr ⟨h7,g⟩⟩⟩
      rw [e,e2]
      exact a6
     ·have e:Bg l nd s=0:=if_neg (fun g=>by have:=g.2.2.2;omega)
      have e2:xB l nd s=(false=true):=propext ⟨fun g=>False.elim (by rcases g.2.2.2 with q|q;(omega);(exact h7 q.1)),fun g=>Bool.noConfusion g⟩
      rw [e,e2]
      exact a6
  ·have e:Bg l nd s=0:=if_neg (fun g=>by have:=g.2.1;omega)
   have e2:xB l nd s=(false=true):=propext ⟨fun g=>False.elim (by have:=g.2.1;omega),fun g=>Bool.noConfusion g⟩
   rw [e,e2]
   exact a6
 ·have e:Bg l nd s=0:=if_neg (fun g=>h0 g.1)
  have e2:xB l nd s=(false=true):=propext ⟨fun g=>False.elim (h0 g.1),fun g=>Bool.noConfusion g⟩
  rw [e,e2]
  exact a6
def Kr:List (Nat×bW):=(10,aW [.v (.sl (.cons (.int .i64) (.cons .str .nil))),.v (.int .i64),.v .str] Fw)::Ko
theorem Wb:Known Tryd.prog (En Kr tys G6 bO):=V9.addQ Tryd.func10 Tryd.call10 [.k,.k] fun ds _ _ _ h=>by unfold Fw at h;split at h;exact Xh _ _ _;cases h
theorem tK {l:List (Int×List UInt8×Unit)} {k:Nat} (h:k<l.length):(kx l).getD k 0=pt (l.getD k (0, [],())).1:=by
 simp [kx,List.getD_eq_getElem?_getD,List.getElem?_eq_getElem h]
theorem Lg {l:List (Int×List UInt8×Unit)} {k i:Nat} (h:i<l.length):(ln l k).getD i 0=(l.getD i (0, [],())).2.1.getD k 0:=by
 simp [ln,List.getD_eq_getElem?_getD,List.getElem?_eq_getElem h]
theorem Ln {xs ys:List UInt8} (hr:b9 xs ys) {m:Nat} (h1:1≤m) (hm:m≤xs.length) {d:Int} (hd:d=(m:Int)-1):
  ((lF xs ys d).2=0↔∀j,m≤j→j<xs.length→aB (xs.getD j 0) (gB (xs.take m) (ys.take m))=ys.getD j 0)∧((lF xs ys d).2=0→(lF xs ys d).1=gB (xs.take m) (ys.take m)):=by
 have hls:=mJ (xs.take m) (ys.take m)
 have hl:(xs.take m).length=m:=by rw [List.length_take];omega
 have hn:(xs.take m).Nodup:=(qC xs ys m hr).1
 have hlv:∀j,j<m→aB (xs.getD j 0) (gB (xs.take m) (ys.take m))=ys.getD j 0:=fun j hj=>by
  have:=fo (xs.take m) (ys.take m) hn j (by omega)
  rwa [ii _ _ _ hj,ii _ _ _ hj] at this
 have key:(lF xs ys d).2=0→fM xs ys=gB (xs.take m) (ys.take m):=fun h=>by
  have hdg:¬d<eF (fM xs ys):=fun g=>by
   unfold lF at h
   rw [if_pos hr,if_neg (by omega),if_neg (by omega),if_pos g] at h
   exact absurd h (by decide)
  rw [pj xs ys hr] at hdg ⊢
  rw [←gA xs ys,←gA (xs.take m) (ys.take m)]
  refine dE (xs.take m) _ _ hn (fun x hx=> ?_) (by rw [eo] at hdg;omega) (by omega)
  obtain⟨k,hk,rfl⟩:=fq (d:=0) hx
  rw [hl] at hk
  rw [ii _ _ _ hk,fo xs ys hr.1 k (by omega),hlv k hk]
 have hone:(lF xs ys d).2=0→(lF xs ys d).1=fM xs ys:=fun h=>by
  unfold lF at h ⊢
  rw [if_pos hr,if_neg (by omega),if_neg (by omega)] at h ⊢
  split at h
  ·exact absurd h (by decide)
  ·rename_i g;rw [if_neg g]
 refine⟨⟨fun h j hj hjl=> ?_,fun h=> ?_⟩,fun h=>(hone h).trans (key h)⟩
 ·rw [←key h,pj xs ys hr,fo xs ys hr.1 j hjl]
 ·have hth:fM xs ys=gB (xs.take m) (ys.take m):=by
   rw [pj xs ys hr,←gA xs ys,←gA (xs.take m) (ys.take m)]
   refine dE xs _ _ hr.1 (fun x hx=> ?_) (mJ xs ys) (by omega)
   obtain⟨k,hk,rfl⟩:=fq (d:=0) hx
   rw [fo xs ys hr.1 k hk]
   by_cases e:k<m
   ·rw [hlv k e]
   ·rw [h k (by omega) hk]
  unfold lF
  rw [if_pos hr,if_neg (by omega),if_neg (by omega),if_neg]
  rw [hth,eo]
  omega
theorem Ad {h:Int} (hh:gG h):(pt h).toNat=h.toNat+1:=by
 obtain⟨a,b⟩:=hh
 have:=yc (h:=h.toNat) (by omega)
 rwa [Int.toNat_of_nonneg a] at this
theorem Om {l:List (Int×List UInt8×Unit)} (h:∀k,k+1<l.length→(l.getD k (0, [],())).1<(l.getD (k+1) (0, [],())).1) {i j:Nat} (hij:i<j):j<l.length→(l.getD i (0, [],())).1<(l.getD j (0, [],())).1:=by
 induction j with
 |zero=>omega
 |succ j ih=>
  intro hj
  have h1:=h j hj
  by_cases e:i=j
  ·rw [e];exact h1
  ·have:=ih (by omega) (by omega);omega
theorem ShOk.nodup {l:List (Int×List UInt8×Unit)} (hc:ShOk l):(kx l).Nodup:=by
 rw [List.nodup_iff_pairwise_ne,List.pairwise_iff_getElem]
 intro i j hi hj hij
 rw [fW] at hi hj
 have h1:=Om hc.up hij hj
 have h2:=Ad (hc.house _ (az (0, [],()) l i hi))
 have h3:=Ad (hc.house _ (az (0, [],()) l j hj))
 have h4:=hc.house _ (az (0, [],()) l i hi)
 intro e
 have e1:(kx l)[i]=pt (l.getD i (0, [],())).1:=by rw [←tK hi];simp [List.getD_eq_getElem?_getD,hi,fW]
 have e2:(kx l)[j]=pt (l.getD j (0, [],())).1:=by rw [←tK hj];simp [List.getD_eq_getElem?_getD,hj,fW]
 rw [e1,e2] at e
 have:=congrArg UInt8.toNat e
 unfold gG at h4
 omega
theorem ShOk.right {l:List (Int×List UInt8×Unit)} (hc:ShOk l) (k:Nat):b9 (kx l) (ln l k):=⟨hc.nodup,by rw [fW,zd]⟩
theorem A7:∀(l:List Int) (a b:Int),a≤b→(∀x∈l,a≤x∧x<b)→l.Pairwise (· <·)→(l.length:Int)≤b-a
 |[],a,b,h,_,_=>by simp;omega
 |x::l,a,b,_,hx,hp=>by
  rw [List.pairwise_cons] at hp
  have h1:=hx x (by simp)
  have:=A7 l (x+1) b (by omega) (fun y hy=>by have:=hx y (by simp [hy]);have:=hp.1 y hy;omega) hp.2
  rw [List.length_cons];omega
theorem zM {l:List (Int×List UInt8×Unit)} {n:Nat} (h1:∀s∈l,gG s.1∧s.2.1.length=n) (hn:n≤4096) (hp:l.Pairwise fun a b=>a.1<b.1):fK l=0:=by
 have hl:((l.map (·.1)).length:Int)≤12-0:=A7 _ 0 12 (by omega) (fun x hx=>by obtain⟨s,hs,rfl⟩:=List.mem_map.1 hx;exact(h1 s hs).1) (List.pairwise_map.2 hp)
 rw [List.length_map] at hl
 have ha:¬l.all sH=false:=fun e=>by
  have:l.all sH=true:=List.all_eq_true.2 fun s hs=>decide_eq_true (by have:=(h1 s hs).2;omega)
  rw [e] at this;cases this
 refine Po (by omega) ha (List.all_eq_true.2 fun k hk=>decide_eq_true ?_)
 have hk:=List.mem_range.1 hk
 have hm:=h1 _ (az (0, [],()) l k hk)
 have h0:=h1 _ (az (0, [],()) l 0 (by omega))
 refine⟨hm.1,?_,by unfold jF;omega⟩
 rcases Nat.eq_zero_or_pos k with e|e
 ·exact .inl e
 ·right
  have:=List.pairwise_iff_getElem.1 hp (k-1) k (by omega) hk (by omega)
  simpa [List.getD_eq_getElem?_getD,hk,show k-1<l.length by omega] using this
theorem ShOk.pair {l:List (Int×List UInt8×Unit)} (hc:ShOk l):l.Pairwise fun a b=>a.1<b.1:=by
 rw [List.pairwise_iff_getElem]
 intro i j hi hj hij
 have:=Om hc.up hij hj
 simpa [List.getD_eq_getElem?_getD,hi,hj] using this
theorem Np {l p:List (Int×List UInt8×Unit)} (hc:ShOk l) (h:p.Sublist l):fK p=0:=
 zM (n:=jF l) (fun s hs=>⟨hc.house s (h.subset hs),hc.bytes s (h.subset hs)⟩) hc.max (hc.pair.sublist h)
theorem Cw {l:List (Int×List UInt8×Unit)} (hc:ShOk l) {m k:Nat} (h1:1≤m) (h2:m≤l.length) {p:List UInt8} (hz:sz p≤m) (hv:∀s∈l,s.2.1.getD k 0=aB (pt s.1) p):
  (lF (kx l) (ln l k) ((m:Int)-1)).2=0∧∀x,aB x (lF (kx l) (ln l k) ((m:Int)-1)).1=aB x p:=by
 have ht:=Ln (hc.right k) h1 (by rw [fW];exact h2) (d:=(m:Int)-1) rfl
 have hr:=qC (kx l) (ln l k) m (hc.right k)
 have hl:((kx l).take m).length=m:=by rw [List.length_take,fW];omega
 have hval:∀j,j<l.length→aB ((kx l).getD j 0) p=(ln l k).getD j 0:=fun j hj=>by
  rw [tK hj,Lg hj,hv _ (az (0, [],()) l j hj)]
 have hline:aF (gB ((kx l).take m) ((ln l k).take m))=aF p:=by
  refine dE ((kx l).take m) _ _ hr.1 (fun x hx=> ?_) (by have:=mJ ((kx l).take m) ((ln l k).take m);omega) (by omega)
  obtain⟨j,hj,rfl⟩:=fq (d:=0) hx
  rw [hl] at hj
  rw [fo _ _ hr.1 j (by omega),ii _ _ _ hj,ii _ _ _ hj,hval j (by omega)]
 have hh:∀x,aB x (gB ((kx l).take m) ((ln l k).take m))=aB x p:=fun x=>by rw [←ao x (gB _ _),hline,ao]
 have h0:(lF (kx l) (ln l k) ((m:Int)-1)).2=0:=ht.1.2 fun j _ hj=>by rw [fW] at hj;rw [hh,hval j hj]
 exact⟨h0,fun x=>by rw [ht.2 h0,hh]⟩
theorem Ds {l:List (Int×List UInt8×Unit)} (hc:ShOk l) {nd:Int} (h1:1≤nd) (h2:nd≤(l.length:Int)) {P:Nat→List UInt8} (hP:∀k,k<jF l→sz (P k)≤nd.toNat∧∀s∈l,s.2.1.getD k 0=aB (pt s.1) (P k)) (x:UInt8):
  vF l nd=0∧K8 l nd x=(List.range (jF l)).map fun k=>aB x (P k):=by
 have key:∀k,k<jF l→(lF (kx l) (ln l k) (nd-1)).2=0∧∀x,aB x (lF (kx l) (ln l k) (nd-1)).1=aB x (P k):=fun k hk=>by
  have:=Cw hc (m:=nd.toNat) (k:=k) (by omega) (by omega) (hP k hk).1 (hP k hk).2
  rwa [Int.toNat_of_nonneg (by omega)] at this
 have e:=jn0 (l:=l) (nd:=nd) (by omega) fun k hk=>(key k hk).1
 refine⟨e,?_⟩
 rw [Wq e]
 unfold K9
 apply List.map_congr_left
 intro k hk
 exact(key k (List.mem_range.1 hk)).2 x
structure Spl (sec:List UInt8) (nd:Int) (hs:List Int) (nz:List UInt8):Prop where
 len:sec.length≤4096
 n1:1≤nd
 n12:nd≤12
 hl:nd≤(hs.length:Int)
 ok:nR hs=true
 nz:(nz.length:Int)=(sec.length:Int)*(nd-1)
theorem Spl.e {sec:List UInt8} {nd:Int} {hs:List Int} {nz:List UInt8} (h:Spl sec nd hs nz):gb sec nd hs nz=0:=by
 unfold gb
 rw [if_neg (by have:=h.len;omega),if_neg (by have:=h.n1;have:=h.n12;omega),if_neg (by have:=h.hl;omega),if_neg (by rw [h.ok];decide),if_pos h.nz]
theorem Spl.l {sec:List UInt8} {nd:Int} {hs:List Int} {nz:List UInt8} (h:Spl sec nd hs nz):kt sec nd hs nz=hs.map (Ov sec nd nz):=if_pos h.e
theorem Spl.llen {sec:List UInt8} {nd:Int} {hs:List Int} {nz:List UInt8} (h:Spl sec nd hs nz):(kt sec nd hs nz).length=hs.length:=by rw [h.l,List.length_map]
theorem uO {hs:List Int} (h:nR hs=true):hs.Pairwise (· <·):=by
 have h1:∀k,k+1<hs.length→hs.getD k 0<hs.getD (k+1) 0:=fun k hk=>by
  have:=(yz h hk).2
  rcases this with e|e
  ·omega
  ·simpa using e
 have h2:∀i j,i<j→j<hs.length→hs.getD i 0<hs.getD j 0:=fun i j hij=>by
  induction j with
  |zero=>omega
  |succ j ih=>
   intro hj
   have h3:=h1 j hj
   by_cases e:i=j
   ·rw [e];exact h3
   ·have:=ih (by omega) (by omega);omega
 rw [List.pairwise_iff_getElem]
 intro i j hi hj hij
 simpa [List.getD_eq_getElem?_getD,hi,hj] using h2 i j hij hj
theorem uP {hs:List Int} (h:nR hs=true):∀x∈hs,gG x:=fun x hx=>by
 obtain⟨k,hk,rfl⟩:=fq (d:=0) hx
 exact(yz h hk).1
def yf (sec nz:List UInt8) (nd:Int) (k:Nat):List UInt8:=sec.getD k 0::Nt nz sec.length (nd-1).toNat k
theorem L0 (sec nz:List UInt8) {nd:Int} (h:1≤nd) (k:Nat):sz (yf sec nz nd k)≤nd.toNat:=by
 have:=je (yf sec nz nd k)
 unfold yf at this ⊢
 rw [List.length_cons,uu] at this
 omega
theorem Lq (sec nz:List UInt8) (nd h:Int) {k:Nat} (hk:k<sec.length):(Ov sec nd nz h).2.1.getD k 0=aB (pt h) (yf sec nz nd k):=cy hk
theorem Spl.mem {sec:List UInt8} {nd:Int} {hs:List Int} {nz:List UInt8} (h:Spl sec nd hs nz) {s:(Int×List UInt8×Unit)} (hs':s∈kt sec nd hs nz):gG s.1∧s.2.1.length=sec.length∧∀k,k<sec.length→s.2.1.getD k 0=aB (pt s.1) (yf sec nz nd k):=by
 rw [h.l] at hs'
 obtain⟨x,hx,rfl⟩:=List.mem_map.1 hs'
 exact⟨uP h.ok x hx,zu _ _ _ _,fun k hk=>Lq sec nz nd x hk⟩
theorem Spl.chk {sec:List UInt8} {nd:Int} {hs:List Int} {nz:List UInt8} (h:Spl sec nd hs nz):fK (kt sec nd hs nz)=0:=by
 refine zM (n:=sec.length) (fun s hs'=>⟨(h.mem hs').1,(h.mem hs').2.1⟩) h.len ?_
 rw [h.l]
 exact List.pairwise_map.2 (uO h.ok)
theorem wl (c:UInt8) (p:List UInt8):aB 0 (c::p)=c:=by
 rw [aB,bB];simp
theorem yY (s:List UInt8):(List.range s.length).map (fun k=>s.getD k 0)=s:=by
 have:=kW 0 (fun x:UInt8=>x) s
 simpa using this
def K6 (s:List UInt8) (a k:Nat):UInt8:=if 0<s.length then s.getD ((a+k)%s.length) 0 else 0
def xu (s:List UInt8) (a n:Nat):List UInt8:=(List.range n).map (K6 s a)
theorem mE (s:List UInt8) (a n:Nat):(xu s a n).length=n:=by simp [xu]
theorem Mm {s:List UInt8} {a n k:Nat} (h:¬0<s.length):dA (K6 s a) n (k+1)=dA (K6 s a) n k:=by
 apply List.map_congr_left
 intro i hi
 by_cases e:i=k
 ·subst e
  rw [if_pos (by omega),if_neg (by omega),K6,if_neg h]
 ·by_cases g:i<k
  ·rw [if_pos g,if_pos (by omega)]
  ·rw [if_neg g,if_neg (by omega)]
theorem V1 {s:List UInt8} {a k:Nat} (h:0<s.length):K6 s a k=s.getD ((a+k)%s.length) 0:=if_pos h

structure Fine (key:List UInt8) (nd:Int) (hs:List Int) (l:List (Int×List UInt8×Unit)):Prop where
 hm:l.map (·.1)=hs
 len:∀s∈l,s.2.1.length=key.length
 pol:∀k,k<key.length→∃p:List UInt8,p.length≤nd.toNat∧aB 0 p=key.getD k 0∧∀s∈l,s.2.1.getD k 0=aB (pt s.1) p
def Uw (nd:Int) (cf:List Rw) (s:Int×List UInt8×Unit):Int×List UInt8×Unit:=(rj s.1 s.2.1 [dZ nd cf s.1],mw s.1 s.2.1 [dZ nd cf s.1],())
theorem P1 {nd:Int} {cf:List Rw} (hc:eG nd cf=0) {s:Int×List UInt8×Unit} (hk:gG s.1) (hn:s.2.1.length=oi cf):
  qA nd cf s.1=0∧gZ s.1 s.2.1 [dZ nd cf s.1]=0∧(Uw nd cf s).1=s.1∧(Uw nd cf s).2.1.length=s.2.1.length∧
  ∀k p,k<oi cf→s.2.1.getD k 0=aB (pt s.1) p→(Uw nd cf s).2.1.getD k 0=aB (pt s.1) (bz p (0::lX (cf.getD 0 []) k)):=by
 have D:=xR hc
 have n2:=D.n2;have n12:=D.n12;have n3:=D.len;have nm:=D.max
 have e1:qA nd cf s.1=0:=by unfold qA;rw [if_pos hc,if_pos hk]
 have e2:dZ nd cf s.1=iV cf s.1:=if_pos e1
 have hm:=az [] cf 0 (by omega)
 have hr0:(iV cf s.1).getD 0 []=oZ (cf.getD 0 []) (pt s.1):=zy D _ 0 (by omega)
 have hrl:=D.rows _ hm
 have hrs:=D.strs _ hm
 have hal:(oZ (cf.getD 0 []) (pt s.1)).length=oi cf:=nh _ (by omega) hrs
 have hrow:=Ls D s.1
 have hdl:(iV cf s.1).length=cf.length:=List.length_map ..
 have hn0:n0 (iV cf s.1)=oi cf:=by unfold n0;rw [hr0,hal]
 have hright:a7 (iV cf s.1)=true:=by
  rw [kV (by omega) (by omega)]
  exact List.all_eq_true.2 fun x hx=>by rw [hrow x hx,hn0,decide_eq_true rfl,decide_eq_true nm];rfl
 have e3:gZ s.1 s.2.1 [iV cf s.1]=0:=by
  unfold gZ
  rw [if_pos hk,if_pos (by omega),if_pos]
  rw [List.all_cons,my hright (by omega)];rfl
 have e4:kq s.1 s.2.1 [iV cf s.1]=eK s.2.1 (cR (pt s.1) (oZ (cf.getD 0 []) (pt s.1))):=by rw [←hr0];rfl
 refine⟨e1,by rw [e2];exact e3,?_,?_,fun k p hk' hp=> ?_⟩
 ·show rj s.1 s.2.1 [dZ nd cf s.1]=s.1
  rw [e2];exact if_pos e3
 ·show(mw s.1 s.2.1 [dZ nd cf s.1]).length=s.2.1.length
  rw [e2,mw,if_pos e3,e4,fa,cD,hal];omega
 ·show(mw s.1 s.2.1 [dZ nd cf s.1]).getD k 0=_
  rw [e2,mw,if_pos e3,e4,lz (by rw [cD,hal,hn]) (by omega),hp,kQ (by omega),u5 hk' _ (by omega) hrs,dH]
  show _=_^^^(aI (aB (pt s.1) (lX (cf.getD 0 []) k)) (pt s.1)^^^0)
  rw [bC (aB _ _)]
  simp
theorem Rv (p q:List UInt8):aB 0 (bz p (0::q))=aB 0 p:=by
 rw [dH,wl];simp
theorem M7 {key:List UInt8} {nd:Int} {hs:List Int} {l:List (Int×List UInt8×Unit)} (F:Fine key nd hs l) (hk:∀x∈hs,gG x) {cf:List Rw} (hc:eG nd cf=0) (hn:oi cf=key.length):Fine key nd hs (l.map (Uw nd cf)):=by
 have K:∀s∈l,gG s.1:=fun s hs'=>hk _ (by rw [←F.hm];exact List.mem_map.2 ⟨s,hs',rfl⟩)
 have U:=fun s (hs':s∈l)=>P1 hc (K s hs') (by rw [F.len s hs',hn])
 have D:=xR hc
 have n3:=D.len;have n2:=D.n2
 refine⟨?_,fun x hx=> ?_,fun k hk'=> ?_⟩
 ·rw [List.map_map,←F.hm]
  exact List.map_congr_left fun s hs'=>(U s hs').2.2.1
 ·obtain⟨s,hs',rfl⟩:=List.mem_map.1 hx
  rw [(U s hs').2.2.2.1];exact F.len s hs'
 ·obtain⟨p,h1,h2,h3⟩:=F.pol k hk'
  refine⟨bz p (0::lX (cf.getD 0 []) k),?_,by rw [Rv,h2],fun x hx=> ?_⟩
  ·have hrl:=D.rows _ (az [] cf 0 (by omega))
   rw [fA,List.length_cons,iv];omega
  ·obtain⟨s,hs',rfl⟩:=List.mem_map.1 hx
   rw [(U s hs').2.2.1]
   exact(U s hs').2.2.2.2 k p (by omega) (h3 s hs')
structure Ready (key:List UInt8) (nd:Int) (hs:List Int) (l:List (Int×List UInt8×Unit)):Prop extends Fine key nd hs l where
 ok:nR hs=true
 n1:1≤nd
 n12:nd≤12
 k4:key.length≤4096
theorem Ready.chk {key:List UInt8} {nd:Int} {hs:List Int} {l:List (Int×List UInt8×Unit)} (h:Ready key nd hs l):fK l=0:=by
 refine zM (n:=key.length) (fun s hs'=>⟨uP h.ok _ (by rw [←h.hm];exact List.mem_map.2 ⟨s,hs',rfl⟩),h.len s hs'⟩) h.k4 ?_
 have:=uO h.ok
 rw [←h.hm] at this
 exact List.pairwise_map.1 this
theorem Ready.part {key:List UInt8} {nd:Int} {hs:List Int} {l:List (Int×List UInt8×Unit)} (h:Ready key nd hs l) {p:List (Int×List UInt8×Unit)} (hp:p.Sublist l):
  sO p nd=0∧(¬(p.length:Int)<nd→vF p nd=0∧K8 p nd 0=key):=by
 have hc:=Jl h.chk
 have hcp:=Np hc hp
 have h1:=h.n1;have h2:=h.n12
 refine⟨by unfold sO;rw [if_pos hcp,if_neg (by omega)],fun e=> ?_⟩
 have hln:jF p=key.length:=h.len _ (hp.subset (az (0, [],()) p 0 (by omega)))
 have hP:∀k,∃q:List UInt8,k<key.length→q.length≤nd.toNat∧aB 0 q=key.getD k 0∧∀s∈l,s.2.1.getD k 0=aB (pt s.1) q:=fun k=>by
  by_cases g:k<key.length
  ·obtain⟨q,hq⟩:=h.pol k g;exact⟨q,fun _=>hq⟩
  ·exact⟨[],fun g'=>absurd g' g⟩
 have key1:=Ds (Jl hcp) h1 (by omega) (P:=fun k=>Classical.choose (hP k)) (fun k hk=>by
  obtain⟨a,b,c⟩:=Classical.choose_spec (hP k) (by omega)
  exact⟨Nat.le_trans (je _) a,fun s hs'=>c s (hp.subset hs')⟩) 0
 refine⟨key1.1,?_⟩
 rw [key1.2,hln]
 refine Eq.trans ?_ (yY key)
 apply List.map_congr_left
 intro k hk
 exact(Classical.choose_spec (hP k) (List.mem_range.1 hk)).2.1
theorem Ready.few {key:List UInt8} {nd:Int} {hs:List Int} {l:List (Int×List UInt8×Unit)} (h:Ready key nd hs l) {p:List (Int×List UInt8×Unit)} (hp:p.Sublist l) (hl:¬nd≤(p.length:Int)) {o:List UInt8} (ho:o.length=key.length):
  xB p nd o∧Bg p nd o=(nd-1-(p.length:Int))*(key.length:Int):=by
 have hr:=(h.part hp).1
 have hk4:=h.k4
 have hln:p.length=0∨jF p=o.length:=by
  rcases Nat.eq_zero_or_pos p.length with g|g
  ·exact .inl g
  ·exact .inr (by rw [ho];exact h.len _ (hp.subset (az (0, [],()) p 0 g)))
 refine⟨⟨hr,by omega,hln,.inl (by omega)⟩,?_⟩
 unfold Bg
 rw [if_pos ⟨hr,by omega,hln,by omega⟩,ho]
theorem Ready.many {key:List UInt8} {nd:Int} {hs:List Int} {l:List (Int×List UInt8×Unit)} (h:Ready key nd hs l) {p:List (Int×List UInt8×Unit)} (hp:p.Sublist l) (hl:nd≤(p.length:Int)) {o:List UInt8} (ho:o.length=key.length):
  (xB p nd o↔o=key)∧Bg p nd o=0:=by
 obtain⟨hr,hj⟩:=h.part hp
 obtain⟨j1,j2⟩:=hj (by omega)
 have hk4:=h.k4;have h1:=h.n1
 have hln:p.length=0∨jF p=o.length:= .inr (by rw [ho];exact h.len _ (hp.subset (az (0, [],()) p 0 (by omega))))
 refine⟨⟨fun g=> ?_,fun g=>⟨hr,by omega,hln,.inr ⟨j1,by rw [j2,g]⟩⟩⟩,?_⟩
 ·have:=(g.2.2.2.resolve_left (by omega)).2
  rw [j2] at this;exact this.symm
 ·unfold Bg
  rw [if_neg (fun g=>by omega)]
theorem Ready.join {key:List UInt8} {nd:Int} {hs:List Int} {l:List (Int×List UInt8×Unit)} (h:Ready key nd hs l) {p:List (Int×List UInt8×Unit)} (hp:p.Sublist l) (hl:nd≤(p.length:Int)):Rn p nd=0∧Up p nd 0=key:=by
 obtain⟨hr,hj⟩:=h.part hp
 obtain⟨j1,j2⟩:=hj (by omega)
 exact⟨by unfold Rn;rw [if_pos hr,j1],by unfold Up;rw [if_pos hr,j2]⟩
theorem Ready.up {key:List UInt8} {nd:Int} {hs:List Int} {l:List (Int×List UInt8×Unit)} (h:Ready key nd hs l) {cf:List Rw} (hc:eG nd cf=0) (hn:oi cf=key.length):Ready key nd hs (l.map (Uw nd cf)):=
 ⟨M7 h.toFine (uP h.ok) hc hn,h.ok,h.n1,h.n12,h.k4⟩
end Go.Proofs.YtailffhfhekkpaaDoor.S62
namespace Go.Proofs.YtailffhfhekkpaaDoor.S62c
set_option maxHeartbeats 20000000
open Go Go.Proofs.YtailffhfhekkpaaDoor.Vc Go.Proofs Go.Proofs.YtailffhfhekkpaaDoor.S62
section
abbrev Ps:=List (Int×List Int)
def jY (set h:Int):Int:=((set.toNat|||((1:Int)*2^h.toNat).toNat:Nat):Int)
def zN (e:Int×List Int) (k set h:Int):Prop:=(((set/2^e.1.toNat).toNat&&&1:Nat):Int)=1∧((((e.2.getD k.toNat 0)/2^h.toNat).toNat&&&1:Nat):Int)=0
def fits (es:Ps) (k set h:Int):Prop:=∃ag,aa es h=some ag∧(((ag.getD k.toNat 0).toNat&&&(jY set h).toNat:Nat):Int)=jY set h∧∀e∈es,¬zN e k set h
open Classical in
noncomputable def cl (es:Ps) (k:Int):List Int→Int→Int→Int
 |[],set,more=>if more=0 then set else -1
 |h::l,set,more=>if more=0 then set else if fits es k set h then(if 0≤cl es k l (jY set h) (more-1) then cl es k l (jY set h) (more-1) else cl es k l set more) else cl es k l set more
structure SrOk (hs:List Int) (es:Ps) (k set more fr:Int):Prop where
 set0:0≤set
 set1:set<4096
 fr0:0≤fr
 fr1:fr≤hs.length
 k0:0≤k
 k1:k<hs.length
 m0:0≤more
 m1:more≤20
 l1:hs.length≤20
 hs1:∀h∈hs,0≤h∧h<12
 es1:∀e∈es,(0≤e.1∧e.1<12)∧e.2.length=hs.length∧∀x∈e.2,0≤x∧x<4096
theorem gD {α:Type} {d:α} {l:List α} {i:Nat} (h:i<l.length):l.getD i d=l[i]:=by simp [List.getD,h]
theorem bE {α:Type} (d:α):∀(l:List α) (i:Nat),i<l.length→l.getD i d∈l:=fun l i h=>by
 rw [gD h];exact List.getElem_mem h
theorem qW {es:Ps} {n:Int} {x:List Int} (h:aa es n=some x):(n,x)∈es:=by
 induction es with
 |nil=>simp [aa] at h
 | cons e es ih=>
  obtain⟨a,b⟩:=e
  simp only [aa] at h
  split at h
  ·rename_i hh
   simp_all
  ·exact List.mem_cons_of_mem _ (ih h)
theorem uq (es:Ps) (k set:Int):∀l,cl es k l set 0=set
 |[]=>by simp [cl]
 |h::l=>by simp [cl]
theorem ue (hs:List Int) (i:Nat) (h:i<hs.length):hs.drop i=hs.getD i 0::hs.drop (i+1):=by
 rw [List.drop_eq_getElem_cons h,gD h]
theorem ut {es:Ps} {k set more:Int} {hs:List Int} {i:Nat} (h:i<hs.length) (hm:¬more=0) (hf:¬fits es k set (hs.getD i 0)):cl es k (hs.drop (i+1)) set more=cl es k (hs.drop i) set more:=by
 rw [ue hs i h,cl,if_neg hm,if_neg hf]
theorem W6 {es:Ps} {k set more:Int} {hs:List Int} {i:Nat} (h:i<hs.length) (hm:¬more=0) (hf:¬0≤cl es k (hs.drop (i+1)) (jY set (hs.getD i 0)) (more-1)):cl es k (hs.drop (i+1)) set more=cl es k (hs.drop i) set more:=by
 rw [ue hs i h,cl,if_neg hm,if_neg hf]
 split<;>rfl
theorem Sl {es:Ps} {k set more:Int} {hs:List Int} {i:Nat} (h:i<hs.length) (hm:¬more=0) (hf:fits es k set (hs.getD i 0)) (hx:0≤cl es k (hs.drop (i+1)) (jY set (hs.getD i 0)) (more-1)):cl es k (hs.drop (i+1)) (jY set (hs.getD i 0)) (more-1)=cl es k (hs.drop i) set more:=by
 rw [ue hs i h,cl,if_neg hm,if_pos hf,if_pos hx]
theorem Sm {es:Ps} {k set more:Int} {hs:List Int} {i:Nat} (h:hs.length≤i) (hm:¬more=0):cl es k (hs.drop i) set more= -1:=by
 rw [List.drop_eq_nil_of_le h,cl,if_neg hm]
def rem (n:Nat) (l:List Nat):Nat:=(List.range n).countP fun i=>decide (i∉l)
theorem iu {p q:Nat→Bool}:∀(l:List Nat),(∀x,q x=true→p x=true)→(∃x∈l,p x=true∧q x=false)→l.countP q<l.countP p
 |[],_,h=>by obtain⟨_,h,_⟩:=h;cases h
 | a::l,hpq,h=>by
  have hle:l.countP q≤l.countP p:=List.countP_mono_left fun x _=>hpq x
  obtain⟨x,hx,h1,h2⟩:=h
  rw [List.countP_cons,List.countP_cons]
  rcases List.mem_cons.1 hx with rfl|hx
  ·rw [h1,h2];simp;omega
  ·have:=iu l hpq ⟨x,hx,h1,h2⟩
   cases hq:q a with
   |true=>rw [hpq a hq,if_pos rfl];omega
   |false=>rw [if_neg (by decide)];omega
theorem Gd {n i:Nat} {l:List Nat} (h:i<n) (hi:¬i∈l):rem n (l++ [i])<rem n l:=by
 refine iu _ (fun x hx=> ?_) ⟨i,List.mem_range.2 h,decide_eq_true hi,decide_eq_false fun hn=>hn (List.mem_append.2 (.inr (List.mem_singleton.2 rfl)))⟩
 exact decide_eq_true fun hx2=>(of_decide_eq_true hx) (List.mem_append.2 (.inl hx2))
theorem tc {h:Int} (h0:0≤h) (h1:h<12):(1:Int)≤2^h.toNat∧(2:Int)^h.toNat≤2048:=by
 obtain⟨n,rfl⟩:=Int.eq_ofNat_of_zero_le h0
 have hn:n<12:=by omega
 rw [Int.toNat_natCast]
 refine⟨?_,?_⟩
 ·have:=Int.pow_pos (n:=2) (m:=n) (by omega);omega
 ·have h:=Nat.pow_le_pow_right (n:=2) (by omega) (show n≤11 by omega)
  have h2:((2^n:Nat):Int)≤((2^11:Nat):Int):=Int.ofNat_le.2 h
  rw [Int.natCast_pow] at h2
  exact h2
theorem t8 {set h:Int} (s0:0≤set) (s1:set<4096) (h0:0≤h) (h1:h<12):0≤jY set h∧jY set h<4096:=by
 obtain⟨p1,p2⟩:=tc h0 h1
 have:set.toNat|||((1:Int)*2^h.toNat).toNat<2^12:=Nat.or_lt_two_pow (by omega) (by omega)
 unfold jY
 omega
end
end Go.Proofs.YtailffhfhekkpaaDoor.S62c

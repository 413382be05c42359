/- Texts of this claim. -/
import Derived.Test.YtogipicegdbhdaaDoorVc11
import Derived.Test.YtogipicegdbhdaaDoorProg
import Derived.KernelRfl
set_option linter.unusedVariables false
set_option linter.unusedSimpArgs false
namespace Go.Proofs.YtogipicegdbhdaaDoor.S72
set_option maxHeartbeats 20000000
open Go Go.Proofs.YtogipicegdbhdaaDoor.Vc Go.Proofs
theorem ty3:bG Tryd.prog 3 (.int .i64):=⟨(by unfold aN;kernel_rfl),Tryd.underlying3⟩
theorem ty4:bG Tryd.prog 4 .bool:=⟨(by unfold aN;kernel_rfl),Tryd.underlying4⟩
theorem ty5:bG Tryd.prog 5 .u8:=⟨(by unfold aN;kernel_rfl),Tryd.underlying5⟩
theorem ty9:bG Tryd.prog 9 .str:=⟨(by unfold aN;kernel_rfl),Tryd.underlying9⟩
theorem aAn:bG Tryd.prog 22 (.sl (.int .i64)):=⟨(by unfold aN;kernel_rfl),3,Tryd.underlying22,by unfold aN;kernel_rfl,by decide⟩
theorem aAm:bG Tryd.prog 24 (.cons (.int .i64) (.cons (.int .i64) (.cons (.int .i64) (.cons (.int .i64) (.cons (.sl (.int .i64)) .nil))))):=⟨(by unfold aN;kernel_rfl),_,Tryd.underlying24,by kernel_rfl,by kernel_rfl⟩
theorem aAl:bG Tryd.prog 26 (.cons .str (.cons .str (.cons (.cons (.int .i64) (.cons (.int .i64) (.cons (.int .i64) (.cons (.int .i64) (.cons (.sl (.int .i64)) .nil))))) .nil))):=⟨(by unfold aN;kernel_rfl),_,Tryd.underlying26,by kernel_rfl,by kernel_rfl⟩
theorem aAk:bG Tryd.prog 27 (.int .u16):=⟨(by unfold aN;kernel_rfl),Tryd.underlying27⟩
theorem aAj:bG Tryd.prog 28 (.sl (.cons (.int .i64) (.cons (.int .i64) .nil))):=⟨(by unfold aN;kernel_rfl),96,Tryd.underlying28,by unfold aN;kernel_rfl,by decide⟩
theorem aAi:bG Tryd.prog 31 (.sl (.sl (.cons (.int .i64) (.cons .str .nil)))):=⟨(by unfold aN;kernel_rfl),45,Tryd.underlying31,by unfold aN;kernel_rfl,by decide⟩
theorem aAh:bG Tryd.prog 34 (.int .i64):=⟨(by unfold aN;kernel_rfl),Tryd.underlying34⟩
theorem aAg:bG Tryd.prog 39 (.sl .str):=⟨(by unfold aN;kernel_rfl),9,Tryd.underlying39,by unfold aN;kernel_rfl,by decide⟩
theorem aAf:bG Tryd.prog 45 (.sl (.cons (.int .i64) (.cons .str .nil))):=⟨(by unfold aN;kernel_rfl),47,Tryd.underlying45,by unfold aN;kernel_rfl,by decide⟩
theorem aAe:bG Tryd.prog 47 (.cons (.int .i64) (.cons .str .nil)):=⟨(by unfold aN;kernel_rfl),_,Tryd.underlying47,by kernel_rfl,by kernel_rfl⟩
theorem aAd:bG Tryd.prog 52 (.cons (.sl (.int .i64)) (.cons (.int .i64) (.cons (.int .i64) (.cons (.int .i64) (.cons (.int .i64) (.cons (.int .i64) .nil)))))):=⟨(by unfold aN;kernel_rfl),_,Tryd.underlying52,by kernel_rfl,by kernel_rfl⟩
theorem aAc:bG Tryd.prog 53 (.sl .bool):=⟨(by unfold aN;kernel_rfl),4,Tryd.underlying53,by unfold aN;kernel_rfl,by decide⟩
theorem aAb:bG Tryd.prog 58 (.mapT (.cons (.int .i64) (.cons .str (.cons (.sl (.sl .str)) (.cons (.sl (.sl (.sl .str))) .nil))))):=⟨(by unfold aN;kernel_rfl),3,65,Tryd.underlying58,Tryd.underlying3,by unfold aN;kernel_rfl,by kernel_rfl⟩
theorem aAa:bG Tryd.prog 59 (.sl (.cons (.int .i64) (.cons (.int .i64) (.cons (.int .i64) (.cons (.int .i64) (.cons (.sl .str) .nil)))))):=⟨(by unfold aN;kernel_rfl),61,Tryd.underlying59,by unfold aN;kernel_rfl,by decide⟩
theorem aAZ:bG Tryd.prog 61 (.cons (.int .i64) (.cons (.int .i64) (.cons (.int .i64) (.cons (.int .i64) (.cons (.sl .str) .nil))))):=⟨(by unfold aN;kernel_rfl),_,Tryd.underlying61,by kernel_rfl,by kernel_rfl⟩
theorem aAY:bG Tryd.prog 62 (.sl (.sl .str)):=⟨(by unfold aN;kernel_rfl),39,Tryd.underlying62,by unfold aN;kernel_rfl,by decide⟩
theorem aAX:bG Tryd.prog 63 (.sl (.sl (.sl .str))):=⟨(by unfold aN;kernel_rfl),62,Tryd.underlying63,by unfold aN;kernel_rfl,by decide⟩
theorem aAW:bG Tryd.prog 65 (.cons (.int .i64) (.cons .str (.cons (.sl (.sl .str)) (.cons (.sl (.sl (.sl .str))) .nil)))):=⟨(by unfold aN;kernel_rfl),_,Tryd.underlying65,by kernel_rfl,by kernel_rfl⟩
theorem aAV:bG Tryd.prog 68 .fnT:=⟨(by unfold aN;kernel_rfl),_,_,_,Tryd.underlying68⟩
theorem aAU:bG Tryd.prog 72 (.sl (.cons (.int .i64) (.cons (.sl (.int .i64)) .nil))):=⟨(by unfold aN;kernel_rfl),74,Tryd.underlying72,by unfold aN;kernel_rfl,by decide⟩
theorem aAT:bG Tryd.prog 74 (.cons (.int .i64) (.cons (.sl (.int .i64)) .nil)):=⟨(by unfold aN;kernel_rfl),_,Tryd.underlying74,by kernel_rfl,by kernel_rfl⟩
theorem aAS:bG Tryd.prog 88 (.cons (.int .i64) (.cons (.sl (.sl .str)) .nil)):=⟨(by unfold aN;kernel_rfl),_,Tryd.underlying88,by kernel_rfl,by kernel_rfl⟩
theorem aAR:bG Tryd.prog 96 (.cons (.int .i64) (.cons (.int .i64) .nil)):=⟨(by unfold aN;kernel_rfl),_,Tryd.underlying96,by kernel_rfl,by kernel_rfl⟩
theorem aAQ:bG Tryd.prog 98 .fnT:=⟨(by unfold aN;kernel_rfl),_,_,_,Tryd.underlying98⟩
theorem W6:bG Tryd.prog 100 (.sl (.arr 12 .bool)):=⟨(by unfold aN;kernel_rfl),103,Tryd.underlying100,by unfold aN;kernel_rfl,by decide⟩
theorem W5:bG Tryd.prog 103 (.arr 12 .bool):=⟨(by unfold aN;kernel_rfl),4,Tryd.underlying103,by unfold aN;kernel_rfl,by decide,by kernel_rfl⟩
theorem W3:bG Tryd.prog 109 .fnT:=⟨(by unfold aN;kernel_rfl),_,_,_,Tryd.underlying109⟩
theorem Wz:bG Tryd.prog 110 (.sl .u8):=⟨(by unfold aN;kernel_rfl),5,Tryd.underlying110,by unfold aN;kernel_rfl,by decide⟩
theorem Wy:bG Tryd.prog 111 .fnT:=⟨(by unfold aN;kernel_rfl),_,_,_,Tryd.underlying111⟩
theorem Wx:bG Tryd.prog 116 .fnT:=⟨(by unfold aN;kernel_rfl),_,_,_,Tryd.underlying116⟩
theorem Ww:bG Tryd.prog 117 .fnT:=⟨(by unfold aN;kernel_rfl),_,_,_,Tryd.underlying117⟩
theorem Wv:bG Tryd.prog 121 (.sl (.cons (.int .i64) (.cons (.int .i64) .nil))):=⟨(by unfold aN;kernel_rfl),125,Tryd.underlying121,by unfold aN;kernel_rfl,by decide⟩
theorem Wu:bG Tryd.prog 125 (.cons (.int .i64) (.cons (.int .i64) .nil)):=⟨(by unfold aN;kernel_rfl),_,Tryd.underlying125,by kernel_rfl,by kernel_rfl⟩
theorem Wt:bG Tryd.prog 148 .fnT:=⟨(by unfold aN;kernel_rfl),_,_,_,Tryd.underlying148⟩
theorem Ws:bG Tryd.prog 152 .fnT:=⟨(by unfold aN;kernel_rfl),_,_,_,Tryd.underlying152⟩
theorem Wr:bG Tryd.prog 161 .fnT:=⟨(by unfold aN;kernel_rfl),_,_,_,Tryd.underlying161⟩
theorem Wq:bG Tryd.prog 162 .fnT:=⟨(by unfold aN;kernel_rfl),_,_,_,Tryd.underlying162⟩
theorem Wp:bG Tryd.prog 163 (.mapT (.sl (.int .i64))):=⟨(by unfold aN;kernel_rfl),3,22,Tryd.underlying163,Tryd.underlying3,by unfold aN;kernel_rfl,by kernel_rfl⟩
theorem Wo:bG Tryd.prog 166 .fnT:=⟨(by unfold aN;kernel_rfl),_,_,_,Tryd.underlying166⟩
theorem Wn:bG Tryd.prog 167 (.sl (.sl .u8)):=⟨(by unfold aN;kernel_rfl),110,Tryd.underlying167,by unfold aN;kernel_rfl,by decide⟩
theorem Wm:bG Tryd.prog 175 .fnT:=⟨(by unfold aN;kernel_rfl),_,_,_,Tryd.underlying175⟩
theorem Wl:bG Tryd.prog 176 .fnT:=⟨(by unfold aN;kernel_rfl),_,_,_,Tryd.underlying176⟩
theorem Wk:bG Tryd.prog 177 .fnT:=⟨(by unfold aN;kernel_rfl),_,_,_,Tryd.underlying177⟩
theorem Wj:bG Tryd.prog 182 (.int .u64):=⟨(by unfold aN;kernel_rfl),Tryd.underlying182⟩
theorem Wi:bG Tryd.prog 192 (.arr 256 .bool):=⟨(by unfold aN;kernel_rfl),4,Tryd.underlying192,by unfold aN;kernel_rfl,by decide,by kernel_rfl⟩
theorem Wh:bG Tryd.prog 195 .fnT:=⟨(by unfold aN;kernel_rfl),_,_,_,Tryd.underlying195⟩
theorem Wg:bG Tryd.prog 196 (.arr 16 .u8):=⟨(by unfold aN;kernel_rfl),5,Tryd.underlying196,by unfold aN;kernel_rfl,by decide,by kernel_rfl⟩
def tys:List (Nat×Ty):= [(3,(.int .i64)),(4,.bool),(5,.u8),(9,.str),(22,(.sl (.int .i64))),(24,(.cons (.int .i64) (.cons (.int .i64) (.cons (.int .i64) (.cons (.int .i64) (.cons (.sl (.int .i64)) .nil)))))),(26,(.cons .str (.cons .str (.cons (.cons (.int .i64) (.cons (.int .i64) (.cons (.int .i64) (.cons (.int .i64) (.cons (.sl (.int .i64)) .nil))))) .nil)))),(27,(.int .u16)),(28,(.sl (.cons (.int .i64) (.cons (.int .i64) .nil)))),(31,(.sl (.sl (.cons (.int .i64) (.cons .str .nil))))),(34,(.int .i64)),(39,(.sl .str)),(45,(.sl (.cons (.int .i64) (.cons .str .nil)))),(47,(.cons (.int .i64) (.cons .str .nil))),(52,(.cons (.sl (.int .i64)) (.cons (.int .i64) (.cons (.int .i64) (.cons (.int .i64) (.cons (.int .i64) (.cons (.int .i64) .nil))))))),(53,(.sl .bool)),(58,(.mapT (.cons (.int .i64) (.cons .str (.cons (.sl (.sl .str)) (.cons (.sl (.sl (.sl .str))) .nil)))))),(59,(.sl (.cons (.int .i64) (.cons (.int .i64) (.cons (.int .i64) (.cons (.int .i64) (.cons (.sl .str) .nil))))))),(61,(.cons (.int .i64) (.cons (.int .i64) (.cons (.int .i64) (.cons (.int .i64) (.cons (.sl .str) .nil)))))),(62,(.sl (.sl .str))),(63,(.sl (.sl (.sl .str)))),(65,(.cons (.int .i64) (.cons .str (.cons (.sl (.sl .str)) (.cons (.sl (.sl (.sl .str))) .nil))))),(68,.fnT),(72,(.sl (.cons (.int .i64) (.cons (.sl (.int .i64)) .nil)))),(74,(.cons (.int .i64) (.cons (.sl (.int .i64)) .nil))),(88,(.cons (.int .i64) (.cons (.sl (.sl .str)) .nil))),(96,(.cons (.int .i64) (.cons (.int .i64) .nil))),(98,.fnT),(100,(.sl (.arr 12 .bool))),(103,(.arr 12 .bool)),(109,.fnT),(110,(.sl .u8)),(111,.fnT),(116,.fnT),(117,.fnT),(121,(.sl (.cons (.int .i64) (.cons (.int .i64) .nil)))),(125,(.cons (.int .i64) (.cons (.int .i64) .nil))),(148,.fnT),(152,.fnT),(161,.fnT),(162,.fnT),(163,(.mapT (.sl (.int .i64)))),(166,.fnT),(167,(.sl (.sl .u8))),(175,.fnT),(176,.fnT),(177,.fnT),(182,(.int .u64)),(192,(.arr 256 .bool)),(195,.fnT),(196,(.arr 16 .u8))]
theorem We:∀T t,lk tys T=some t→bG Tryd.prog T t∧jC Tryd.prog T t=true:=
 tK.ok (⟨⟨ty3,by kernel_rfl⟩,⟨ty4,by kernel_rfl⟩,⟨ty5,by kernel_rfl⟩,⟨ty9,by kernel_rfl⟩,⟨aAn,by kernel_rfl⟩,⟨aAm,by kernel_rfl⟩,⟨aAl,by kernel_rfl⟩,⟨aAk,by kernel_rfl⟩,⟨aAj,by kernel_rfl⟩,⟨aAi,by kernel_rfl⟩,⟨aAh,by kernel_rfl⟩,⟨aAg,by kernel_rfl⟩,⟨aAf,by kernel_rfl⟩,⟨aAe,by kernel_rfl⟩,⟨aAd,by kernel_rfl⟩,⟨aAc,by kernel_rfl⟩,⟨aAb,by kernel_rfl⟩,⟨aAa,by kernel_rfl⟩,⟨aAZ,by kernel_rfl⟩,⟨aAY,by kernel_rfl⟩,⟨aAX,by kernel_rfl⟩,⟨aAW,by kernel_rfl⟩,⟨aAV,by kernel_rfl⟩,⟨aAU,by kernel_rfl⟩,⟨aAT,by kernel_rfl⟩,⟨aAS,by kernel_rfl⟩,⟨aAR,by kernel_rfl⟩,⟨aAQ,by kernel_rfl⟩,⟨W6,by kernel_rfl⟩,⟨W5,by kernel_rfl⟩,⟨W3,by kernel_rfl⟩,⟨Wz,by kernel_rfl⟩,⟨Wy,by kernel_rfl⟩,⟨Wx,by kernel_rfl⟩,⟨Ww,by kernel_rfl⟩,⟨Wv,by kernel_rfl⟩,⟨Wu,by kernel_rfl⟩,⟨Wt,by kernel_rfl⟩,⟨Ws,by kernel_rfl⟩,⟨Wr,by kernel_rfl⟩,⟨Wq,by kernel_rfl⟩,⟨Wp,by kernel_rfl⟩,⟨Wo,by kernel_rfl⟩,⟨Wn,by kernel_rfl⟩,⟨Wm,by kernel_rfl⟩,⟨Wl,by kernel_rfl⟩,⟨Wk,by kernel_rfl⟩,⟨Wj,by kernel_rfl⟩,⟨Wi,by kernel_rfl⟩,⟨Wh,by kernel_rfl⟩,⟨Wg,by kernel_rfl⟩,trivial⟩:tK Tryd.prog tys)
set_option maxRecDepth 100000
def hi:List UInt8:= [0,29,58,39,116,105,78,83,232,245,210,207,156,129,166,187]
def G6:List (Nat×V):= [(0,.rp false (.arr 16 .u8) hi 0)]
theorem Tt:bV G6:=fun g x id h=>by
 unfold G6 lk at h
 cases hb:Nat.beq 0 g<;>simp [hb,lk] at h
 subst h;rfl
theorem S8:fo G6:=fun g x h=>by
 unfold G6 lk at h
 cases hb:Nat.beq 0 g<;>simp [hb,lk] at h
 exact⟨_,_,_,h.symm⟩
theorem mixed:Tryd.prog.follows .mixedOrders=true:=by kernel_rfl

theorem k0:Known Tryd.prog (En [] tys G6 []):= .start Tt S8 mixed We

def iC (x:Int):UInt8:=UInt8.ofNat (x%256).toNat^^^hi.getD (((x/256).toNat&&&15:Nat):Int).toNat 0
def Xc:List V→Option (Prop×V×List Blk)
 |[.int .u64 x]=>some (0≤x,.u8 (iC x), [])
 |_=>none

theorem Z0 (n:Nat):n&&&15<16:=Nat.lt_of_le_of_lt Nat.and_le_right (by omega)

def C1:List (Nat×bI):= [(102,aS [.v (.int .u64)] Xc)]
theorem aBy (x:Int) (hx:0≤x):bL (En [] tys G6 []) Tryd.f102 [.k] [.int .u64 x] (.u8 (iC x)) []:=by
 have h15:=Z0 (x/256).toNat
 refine⟨⟨by omega,by omega⟩,.inl ⟨⟨?_,by omega⟩,?_⟩⟩
 ·show 0≤x/256
  omega
 refine⟨⟨?_,?_⟩,?_⟩
 ·show(0:Int)≤(((x/256).toNat&&&15:Nat):Int)
  omega
 ·show(((x/256).toNat&&&15:Nat):Int)<16
  omega
 exact ao

theorem k1:Known Tryd.prog (En C1 tys G6 []):=k0.add Tryd.func102 Tryd.call102 [.k] fun ds p v bs h hp=>by
 unfold Xc at h
 split at h<;>simp only [Option.some.injEq,Prod.mk.injEq,reduceCtorEq] at h
 obtain⟨rfl,rfl,rfl⟩:=h
 exact aBy _ hp

def tx (a n:Int):Nat→Int
 |0=>0
 |k+1=>if(((n/2^k).toNat&&&1:Nat):Int)=1 then(((tx a n k).toNat^^^(a*2^k).toNat:Nat):Int) else tx a n k
theorem sH (a n:Int) (k:Nat):0≤tx a n k:=by
 induction k with
 |zero=>exact Int.le_refl _
 |succ k ih=>unfold tx;split<;>omega
def gj (a:UInt8) (n:Int):UInt8:=iC (tx a.toNat n 4)
def Gu:List V→Option (Prop×V×List Blk)
 |[.u8 a,.int .u64 n]=>some (0≤n,.u8 (gj a n), [])
 |_=>none

def C2:List (Nat×bI):=(103,aS [.v .u8,.v (.int .u64)] Gu)::C1
theorem Ul (a:UInt8) (m:Int) (hm:0≤m):bL (En C1 tys G6 []) Tryd.f103 [.k] [.u8 a,.int .u64 m] (.u8 (gj a m)) []:=by
 have ha:=a.toNat_lt
 refine⟨0, [(0,.k),(1,.k),(5,.k),(7,.k)],fun n vs H=>∃k:Nat,k≤4∧n=4-k∧vs= [.u8 a,.int .u64 m,.int .u64 (tx a.toNat m k),.int .i64 k]∧H= [],⟨rfl,4,0,by omega,rfl,rfl,rfl⟩,?_⟩
 rintro n vs H ⟨k,hk,rfl,rfl,rfl⟩
 refine⟨fun h4=> ?_,fun h4=> ?_⟩
 ·have hk4:k<4:=by omega
  have hp:(2:Int)^k≤8:=by
   have:k=0∨k=1∨k=2∨k=3:=by omega
   rcases this with h|h|h|h<;>subst h<;>decide
  have hp0:(0:Int)<2^k:=Int.pow_pos (by decide)
  refine⟨⟨by omega,by omega⟩,.inl ⟨⟨?_,by omega⟩,?_⟩⟩
  ·exact Int.ediv_nonneg hm (Int.le_of_lt hp0)
  refine⟨fun h1=> ?_,fun h1=> ?_⟩
  ·have hx:(a.toNat:Int)*2^k≤255*8:=Int.mul_le_mul (by omega) hp (by omega) (by omega)
   have hx0:(0:Int)≤(a.toNat:Int)*2^k:=Int.mul_nonneg (by omega) (by omega)
   have e:tx a.toNat m (k+1)=_:=if_pos h1
   refine⟨⟨by omega,by omega⟩,⟨hx0,?_⟩,⟨sH _ _ _,hx0⟩,⟨by omega,by omega⟩,⟨rfl,4-(k+1),by omega,k+1,by omega,by omega,?_,rfl⟩⟩
   ·show(a.toNat:Int)*2^k≤18446744073709551615
    omega
   ·rw [e];rfl
  ·have e:tx a.toNat m (k+1)=_:=if_neg h1
   refine⟨⟨by omega,by omega⟩,⟨rfl,4-(k+1),by omega,k+1,by omega,by omega,?_,rfl⟩⟩
   rw [e];rfl
 ·have:k=4:=by omega
  subst this
  exact⟨rfl,sH _ _ _,rfl,rfl,rfl,rfl⟩

theorem k2:Known Tryd.prog (En C2 tys G6 []):=k1.add Tryd.func103 Tryd.call103 [.k] fun ds p v bs h hp=>by
 unfold Gu at h
 split at h<;>simp only [Option.some.injEq,Prod.mk.injEq,reduceCtorEq] at h
 obtain⟨rfl,rfl,rfl⟩:=h
 exact Ul _ _ hp

def aI (a b:UInt8):UInt8:=iC ((gj a (UInt8.ofNat (b.toNat/16)).toNat).toNat*16)^^^gj a (b&&&15).toNat
def Xf:List V→Option (Prop×V×List Blk)
 |[.u8 a,.u8 b]=>some (True,.u8 (aI a b), [])
 |_=>none
theorem aB7 (a b:UInt8):bL (En C2 tys G6 []) Tryd.f82 [.k] [.u8 a,.u8 b] (.u8 (aI a b)) []:=by
 have h1:=(gj a (UInt8.ofNat (b.toNat/16)).toNat).toNat_lt
 refine⟨⟨by omega,by omega⟩,⟨rfl,by omega,?_⟩⟩
 refine⟨⟨by omega,by omega⟩,⟨?_,?_⟩,⟨rfl,?_,?_⟩⟩
 ·show(0:Int)≤(gj a (UInt8.ofNat (b.toNat/16)).toNat).toNat*16
  omega
 ·show((gj a (UInt8.ofNat (b.toNat/16)).toNat).toNat:Int)*16≤18446744073709551615
  omega
 ·show(0:Int)≤(gj a (UInt8.ofNat (b.toNat/16)).toNat).toNat*16
  omega
 exact⟨rfl,by omega,rfl,rfl,rfl,rfl⟩
def C3:List (Nat×bI):=(82,aS [.v .u8,.v .u8] Xf)::C2
theorem k3:Known Tryd.prog (En C3 tys G6 []):=k2.add Tryd.func82 Tryd.call82 [.k] fun ds p v bs h hp=>by
 unfold Xf at h
 split at h<;>simp only [Option.some.injEq,Prod.mk.injEq,reduceCtorEq] at h
 obtain⟨rfl,rfl,rfl⟩:=h
 exact aB7 _ _

def wS:Nat→UInt8→Int→UInt8→UInt8
 |0,_,_,x=>x
 |f+1,a,n,x=>if 0<n then wS f (aI a a) (n/2) (if((n.toNat&&&1:Nat):Int)=1 then aI x a else x) else x
def Xd:List V→Option (Prop×V×List Blk)
 |[.u8 a,.int .i64 n]=>some (0≤n∧n<256,.u8 (wS 8 a n 1), [])
 |_=>none
theorem aB3 (a:UInt8) (m:Int) (h0:0≤m) (h1:m<256):bL (En C3 tys G6 []) Tryd.f116 [.k] [.u8 a,.int .i64 m] (.u8 (wS 8 a m 1)) []:=by
 refine⟨0, [(0,.k),(1,.k),(5,.k)],fun f vs H=>∃a' n' x',0≤n'∧n'<2^f∧wS f a' n' x'=wS 8 a m 1∧vs= [.u8 a',.int .i64 n',.u8 x']∧H= [],⟨rfl,8,a,m,1,h0,by omega,rfl,rfl,rfl⟩,?_⟩
 rintro f vs H ⟨a',n',x',h2,h3,h4,rfl,rfl⟩
 refine⟨fun hn=> ?_,fun hn=> ?_⟩
 ·cases f with
  |zero=>exact absurd h3 (by omega)
  |succ f=>
  have hb:n'/2<2^f:=by rw [Int.pow_succ] at h3;omega
  rw [show wS (f+1) a' n' x'=_ from if_pos hn] at h4
  refine .inl ⟨⟨h2,by omega⟩,yn (((n'.toNat&&&1:Nat):Int)=1) (fun h5=> ?_) fun h5=> ?_⟩
  ·rw [if_pos h5] at h4
   exact⟨trivial,trivial,⟨by omega,by omega⟩,rfl,f,by omega,_,_,_,Int.ediv_nonneg h2 (by omega),hb,h4,rfl,rfl⟩
  ·rw [if_neg h5] at h4
   exact⟨trivial,⟨by omega,by omega⟩,rfl,f,by omega,_,_,_,Int.ediv_nonneg h2 (by omega),hb,h4,rfl,rfl⟩
 ·have:n'=0:=by omega
  subst this
  have:wS f a' 0 x'=x':=by cases f<;>rfl
  rw [this] at h4
  subst h4
  exact ao
def C4:List (Nat×bI):=(116,aS [.v .u8,.v (.int .i64)] Xd)::C3
theorem k4:Known Tryd.prog (En C4 tys G6 []):=k3.add Tryd.func116 Tryd.call116 [.k] fun ds p v bs h hp=>by
 unfold Xd at h
 split at h<;>simp only [Option.some.injEq,Prod.mk.injEq,reduceCtorEq] at h
 obtain⟨rfl,rfl,rfl⟩:=h
 exact aB3 _ _ hp.1 hp.2

def dT (a:UInt8):UInt8:=if a=0 then 0 else wS 8 a 254 1
def Xj:List V→Option (Prop×V×List Blk)
 |[.u8 a]=>some (True,.tup [.u8 (dT a),.int .i64 (if a=0 then 1 else 0)], [])
 |_=>none
theorem aCG (a:UInt8):bL (En C4 tys G6 []) Tryd.f113 [.k,.k] [.u8 a] (.tup [.u8 (dT a),.int .i64 (if a=0 then 1 else 0)]) []:=by
 refine⟨fun h=> ?_,fun h=> ?_⟩
 ·replace h:a=0:=h
  rw [show dT a=0 from if_pos h,if_pos h]
  exact ao
 ·replace h:¬a=0:=h
  rw [show dT a=_ from if_neg h,if_neg h]
  exact⟨rfl,⟨by omega,by omega⟩,rfl,rfl,rfl,rfl⟩
def C5:List (Nat×bI):=(113,aS [.v .u8] Xj)::C4
theorem k5:Known Tryd.prog (En C5 tys G6 []):=k4.add Tryd.func113 Tryd.call113 [.k,.k] fun ds p v bs h hp=>by
 unfold Xj at h
 split at h<;>simp only [Option.some.injEq,Prod.mk.injEq,reduceCtorEq] at h
 obtain⟨rfl,rfl,rfl⟩:=h
 exact aCG _

def C6:List (Nat×bI):=C5
theorem k6:Known Tryd.prog (En C6 tys G6 []):=k5
def C7:List (Nat×bI):=C6
theorem k7:Known Tryd.prog (En C7 tys G6 []):=k6
theorem oH (a b k:Nat):(a^^^b)*2^k=a*2^k^^^b*2^k:=by
 rw [←Nat.shiftLeft_eq,←Nat.shiftLeft_eq,←Nat.shiftLeft_eq,Nat.shiftLeft_xor_distrib]
def L8 (a n:Nat):Nat→Nat
 |0=>0
 |k+1=>if n/2^k%2=1 then L8 a n k^^^a*2^k else L8 a n k
def wG (x:Nat):Nat:=x%256^^^(hi.getD (x/256%16) 0).toNat
theorem Fx (a n:Nat):∀k,tx (a:Int) (n:Int) k=(L8 a n k:Int)
 |0=>rfl
 | k+1=>by
  have h1:((n:Int)/2^k).toNat&&&1=n/2^k%2:=by
   have e:(n:Int)/2^k=((n/2^k:Nat):Int):=by rw [Int.natCast_ediv,Int.natCast_pow];rfl
   rw [e,Int.toNat_natCast,Nat.and_one_is_mod]
  have h2:((a:Int)*2^k).toNat=a*2^k:=by
   have e:(a:Int)*2^k=((a*2^k:Nat):Int):=by rw [Int.natCast_mul,Int.natCast_pow];rfl
   rw [e,Int.toNat_natCast]
  unfold tx L8
  rw [Fx a n k,h1,h2,Int.toNat_natCast]
  by_cases h:n/2^k%2=1
  ·rw [if_pos h,if_pos (by omega)]
  ·rw [if_neg h,if_neg (by omega)]
theorem pi {x y:UInt8} (h:x.toNat=y.toNat):x=y:=UInt8.toNat_inj.1 h
theorem wH (x:Nat):(iC (x:Int)).toNat=wG x:=by
 have h1:((x:Int)/256).toNat&&&15=x/256%16:=by
  have e:(x:Int)/256=((x/256:Nat):Int):=by rw [Int.natCast_ediv];rfl
  rw [e,Int.toNat_natCast,show(15:Nat)=2^4-1 from rfl,Nat.and_two_pow_sub_one_eq_mod]
 have h2:((x:Int)%256).toNat=x%256:=by omega
 unfold iC wG
 rw [h1,h2,Int.toNat_natCast,UInt8.toNat_xor,UInt8.toNat_ofNat_of_lt' (om (x%256<256))]
theorem Tr:∀i:Fin 16,∀j:Fin 16,(hi.getD (i.val^^^j.val) 0).toNat=(hi.getD i.val 0).toNat^^^(hi.getD j.val 0).toNat:=by decide
theorem wF (x y:Nat):wG (x^^^y)=wG x^^^wG y:=by
 unfold wG
 have h1:(x^^^y)%256=x%256^^^y%256:=by rw [show 256=2^8 from rfl,Nat.xor_mod_two_pow]
 have h2:(x^^^y)/256%16=(x/256%16)^^^(y/256%16):=by
  rw [show 256=2^8 from rfl,show 16=2^4 from rfl,Nat.xor_div_two_pow,Nat.xor_mod_two_pow]
 have h3:=Tr ⟨x/256%16,by omega⟩ ⟨y/256%16,by omega⟩
 rw [h1,h2,h3]
 ac_rfl
theorem zw (a b n:Nat):∀k,L8 (a^^^b) n k=L8 a n k^^^L8 b n k
 |0=>by simp [L8]
 |k+1=>by
  unfold L8
  rw [zw a b n k]
  split
  ·rw [oH];ac_rfl
  ·rfl
def gg (a n:Nat):Nat:=wG (L8 a n 4)
theorem pn (a b n:Nat):gg (a^^^b) n=gg a n^^^gg b n:=by
 unfold gg;rw [zw,wF]
theorem pp (a:UInt8) (n:Nat):(gj a (n:Int)).toNat=gg a.toNat n:=by
 unfold gj gg
 rw [Fx,wH]
def uE (a b:Nat):Nat:=wG (gg a (b/16)*16)^^^gg a (b%16)
theorem dq (a b:UInt8):(aI a b).toNat=uE a.toNat b.toNat:=by
 have hb:=b.toNat_lt
 unfold aI uE
 have h1:(UInt8.ofNat (b.toNat/16)).toNat=b.toNat/16:=UInt8.toNat_ofNat_of_lt' (om (b.toNat/16<256))
 have h2:(b&&&15).toNat=b.toNat%16:=by
  rw [UInt8.toNat_and]
  exact Nat.and_two_pow_sub_one_eq_mod b.toNat 4
 rw [UInt8.toNat_xor,h1,h2,pp,pp]
 rw [show((gg a.toNat (b.toNat/16):Nat):Int)*16=((gg a.toNat (b.toNat/16)*16:Nat):Int) by rw [Int.natCast_mul];rfl,wH]
theorem bX (a b c:UInt8):aI (a^^^b) c=aI a c^^^aI b c:=by
 refine pi ?_
 rw [dq,UInt8.toNat_xor,UInt8.toNat_xor,dq,dq]
 unfold uE
 rw [pn,pn,show(16:Nat)=2^4 from rfl,oH,wF]
 ac_rfl

def ia:List UInt8:= [1,2,4,8,16,32,64,128]
theorem Nt:∀a:Fin 256,UInt8.ofNat a.val=(UInt8.ofNat a.val&&&1)^^^(UInt8.ofNat a.val&&&2)^^^(UInt8.ofNat a.val&&&4)^^^(UInt8.ofNat a.val&&&8)^^^(UInt8.ofNat a.val&&&16)^^^(UInt8.ofNat a.val&&&32)^^^(UInt8.ofNat a.val&&&64)^^^(UInt8.ofNat a.val&&&128):=by decide
theorem Fw {p:UInt8→Prop} (h:∀a:Fin 256,p (UInt8.ofNat a.val)) (a:UInt8):p a:=by
 have:=h ⟨a.toNat,a.toNat_lt⟩
 simpa using this
theorem Pk (a c:UInt8) (hc:c∈ia):a&&&c=0∨a&&&c=c:=by
 have key:∀c∈ia,∀a:Fin 256,UInt8.ofNat a.val&&&c=0∨UInt8.ofNat a.val&&&c=c:=by decide
 exact Fw (p:=fun a=>a&&&c=0∨a&&&c=c) (key c hc) a
theorem kg {f g:UInt8→UInt8} (hf:∀a b,f (a^^^b)=f a^^^f b) (hg:∀a b,g (a^^^b)=g a^^^g b) (h:∀c∈ia,f c=g c) (a:UInt8):f a=g a:=by
 have f0:f 0=0:=by have:=hf 0 0;simpa using this
 have g0:g 0=0:=by have:=hg 0 0;simpa using this
 have hb:∀c∈ia,f (a&&&c)=g (a&&&c):=fun c hc=>by
  rcases Pk a c hc with e|e<;>rw [e]
  ·rw [f0,g0]
  ·exact h c hc
 have e:=Fw (p:=fun a=>a=(a&&&1)^^^(a&&&2)^^^(a&&&4)^^^(a&&&8)^^^(a&&&16)^^^(a&&&32)^^^(a&&&64)^^^(a&&&128)) Nt a
 rw [e]
 simp only [hf,hg]
 rw [hb 1 (by decide),hb 2 (by decide),hb 4 (by decide),hb 8 (by decide),hb 16 (by decide),hb 32 (by decide),hb 64 (by decide),hb 128 (by decide)]

def xt (x:Nat):Nat:=if 255<2*x then 2*x^^^285 else 2*x
def chk (f:UInt8→UInt8→Bool):Nat→Bool
 |0=>true
 |n+1=>ia.all (fun c=>f c (UInt8.ofNat n))&&chk f n
theorem J9 {f:UInt8→UInt8→Bool}:∀{n:Nat},chk f n=true→∀c∈ia,∀b:Nat,b<n→f c (UInt8.ofNat b)=true
 |0,_,c,hc,b,hb=>by omega
 |n+1,h,c,hc,b,hb=>by
  unfold chk at h
  rw [Bool.and_eq_true] at h
  by_cases e:b=n
  ·subst e;exact List.all_eq_true.1 h.1 c hc
  ·exact J9 h.2 c hc b (by omega)
theorem O0 {f:UInt8→UInt8→Bool} (h:chk f 256=true) (c:UInt8) (hc:c∈ia) (b:UInt8):f c b=true:=by
 have:=J9 h c hc b.toNat b.toNat_lt
 simpa using this
theorem ev2:chk (fun c b=>Nat.beq (uE c.toNat b.toNat) (uE b.toNat c.toNat)) 256=true:=by kernel_rfl
theorem pP (c:UInt8) (hc:c∈ia) (b:UInt8):aI c b=aI b c:=by
 refine pi ?_
 rw [dq,dq]
 exact Nat.eq_of_beq_eq_true (O0 ev2 c hc b)
theorem a9 (a b:UInt8):aI a b=aI b a:=by
 have hb:∀c∈ia,∀x y:UInt8,aI c (x^^^y)=aI c x^^^aI c y:=fun c hc x y=>by
  rw [pP c hc,pP c hc,pP c hc,bX]
 have hr:∀a x y:UInt8,aI a (x^^^y)=aI a x^^^aI a y:=fun a x y=>by
  refine kg (f:=fun a=>aI a (x^^^y)) (g:=fun a=>aI a x^^^aI a y) (fun p q=>bX p q _) (fun p q=> ?_) (fun c hc=>hb c hc x y) a
  show aI (p^^^q) x^^^aI (p^^^q) y=_
  rw [bX,bX]
  ac_rfl
 exact kg (f:=fun a=>aI a b) (g:=fun a=>aI b a) (fun p q=>bX p q b) (fun p q=>hr b p q) (fun c hc=>pP c hc b) a
theorem dc (a b c:UInt8):aI a (b^^^c)=aI a b^^^aI a c:=by
 rw [a9,bX,a9 b,a9 c]
def Zx:Bool:=ia.all fun a=>ia.all fun b=>ia.all fun c=>Nat.beq (uE (uE a.toNat b.toNat) c.toNat) (uE a.toNat (uE b.toNat c.toNat))
theorem ev3:Zx=true:=by kernel_rfl
theorem eI (a b c:UInt8):aI (aI a b) c=aI a (aI b c):=by
 refine kg (f:=fun a=>aI (aI a b) c) (g:=fun a=>aI a (aI b c)) (fun p q=>by show aI (aI (p^^^q) b) c=_;rw [bX,bX]) (fun p q=>bX p q _) (fun a ha=> ?_) a
 refine kg (f:=fun b=>aI (aI a b) c) (g:=fun b=>aI a (aI b c)) (fun p q=>by show aI (aI a (p^^^q)) c=_;rw [dc,bX]) (fun p q=>by show aI a (aI (p^^^q) c)=_;rw [bX,dc]) (fun b hb=> ?_) b
 refine kg (f:=fun c=>aI (aI a b) c) (g:=fun c=>aI a (aI b c)) (fun p q=>dc _ p q) (fun p q=>by show aI a (aI b (p^^^q))=_;rw [dc,dc]) (fun c hc=> ?_) c
 refine pi ?_
 rw [dq,dq,dq,dq]
 have:=ev3
 unfold Zx at this
 simp only [List.all_eq_true] at this
 exact Nat.eq_of_beq_eq_true (this a ha b hb c hc)

theorem bN (a:UInt8):aI a 0=0:=by have:=dc a 0 0;simpa using this
theorem bM (a:UInt8):aI 0 a=0:=by rw [a9,bN]
theorem mI (a:UInt8):aI a 1=a:=by
 refine kg (f:=fun a=>aI a 1) (g:=fun a=>a) (fun p q=>bX p q 1) (fun p q=>rfl) (fun c hc=> ?_) a
 have:∀c∈ia,aI c 1=c:=by decide
 exact this c hc
theorem jp (a:UInt8):aI 1 a=a:=by rw [a9,mI]
def Bg:Nat→Bool
 |0=>true
 |n+1=>Nat.beq (aI (UInt8.ofNat (n+1)) (dT (UInt8.ofNat (n+1)))).toNat 1&&Bg n
theorem ev4:Bg 255=true:=by kernel_rfl
theorem w8:∀{n:Nat},Bg n=true→∀k:Nat,0<k→k≤n→(aI (UInt8.ofNat k) (dT (UInt8.ofNat k))).toNat=1
 |0,_,k,h,h'=>by omega
 |n+1,h,k,h0,h'=>by
  unfold Bg at h
  rw [Bool.and_eq_true] at h
  by_cases e:k=n+1
  ·subst e;exact Nat.eq_of_beq_eq_true h.1
  ·exact w8 h.2 k h0 (by omega)
theorem mJ (a:UInt8) (h:a≠0):aI a (dT a)=1:=by
 have h0:0<a.toNat:=by
  rcases Nat.eq_zero_or_pos a.toNat with e|e
  ·exact absurd (pi e) h
  ·exact e
 have:=w8 ev4 a.toNat h0 (by have:=a.toNat_lt;omega)
 refine pi ?_
 simpa using this
theorem iu {a b:UInt8} (h:aI a b=0):a=0∨b=0:=by
 by_cases ha:a=0
 ·exact .inl ha
 ·refine .inr ?_
  have:aI (dT a) (aI a b)=b:=by rw [←eI,a9 (dT a),mJ a ha,jp]
  rw [h,bN] at this
  exact this.symm
def aB (x:UInt8):List UInt8→UInt8
 |[]=>0
 |c::p=>aI (aB x p) x^^^c
theorem oY (x:UInt8) (p:List UInt8) (k:Nat) (h:k<p.length):aB x (p.drop k)=aI (aB x (p.drop (k+1))) x^^^p.getD k 0:=by
 rw [List.drop_eq_getElem_cons h,aB]
 simp [List.getElem?_eq_getElem h]
def Qd:List V→Option (Prop×V×List Blk)
 |[.sl false .u8 p,.u8 x]=>some (p.length≤1000000,.u8 (aB x p), [])
 |_=>none
theorem Zs (p:List UInt8) (x:UInt8) (hp:p.length≤1000000):bL (En C7 tys G6 []) Tryd.f80 [.k] [.sl false .u8 p,.u8 x] (.u8 (aB x p)) []:=by
 refine⟨⟨by omega,by omega⟩,0, [(0,.k),(1,.k),(5,.k),(6,.k)],fun n vs H=>∃k:Int,n=(k+1).toNat∧-1≤k∧k<p.length∧vs= [.sl false .u8 p,.u8 x,.u8 (aB x (p.drop (k+1).toNat)),.int .i64 k]∧H= [],⟨rfl,p.length,p.length-1,by omega,by omega,by omega,?_,rfl⟩,?_⟩
 ·have:((p.length:Int)-1+1).toNat=p.length:=by omega
  rw [this,List.drop_length]
  rfl
 ·rintro n vs H ⟨k,rfl,h1,h2,rfl,rfl⟩
  refine⟨fun hk=> ?_,fun hk=> ?_⟩
  ·refine⟨by kernel_rfl,trivial,⟨hk,h2⟩,⟨by omega,by omega⟩,rfl,k.toNat,by omega,k-1,by omega,by omega,by omega,?_,rfl⟩
   have e:=oY x p k.toNat (by omega)
   have e1:(k-1+1).toNat=k.toNat:=by omega
   have e2:(k+1).toNat=k.toNat+1:=by omega
   rw [e1,e,←e2]
   rfl
  ·have:k= -1:=by omega
   subst this
   exact ao
def C8:List (Nat×bI):=(80,aS [.v (.sl .u8),.v .u8] Qd)::C7
theorem k8:Known Tryd.prog (En C8 tys G6 []):=k7.add Tryd.func80 Tryd.call80 [.k] fun ds p v bs h hp=>by
 unfold Qd at h
 split at h<;>simp only [Option.some.injEq,Prod.mk.injEq,reduceCtorEq] at h
 obtain⟨rfl,rfl,rfl⟩:=h
 exact Zs _ _ hp

def aF:List UInt8→List UInt8
 |[]=> []
 |c::p=>match aF p with
  |[]=>if c=0 then [] else [c]
  |d::q=>c::d::q
theorem fi (c:UInt8):∀l:List UInt8,aF (l++ [c])=if c=0 then aF l else l++ [c]
 |[]=>by simp [aF]
 | d::l=>by
  have ih:=fi c l
  by_cases hc:c=0
  ·rw [if_pos hc] at ih ⊢
   simp [aF,ih]
  ·rw [if_neg hc] at ih ⊢
   rw [List.cons_append]
   show(match aF (l++ [c]) with| []=>if d=0 then [] else [d]|e::q=>d::e::q)=_
   rw [ih]
   cases l<;>rfl
theorem cY:∀l:List UInt8,(aF l).length≤l.length
 |[]=>by simp [aF]
 |c::l=>by
  have:=cY l
  unfold aF
  split
  ·split<;>simp
  ·rename_i h;rw [h] at this;simpa using this
theorem pj:∀l:List UInt8,l.take (aF l).length=aF l
 |[]=>rfl
 |c::l=>by
  have ih:=pj l
  unfold aF
  split
  ·split<;>simp
  ·rename_i h;rw [h] at ih;simpa using ih
theorem cZ (p:List UInt8) (k:Nat) (h:k<p.length):p.take (k+1)=p.take k++ [p.getD k 0]:=by
 rw [List.take_succ_eq_append_getElem h]
 simp [List.getElem?_eq_getElem h]
def dw (p:List UInt8):Int:=(aF p).length-1
def Xm:List V→Option (Prop×V×List Blk)
 |[.sl false .u8 p]=>some (p.length≤1000000,.int .i64 (dw p), [])
 |_=>none
theorem aCK (p:List UInt8) (hp:p.length≤1000000):bL (En C8 tys G6 []) Tryd.f101 [.k] [.sl false .u8 p] (.int .i64 (dw p)) []:=by
 refine⟨⟨by omega,by omega⟩,0, [(0,.k),(3,.k)],fun n vs H=>∃k:Int,n=(k+1).toNat∧-1≤k∧k<p.length∧aF p=aF (p.take (k+1).toNat)∧vs= [.sl false .u8 p,.int .i64 k]∧H= [],⟨rfl,p.length,p.length-1,by omega,by omega,by omega,?_,rfl,rfl⟩,?_⟩
 ·have:((p.length:Int)-1+1).toNat=p.length:=by omega
  rw [this,List.take_length]
 ·rintro n vs H ⟨k,rfl,h1,h2,ht,rfl,rfl⟩
  refine⟨fun hk=> ?_,fun hk=> ?_⟩
  ·have e2:(k+1).toNat=k.toNat+1:=by omega
   rw [e2,cZ p k.toNat (by omega),fi] at ht
   refine⟨⟨hk,h2⟩,yn (p.getD k.toNat 0≠0) (fun h3=> ?_) fun h3=> ?_⟩
   ·rw [if_neg h3] at ht
    have:dw p=k:=by
     unfold dw
     rw [ht,List.length_append,List.length_take]
     simp
     omega
    rw [this]
    exact ao
   ·have h3:p.getD k.toNat 0=0:=nw h3
    rw [if_pos h3] at ht
    refine⟨⟨by omega,by omega⟩,rfl,k.toNat,by omega,k-1,by omega,by omega,by omega,?_,rfl,rfl⟩
    rw [ht]
    congr 2
    omega
  ·have:k= -1:=by omega
   subst this
   have:dw p= -1:=by unfold dw;rw [ht];rfl
   rw [this]
   exact ao
def C9:List (Nat×bI):=(101,aS [.v (.sl .u8)] Xm)::C8
theorem k9:Known Tryd.prog (En C9 tys G6 []):=k8.add Tryd.func101 Tryd.call101 [.k] fun ds p v bs h hp=>by
 unfold Xm at h
 split at h<;>simp only [Option.some.injEq,Prod.mk.injEq,reduceCtorEq] at h
 obtain⟨rfl,rfl,rfl⟩:=h
 exact aCK _ hp

def G5:List V→Option (Prop×V×List Blk)
 |[.sl false .u8 p]=>some (p.length≤1000000,.own .u8 0, [.row true .u8 p])
 |_=>none
theorem Ur (p:List UInt8) (hp:p.length≤1000000):bL (En C9 tys G6 []) Tryd.f117 [.o .u8] [.sl false .u8 p] (.own .u8 0) [.row true .u8 p]:=by
 intro q hq
 refine⟨fun h=> ?_,fun h=> ?_⟩
 ·have:=hq h
  subst this
  exact ao
 ·refine⟨fN,?_,?_⟩
  ·show 0+p.length≤1000000000
   omega
  exact ao
def C10:List (Nat×bI):=(117,aS [.v (.sl .u8)] G5)::C9
theorem k10:Known Tryd.prog (En C10 tys G6 []):=k9.add Tryd.func117 Tryd.call117 [.o .u8] fun ds p v bs h hp=>by
 unfold G5 at h
 split at h<;>simp only [Option.some.injEq,Prod.mk.injEq,reduceCtorEq] at h
 obtain⟨rfl,rfl,rfl⟩:=h
 exact Ur _ hp

def Qa:List V→Option (Prop×V×List Blk)
 |[.sl false .u8 p]=>some (p.length≤1000000,.own .u8 0, [.row true .u8 (aF p)])
 |_=>none
theorem Zd (p:List UInt8) (hp:p.length≤1000000):bL (En C10 tys G6 []) Tryd.f114 [.o .u8] [.sl false .u8 p] (.own .u8 0) [.row true .u8 (aF p)]:=by
 have h1:=cY p
 have h2:dw p=(aF p).length-1:=rfl
 have h3:(dw p+1).toNat=(aF p).length:=by omega
 refine⟨hp,⟨by omega,by omega⟩,⟨by omega,by omega⟩,?_,?_⟩
 ·show(p.take (dw p+1).toNat).length≤1000000
  rw [List.length_take]
  omega
 have e:p.take (dw p+1).toNat=aF p:=by rw [h3,pj]
 refine⟨rfl,rfl,rfl,?_⟩
 show [Blk.row true .u8 (p.take (dw p+1).toNat)]=_
 rw [e]
def C11:List (Nat×bI):=(114,aS [.v (.sl .u8)] Qa)::C10
theorem k11:Known Tryd.prog (En C11 tys G6 []):=k10.add Tryd.func114 Tryd.call114 [.o .u8] fun ds p v bs h hp=>by
 unfold Qa at h
 split at h<;>simp only [Option.some.injEq,Prod.mk.injEq,reduceCtorEq] at h
 obtain⟨rfl,rfl,rfl⟩:=h
 exact Zd _ hp
def cC:List UInt8→List UInt8→List UInt8
 |[],b=>b
 |a, []=>a
 |x::a,y::b=>(x^^^y)::cC a b
theorem pf (a:List UInt8):cC a []=a:=by cases a<;>rfl
theorem eZ:∀a b:List UInt8,(cC a b).length=max a.length b.length
 |[],b=>by simp [cC]
 |x::a, []=>by simp [cC]
 |x::a,y::b=>by simp [cC,eZ a b]
theorem sG (c:UInt8):∀(a l:List UInt8),cC a (l++ [c])=if l.length=(cC a l).length then cC a l++ [c] else(cC a l).set l.length ((cC a l).getD l.length 0^^^c)
 |[],l=>by simp [cC]
 |x::a, []=>by simp [cC,pf]
 |x::a,y::l=>by
  have ih:=sG c a l
  simp only [List.cons_append,cC,List.length_cons,Nat.add_right_cancel_iff,List.set_cons_succ,List.getD_cons_succ]
  rw [ih]
  split<;>rfl
def nA (ls:List (List UInt8)):List UInt8:=ls.foldl cC []
def dC (ls:List (List UInt8)):List UInt8:=aF (nA ls)
theorem Cq (ls:List (List UInt8)) (p:List UInt8):nA (ls++ [p])=cC (nA ls) p:=by simp [nA]
theorem yJ (ls:List (List UInt8)) (k:Nat) (h:k<ls.length):ls.take (k+1)=ls.take k++ [ls.getD k []]:=by
 rw [List.take_succ_eq_append_getElem h]
 simp [List.getElem?_eq_getElem h]
theorem pz (N:Nat):∀(ls:List (List UInt8)),(∀p∈ls,p.length≤N)→(nA ls).length≤N:=by
 intro ls h
 have:∀(ls:List (List UInt8)) (a:List UInt8),a.length≤N→(∀p∈ls,p.length≤N)→(ls.foldl cC a).length≤N:=by
  intro ls
  induction ls with
  |nil=>intro a ha _;exact ha
  |cons p ls ih=>
   intro a ha hp
   refine ih _ ?_ fun q hq=>hp q (by simp [hq])
   rw [eZ]
   have:=hp p (by simp)
   omega
 exact this ls [] (by simp) h

def Xa:List V→Option (Prop×V×List Blk)
 |[.sl false (.sl .u8) ls]=>some (ls.length≤1000∧∀p∈ls,p.length≤1000000,.own .u8 0, [.row true .u8 (dC ls)])
 |_=>none
theorem aBu (ls:List (List UInt8)) (hl:ls.length≤1000) (hp:∀p∈ls,p.length≤1000000):bL (En C11 tys G6 []) Tryd.f108 [.o .u8] [.sl false (.sl .u8) ls] (.own .u8 0) [.row true .u8 (dC ls)]:=by
 have hlen:∀k,(nA (ls.take k)).length≤1000000:=fun k=>pz _ _ fun p h=>hp p (List.mem_of_mem_take h)
 refine⟨0, [(3,.o .u8),(8,.k),(9,.k),(10,.k)],fun n vs H=>∃k:Nat,k≤ls.length∧n=ls.length-k∧vs= [.own .u8 0,.sl false (.sl .u8) ls,.int .i64 ls.length,.int .i64 k]∧H= [.row true .u8 (nA (ls.take k))],⟨rfl,ls.length,0,by omega,rfl,rfl,rfl⟩,?_⟩
 rintro n vs H ⟨k,hk,rfl,rfl,rfl⟩
 refine⟨fun hlt=> ?_,fun hlt=> ?_⟩
 ·have hk':k<ls.length:=by omega
  obtain⟨p,hpe⟩:∃p,p=ls.getD k []:=⟨_,rfl⟩
  have hpl:p.length≤1000000:=hp p (by rw [hpe];simp [List.getElem?_eq_getElem hk'])
  refine⟨⟨by omega,by omega⟩,?_⟩
  refine⟨0, [(3,.o .u8),(8,.k),(9,.k),(10,.k),(14,.k),(15,.k),(16,.k)],fun n vs H=>∃i:Nat,i≤p.length∧n=p.length-i∧vs= [.own .u8 0,.sl false (.sl .u8) ls,.int .i64 ls.length,.int .i64 k,.sl false .u8 p,.int .i64 p.length,.int .i64 i]∧H= [.row true .u8 (cC (nA (ls.take k)) (p.take i))],?_,?_⟩
  ·subst hpe
   refine⟨rfl,(ls.getD k []).length,0,by omega,rfl,rfl,?_⟩
   rw [List.take_zero,pf]
   rfl
  ·rintro n vs H ⟨i,hi,rfl,rfl,rfl⟩
   have hle:(cC (nA (ls.take k)) (p.take i)).length≤1000000:=by
    rw [eZ,List.length_take]
    have:=hlen k
    omega
   have hge:i≤(cC (nA (ls.take k)) (p.take i)).length:=by
    rw [eZ,List.length_take]
    omega
   refine⟨fun hilt=> ?_,fun hilt=> ?_⟩
   ·have hi':i<p.length:=by omega
    have hs:=sG (p.getD i 0) (nA (ls.take k)) (p.take i)
    rw [←cZ p i hi',List.length_take,Nat.min_eq_left hi] at hs
    generalize cC (nA (ls.take k)) (p.take i)=cur at*
    refine⟨⟨by omega,by omega⟩,fun he=> ?_,fun he=> ?_⟩
    ·replace he:(i:Int)=cur.length:=he
     have he':i=cur.length:=by omega
     rw [if_pos he'] at hs
     refine⟨fN,?_,?_⟩
     ·show cur.length+1≤1000000000
      omega
     have e0:(cur++ [0]).getD i 0^^^p.getD i 0=p.getD i 0:=by rw [he'];simp
     have e1:(cur++ [(0:UInt8)]).set i (p.getD i 0)=cur++ [p.getD i 0]:=by rw [he'];simp
     have hl1:(i:Int)<((cur++ [(0:UInt8)]).length:Int):=by rw [List.length_append,List.length_singleton];omega
     refine⟨⟨by omega,hl1⟩,⟨by omega,hl1⟩,fN,⟨by omega,by omega⟩,rfl,p.length-(i+1),by omega,i+1,by omega,rfl,rfl,?_⟩
     show [Blk.row true .u8 ((cur++ [(0:UInt8)]).set i ((cur++ [(0:UInt8)]).getD i 0^^^p.getD i 0))]=_
     rw [e0,e1,hs]
    ·replace he:¬(i:Int)=cur.length:=he
     have he':¬i=cur.length:=by omega
     rw [if_neg he'] at hs
     refine⟨⟨by omega,by omega⟩,⟨by omega,by omega⟩,fN,⟨by omega,by omega⟩,rfl,p.length-(i+1),by omega,i+1,by omega,rfl,rfl,?_⟩
     rw [hs]
     rfl
   ·have hie:i=p.length:=by omega
    subst hie
    rw [List.take_length]
    refine⟨⟨by omega,by omega⟩,rfl,ls.length-(k+1),by omega,k+1,by omega,rfl,rfl,?_⟩
    rw [yJ ls k hk',Cq,←hpe]
    rfl
 ·have hke:k=ls.length:=by omega
  subst hke
  rw [List.take_length]
  have:=pz _ _ hp
  exact⟨this,rfl,rfl,rfl,rfl⟩
def C12:List (Nat×bI):=(108,aS [.v (.sl (.sl .u8))] Xa)::C11
theorem k12:Known Tryd.prog (En C12 tys G6 []):=k11.add Tryd.func108 Tryd.call108 [.o .u8] fun ds p v bs h hp=>by
 unfold Xa at h
 split at h<;>simp only [Option.some.injEq,Prod.mk.injEq,reduceCtorEq] at h
 obtain⟨rfl,rfl,rfl⟩:=h
 exact aBu _ hp.1 hp.2

def aC8:List V→Option (Prop×V×List Blk)
 |[.sl false .u8 a,.sl false .u8 b]=>some (a.length≤1000000∧b.length≤1000000,.own .u8 0, [.row true .u8 (dC [a,b])])
 |_=>none
def C13:List (Nat×bI):=C12
theorem k13:Known Tryd.prog (En C13 tys G6 []):=k12
def rh (acc:List UInt8) (i:Nat) (c:UInt8):List UInt8:=acc.set i (acc.getD i 0^^^c)
def ik (x:UInt8):List UInt8→Nat→List UInt8→List UInt8
 |acc,_, []=>acc
 |acc,i,y::ys=>ik x (rh acc i (aI x y)) (i+1) ys
def jm (b:List UInt8):List UInt8→Nat→List UInt8→List UInt8
 |acc,_, []=>acc
 |acc,i,x::xs=>jm b (ik x acc i b) (i+1) xs
def aw (a b:List UInt8):List UInt8:=aF (jm b (List.replicate (a.length+b.length) 0) 0 a)
theorem ki (acc:List UInt8) (i:Nat) (c:UInt8):(rh acc i c).length=acc.length:=by simp [rh]
theorem je (x:UInt8):∀(b acc:List UInt8) (i:Nat),(ik x acc i b).length=acc.length
 |[],acc,i=>rfl
 |y::b,acc,i=>by rw [ik,je x b,ki]
theorem nI (b:List UInt8):∀(a acc:List UInt8) (i:Nat),(jm b acc i a).length=acc.length
 |[],acc,i=>rfl
 |y::a,acc,i=>by rw [jm,nI b a,je]
theorem bf (p:List UInt8) (k:Nat) (h:k<p.length):p.drop k=p.getD k 0::p.drop (k+1):=by
 rw [List.drop_eq_getElem_cons h]
 simp [List.getElem?_eq_getElem h]

def Qb:List V→Option (Prop×V×List Blk)
 |[.sl false .u8 a,.sl false .u8 b]=>some (a.length≤100000∧b.length≤100000,.own .u8 0, [.row true .u8 (aw a b)])
 |_=>none
theorem Zg (a b:List UInt8) (ha:a.length≤100000) (hb:b.length≤100000):bL (En C13 tys G6 []) Tryd.f109 [.o .u8] [.sl false .u8 a,.sl false .u8 b] (.own .u8 0) [.row true .u8 (aw a b)]:=by
 obtain⟨fin,hfin⟩:∃fin,fin=jm b (List.replicate (a.length+b.length) 0) 0 a:=⟨_,rfl⟩
 have hfl:fin.length=a.length+b.length:=by rw [hfin,nI,List.length_replicate]
 refine⟨⟨by omega,by omega⟩,⟨rfl,by omega,by omega⟩,?_⟩
 refine⟨0, [(1,.k),(5,.o .u8),(16,.k),(17,.k),(18,.k)],fun n vs H=>∃(i:Nat) (cur:List UInt8),i≤a.length∧n=a.length-i∧cur.length=a.length+b.length∧jm b cur i (a.drop i)=fin∧vs= [.sl false .u8 b,.own .u8 0,.sl false .u8 a,.int .i64 a.length,.int .i64 i]∧H= [.row true .u8 cur],
  ⟨rfl,a.length,0,List.replicate (a.length+b.length) 0,by omega,rfl,by rw [List.length_replicate],hfin.symm,rfl,?_⟩,?_⟩
 ·have:((a.length:Int)+b.length).toNat=a.length+b.length:=by omega
  show [Blk.row true .u8 (List.replicate ((a.length:Int)+b.length).toNat 0)]=_
  rw [this]
 rintro n vs H ⟨i,cur,hi,rfl,hcl,hcur,rfl,rfl⟩
 refine⟨fun hlt=> ?_,fun hlt=> ?_⟩
 ·have hi':i<a.length:=by omega
  obtain⟨x,hx⟩:∃x,x=a.getD i 0:=⟨_,rfl⟩
  rw [bf a i hi',←hx,jm] at hcur
  refine⟨⟨by omega,by omega⟩,?_⟩
  refine⟨0, [(1,.k),(5,.o .u8),(6,.k),(7,.k),(16,.k),(17,.k),(18,.k),(23,.k),(24,.k),(25,.k)],fun n vs H=>∃(j:Nat) (cur2:List UInt8),j≤b.length∧n=b.length-j∧cur2.length=a.length+b.length∧ik x cur2 (i+j) (b.drop j)=ik x cur i b∧vs= [.sl false .u8 b,.own .u8 0,.int .i64 i,.u8 x,.sl false .u8 a,.int .i64 a.length,.int .i64 i,.sl false .u8 b,.int .i64 b.length,.int .i64 j]∧H= [.row true .u8 cur2],
   ⟨rfl,b.length,0,cur,by omega,rfl,hcl,rfl,by rw [hx];rfl,rfl⟩,?_⟩
  rintro n vs H ⟨j,cur2,hj,rfl,hc2,hrow,rfl,rfl⟩
  refine⟨fun hlt2=> ?_,fun hlt2=> ?_⟩
  ·have hj':j<b.length:=by omega
   rw [bf b j hj',ik] at hrow
   refine⟨⟨by omega,by omega⟩,by kernel_rfl,⟨by omega,by omega⟩,⟨by omega,by omega⟩,trivial,⟨by omega,by omega⟩,fN,⟨by omega,by omega⟩,rfl,b.length-(j+1),by omega,j+1,rh cur2 (i+j) (aI x (b.getD j 0)),by omega,rfl,by rw [ki];exact hc2,hrow,rfl,?_⟩
   have e:((i:Int)+j).toNat=i+j:=by omega
   show [Blk.row true .u8 (cur2.set ((i:Int)+j).toNat (cur2.getD ((i:Int)+j).toNat 0^^^aI x (b.getD j 0)))]=_
   rw [e]
   rfl
  ·have hje:j=b.length:=by omega
   subst hje
   rw [List.drop_length,ik] at hrow
   subst hrow
   exact⟨⟨by omega,by omega⟩,rfl,a.length-(i+1),by omega,i+1,_,by omega,rfl,hc2,hcur,rfl,rfl⟩
 ·have hie:i=a.length:=by omega
  subst hie
  rw [List.drop_length,jm] at hcur
  subst hcur
  refine⟨om (cur.length≤1000000),rfl,rfl,rfl,?_⟩
  show [Blk.row true .u8 (aF cur)]=_
  rw [hfin]
  rfl
def C14:List (Nat×bI):=(109,aS [.v (.sl .u8),.v (.sl .u8)] Qb)::C13
theorem k14:Known Tryd.prog (En C14 tys G6 []):=k13.add Tryd.func109 Tryd.call109 [.o .u8] fun ds p v bs h hp=>by
 unfold Qb at h
 split at h<;>simp only [Option.some.injEq,Prod.mk.injEq,reduceCtorEq] at h
 obtain⟨rfl,rfl,rfl⟩:=h
 exact Zg _ _ hp.1 hp.2

def C15:List (Nat×bI):=C14
theorem k15:Known Tryd.prog (En C15 tys G6 []):=k14
def j6 (b:List UInt8) (inv:UInt8):Nat→List UInt8→List UInt8→List UInt8×List UInt8
 |0,q,r=>(q,r)
 |k+1,q,r=>j6 b inv k (q.set k (aI (r.getD (k+b.length-1) 0) inv)) (ik (aI (r.getD (k+b.length-1) 0) inv) r k b)
def en (a b:List UInt8):List UInt8×List UInt8:=
 j6 (aF b) (dT ((aF b).getD ((aF b).length-1) 0)) ((aF a).length+1-(aF b).length) (List.replicate ((aF a).length+1-(aF b).length) 0) (aF a)
theorem rQ (b:List UInt8) (inv:UInt8):∀(k:Nat) (q r:List UInt8),(j6 b inv k q r).1.length=q.length∧(j6 b inv k q r).2.length=r.length
 |0,q,r=>⟨rfl,rfl⟩
 |k+1,q,r=>by
  rw [j6]
  have:=rQ b inv k (q.set k (aI (r.getD (k+b.length-1) 0) inv)) (ik (aI (r.getD (k+b.length-1) 0) inv) r k b)
  rw [this.1,this.2,je,List.length_set]
  exact⟨rfl,rfl⟩

def Ag:List V→Option (Prop×V×List Blk)
 |[.sl false .u8 a,.sl false .u8 b]=>some (a.length≤100000∧b.length≤100000∧aF b≠ [],.tup [.own .u8 0,.own .u8 1], [.row true .u8 (aF (en a b).1),.row true .u8 (aF (en a b).2)])
 |_=>none
theorem O9 (a b:List UInt8) (ha:a.length≤100000) (hb:b.length≤100000) (hb0:aF b≠ []):
  bL (En C15 tys G6 []) Tryd.f107 [.o .u8,.o .u8] [.sl false .u8 a,.sl false .u8 b] (.tup [.own .u8 0,.own .u8 1]) [.row true .u8 (aF (en a b).1),.row true .u8 (aF (en a b).2)]:=by
 have hta:=cY a
 have htb:=cY b
 have hcl:0<(aF b).length:=List.length_pos_iff.2 hb0
 obtain⟨N,hN⟩:∃N,N=(aF a).length+1-(aF b).length:=⟨_,rfl⟩
 obtain⟨inv,hinv⟩:∃inv,inv=dT ((aF b).getD ((aF b).length-1) 0):=⟨_,rfl⟩
 have hfin:en a b=j6 (aF b) inv N (List.replicate N 0) (aF a):=by rw [hinv,hN];rfl
 generalize en a b=fin at hfin ⊢
 have hfl:=rQ (aF b) inv N (List.replicate N 0) (aF a)
 rw [←hfin,List.length_replicate] at hfl
 have hinv':∀m:Int,m=(aF b).length-1→dT ((aF b).getD m.toNat 0)=inv:=fun m hm=>by
  rw [hinv]
  congr 2
  omega
 have hrev:∀(n:Nat) (q r:List UInt8),j6 (aF b) inv n q r=fin→True:=fun _ _ _ _=>trivial
 obtain⟨I,hI⟩:∃I:Nat→List V→List Blk→Prop,I=fun n vs H=>∃(k:Int) (q r:List UInt8),n=(k+1).toNat∧k<N∧-1000000≤k∧q.length=N∧r.length=(aF a).length∧j6 (aF b) inv n q r=fin∧vs= [.sl true .u8 (aF b),.own .u8 0,.own .u8 1,.u8 inv,.int .i64 k]∧H= [.row true .u8 q,.row true .u8 r]:=⟨_,rfl⟩
 refine⟨om (a.length≤1000000),om (b.length≤1000000),⟨by omega,by omega⟩,⟨by omega,by omega⟩,trivial,fun hge=>⟨⟨by omega,by omega⟩,⟨by omega,by omega⟩,⟨rfl,?p1,?p2⟩,⟨by omega,by omega⟩,
   ⟨0, [(1,.d .u8),(4,.o .u8),(5,.o .u8),(6,.k),(8,.k)],I,?i1,?s1⟩⟩,fun hge=>⟨⟨by omega,by omega⟩,⟨0, [(1,.d .u8),(4,.o .u8),(5,.o .u8),(6,.k),(8,.k)],I,?i2,?s2⟩⟩⟩
 case p1=>
  replace hge:((aF b).length:Int)≤(aF a).length:=hge
  omega
 case p2=>omega
 case i1=>
  replace hge:((aF b).length:Int)≤(aF a).length:=hge
  rw [hI]
  have hn:((aF a).length-(aF b).length+1:Int).toNat=N:=by omega
  refine⟨rfl,N,(aF a).length-(aF b).length,List.replicate N 0,aF a,by omega,by omega,by omega,by rw [List.length_replicate],rfl,hfin.symm,?_,?_⟩
  ·rw [←hinv' _ rfl];rfl
  ·rw [←hn];rfl
 case i2=>
  replace hge:¬((aF b).length:Int)≤(aF a).length:=hge
  rw [hI]
  have hn:N=0:=by omega
  refine⟨rfl,0,(aF a).length-(aF b).length, [],aF a,by omega,by omega,by omega,by rw [hn];rfl,rfl,?_,?_,rfl⟩
  ·rw [hfin,hn];rfl
  ·rw [←hinv' _ rfl];rfl
 all_goals
  rw [hI]
  rintro n vs H ⟨k,q,r,rfl,hkN,hk0,hql,hrl,hdiv,rfl,rfl⟩
  refine⟨fun hk=> ?_,fun hk=> ?_⟩
  ·replace hk:0≤k:=hk
   have e1:(k+1).toNat=k.toNat+1:=by omega
   rw [e1,j6] at hdiv
   have e2:(k+(aF b).length-1).toNat=k.toNat+(aF b).length-1:=by omega
   refine⟨⟨by omega,by omega⟩,⟨by omega,by omega⟩,⟨by omega,by omega⟩,trivial,⟨by omega,by omega⟩,fN,?_⟩
   obtain⟨x,hx⟩:∃x,x=aI (r.getD (k.toNat+(aF b).length-1) 0) inv:=⟨_,rfl⟩
   rw [←hx] at hdiv
   refine⟨0, [(1,.k),(4,.o .u8),(5,.o .u8),(6,.k),(8,.k),(9,.k),(61,.k),(62,.k),(63,.k)],fun n vs H=>∃(j:Nat) (r2:List UInt8),j≤(aF b).length∧n=(aF b).length-j∧r2.length=(aF a).length∧ik x r2 (k.toNat+j) ((aF b).drop j)=ik x r k.toNat (aF b)∧
    vs= [.sl true .u8 (aF b),.own .u8 0,.own .u8 1,.u8 inv,.int .i64 k,.u8 x,.sl true .u8 (aF b),.int .i64 (aF b).length,.int .i64 j]∧H= [.row true .u8 (q.set k.toNat x),.row true .u8 r2],⟨rfl,(aF b).length,0,r,by omega,rfl,hrl,rfl,?_,?_⟩,?_⟩
   ·rw [hx,←e2];rfl
   ·rw [hx,←e2];rfl
   rintro n vs H ⟨j,r2,hj,rfl,hr2,hrow,rfl,rfl⟩
   refine⟨fun hlt=> ?_,fun hlt=> ?_⟩
   ·have hj':j<(aF b).length:=by omega
    rw [bf (aF b) j hj',ik] at hrow
    refine⟨⟨by omega,by omega⟩,by kernel_rfl,⟨by omega,by omega⟩,⟨by omega,by omega⟩,trivial,⟨by omega,by omega⟩,fN,⟨by omega,by omega⟩,rfl,(aF b).length-(j+1),by omega,j+1,rh r2 (k.toNat+j) (aI x ((aF b).getD j 0)),by omega,rfl,by rw [ki];exact hr2,hrow,rfl,?_⟩
    have e:(k+j).toNat=k.toNat+j:=by omega
    show [Blk.row true .u8 (q.set k.toNat x),Blk.row true .u8 (r2.set (k+j).toNat (r2.getD (k+j).toNat 0^^^aI x ((aF b).getD j 0)))]=_
    rw [e]
    rfl
   ·have hje:j=(aF b).length:=by omega
    rw [hje,List.drop_length,ik] at hrow
    refine⟨⟨by omega,by omega⟩,rfl,k.toNat,by omega,k-1,q.set k.toNat x,r2,by omega,by omega,by omega,by rw [List.length_set];exact hql,hr2,?_,rfl,rfl⟩
    rw [hrow]
    exact hdiv
  ·replace hk:¬0≤k:=hk
   have e1:(k+1).toNat=0:=by omega
   rw [e1,j6] at hdiv
   rw [←hdiv]
   exact⟨om (q.length≤1000000),om (r.length≤1000000),rfl,rfl,rfl,rfl⟩
def C16:List (Nat×bI):=(107,aS [.v (.sl .u8),.v (.sl .u8)] Ag)::C15
theorem k16:Known Tryd.prog (En C16 tys G6 []):=k15.add Tryd.func107 Tryd.call107 [.o .u8,.o .u8] fun ds p v bs h hp=>by
 unfold Ag at h
 split at h<;>simp only [Option.some.injEq,Prod.mk.injEq,reduceCtorEq] at h
 obtain⟨rfl,rfl,rfl⟩:=h
 exact O9 _ _ hp.1 hp.2.1 hp.2.2

def C17:List (Nat×bI):=C16
theorem k17:Known Tryd.prog (En C17 tys G6 []):=k16
def bv (xs ys:List UInt8):Prop:=xs.Nodup∧xs.length=ys.length
def Gy:List V→Option (Prop×V×List Blk)
 |[.sl false .u8 a,.sl false .u8 b]=>some (a.length≤100000∧b.length≤100000,.b (bv a b), [])
 |_=>none
theorem qT (l:List UInt8) (x:UInt8):(l++ [x]).Nodup↔l.Nodup∧x∉l:=by
 rw [List.nodup_append]
 constructor
 ·rintro⟨h1,_,h3⟩
  exact⟨h1,fun hx=>h3 x hx x (by simp) rfl⟩
 ·rintro⟨h1,h2⟩
  refine⟨h1,by simp,fun a ha b hb=> ?_⟩
  simp only [List.mem_singleton] at hb
  subst hb
  exact fun e=>h2 (e▸ha)
theorem Un (a b:List UInt8) (ha:a.length≤100000) (hb:b.length≤100000):bL (En C17 tys G6 []) Tryd.f99 [.k] [.sl false .u8 a,.sl false .u8 b] (.b (bv a b)) []:=by
 refine⟨1, [(0,.k),(1,.k),(5,.k),(8,.k),(9,.k),(10,.k)],fun n vs H=>∃(k:Nat) (seen:List Bool),k≤a.length∧n=a.length-k∧seen.length=256∧(∀c:UInt8,seen.getD c.toNat false=true↔c∈a.take k)∧(a.take k).Nodup∧
  vs= [.sl false .u8 a,.sl false .u8 b,.ptr 0 1 0 0,.sl false .u8 a,.int .i64 a.length,.int .i64 k]∧H= [.row true .bool seen],⟨rfl,a.length,0,List.replicate 256 false,by omega,rfl,by rw [List.length_replicate],?_,by simp,rfl,rfl⟩,?_⟩
 ·intro c
  have:=c.toNat_lt
  have e:(List.replicate 256 false).getD c.toNat false=false:=by
   simp only [List.getD_eq_getElem?_getD,List.getElem?_replicate]
   split<;>rfl
  rw [e,List.take_zero]
  simp
 rintro n vs H ⟨k,seen,hk,rfl,hsl,hseen,hnd,rfl,rfl⟩
 refine⟨fun hlt=> ?_,fun hlt=> ?_⟩
 ·have hk':k<a.length:=by omega
  obtain⟨x,hx⟩:∃x,x=a.getD k 0:=⟨_,rfl⟩
  have hxt:=x.toNat_lt
  have hts:a.take (k+1)=a.take k++ [x]:=by rw [cZ a k hk',hx]
  have hxi:((x.toNat:Int)).toNat=x.toNat:=by omega
  refine⟨⟨by omega,by omega⟩,?_⟩
  have hx':a.getD (k:Int).toNat Ty.u8.dflt=x:=hx.symm
  rw [hx']
  refine⟨⟨by omega,by omega,hsl⟩,fun hs=> ?_,fun hs=> ?_⟩
  ·replace hs:seen.getD x.toNat false=true:=hs
   have hno:¬bv a b:=fun h=>by
    have h1:(a.take (k+1)).Nodup:=h.1.sublist (List.take_sublist _ _)
    rw [hts,qT] at h1
    exact h1.2 ((hseen x).1 hs)
   refine⟨rfl,rfl,congrArg V.b (propext ⟨fun h=>absurd h (by decide),fun h=>absurd h hno⟩),rfl⟩
  ·replace hs:¬seen.getD x.toNat false=true:=hs
   have hno:x∉a.take k:=fun h=>hs ((hseen x).2 h)
   refine⟨⟨by omega,by omega,hsl⟩,fN,⟨by omega,by omega⟩,rfl,a.length-(k+1),by omega,k+1,seen.set x.toNat true,by omega,rfl,by rw [List.length_set];exact hsl,fun c=> ?_,?_,rfl,?_⟩
   ·rw [hts,List.mem_append,List.mem_singleton,←hseen c]
    by_cases hc:x.toNat=c.toNat
    ·have:c=x:=(UInt8.toNat_inj.1 hc).symm
     subst this
     simp [List.getD_eq_getElem?_getD,hsl,hxt]
    ·have hne:c≠x:=fun h=>hc (by rw [h])
     simp [List.getD_eq_getElem?_getD,List.getElem?_set_ne hc,hne]
   ·rw [hts,qT]
    exact⟨hnd,hno⟩
   ·show [Blk.row true .bool (seen.set x.toNat (@decide (true=true) (Classical.propDecidable _)))]=_
    simp
 ·have hke:k=a.length:=by omega
  rw [hke,List.take_length] at hnd
  refine⟨rfl,rfl,congrArg V.b (propext ?_),rfl⟩
  show(a.length:Int)=b.length↔bv a b
  exact⟨fun h=>⟨hnd,by omega⟩,fun h=>by have:=h.2;omega⟩
def C18:List (Nat×bI):=(99,aS [.v (.sl .u8),.v (.sl .u8)] Gy)::C17
theorem k18:Known Tryd.prog (En C18 tys G6 []):=k17.add Tryd.func99 Tryd.call99 [.k] fun ds p v bs h hp=>by
 unfold Gy at h
 split at h<;>simp only [Option.some.injEq,Prod.mk.injEq,reduceCtorEq] at h
 obtain⟨rfl,rfl,rfl⟩:=h
 exact Un _ _ hp.1 hp.2

theorem nH (a b:List UInt8):(aw a b).length≤a.length+b.length:=by
 unfold aw
 refine Nat.le_trans (cY _) ?_
 rw [nI,List.length_replicate]
 exact Nat.le_refl _
def ar (xs:List UInt8):List UInt8:=xs.foldl (fun p x=>aw p [x,1]) [1]
theorem wA (xs:List UInt8) (x:UInt8):ar (xs++ [x])=aw (ar xs) [x,1]:=by simp [ar]
theorem lI (xs:List UInt8):(ar xs).length≤1+2*xs.length:=by
 have:∀(xs p:List UInt8),(xs.foldl (fun p x=>aw p [x,1]) p).length≤p.length+2*xs.length:=by
  intro xs
  induction xs with
  |nil=>intro p;simp
  |cons x xs ih=>
   intro p
   have h1:=ih (aw p [x,1])
   have h2:=nH p [x,1]
   simp only [List.foldl_cons,List.length_cons,List.length_nil] at*
   omega
 exact this xs [1]
def Gx:List V→Option (Prop×V×List Blk)
 |[.sl false .u8 a]=>some (a.length≤10000,.own .u8 0, [.row true .u8 (ar a)])
 |_=>none
theorem Um (a:List UInt8) (ha:a.length≤10000):bL (En C18 tys G6 []) Tryd.f106 [.o .u8] [.sl false .u8 a] (.own .u8 0) [.row true .u8 (ar a)]:=by
 refine⟨0, [(3,.o .u8),(7,.k),(8,.k),(9,.k)],fun n vs H=>∃k:Nat,k≤a.length∧n=a.length-k∧vs= [.own .u8 0,.sl false .u8 a,.int .i64 a.length,.int .i64 k]∧H= [.row true .u8 (ar (a.take k))],⟨rfl,a.length,0,by omega,rfl,rfl,rfl⟩,?_⟩
 rintro n vs H ⟨k,hk,rfl,rfl,rfl⟩
 have hlen:=lI (a.take k)
 rw [List.length_take] at hlen
 refine⟨fun hlt=> ?_,fun hlt=> ?_⟩
 ·have hk':k<a.length:=by omega
  refine⟨⟨by omega,by omega⟩,⟨om ((ar (a.take k)).length≤100000),om (2≤100000)⟩,⟨by omega,by omega⟩,rfl,a.length-(k+1),by omega,k+1,by omega,rfl,rfl,?_⟩
  rw [cZ a k hk',wA]
  rfl
 ·have hke:k=a.length:=by omega
  subst hke
  rw [List.take_length]
  exact ao
def C19:List (Nat×bI):=(106,aS [.v (.sl .u8)] Gx)::C18
theorem k19:Known Tryd.prog (En C19 tys G6 []):=k18.add Tryd.func106 Tryd.call106 [.o .u8] fun ds p v bs h hp=>by
 unfold Gx at h
 split at h<;>simp only [Option.some.injEq,Prod.mk.injEq,reduceCtorEq] at h
 obtain⟨rfl,rfl,rfl⟩:=h
 exact Um _ hp

def bO (a b:List UInt8):List UInt8:=aF (en a b).1
theorem ma (a b:List UInt8):(bO a b).length≤a.length+1:=by
 unfold bO en
 have h1:=cY a
 refine Nat.le_trans (cY _) ?_
 rw [(rQ _ _ _ _ _).1,List.length_replicate]
 omega
def fm (all:List UInt8) (x y:UInt8):List UInt8:=aw (bO all [x,1]) [aI y (dT (aB x (bO all [x,1])))]
theorem sV (all:List UInt8) (x y:UInt8):(fm all x y).length≤all.length+2:=by
 have h1:=ma all [x,1]
 have h2:=nH (bO all [x,1]) [aI y (dT (aB x (bO all [x,1])))]
 unfold fm
 simp only [List.length_cons,List.length_nil] at h2
 omega
theorem Mv (x:UInt8):aF [x,1]≠ []:=by
 have:aF [x,1]= [x,1]:=fi 1 [x]
 rw [this]
 simp
def Qc:List V→Option (Prop×V×List Blk)
 |[.u8 x,.u8 y,.rp false (.sl .u8) all 0]=>some (all.length≤50000,.own .u8 0, [.row true .u8 (fm all x y)])
 |_=>none
theorem Zi (x y:UInt8) (all:List UInt8) (ha:all.length≤50000):bL (En C19 tys G6 []) Tryd.f112 [.o .u8] [.u8 x,.u8 y,.rp false (.sl .u8) all 0] (.own .u8 0) [.row true .u8 (fm all x y)]:=by
 have h1:=ma all [x,1]
 refine⟨⟨om (all.length≤100000),om (2≤100000),Mv x⟩,?_⟩
 refine⟨om ((bO all [x,1]).length≤1000000),trivial,trivial,⟨om ((bO all [x,1]).length≤100000),om (1≤100000)⟩,rfl,rfl,rfl,rfl⟩
def C20:List (Nat×bI):=(112,aS [.v .u8,.v .u8,.ref (.sl .u8)] Qc)::C19
theorem k20:Known Tryd.prog (En C20 tys G6 []):=k19.add Tryd.func112 Tryd.call112 [.o .u8] fun ds p v bs h hp=>by
 unfold Qc at h
 split at h<;>simp only [Option.some.injEq,Prod.mk.injEq,reduceCtorEq] at h
 obtain⟨rfl,rfl,rfl⟩:=h
 exact Zi _ _ _ hp
def vZ (all:List UInt8) (zs:List (UInt8×UInt8)):List UInt8:=zs.foldl (fun p q=>dC [p,fm all q.1 q.2]) []
def e8 (xs ys:List UInt8):List UInt8:=vZ (ar xs) (xs.zip ys)
theorem Cn (all:List UInt8) (zs:List (UInt8×UInt8)) (q:UInt8×UInt8):vZ all (zs++ [q])=dC [vZ all zs,fm all q.1 q.2]:=by simp [vZ]
theorem vY (all:List UInt8) (zs:List (UInt8×UInt8)):(vZ all zs).length≤all.length+2:=by
 have:∀(zs:List (UInt8×UInt8)) (p:List UInt8),p.length≤all.length+2→(zs.foldl (fun p q=>dC [p,fm all q.1 q.2]) p).length≤all.length+2:=by
  intro zs
  induction zs with
  |nil=>intro p h;exact h
  |cons q zs ih=>
   intro p h
   refine ih _ (Nat.le_trans (cY _) (pz _ _ fun r hr=> ?_))
   simp only [List.mem_cons,List.not_mem_nil,or_false] at hr
   rcases hr with hr|hr<;>subst hr
   ·exact h
   ·exact sV _ _ _
 exact this zs [] (by simp)
theorem Fa (xs ys:List UInt8) (k:Nat) (h1:k<xs.length) (h2:k<ys.length):(xs.take (k+1)).zip (ys.take (k+1))=(xs.take k).zip (ys.take k)++ [(xs.getD k 0,ys.getD k 0)]:=by
 rw [cZ xs k h1,cZ ys k h2,List.zip_append (by simp;omega)]
 rfl
def v6:List V→Option (Prop×V×List Blk)
 |[.sl false .u8 a,.sl false .u8 b]=>some (a.length≤10000∧a.length=b.length,.own .u8 0, [.row true .u8 (e8 a b)])
 |_=>none
theorem Kg (a b:List UInt8) (ha:a.length≤10000) (hab:a.length=b.length):bL (En C20 tys G6 []) Tryd.f100 [.o .u8] [.sl false .u8 a,.sl false .u8 b] (.own .u8 0) [.row true .u8 (e8 a b)]:=by
 have hall:=lI a
 refine⟨ha,jP,?_⟩
 refine⟨2, [(1,.k),(6,.k),(7,.o .u8),(13,.k),(14,.k),(15,.k)],fun n vs H=>∃k:Nat,k≤a.length∧n=a.length-k∧vs= [.sl false .u8 b,.fn 112 [.ptr 1 1 0 0],.own .u8 2,.sl false .u8 a,.int .i64 a.length,.int .i64 k]∧H= [.row true .u8 (ar a),.cells [.own .u8 0],.row true .u8 (vZ (ar a) ((a.take k).zip (b.take k)))],⟨rfl,a.length,0,by omega,rfl,rfl,rfl⟩,?_⟩
 rintro n vs H ⟨k,hk,rfl,rfl,rfl⟩
 have hlen:=vY (ar a) ((a.take k).zip (b.take k))
 refine⟨fun hlt=> ?_,fun hlt=> ?_⟩
 ·have hk':k<a.length:=by omega
  have hpl:=sV (ar a) (a.getD k 0) (b.getD k 0)
  refine⟨⟨by omega,by omega⟩,⟨by omega,by omega⟩,om ((ar a).length≤50000),⟨om (2≤1000),?_⟩,⟨by omega,by omega⟩,rfl,a.length-(k+1),by omega,k+1,by omega,rfl,rfl,?_⟩
  ·intro p hp
   replace hp:p∈ [vZ (ar a) ((a.take k).zip (b.take k)),fm (ar a) (a.getD k 0) (b.getD k 0)]:=hp
   simp only [List.mem_cons,List.not_mem_nil,or_false] at hp
   rcases hp with h|h<;>subst h<;>omega
  ·rw [Fa a b k hk' (by omega),Cn]
   rfl
 ·have hke:k=a.length:=by omega
  rw [hke,List.take_length,hab,List.take_length]
  exact ao
def C21:List (Nat×bI):=(100,aS [.v (.sl .u8),.v (.sl .u8)] v6)::C20
theorem k21:Known Tryd.prog (En C21 tys G6 []):=k20.add Tryd.func100 Tryd.call100 [.o .u8] fun ds p v bs h hp=>by
 unfold v6 at h
 split at h<;>simp only [Option.some.injEq,Prod.mk.injEq,reduceCtorEq] at h
 obtain⟨rfl,rfl,rfl⟩:=h
 exact Kg _ _ hp.1 hp.2
instance (xs ys:List UInt8):Decidable (bv xs ys):=inferInstanceAs (Decidable (_∧_))
def ipL (xs ys:List UInt8):List UInt8×Int:=if bv xs ys then(e8 xs ys,0) else([],1)
def sIp:List V→Option (Prop×V×List Blk)
 |[.sl false .u8 a,.sl false .u8 b]=>some (a.length≤10000∧b.length≤10000,.tup [.own .u8 0,.int .i64 (ipL a b).2], [.row true .u8 (ipL a b).1])
 |_=>none
def C22:List (Nat×bI):=C21
theorem k22:Known Tryd.prog (En C22 tys G6 []):=k21
def lG (xs ys:List UInt8) (d:Int):List UInt8×Int:=
 if bv xs ys then if d<0 then([],3) else if(xs.length:Int)≤d then([],3) else if d<dw (e8 xs ys) then([],8) else(e8 xs ys,0) else([],1)
def sTp:List V→Option (Prop×V×List Blk)
 |[.sl false .u8 a,.sl false .u8 b,.int .i64 d]=>some (a.length≤10000∧b.length≤10000,.tup [.own .u8 0,.int .i64 (lG a b d).2], [.row true .u8 (lG a b d).1])
 |_=>none
theorem vW (xs ys:List UInt8):(e8 xs ys).length≤2*xs.length+3:=by
 have h1:=vY (ar xs) (xs.zip ys)
 have h2:=lI xs
 unfold e8
 omega
theorem bTp (a b:List UInt8) (d:Int) (ha:a.length≤10000) (hb:b.length≤10000):bL (En C22 tys G6 []) Tryd.f78 [.o .u8,.k] [.sl false .u8 a,.sl false .u8 b,.int .i64 d] (.tup [.own .u8 0,.int .i64 (lG a b d).2]) [.row true .u8 (lG a b d).1]:=by
 refine⟨⟨om (a.length≤100000),om (b.length≤100000)⟩,fun h=> ?_,fun h=> ?_⟩
 ·rw [show lG a b d=_ from if_neg h]
  exact ao
 ·have h:bv a b:=nw h
  rw [show lG a b d=_ from if_pos h]
  have hl:=vW a b
  refine⟨fun hn=>⟨fun h2=> ?_,fun h2=> ?_⟩,fun hp=> ?_⟩
  ·replace hn:¬d<0:=hn
   replace h2:(a.length:Int)≤d:=h2
   rw [if_neg hn,if_pos h2]
   exact ao
  ·replace hn:¬d<0:=hn
   replace h2:¬(a.length:Int)≤d:=h2
   rw [if_neg hn,if_neg h2]
   refine⟨⟨ha,h.2⟩,om ((e8 a b).length≤1000000),yn (d<dw (e8 a b)) (fun h3=> ?_) fun h3=> ?_⟩
   ·rw [if_pos h3]
    exact ao
   ·rw [if_neg h3]
    exact ao
  ·replace hp:d<0:=hp
   rw [if_pos hp]
   exact ao
def C23:List (Nat×bI):=(78,aS [.v (.sl .u8),.v (.sl .u8),.v (.int .i64)] sTp)::C22
theorem k23:Known Tryd.prog (En C23 tys G6 []):=k22.add Tryd.func78 Tryd.call78 [.o .u8,.k] fun ds p v bs h hp=>by
 unfold sTp at h
 split at h<;>simp only [Option.some.injEq,Prod.mk.injEq,reduceCtorEq] at h
 obtain⟨rfl,rfl,rfl⟩:=h
 exact bTp _ _ _ hp.1 hp.2
def uk (a b:List UInt8):List UInt8:=aF (en a b).2
def jX (l:List UInt8):Prop:=l.length≤40000
instance (l:List UInt8):Decidable (jX l):=inferInstanceAs (Decidable (_≤_))
def eu:Nat→Int→List UInt8→List UInt8→List UInt8→List UInt8→Option (List UInt8×List UInt8)
 |0,_,_,_,_,_=>none
 | f+1,m,a,b,u,v=>if jX a∧jX b∧jX u∧jX v then
   if 2*dw b<m then some (b,v) else if aF b= [] then none else eu f m b (uk a b) v (dC [u,aw (bO a b) v])
  else none
def dt (p xs ys:List UInt8):Nat→List Int
 |0=> []
 |k+1=>if aB (xs.getD k 0) p≠ys.getD k 0 then dt p xs ys k++ [(k:Int)] else dt p xs ys k
theorem si (p xs ys:List UInt8):∀k,(dt p xs ys k).length≤k
 |0=>Nat.le_refl _
 |k+1=>by
  have:=si p xs ys k
  unfold dt
  split
  ·rw [List.length_append,List.length_singleton];omega
  ·omega
def lY (xs ys:List UInt8) (d w:Int) (b v:List UInt8):Option (List UInt8×List Int×Int):=
 if aF v= [] then none else if 0<(uk b v).length then some ([], [],17) else if d<dw (bO b v) then some ([], [],17) else
  if w<(dt (bO b v) xs ys xs.length).length then some ([], [],17) else some (bO b v,dt (bO b v) xs ys xs.length,0)
def ac (xs ys:List UInt8) (d w:Int):Option (List UInt8×List Int×Int):=
 if bv xs ys then
  if d<0∨w<0∨(xs.length:Int)≤d∨((xs.length:Int)-d-1)/2<w then some ([], [],3)
  else match eu 20000 (xs.length+d+1) (ar xs) (e8 xs ys) [] [1] with
   |none=>none
   |some (b,v)=>lY xs ys d w b v
 else some ([], [],1)
theorem Up (a b:List UInt8) (d w:Int) (p:List UInt8) (l:List Int) (e:Int) (ha:a.length≤10000) (hb:b.length≤10000) (hd:ac a b d w=some (p,l,e)):
  bL (En C23 tys G6 []) Tryd.f89 [.o .u8,.o (.int .i64),.k] [.sl false .u8 a,.sl false .u8 b,.int .i64 d,.int .i64 w] (.tup [.own .u8 0,.own (.int .i64) 1,.int .i64 e]) [.row true .u8 p,.row true (.int .i64) l]:=by
 have bad:∀{c:Int},ac a b d w=some ([], [],c)→p= []∧l= []∧e=c:=fun {c} h=>by
  rw [h] at hd
  simp only [Option.some.injEq,Prod.mk.injEq] at hd
  exact⟨hd.1.symm,hd.2.1.symm,hd.2.2.symm⟩
 refine⟨⟨om (a.length≤100000),om (b.length≤100000)⟩,fun h=> ?_,fun h=> ?_⟩
 ·obtain⟨rfl,rfl,rfl⟩:=bad (if_neg h)
  exact ao
 have h:bv a b:=nw h
 have bad3:(d<0∨w<0∨(a.length:Int)≤d∨((a.length:Int)-d-1)/2<w)→p= []∧l= []∧e=3:=fun hx=>bad (by unfold ac;rw [if_pos h,if_pos hx])
 refine⟨fun h1=>⟨fun h2=>⟨fun h3=> ?_,fun h3=> ?_⟩,fun h2=> ?_⟩,fun h1=> ?_⟩
 rotate_left
 ·obtain⟨rfl,rfl,rfl⟩:=bad3 (.inr (.inr (.inl h3)))
  exact ao
 ·obtain⟨rfl,rfl,rfl⟩:=bad3 (.inr (.inl h2))
  exact ao
 ·obtain⟨rfl,rfl,rfl⟩:=bad3 (.inl h1)
  exact ao
 replace h1:¬d<0:=h1
 replace h2:¬w<0:=h2
 replace h3:¬(a.length:Int)≤d:=h3
 refine⟨⟨by omega,by omega⟩,⟨by omega,by omega⟩,.inl ⟨⟨by omega,by omega⟩,⟨fun h4=> ?_,fun h4=> ?_⟩⟩⟩
 ·obtain⟨rfl,rfl,rfl⟩:=bad3 (.inr (.inr (.inr h4)))
  exact ao
 replace h4:¬((a.length:Int)-d-1)/2<w:=h4
 have hx:¬(d<0∨w<0∨(a.length:Int)≤d∨((a.length:Int)-d-1)/2<w):=by
  rintro(h|h|h|h)<;>contradiction
 unfold ac at hd
 rw [if_pos h,if_neg hx] at hd
 cases heu:eu 20000 (a.length+d+1) (ar a) (e8 a b) [] [1] with
 |none=>rw [heu] at hd;cases hd
 |some q=>
 obtain⟨b1,v1⟩:=q
 rw [heu] at hd
 replace hd:lY a b d w b1 v1=some (p,l,e):=hd
 refine⟨ha,⟨ha,h.2⟩,?_⟩
 refine⟨0, [(0,.k),(1,.k),(2,.k),(3,.k),(9,.k),(11,.k),(12,.d .u8),(13,.d .u8),(14,.d .u8),(15,.d .u8)],fun f vs H=>∃a' b' u' v':List UInt8,eu f (a.length+d+1) a' b' u' v'=some (b1,v1)∧vs= [.sl false .u8 a,.sl false .u8 b,.int .i64 d,.int .i64 w,.nils,.int .i64 a.length,.sl true .u8 a',.sl true .u8 b',.sl true .u8 u',.sl true .u8 v']∧H= [],⟨rfl,20000,ar a,e8 a b, [], [1],heu,rfl,rfl⟩,?_⟩
 rintro f vs H ⟨a',b',u',v',he,rfl,rfl⟩
 cases f with
 |zero=>cases he
 |succ f=>
 unfold eu at he
 split at he
 ·rename_i hsm
  obtain⟨hs1,hs2,hs3,hs4⟩:=hsm
  unfold jX at hs1 hs2 hs3 hs4
  have htb:=cY b'
  have hdeg:dw b'=(aF b').length-1:=rfl
  refine⟨om (b'.length≤1000000),⟨by omega,by omega⟩,⟨by omega,by omega⟩,⟨by omega,by omega⟩,yn (2*dw b'<a.length+d+1) (fun h5=> ?_) fun h5=> ?_⟩
  ·rw [if_pos h5] at he
   simp only [Option.some.injEq,Prod.mk.injEq] at he
   obtain⟨rfl,rfl⟩:=he
   unfold lY at hd
   split at hd
   ·cases hd
   ·rename_i htr
    have hq:=ma b' v'
    have bad':∀{c:Int},some (([]:List UInt8),([]:List Int),c)=some (p,l,e)→p= []∧l= []∧e=c:=fun {c} h=>by
     simp only [Option.some.injEq,Prod.mk.injEq] at h
     exact⟨h.1.symm,h.2.1.symm,h.2.2.symm⟩
    refine⟨⟨om (b'.length≤100000),om (v'.length≤100000),htr⟩,fun g1=>⟨om ((bO b' v').length≤1000000),⟨fun h6=> ?_,fun h6=> ?_⟩⟩,fun g1=> ?_⟩
    ·replace g1:¬(0:Int)<(uk b' v').length:=g1
     replace h6:d<dw (bO b' v'):=h6
     rw [if_neg (by omega),if_pos h6] at hd
     obtain⟨rfl,rfl,rfl⟩:=bad' hd
     exact ao
    ·replace g1:¬(0:Int)<(uk b' v').length:=g1
     replace h6:¬d<dw (bO b' v'):=h6
     rw [if_neg (by omega),if_neg h6] at hd
     refine⟨0, [(1,.k),(3,.k),(8,.o .u8),(9,.o (.int .i64)),(91,.k),(92,.k),(93,.k)],fun n vs H=>∃k:Nat,k≤a.length∧n=a.length-k∧vs= [.sl false .u8 b,.int .i64 w,.own .u8 0,.own (.int .i64) 1,.sl false .u8 a,.int .i64 a.length,.int .i64 k]∧H= [.row true .u8 (bO b' v'),.row true (.int .i64) (dt (bO b' v') a b k)],⟨rfl,a.length,0,by omega,rfl,rfl,rfl⟩,?_⟩
     rintro n vs H ⟨k,hk,rfl,rfl,rfl⟩
     have hml:=si (bO b' v') a b k
     have hab:=h.2
     refine⟨fun hlt=> ?_,fun hlt=> ?_⟩
     ·have hk':k<a.length:=by omega
      refine⟨⟨by omega,by omega⟩,by kernel_rfl,om ((bO b' v').length≤1000000),⟨by omega,by omega⟩,yn (aB (a.getD k 0) (bO b' v')≠b.getD k 0) (fun h7=> ?_) fun h7=> ?_⟩
      ·refine⟨rfl,fN,?_,⟨by omega,by omega⟩,rfl,a.length-(k+1),by omega,k+1,by omega,rfl,rfl,?_⟩
       ·show(dt (bO b' v') a b k).length+1≤1000000000
        omega
       rw [show dt (bO b' v') a b (k+1)=_ from if_pos h7]
       rfl
      ·refine⟨⟨by omega,by omega⟩,rfl,a.length-(k+1),by omega,k+1,by omega,rfl,rfl,?_⟩
       rw [show dt (bO b' v') a b (k+1)=_ from if_neg h7]
       rfl
     ·have hke:k=a.length:=by omega
      subst hke
      refine yn (w<(dt (bO b' v') a b a.length).length) (fun h8=> ?_) fun h8=> ?_
      ·rw [if_pos h8] at hd
       obtain⟨rfl,rfl,rfl⟩:=bad' hd
       exact ao
      ·rw [if_neg h8] at hd
       simp only [Option.some.injEq,Prod.mk.injEq] at hd
       obtain⟨rfl,rfl,rfl⟩:=hd
       exact ao
    ·replace g1:(0:Int)<(uk b' v').length:=g1
     rw [if_pos (by omega)] at hd
     obtain⟨rfl,rfl,rfl⟩:=bad' hd
     exact ao
  ·rw [if_neg h5] at he
   split at he
   ·cases he
   ·rename_i htr
    have hq:=ma a' b'
    have hpr:=nH (bO a' b') v'
    refine⟨⟨om (a'.length≤100000),om (b'.length≤100000),htr⟩,⟨om ((bO a' b').length≤100000),om (v'.length≤100000)⟩,⟨om (2≤1000),?_⟩,rfl,f,by omega,_,_,_,_,he,rfl,rfl⟩
    intro x hx
    replace hx:x∈ [u',aw (bO a' b') v']:=hx
    simp only [List.mem_cons,List.not_mem_nil,or_false] at hx
    rcases hx with h|h<;>subst h<;>omega
 ·cases he
instance mulComm:Std.Commutative aI:=⟨a9⟩
instance mulAssoc:Std.Associative aI:=⟨eI⟩

def co (p:List UInt8) (i:Nat):UInt8:=p.getD i 0
theorem ut (i:Nat):co [] i=0:=rfl
theorem B2 (c:UInt8) (p:List UInt8):co (c::p) 0=c:=rfl
theorem eV (c:UInt8) (p:List UInt8) (i:Nat):co (c::p) (i+1)=co p i:=rfl
theorem Q0 (p:List UInt8) (i:Nat) (h:p.length≤i):co p i=0:=by
 unfold co
 rw [List.getD_eq_getElem?_getD,List.getElem?_eq_none h]
 rfl
theorem gq:∀(p:List UInt8),(∀i,co p i=0)→aF p= []
 |[],_=>rfl
 |c::p,h=>by
  have h0:c=0:=h 0
  have hp:aF p= []:=gq p fun i=>h (i+1)
  unfold aF
  rw [hp,if_pos h0]
theorem dN:∀(p:List UInt8) (i:Nat),co (aF p) i=co p i
 |[],_=>rfl
 | c::p,i=>by
  have ih:=dN p
  cases hp:aF p with
  | nil=>
   unfold aF
   rw [hp]
   have hz:∀j,co p j=0:=fun j=>by rw [←ih j,hp];rfl
   by_cases hc:c=0
   ·rw [if_pos hc]
    cases i with
    |zero=>rw [B2,hc];rfl
    |succ i=>rw [eV,hz i];rfl
   ·rw [if_neg hc]
    cases i with
    |zero=>rfl
    |succ i=>rw [eV,eV,hz i];rfl
  |cons d q=>
   unfold aF
   rw [hp]
   show co (c::d::q) i=_
   rw [←hp]
   cases i with
   |zero=>rfl
   |succ i=>exact ih i
theorem fh:∀(p q:List UInt8),(∀i,co p i=co q i)→aF p=aF q
 |[],q,h=>(gq q fun i=>(h i).symm).symm
 |c::p, [],h=>gq _ h
 |c::p,d::q,h=>by
  have h0:c=d:=h 0
  have hp:=fh p q fun i=>h (i+1)
  unfold aF
  rw [h0,hp]
theorem gu (p:List UInt8):aF (aF p)=aF p:=fh _ _ (dN p)
theorem ni:∀(a b:List UInt8) (i:Nat),co (cC a b) i=co a i^^^co b i
 |[],b,i=>by simp [cC,ut]
 |x::a, [],i=>by simp [cC,ut]
 |x::a,y::b,0=>rfl
 |x::a,y::b,i+1=>by rw [cC,eV,eV,eV,ni a b i]
theorem l8 (a b:List UInt8):dC [a,b]=aF (cC a b):=by simp [dC,nA,cC]
theorem nj (a b:List UInt8) (i:Nat):co (dC [a,b]) i=co a i^^^co b i:=by rw [l8,dN,ni]

def sz (p:List UInt8):Nat:=(aF p).length
theorem ed (p:List UInt8) (i:Nat) (h:sz p≤i):co p i=0:=by rw [←dN];exact Q0 _ _ h
theorem fZ:∀(p:List UInt8),aF p≠ []→co p (sz p-1)≠0
 |[],h=>absurd rfl h
 | c::p,h=>by
  have ih:=fZ p
  unfold sz at ih ⊢
  cases hp:aF p with
  |nil=>
   unfold aF at h ⊢
   rw [hp] at h ⊢
   by_cases hc:c=0
   ·rw [if_pos hc] at h;exact absurd rfl h
   ·rw [if_neg hc];exact hc
  |cons d q=>
   rw [hp] at ih
   unfold aF
   rw [hp]
   have:=ih (by simp)
   simpa [eV] using this
theorem py {p:List UInt8} {n:Nat} (h:∀i,n≤i→co p i=0):sz p≤n:=by
 by_cases hp:aF p= []
 ·unfold sz;rw [hp];exact Nat.zero_le _
 ·have h1:=fZ p hp
  have h2:0<sz p:=List.length_pos_iff.2 hp
  rcases Nat.lt_or_ge n (sz p) with g|g
  ·exact absurd (h _ (by omega)) h1
  ·exact g
theorem l4 {p:List UInt8}:sz p=0↔aF p= []:=List.length_eq_zero_iff
theorem P6 {p:List UInt8} {n:Nat} (h:∀i,n<i→co p i=0) (hn:co p n≠0):sz p=n+1:=by
 have h1:sz p≤n+1:=py fun i hi=>h i (by omega)
 rcases Nat.lt_or_ge n (sz p) with g|g
 ·omega
 ·exact absurd (ed p n g) hn
theorem jE (p:List UInt8):dw p=(sz p:Int)-1:=rfl
theorem l5 (p:List UInt8):sz (aF p)=sz p:=by unfold sz;rw [gu]
theorem jU (p:List UInt8):sz p≤p.length:=cY p

def cv (f g:Nat→UInt8):Nat→UInt8
 |0=>aI (f 0) (g 0)
 |n+1=>aI (f 0) (g (n+1))^^^cv (fun i=>f (i+1)) g n
theorem Bz (g:Nat→UInt8):∀(n:Nat) (f f':Nat→UInt8),cv (fun i=>f i^^^f' i) g n=cv f g n^^^cv f' g n
 |0,f,f'=>bX _ _ _
 |n+1,f,f'=>by
  show aI (f 0^^^f' 0) (g (n+1))^^^cv (fun i=>f (i+1)^^^f' (i+1)) g n=_
  rw [bX,Bz g n (fun i=>f (i+1)) (fun i=>f' (i+1))]
  show _=(aI (f 0) (g (n+1))^^^cv (fun i=>f (i+1)) g n)^^^(aI (f' 0) (g (n+1))^^^cv (fun i=>f' (i+1)) g n)
  ac_rfl
theorem eU (f g:Nat→UInt8) (n:Nat):cv f g (n+1)=aI (f 0) (g (n+1))^^^cv (fun i=>f (i+1)) g n:=rfl
theorem xT:∀(n:Nat) (f g:Nat→UInt8),cv f g (n+1)=aI (g 0) (f (n+1))^^^cv f (fun i=>g (i+1)) n
 |0,f,g=>by
  show aI (f 0) (g 1)^^^aI (f 1) (g 0)=aI (g 0) (f 1)^^^aI (f 0) (g 1)
  rw [a9 (g 0)]
  ac_rfl
 |n+1,f,g=>by
  rw [eU f g,xT n (fun i=>f (i+1)) g,eU f (fun i=>g (i+1))]
  ac_rfl
theorem Bw:∀(n:Nat) (f g:Nat→UInt8),cv f g n=cv g f n
 |0,f,g=>a9 _ _
 |n+1,f,g=>by rw [xT,Bw n f,eU g f]
theorem fy (g:Nat→UInt8):∀(n:Nat) (f:Nat→UInt8),(∀i,f i=0)→cv f g n=0
 |0,f,h=>by show aI (f 0) _=0;rw [h,bM]
 |n+1,f,h=>by rw [eU,h,bM,fy g n _ fun i=>h (i+1)];rfl
theorem J0 (k:Nat) (g:Nat→UInt8) (hg:∀i,k<i→g i=0):∀(m:Nat) (f:Nat→UInt8),(∀i,m<i→f i=0)→cv f g (m+k)=aI (f m) (g k)∧∀n,m+k<n→cv f g n=0
 | 0,f,hf=>by
  have key:∀n,cv f g n=aI (f 0) (g n):=fun n=>by
   cases n with
   |zero=>rfl
   |succ n=>rw [eU,fy g n _ fun i=>hf (i+1) (by omega)];simp
  exact⟨by rw [key,Nat.zero_add],fun n hn=>by rw [key,hg n (by omega),bN]⟩
 | m+1,f,hf=>by
  obtain⟨h1,h2⟩:=J0 k g hg m (fun i=>f (i+1)) fun i hi=>hf (i+1) (by omega)
  refine⟨?_,fun n hn=> ?_⟩
  ·rw [show m+1+k=(m+k)+1 by omega,eU,hg _ (by omega),bN,h1];simp
  ·cases n with
   |zero=>omega
   |succ n=>rw [eU,hg _ (by omega),bN,h2 n (by omega)];rfl
def sh (k:Nat) (f:Nat→UInt8) (j:Nat):UInt8:=if j<k then 0 else f (j-k)
theorem xU (c:UInt8) (g:Nat→UInt8):∀(k n:Nat),cv (fun j=>if j=k then c else 0) g n=sh k (fun i=>aI c (g i)) n
 |0,n=>by
  have key:∀i,(fun j=>if j=0 then c else(0:UInt8)) (i+1)=0:=fun i=>if_neg (by omega)
  cases n with
  |zero=>rfl
  |succ n=>rw [eU,fy g n _ key];simp [sh]
 |k+1,0=>by
  show aI (if 0=k+1 then c else 0) (g 0)=_
  rw [if_neg (by omega),bM]
  simp [sh]
 | k+1,n+1=>by
  have e:(fun i=>if i+1=k+1 then c else(0:UInt8))=fun i=>if i=k then c else 0:=by
   funext i
   by_cases h:i=k
   ·rw [if_pos h,if_pos (by omega)]
   ·rw [if_neg h,if_neg (by omega)]
  rw [eU,if_neg (by omega),bM]
  show 0^^^cv (fun i=>if i+1=k+1 then c else 0) g n=_
  rw [e,xU c g k n]
  unfold sh
  by_cases h:n<k
  ·rw [if_pos h,if_pos (by omega)];rfl
  ·rw [if_neg h,if_neg (by omega),show n+1-(k+1)=n-k by omega];simp
theorem J3 (q:List UInt8) (k:Nat) (c:UInt8) (j:Nat) (hk:k<q.length):co (q.set k c) j=if j=k then c else co q j:=by
 unfold co
 simp only [List.getD_eq_getElem?_getD,List.getElem?_set]
 by_cases h:j=k
 ·rw [if_pos h,if_pos h.symm,if_pos hk];rfl
 ·rw [if_neg h,if_neg (Ne.symm h)]
theorem J5 (acc:List UInt8) (i:Nat) (c:UInt8) (j:Nat) (hi:i<acc.length):co (rh acc i c) j=co acc j^^^(if j=i then c else 0):=by
 unfold rh
 rw [J3 _ _ _ _ hi]
 by_cases h:j=i
 ·rw [if_pos h,if_pos h,h];rfl
 ·rw [if_neg h,if_neg h];simp
theorem uq (x:UInt8):∀(b acc:List UInt8) (i j:Nat),i+b.length≤acc.length→co (ik x acc i b) j=co acc j^^^sh i (fun k=>aI x (co b k)) j
 | [],acc,i,j,h=>by
  rw [ik]
  have:sh i (fun k=>aI x (co [] k)) j=0:=by
   unfold sh
   split
   ·rfl
   ·dsimp only;rw [ut,bN]
  rw [this];simp
 | y::b,acc,i,j,h=>by
  simp only [List.length_cons] at h
  rw [ik,uq x b _ (i+1) j (by rw [ki];omega),J5 _ _ _ _ (by omega)]
  have:sh i (fun k=>aI x (co (y::b) k)) j=(if j=i then aI x y else 0)^^^sh (i+1) (fun k=>aI x (co b k)) j:=by
   unfold sh
   by_cases h1:j<i
   ·rw [if_pos h1,if_neg (by omega),if_pos (by omega)];rfl
   ·by_cases h2:j=i
    ·rw [if_neg h1,if_pos h2,if_pos (by omega),h2,Nat.sub_self];simp [B2]
    ·rw [if_neg h1,if_neg h2,if_neg (by omega)]
     rw [show j-i=(j-(i+1))+1 by omega]
     dsimp only
     rw [eV]
     simp
  rw [this]
  ac_rfl
theorem xY (b:List UInt8):∀(a acc:List UInt8) (i j:Nat),i+a.length+b.length≤acc.length→co (jm b acc i a) j=co acc j^^^sh i (cv (co a) (co b)) j
 | [],acc,i,j,h=>by
  rw [jm]
  have:sh i (cv (co []) (co b)) j=0:=by
   unfold sh
   split
   ·rfl
   ·exact fy _ _ _ fun i=>rfl
  rw [this];simp
 | x::a,acc,i,j,h=>by
  simp only [List.length_cons] at h
  rw [jm,xY b a _ (i+1) j (by rw [je];omega),uq x b acc i j (by omega)]
  have:sh i (cv (co (x::a)) (co b)) j=sh i (fun k=>aI x (co b k)) j^^^sh (i+1) (cv (co a) (co b)) j:=by
   unfold sh
   by_cases h1:j<i
   ·rw [if_pos h1,if_pos h1,if_pos (by omega)];rfl
   ·rw [if_neg h1,if_neg h1]
    by_cases h2:j=i
    ·rw [if_pos (by omega),h2,Nat.sub_self]
     show aI x (co b 0)=aI x (co b 0)^^^0
     simp
    ·rw [if_neg (by omega),show j-i=(j-(i+1))+1 by omega,eU]
     rfl
  rw [this]
  ac_rfl
theorem rT (n i:Nat):co (List.replicate n 0) i=0:=by
 unfold co
 rw [List.getD_eq_getElem?_getD,List.getElem?_replicate]
 split<;>rfl
theorem jF (a b:List UInt8) (j:Nat):co (aw a b) j=cv (co a) (co b) j:=by
 unfold aw
 rw [dN,xY b a _ 0 j (by rw [List.length_replicate];omega),rT]
 simp [sh]
theorem fb (a b:List UInt8):aF (aw a b)=aw a b:=by unfold aw;exact gu _
theorem gz (a b:List UInt8):aF (dC [a,b])=dC [a,b]:=by rw [l8];exact gu _
theorem rS {f f' g g':Nat→UInt8} (hf:∀i,f i=f' i) (hg:∀i,g i=g' i) (n:Nat):cv f g n=cv f' g' n:=by
 rw [show f=f' from funext hf,show g=g' from funext hg]
theorem Dc (a b:List UInt8):aw a b=aw b a:=by
 exact(fb _ _).symm.trans ((fh _ _ fun i=>by rw [jF,jF,Bw]).trans (fb _ _))
theorem au (x:UInt8):∀p:List UInt8,aB x (aF p)=aB x p
 |[]=>rfl
 | c::p=>by
  have ih:=au x p
  unfold aF
  cases hp:aF p with
  | nil=>
   rw [hp] at ih
   show aB x (if c=0 then [] else [c])=aI (aB x p) x^^^c
   rw [←ih]
   by_cases hc:c=0
   ·rw [if_pos hc,hc]
    show(0:UInt8)=aI 0 x^^^0
    rw [bM];rfl
   ·rw [if_neg hc];rfl
  |cons d q=>
   rw [hp] at ih
   show aI (aB x (d::q)) x^^^c=aI (aB x p) x^^^c
   rw [ih]
theorem qw (x:UInt8) {p q:List UInt8} (h:∀i,co p i=co q i):aB x p=aB x q:=by
 rw [←au,fh p q h,au]
theorem cz (x:UInt8):∀a b:List UInt8,aB x (cC a b)=aB x a^^^aB x b
 |[],b=>by simp [cC,aB]
 |c::a, []=>by simp [cC,aB]
 |c::a,d::b=>by
  show aI (aB x (cC a b)) x^^^(c^^^d)=(aI (aB x a) x^^^c)^^^(aI (aB x b) x^^^d)
  rw [cz x a b,bX]
  ac_rfl
theorem dU (x:UInt8) (a b:List UInt8):aB x (dC [a,b])=aB x a^^^aB x b:=by
 rw [l8,au,cz]
def pm:List UInt8→List UInt8→List UInt8
 |[],_=> []
 |x::a,b=>cC (b.map (aI x)) (0::pm a b)
theorem zT (c:UInt8):∀(b:List UInt8) (i:Nat),co (b.map (aI c)) i=aI c (co b i)
 |[],i=>by show(0:UInt8)=aI c 0;rw [bN]
 |d::b,0=>rfl
 |d::b,i+1=>zT c b i
theorem Qz (b:List UInt8):∀(a:List UInt8) (i:Nat),co (pm a b) i=cv (co a) (co b) i
 |[],i=>(fy _ _ _ fun _=>rfl).symm
 | x::a,i=>by
  rw [pm,ni,zT]
  cases i with
  |zero=>
   show aI x (co b 0)^^^0=aI x (co b 0)
   simp
  |succ i=>
   rw [eV,Qz b a i]
   rfl
theorem i6 (x c:UInt8):∀b:List UInt8,aB x (b.map (aI c))=aI c (aB x b)
 |[]=>by show(0:UInt8)=aI c 0;rw [bN]
 |d::b=>by
  show aI (aB x (b.map (aI c))) x^^^aI c d=aI c (aI (aB x b) x^^^d)
  rw [i6 x c b,dc,eI]
theorem so (x:UInt8) (b:List UInt8):∀a:List UInt8,aB x (pm a b)=aI (aB x a) (aB x b)
 |[]=>by show(0:UInt8)=aI 0 _;rw [bM]
 |c::a=>by
  rw [pm,cz,i6]
  show _^^^(aI (aB x (pm a b)) x^^^0)=aI (aI (aB x a) x^^^c) (aB x b)
  rw [so x b a,bX]
  have:aI (aI (aB x a) (aB x b)) x=aI (aI (aB x a) x) (aB x b):=by ac_rfl
  rw [this]
  simp only [UInt8.xor_zero]
  ac_rfl
theorem be (x:UInt8) (a b:List UInt8):aB x (aw a b)=aI (aB x a) (aB x b):=by
 rw [←so]
 exact qw x fun i=>by rw [jF,Qz]

theorem kJ (a b:List UInt8) (ha:aF a≠ []) (hb:aF b≠ []):sz (aw a b)+1=sz a+sz b:=by
 have h1:0<sz a:=List.length_pos_iff.2 ha
 have h2:0<sz b:=List.length_pos_iff.2 hb
 have ht:=J0 (sz b-1) (co b) (fun i hi=>ed b i (by omega)) (sz a-1) (co a) fun i hi=>ed a i (by omega)
 have hne:co (aw a b) (sz a-1+(sz b-1))≠0:=by
  rw [jF,ht.1]
  intro h
  rcases iu h with h|h
  ·exact fZ a ha h
  ·exact fZ b hb h
 have:=P6 (fun i hi=>by rw [jF];exact ht.2 i hi) hne
 omega
theorem gY (a b:List UInt8) (ha:aF a= []):aw a b= []:=by
 rw [←fb]
 refine gq _ fun i=> ?_
 rw [jF]
 exact fy _ _ _ fun i=>by rw [←dN,ha];rfl
theorem wO (a b:List UInt8) (hb:aF b= []):aw a b= []:=by rw [Dc];exact gY b a hb
theorem wP {a b:List UInt8} (h:aw a b= []):aF a= []∨aF b= []:=by
 by_cases ha:aF a= []
 ·exact .inl ha
 ·by_cases hb:aF b= []
  ·exact .inr hb
  ·have:=kJ a b ha hb
   have h1:0<sz a:=List.length_pos_iff.2 ha
   have h2:0<sz b:=List.length_pos_iff.2 hb
   have h3:sz (aw a b)=0:=by rw [h];rfl
   omega
theorem pu (a b:List UInt8):sz (aw a b)≤sz a+sz b-1:=by
 by_cases ha:aF a= []
 ·rw [gY a b ha];exact Nat.zero_le _
 ·by_cases hb:aF b= []
  ·rw [wO a b hb];exact Nat.zero_le _
  ·have:=kJ a b ha hb
   omega
theorem gv (a b:List UInt8) (n:Nat) (ha:sz a≤n) (hb:sz b≤n):sz (dC [a,b])≤n:=
 py fun i hi=>by rw [nj,ed a i (by omega),ed b i (by omega)];rfl

theorem Bt (b:List UInt8) (inv:UInt8) (hb:0<b.length) (hinv:aI (co b (b.length-1)) inv=1):∀(k:Nat) (q r:List UInt8),k≤q.length→(0<k→k+b.length≤r.length+1)→(∀j,j<k→co q j=0)→(∀j,k+b.length≤j+1→co r j=0)→
  (∀n,cv (co (j6 b inv k q r).1) (co b) n^^^co (j6 b inv k q r).2 n=cv (co q) (co b) n^^^co r n)∧∀j,b.length≤j+1→co (j6 b inv k q r).2 j=0
 |0,q,r,_,_,_,h4=>⟨fun n=>rfl,fun j hj=>h4 j (by omega)⟩
 | k+1,q,r,h1,h2,h3,h4=>by
  have h2:=h2 (by omega)
  obtain⟨c,hc⟩:∃c,c=aI (r.getD (k+b.length-1) 0) inv:=⟨_,rfl⟩
  have hcr:c=aI (co r (k+b.length-1)) inv:=hc
  rw [j6,←hc]
  have hrow:∀j,co (ik c r k b) j=co r j^^^sh k (fun i=>aI c (co b i)) j:=fun j=>uq c b r k j (by omega)
  have hq:∀j,co (q.set k c) j=co q j^^^(if j=k then c else 0):=fun j=>by
   rw [J3 _ _ _ _ (by omega)]
   by_cases h:j=k
   ·rw [if_pos h,if_pos h,h,h3 k (by omega)];simp
   ·rw [if_neg h,if_neg h];simp
  have ih:=Bt b inv hb hinv k (q.set k c) (ik c r k b) (by rw [List.length_set];omega) (fun _=>by rw [je];omega)
   (fun j hj=>by rw [hq,h3 j (by omega),if_neg (by omega)];rfl)
   (fun j hj=>by
    rw [hrow]
    by_cases hj2:k+b.length=j+1
    ·have hj3:j=k+b.length-1:=by omega
     unfold sh
     rw [if_neg (by omega),show j-k=b.length-1 by omega,hcr,←hj3]
     dsimp only
     rw [eI,a9 inv,hinv,mI]
     simp
    ·rw [h4 j (by omega)]
     unfold sh
     rw [if_neg (by omega)]
     dsimp only
     rw [Q0 b _ (by omega),bN]
     rfl)
  refine⟨fun n=> ?_,ih.2⟩
  rw [ih.1 n,hrow n,rS (f:=co (q.set k c)) (fun j=>hq j) (fun _=>rfl),Bz (co b) n (co q) (fun j=>if j=k then c else 0),xU]
  have:∀u v w:UInt8,u^^^v^^^(w^^^v)=u^^^w:=fun u v w=>by
   have:u^^^v^^^(w^^^v)=u^^^w^^^(v^^^v):=by ac_rfl
   rw [this];simp
  exact this _ _ _
theorem I0 (b:List UInt8) (hb:aF b≠ []):aI (co (aF b) ((aF b).length-1)) (dT ((aF b).getD ((aF b).length-1) 0))=1:=by
 refine mJ _ ?_
 show co (aF b) (sz b-1)≠0
 rw [dN]
 exact fZ b hb
theorem Og (a b r0:List UInt8) (N M:Nat) (hb:aF b≠ []) (hr:∀i,co r0 i=co a i) (hN:N≤M) (h2:0<N→N+sz b≤r0.length+1) (h3:sz a≤N+sz b-1):
  (∀n,cv (co (j6 (aF b) (dT ((aF b).getD ((aF b).length-1) 0)) N (List.replicate M 0) r0).1) (co b) n^^^co (j6 (aF b) (dT ((aF b).getD ((aF b).length-1) 0)) N (List.replicate M 0) r0).2 n=co a n)∧
  ∀j,sz b≤j+1→co (j6 (aF b) (dT ((aF b).getD ((aF b).length-1) 0)) N (List.replicate M 0) r0).2 j=0:=by
 have h0:0<(aF b).length:=List.length_pos_iff.2 hb
 have h:=Bt (aF b) _ h0 (I0 b hb) N (List.replicate M 0) r0 (by rw [List.length_replicate];exact hN) h2 (fun j _=>rT _ _) (fun j hj=>by rw [hr];exact ed a j (by unfold sz at*;omega))
 refine⟨fun n=> ?_,h.2⟩
 have:=h.1 n
 rw [fy (co (aF b)) n _ (fun i=>rT _ _),hr n,UInt8.zero_xor] at this
 rw [←this]
 congr 1
 exact rS (fun _=>rfl) (fun i=>(dN b i).symm) n
theorem Js (a b:List UInt8) (hb:aF b≠ []):(∀n,cv (co (en a b).1) (co b) n^^^co (en a b).2 n=co a n)∧∀j,sz b≤j+1→co (en a b).2 j=0:=by
 have h0:0<sz b:=List.length_pos_iff.2 hb
 exact Og a b (aF a) _ _ hb (fun i=>dN a i) (Nat.le_refl _) (fun h=>by unfold sz at*;omega) (by unfold sz at*;omega)
theorem ui (a b:List UInt8) (hb:aF b≠ []):dC [aw (aF (en a b).1) b,aF (en a b).2]=aF a:=by
 rw [←gz]
 refine fh _ _ fun i=> ?_
 rw [nj,jF,dN,←(Js a b hb).1 i]
 congr 1
 exact rS (fun i=>dN _ i) (fun _=>rfl) i
theorem uj (a b:List UInt8) (hb:aF b≠ []):sz (en a b).2<sz b:=by
 have h0:0<sz b:=List.length_pos_iff.2 hb
 have:=py (p:=(en a b).2) (n:=sz b-1) fun j hj=>(Js a b hb).2 j (by omega)
 omega
end Go.Proofs.YtogipicegdbhdaaDoor.S72

/- Texts of this claim. -/
import Derived.Test.YtailffhfhekkpaaDoorVc11
import Derived.Test.YtailffhfhekkpaaDoorProg
import Derived.KernelRfl
set_option linter.unusedVariables false
set_option linter.unusedSimpArgs false
namespace Go.Proofs.YtailffhfhekkpaaDoor.S62
set_option maxHeartbeats 20000000
open Go Go.Proofs.YtailffhfhekkpaaDoor.Vc Go.Proofs
theorem ty3:bN Tryd.prog 3 (.int .i64):=⟨(by unfold aO;kernel_rfl),Tryd.underlying3⟩
theorem ty4:bN Tryd.prog 4 .bool:=⟨(by unfold aO;kernel_rfl),Tryd.underlying4⟩
theorem ty5:bN Tryd.prog 5 .u8:=⟨(by unfold aO;kernel_rfl),Tryd.underlying5⟩
theorem ty9:bN Tryd.prog 9 .str:=⟨(by unfold aO;kernel_rfl),Tryd.underlying9⟩
theorem Z2:bN Tryd.prog 22 (.sl (.int .i64)):=⟨(by unfold aO;kernel_rfl),3,Tryd.underlying22,by unfold aO;kernel_rfl,by decide⟩
theorem Z1:bN Tryd.prog 24 (.cons (.sl (.int .i64)) (.cons (.int .i64) (.cons (.int .i64) (.cons (.int .i64) (.cons (.int .i64) (.cons (.int .i64) .nil)))))):=⟨(by unfold aO;kernel_rfl),_,Tryd.underlying24,by kernel_rfl,by kernel_rfl⟩
theorem Z0:bN Tryd.prog 25 (.int .u16):=⟨(by unfold aO;kernel_rfl),Tryd.underlying25⟩
theorem Zz:bN Tryd.prog 26 (.sl (.cons (.cons (.int .i64) (.cons (.int .i64) (.cons (.int .i64) (.cons (.int .i64) (.cons (.sl .str) .nil))))) (.cons (.int .i64) .nil))):=⟨(by unfold aO;kernel_rfl),81,Tryd.underlying26,by unfold aO;kernel_rfl,by decide⟩
theorem Zy:bN Tryd.prog 27 (.sl (.cons (.int .i64) (.cons (.sl (.int .i64)) .nil))):=⟨(by unfold aO;kernel_rfl),71,Tryd.underlying27,by unfold aO;kernel_rfl,by decide⟩
theorem Zx:bN Tryd.prog 28 (.sl .bool):=⟨(by unfold aO;kernel_rfl),4,Tryd.underlying28,by unfold aO;kernel_rfl,by decide⟩
theorem Zw:bN Tryd.prog 30 (.cons (.cons (.sl (.int .i64)) (.cons (.int .i64) (.cons (.int .i64) (.cons (.int .i64) (.cons (.int .i64) (.cons (.int .i64) .nil)))))) (.cons .str (.cons .str (.cons (.int .u16) (.cons (.sl (.cons (.cons (.int .i64) (.cons (.int .i64) (.cons (.int .i64) (.cons (.int .i64) (.cons (.sl .str) .nil))))) (.cons (.int .i64) .nil))) (.cons (.sl (.cons (.int .i64) (.cons (.sl (.int .i64)) .nil))) (.cons (.sl .bool) .nil))))))):=⟨(by unfold aO;kernel_rfl),_,Tryd.underlying30,by kernel_rfl,by kernel_rfl⟩
theorem Zv:bN Tryd.prog 33 (.sl (.cons (.int .i64) (.cons .str .nil))):=⟨(by unfold aO;kernel_rfl),46,Tryd.underlying33,by unfold aO;kernel_rfl,by decide⟩
theorem Zu:bN Tryd.prog 34 (.sl (.int .i64)):=⟨(by unfold aO;kernel_rfl),40,Tryd.underlying34,by unfold aO;kernel_rfl,by decide⟩
theorem Zt:bN Tryd.prog 36 (.cons (.sl (.int .i64)) (.cons (.sl (.cons (.int .i64) (.cons .str .nil))) (.cons (.sl (.int .i64)) (.cons (.sl (.cons (.int .i64) (.cons (.sl (.int .i64)) .nil))) .nil)))):=⟨(by unfold aO;kernel_rfl),_,Tryd.underlying36,by kernel_rfl,by kernel_rfl⟩
theorem Zs:bN Tryd.prog 39 (.sl (.cons (.int .i64) (.cons (.int .i64) .nil))):=⟨(by unfold aO;kernel_rfl),44,Tryd.underlying39,by unfold aO;kernel_rfl,by decide⟩
theorem Zq:bN Tryd.prog 40 (.int .i64):=⟨(by unfold aO;kernel_rfl),Tryd.underlying40⟩
theorem Zp:bN Tryd.prog 44 (.cons (.int .i64) (.cons (.int .i64) .nil)):=⟨(by unfold aO;kernel_rfl),_,Tryd.underlying44,by kernel_rfl,by kernel_rfl⟩
theorem Zo:bN Tryd.prog 46 (.cons (.int .i64) (.cons .str .nil)):=⟨(by unfold aO;kernel_rfl),_,Tryd.underlying46,by kernel_rfl,by kernel_rfl⟩
theorem Zn:bN Tryd.prog 56 (.sl (.sl .str)):=⟨(by unfold aO;kernel_rfl),63,Tryd.underlying56,by unfold aO;kernel_rfl,by decide⟩
theorem Zm:bN Tryd.prog 57 (.sl (.sl (.sl .str))):=⟨(by unfold aO;kernel_rfl),56,Tryd.underlying57,by unfold aO;kernel_rfl,by decide⟩
theorem Zl:bN Tryd.prog 59 (.cons (.int .i64) (.cons .str (.cons (.sl (.sl .str)) (.cons (.sl (.sl (.sl .str))) .nil)))):=⟨(by unfold aO;kernel_rfl),_,Tryd.underlying59,by kernel_rfl,by kernel_rfl⟩
theorem Zk:bN Tryd.prog 60 (.sl (.cons (.int .i64) (.cons (.int .i64) (.cons (.int .i64) (.cons (.int .i64) (.cons (.sl .str) .nil)))))):=⟨(by unfold aO;kernel_rfl),65,Tryd.underlying60,by unfold aO;kernel_rfl,by decide⟩
theorem Zj:bN Tryd.prog 63 (.sl .str):=⟨(by unfold aO;kernel_rfl),9,Tryd.underlying63,by unfold aO;kernel_rfl,by decide⟩
theorem Zi:bN Tryd.prog 65 (.cons (.int .i64) (.cons (.int .i64) (.cons (.int .i64) (.cons (.int .i64) (.cons (.sl .str) .nil))))):=⟨(by unfold aO;kernel_rfl),_,Tryd.underlying65,by kernel_rfl,by kernel_rfl⟩
theorem Zh:bN Tryd.prog 71 (.cons (.int .i64) (.cons (.sl (.int .i64)) .nil)):=⟨(by unfold aO;kernel_rfl),_,Tryd.underlying71,by kernel_rfl,by kernel_rfl⟩
theorem Zg:bN Tryd.prog 77 (.mapT (.cons (.int .i64) (.cons .str (.cons (.sl (.sl .str)) (.cons (.sl (.sl (.sl .str))) .nil))))):=⟨(by unfold aO;kernel_rfl),3,59,Tryd.underlying77,Tryd.underlying3,by unfold aO;kernel_rfl,by kernel_rfl⟩
theorem Zf:bN Tryd.prog 79 .fnT:=⟨(by unfold aO;kernel_rfl),_,_,_,Tryd.underlying79⟩
theorem Ze:bN Tryd.prog 81 (.cons (.cons (.int .i64) (.cons (.int .i64) (.cons (.int .i64) (.cons (.int .i64) (.cons (.sl .str) .nil))))) (.cons (.int .i64) .nil)):=⟨(by unfold aO;kernel_rfl),_,Tryd.underlying81,by kernel_rfl,by kernel_rfl⟩
theorem Zd:bN Tryd.prog 82 .fnT:=⟨(by unfold aO;kernel_rfl),_,_,_,Tryd.underlying82⟩
theorem Zc:bN Tryd.prog 83 (.sl (.sl (.cons (.int .i64) (.cons (.int .i64) (.cons (.int .i64) (.cons (.int .i64) (.cons (.sl .str) .nil))))))):=⟨(by unfold aO;kernel_rfl),60,Tryd.underlying83,by unfold aO;kernel_rfl,by decide⟩
theorem Zb:bN Tryd.prog 84 (.mapT (.sl (.int .i64))):=⟨(by unfold aO;kernel_rfl),3,22,Tryd.underlying84,Tryd.underlying3,by unfold aO;kernel_rfl,by kernel_rfl⟩
theorem Za:bN Tryd.prog 87 .fnT:=⟨(by unfold aO;kernel_rfl),_,_,_,Tryd.underlying87⟩
theorem Y9:bN Tryd.prog 89 .fnT:=⟨(by unfold aO;kernel_rfl),_,_,_,Tryd.underlying89⟩
theorem Y8:bN Tryd.prog 92 (.sl .u8):=⟨(by unfold aO;kernel_rfl),5,Tryd.underlying92,by unfold aO;kernel_rfl,by decide⟩
theorem Y7:bN Tryd.prog 94 .fnT:=⟨(by unfold aO;kernel_rfl),_,_,_,Tryd.underlying94⟩
theorem Y6:bN Tryd.prog 96 .fnT:=⟨(by unfold aO;kernel_rfl),_,_,_,Tryd.underlying96⟩
theorem Y5:bN Tryd.prog 97 .fnT:=⟨(by unfold aO;kernel_rfl),_,_,_,Tryd.underlying97⟩
theorem Vb:bN Tryd.prog 100 (.cons (.int .i64) (.cons (.sl (.sl .str)) .nil)):=⟨(by unfold aO;kernel_rfl),_,Tryd.underlying100,by kernel_rfl,by kernel_rfl⟩
theorem Va:bN Tryd.prog 105 .fnT:=⟨(by unfold aO;kernel_rfl),_,_,_,Tryd.underlying105⟩
theorem U9:bN Tryd.prog 116 .fnT:=⟨(by unfold aO;kernel_rfl),_,_,_,Tryd.underlying116⟩
theorem U8:bN Tryd.prog 127 .fnT:=⟨(by unfold aO;kernel_rfl),_,_,_,Tryd.underlying127⟩
theorem U7:bN Tryd.prog 129 .fnT:=⟨(by unfold aO;kernel_rfl),_,_,_,Tryd.underlying129⟩
theorem U6:bN Tryd.prog 131 (.sl (.sl .u8)):=⟨(by unfold aO;kernel_rfl),92,Tryd.underlying131,by unfold aO;kernel_rfl,by decide⟩
theorem U5:bN Tryd.prog 136 .fnT:=⟨(by unfold aO;kernel_rfl),_,_,_,Tryd.underlying136⟩
theorem U4:bN Tryd.prog 137 .fnT:=⟨(by unfold aO;kernel_rfl),_,_,_,Tryd.underlying137⟩
theorem U3:bN Tryd.prog 138 .fnT:=⟨(by unfold aO;kernel_rfl),_,_,_,Tryd.underlying138⟩
theorem U2:bN Tryd.prog 143 (.int .u64):=⟨(by unfold aO;kernel_rfl),Tryd.underlying143⟩
theorem U1:bN Tryd.prog 151 (.arr 256 .bool):=⟨(by unfold aO;kernel_rfl),4,Tryd.underlying151,by unfold aO;kernel_rfl,by decide,by kernel_rfl⟩
theorem U0:bN Tryd.prog 154 .fnT:=⟨(by unfold aO;kernel_rfl),_,_,_,Tryd.underlying154⟩
theorem Uz:bN Tryd.prog 155 (.arr 16 .u8):=⟨(by unfold aO;kernel_rfl),5,Tryd.underlying155,by unfold aO;kernel_rfl,by decide,by kernel_rfl⟩
def tys:List (Nat×Ty):= [(3,(.int .i64)),(4,.bool),(5,.u8),(9,.str),(22,(.sl (.int .i64))),(24,(.cons (.sl (.int .i64)) (.cons (.int .i64) (.cons (.int .i64) (.cons (.int .i64) (.cons (.int .i64) (.cons (.int .i64) .nil))))))),(25,(.int .u16)),(26,(.sl (.cons (.cons (.int .i64) (.cons (.int .i64) (.cons (.int .i64) (.cons (.int .i64) (.cons (.sl .str) .nil))))) (.cons (.int .i64) .nil)))),(27,(.sl (.cons (.int .i64) (.cons (.sl (.int .i64)) .nil)))),(28,(.sl .bool)),(30,(.cons (.cons (.sl (.int .i64)) (.cons (.int .i64) (.cons (.int .i64) (.cons (.int .i64) (.cons (.int .i64) (.cons (.int .i64) .nil)))))) (.cons .str (.cons .str (.cons (.int .u16) (.cons (.sl (.cons (.cons (.int .i64) (.cons (.int .i64) (.cons (.int .i64) (.cons (.int .i64) (.cons (.sl .str) .nil))))) (.cons (.int .i64) .nil))) (.cons (.sl (.cons (.int .i64) (.cons (.sl (.int .i64)) .nil))) (.cons (.sl .bool) .nil)))))))),(33,(.sl (.cons (.int .i64) (.cons .str .nil)))),(34,(.sl (.int .i64))),(36,(.cons (.sl (.int .i64)) (.cons (.sl (.cons (.int .i64) (.cons .str .nil))) (.cons (.sl (.int .i64)) (.cons (.sl (.cons (.int .i64) (.cons (.sl (.int .i64)) .nil))) .nil))))),(39,(.sl (.cons (.int .i64) (.cons (.int .i64) .nil)))),(40,(.int .i64)),(44,(.cons (.int .i64) (.cons (.int .i64) .nil))),(46,(.cons (.int .i64) (.cons .str .nil))),(56,(.sl (.sl .str))),(57,(.sl (.sl (.sl .str)))),(59,(.cons (.int .i64) (.cons .str (.cons (.sl (.sl .str)) (.cons (.sl (.sl (.sl .str))) .nil))))),(60,(.sl (.cons (.int .i64) (.cons (.int .i64) (.cons (.int .i64) (.cons (.int .i64) (.cons (.sl .str) .nil))))))),(63,(.sl .str)),(65,(.cons (.int .i64) (.cons (.int .i64) (.cons (.int .i64) (.cons (.int .i64) (.cons (.sl .str) .nil)))))),(71,(.cons (.int .i64) (.cons (.sl (.int .i64)) .nil))),(77,(.mapT (.cons (.int .i64) (.cons .str (.cons (.sl (.sl .str)) (.cons (.sl (.sl (.sl .str))) .nil)))))),(79,.fnT),(81,(.cons (.cons (.int .i64) (.cons (.int .i64) (.cons (.int .i64) (.cons (.int .i64) (.cons (.sl .str) .nil))))) (.cons (.int .i64) .nil))),(82,.fnT),(83,(.sl (.sl (.cons (.int .i64) (.cons (.int .i64) (.cons (.int .i64) (.cons (.int .i64) (.cons (.sl .str) .nil)))))))),(84,(.mapT (.sl (.int .i64)))),(87,.fnT),(89,.fnT),(92,(.sl .u8)),(94,.fnT),(96,.fnT),(97,.fnT),(100,(.cons (.int .i64) (.cons (.sl (.sl .str)) .nil))),(105,.fnT),(116,.fnT),(127,.fnT),(129,.fnT),(131,(.sl (.sl .u8))),(136,.fnT),(137,.fnT),(138,.fnT),(143,(.int .u64)),(151,(.arr 256 .bool)),(154,.fnT),(155,(.arr 16 .u8))]
theorem Uy:∀T t,lk tys T=some t→bN Tryd.prog T t∧jP Tryd.prog T t=true:=
 tH.ok (⟨⟨ty3,by kernel_rfl⟩,⟨ty4,by kernel_rfl⟩,⟨ty5,by kernel_rfl⟩,⟨ty9,by kernel_rfl⟩,⟨Z2,by kernel_rfl⟩,⟨Z1,by kernel_rfl⟩,⟨Z0,by kernel_rfl⟩,⟨Zz,by kernel_rfl⟩,⟨Zy,by kernel_rfl⟩,⟨Zx,by kernel_rfl⟩,⟨Zw,by kernel_rfl⟩,⟨Zv,by kernel_rfl⟩,⟨Zu,by kernel_rfl⟩,⟨Zt,by kernel_rfl⟩,⟨Zs,by kernel_rfl⟩,⟨Zq,by kernel_rfl⟩,⟨Zp,by kernel_rfl⟩,⟨Zo,by kernel_rfl⟩,⟨Zn,by kernel_rfl⟩,⟨Zm,by kernel_rfl⟩,⟨Zl,by kernel_rfl⟩,⟨Zk,by kernel_rfl⟩,⟨Zj,by kernel_rfl⟩,⟨Zi,by kernel_rfl⟩,⟨Zh,by kernel_rfl⟩,⟨Zg,by kernel_rfl⟩,⟨Zf,by kernel_rfl⟩,⟨Ze,by kernel_rfl⟩,⟨Zd,by kernel_rfl⟩,⟨Zc,by kernel_rfl⟩,⟨Zb,by kernel_rfl⟩,⟨Za,by kernel_rfl⟩,⟨Y9,by kernel_rfl⟩,⟨Y8,by kernel_rfl⟩,⟨Y7,by kernel_rfl⟩,⟨Y6,by kernel_rfl⟩,⟨Y5,by kernel_rfl⟩,⟨Vb,by kernel_rfl⟩,⟨Va,by kernel_rfl⟩,⟨U9,by kernel_rfl⟩,⟨U8,by kernel_rfl⟩,⟨U7,by kernel_rfl⟩,⟨U6,by kernel_rfl⟩,⟨U5,by kernel_rfl⟩,⟨U4,by kernel_rfl⟩,⟨U3,by kernel_rfl⟩,⟨U2,by kernel_rfl⟩,⟨U1,by kernel_rfl⟩,⟨U0,by kernel_rfl⟩,⟨Uz,by kernel_rfl⟩,trivial⟩:tH Tryd.prog tys)
set_option maxRecDepth 100000
def hi:List UInt8:= [0,29,58,39,116,105,78,83,232,245,210,207,156,129,166,187]
def G6:List (Nat×V):= [(0,.rp false (.arr 16 .u8) hi 0)]
theorem Rz:bb G6:=fun g x id h=>by
 unfold G6 lk at h
 cases hb:Nat.beq 0 g<;>simp [hb,lk] at h
 subst h;rfl
theorem Rh:fy G6:=fun g x h=>by
 unfold G6 lk at h
 cases hb:Nat.beq 0 g<;>simp [hb,lk] at h
 exact⟨_,_,_,h.symm⟩
theorem mixed:Tryd.prog.follows .mixedOrders=true:=by kernel_rfl

theorem k0:Known Tryd.prog (En [] tys G6 []):= .start Rz Rh mixed Uy

def Ct (x:Int):UInt8:=UInt8.ofNat (x%256).toNat^^^hi.getD (((x/256).toNat&&&15:Nat):Int).toNat 0
def Vi:List V→Option (Prop×V×List Blk)
 |[.int .u64 x]=>some (0≤x,.u8 (Ct x), [])
 |_=>none

theorem X7 (n:Nat):n&&&15<16:=Nat.lt_of_le_of_lt Nat.and_le_right (by omega)

def C1:List (Nat×bW):= [(73,aW [.v (.int .u64)] Vi)]
theorem aBC (x:Int) (hx:0≤x):bI (En [] tys G6 []) Tryd.f73 [.k] [.int .u64 x] (.u8 (Ct x)) []:=by
 have h15:=X7 (x/256).toNat
 refine⟨⟨by omega,by omega⟩,.inl ⟨⟨?_,by omega⟩,?_⟩⟩
 ·show 0≤x/256
  omega
 refine⟨⟨?_,?_⟩,?_⟩
 ·show(0:Int)≤(((x/256).toNat&&&15:Nat):Int)
  omega
 ·show(((x/256).toNat&&&15:Nat):Int)<16
  omega
 exact a6

theorem k1:Known Tryd.prog (En C1 tys G6 []):=k0.add Tryd.func73 Tryd.call73 [.k] fun ds p v bs h hp=>by
 unfold Vi at h
 split at h<;>simp only [Option.some.injEq,Prod.mk.injEq,reduceCtorEq] at h
 obtain⟨rfl,rfl,rfl⟩:=h
 exact aBC _ hp

def tx (a n:Int):Nat→Int
 |0=>0
 |k+1=>if(((n/2^k).toNat&&&1:Nat):Int)=1 then(((tx a n k).toNat^^^(a*2^k).toNat:Nat):Int) else tx a n k
theorem sE (a n:Int) (k:Nat):0≤tx a n k:=by
 induction k with
 |zero=>exact Int.le_refl _
 |succ k ih=>unfold tx;split<;>omega
def g9 (a:UInt8) (n:Int):UInt8:=Ct (tx a.toNat n 4)
def F4:List V→Option (Prop×V×List Blk)
 |[.u8 a,.int .u64 n]=>some (0≤n,.u8 (g9 a n), [])
 |_=>none

def C2:List (Nat×bW):=(74,aW [.v .u8,.v (.int .u64)] F4)::C1
theorem Sv (a:UInt8) (m:Int) (hm:0≤m):bI (En C1 tys G6 []) Tryd.f74 [.k] [.u8 a,.int .u64 m] (.u8 (g9 a m)) []:=by
 have ha:=a.toNat_lt
 refine⟨0, [(0,.k),(1,.k),(5,.k),(7,.k)],fun n vs H=>∃k:Nat,k≤4∧n=4-k∧vs= [.u8 a,.int .u64 m,.int .u64 (tx a.toNat m k),.int .i64 k]∧H= [],⟨rfl,4,0,by omega,rfl,rfl,rfl⟩,?_⟩
 rintro n vs H ⟨k,hk,rfl,rfl,rfl⟩
 refine⟨fun h4=> ?_,fun h4=> ?_⟩
 ·have hk4:k<4:=by omega
  have hp:(2:Int)^k≤8:=by
   have:k=0∨k=1∨k=2∨k=3:=by omega
   rcases this with h|h|h|h<;>subst h<;>decide
  have hp0:(0:Int)<2^k:=Int.pow_pos (by decide)
  refine⟨⟨by omega,by omega⟩,.inl ⟨⟨?_,by omega⟩,?_⟩⟩
  ·exact Int.ediv_nonneg hm (Int.le_of_lt hp0)
  refine⟨fun h1=> ?_,fun h1=> ?_⟩
  ·have hx:(a.toNat:Int)*2^k≤255*8:=Int.mul_le_mul (by omega) hp (by omega) (by omega)
   have hx0:(0:Int)≤(a.toNat:Int)*2^k:=Int.mul_nonneg (by omega) (by omega)
   have e:tx a.toNat m (k+1)=_:=if_pos h1
   refine⟨⟨by omega,by omega⟩,⟨hx0,?_⟩,⟨sE _ _ _,hx0⟩,⟨by omega,by omega⟩,⟨rfl,4-(k+1),by omega,k+1,by omega,by omega,?_,rfl⟩⟩
   ·show(a.toNat:Int)*2^k≤18446744073709551615
    omega
   ·rw [e];rfl
  ·have e:tx a.toNat m (k+1)=_:=if_neg h1
   refine⟨⟨by omega,by omega⟩,⟨rfl,4-(k+1),by omega,k+1,by omega,by omega,?_,rfl⟩⟩
   rw [e];rfl
 ·have:k=4:=by omega
  subst this
  exact⟨rfl,sE _ _ _,rfl,rfl,rfl,rfl⟩

theorem k2:Known Tryd.prog (En C2 tys G6 []):=k1.add Tryd.func74 Tryd.call74 [.k] fun ds p v bs h hp=>by
 unfold F4 at h
 split at h<;>simp only [Option.some.injEq,Prod.mk.injEq,reduceCtorEq] at h
 obtain⟨rfl,rfl,rfl⟩:=h
 exact Sv _ _ hp

def aI (a b:UInt8):UInt8:=Ct ((g9 a (UInt8.ofNat (b.toNat/16)).toNat).toNat*16)^^^g9 a (b&&&15).toNat
def Vl:List V→Option (Prop×V×List Blk)
 |[.u8 a,.u8 b]=>some (True,.u8 (aI a b), [])
 |_=>none
theorem aBJ (a b:UInt8):bI (En C2 tys G6 []) Tryd.f55 [.k] [.u8 a,.u8 b] (.u8 (aI a b)) []:=by
 have h1:=(g9 a (UInt8.ofNat (b.toNat/16)).toNat).toNat_lt
 refine⟨⟨by omega,by omega⟩,⟨rfl,by omega,?_⟩⟩
 refine⟨⟨by omega,by omega⟩,⟨?_,?_⟩,⟨rfl,?_,?_⟩⟩
 ·show(0:Int)≤(g9 a (UInt8.ofNat (b.toNat/16)).toNat).toNat*16
  omega
 ·show((g9 a (UInt8.ofNat (b.toNat/16)).toNat).toNat:Int)*16≤18446744073709551615
  omega
 ·show(0:Int)≤(g9 a (UInt8.ofNat (b.toNat/16)).toNat).toNat*16
  omega
 exact⟨rfl,by omega,rfl,rfl,rfl,rfl⟩
def C3:List (Nat×bW):=(55,aW [.v .u8,.v .u8] Vl)::C2
theorem k3:Known Tryd.prog (En C3 tys G6 []):=k2.add Tryd.func55 Tryd.call55 [.k] fun ds p v bs h hp=>by
 unfold Vl at h
 split at h<;>simp only [Option.some.injEq,Prod.mk.injEq,reduceCtorEq] at h
 obtain⟨rfl,rfl,rfl⟩:=h
 exact aBJ _ _

def wH:Nat→UInt8→Int→UInt8→UInt8
 |0,_,_,x=>x
 |f+1,a,n,x=>if 0<n then wH f (aI a a) (n/2) (if((n.toNat&&&1:Nat):Int)=1 then aI x a else x) else x
def Vj:List V→Option (Prop×V×List Blk)
 |[.u8 a,.int .i64 n]=>some (0≤n∧n<256,.u8 (wH 8 a n 1), [])
 |_=>none
theorem aBF (a:UInt8) (m:Int) (h0:0≤m) (h1:m<256):bI (En C3 tys G6 []) Tryd.f84 [.k] [.u8 a,.int .i64 m] (.u8 (wH 8 a m 1)) []:=by
 refine⟨0, [(0,.k),(1,.k),(5,.k)],fun f vs H=>∃a' n' x',0≤n'∧n'<2^f∧wH f a' n' x'=wH 8 a m 1∧vs= [.u8 a',.int .i64 n',.u8 x']∧H= [],⟨rfl,8,a,m,1,h0,by omega,rfl,rfl,rfl⟩,?_⟩
 rintro f vs H ⟨a',n',x',h2,h3,h4,rfl,rfl⟩
 refine⟨fun hn=> ?_,fun hn=> ?_⟩
 ·cases f with
  |zero=>exact absurd h3 (by omega)
  |succ f=>
  have hb:n'/2<2^f:=by rw [Int.pow_succ] at h3;omega
  rw [show wH (f+1) a' n' x'=_ from if_pos hn] at h4
  refine .inl ⟨⟨h2,by omega⟩,yn (((n'.toNat&&&1:Nat):Int)=1) (fun h5=> ?_) fun h5=> ?_⟩
  ·rw [if_pos h5] at h4
   exact⟨trivial,trivial,⟨by omega,by omega⟩,rfl,f,by omega,_,_,_,Int.ediv_nonneg h2 (by omega),hb,h4,rfl,rfl⟩
  ·rw [if_neg h5] at h4
   exact⟨trivial,⟨by omega,by omega⟩,rfl,f,by omega,_,_,_,Int.ediv_nonneg h2 (by omega),hb,h4,rfl,rfl⟩
 ·have:n'=0:=by omega
  subst this
  have:wH f a' 0 x'=x':=by cases f<;>rfl
  rw [this] at h4
  subst h4
  exact a6
def C4:List (Nat×bW):=(84,aW [.v .u8,.v (.int .i64)] Vj)::C3
theorem k4:Known Tryd.prog (En C4 tys G6 []):=k3.add Tryd.func84 Tryd.call84 [.k] fun ds p v bs h hp=>by
 unfold Vj at h
 split at h<;>simp only [Option.some.injEq,Prod.mk.injEq,reduceCtorEq] at h
 obtain⟨rfl,rfl,rfl⟩:=h
 exact aBF _ _ hp.1 hp.2

def dj (a:UInt8):UInt8:=if a=0 then 0 else wH 8 a 254 1
def Vq:List V→Option (Prop×V×List Blk)
 |[.u8 a]=>some (True,.tup [.u8 (dj a),.int .i64 (if a=0 then 1 else 0)], [])
 |_=>none
theorem aBV (a:UInt8):bI (En C4 tys G6 []) Tryd.f82 [.k,.k] [.u8 a] (.tup [.u8 (dj a),.int .i64 (if a=0 then 1 else 0)]) []:=by
 refine⟨fun h=> ?_,fun h=> ?_⟩
 ·replace h:a=0:=h
  rw [show dj a=0 from if_pos h,if_pos h]
  exact a6
 ·replace h:¬a=0:=h
  rw [show dj a=_ from if_neg h,if_neg h]
  exact⟨rfl,⟨by omega,by omega⟩,rfl,rfl,rfl,rfl⟩
def C5:List (Nat×bW):=(82,aW [.v .u8] Vq)::C4
theorem k5:Known Tryd.prog (En C5 tys G6 []):=k4.add Tryd.func82 Tryd.call82 [.k,.k] fun ds p v bs h hp=>by
 unfold Vq at h
 split at h<;>simp only [Option.some.injEq,Prod.mk.injEq,reduceCtorEq] at h
 obtain⟨rfl,rfl,rfl⟩:=h
 exact aBV _

def C6:List (Nat×bW):=C5
theorem k6:Known Tryd.prog (En C6 tys G6 []):=k5
def C7:List (Nat×bW):=C6
theorem k7:Known Tryd.prog (En C7 tys G6 []):=k6
theorem nu (a b k:Nat):(a^^^b)*2^k=a*2^k^^^b*2^k:=by
 rw [←Nat.shiftLeft_eq,←Nat.shiftLeft_eq,←Nat.shiftLeft_eq,Nat.shiftLeft_xor_distrib]
def K4 (a n:Nat):Nat→Nat
 |0=>0
 |k+1=>if n/2^k%2=1 then K4 a n k^^^a*2^k else K4 a n k
def v5 (x:Nat):Nat:=x%256^^^(hi.getD (x/256%16) 0).toNat
theorem E6 (a n:Nat):∀k,tx (a:Int) (n:Int) k=(K4 a n k:Int)
 |0=>rfl
 | k+1=>by
  have h1:((n:Int)/2^k).toNat&&&1=n/2^k%2:=by
   have e:(n:Int)/2^k=((n/2^k:Nat):Int):=by rw [Int.natCast_ediv,Int.natCast_pow];rfl
   rw [e,Int.toNat_natCast,Nat.and_one_is_mod]
  have h2:((a:Int)*2^k).toNat=a*2^k:=by
   have e:(a:Int)*2^k=((a*2^k:Nat):Int):=by rw [Int.natCast_mul,Int.natCast_pow];rfl
   rw [e,Int.toNat_natCast]
  unfold tx K4
  rw [E6 a n k,h1,h2,Int.toNat_natCast]
  by_cases h:n/2^k%2=1
  ·rw [if_pos h,if_pos (by omega)]
  ·rw [if_neg h,if_neg (by omega)]
theorem pd {x y:UInt8} (h:x.toNat=y.toNat):x=y:=UInt8.toNat_inj.1 h
theorem v6 (x:Nat):(Ct (x:Int)).toNat=v5 x:=by
 have h1:((x:Int)/256).toNat&&&15=x/256%16:=by
  have e:(x:Int)/256=((x/256:Nat):Int):=by rw [Int.natCast_ediv];rfl
  rw [e,Int.toNat_natCast,show(15:Nat)=2^4-1 from rfl,Nat.and_two_pow_sub_one_eq_mod]
 have h2:((x:Int)%256).toNat=x%256:=by omega
 unfold Ct v5
 rw [h1,h2,Int.toNat_natCast,UInt8.toNat_xor,UInt8.toNat_ofNat_of_lt' (om (x%256<256))]
theorem Rx:∀i:Fin 16,∀j:Fin 16,(hi.getD (i.val^^^j.val) 0).toNat=(hi.getD i.val 0).toNat^^^(hi.getD j.val 0).toNat:=by decide
theorem v4 (x y:Nat):v5 (x^^^y)=v5 x^^^v5 y:=by
 unfold v5
 have h1:(x^^^y)%256=x%256^^^y%256:=by rw [show 256=2^8 from rfl,Nat.xor_mod_two_pow]
 have h2:(x^^^y)/256%16=(x/256%16)^^^(y/256%16):=by
  rw [show 256=2^8 from rfl,show 16=2^4 from rfl,Nat.xor_div_two_pow,Nat.xor_mod_two_pow]
 have h3:=Rx ⟨x/256%16,by omega⟩ ⟨y/256%16,by omega⟩
 rw [h1,h2,h3]
 ac_rfl
theorem zn (a b n:Nat):∀k,K4 (a^^^b) n k=K4 a n k^^^K4 b n k
 |0=>by simp [K4]
 |k+1=>by
  unfold K4
  rw [zn a b n k]
  split
  ·rw [nu];ac_rfl
  ·rfl
def g8 (a n:Nat):Nat:=v5 (K4 a n 4)
theorem pg (a b n:Nat):g8 (a^^^b) n=g8 a n^^^g8 b n:=by
 unfold g8;rw [zn,v4]
theorem pi (a:UInt8) (n:Nat):(g9 a (n:Int)).toNat=g8 a.toNat n:=by
 unfold g9 g8
 rw [E6,v6]
def uC (a b:Nat):Nat:=v5 (g8 a (b/16)*16)^^^g8 a (b%16)
theorem eP (a b:UInt8):(aI a b).toNat=uC a.toNat b.toNat:=by
 have hb:=b.toNat_lt
 unfold aI uC
 have h1:(UInt8.ofNat (b.toNat/16)).toNat=b.toNat/16:=UInt8.toNat_ofNat_of_lt' (om (b.toNat/16<256))
 have h2:(b&&&15).toNat=b.toNat%16:=by
  rw [UInt8.toNat_and]
  exact Nat.and_two_pow_sub_one_eq_mod b.toNat 4
 rw [UInt8.toNat_xor,h1,h2,pi,pi]
 rw [show((g8 a.toNat (b.toNat/16):Nat):Int)*16=((g8 a.toNat (b.toNat/16)*16:Nat):Int) by rw [Int.natCast_mul];rfl,v6]
theorem bf (a b c:UInt8):aI (a^^^b) c=aI a c^^^aI b c:=by
 refine pd ?_
 rw [eP,UInt8.toNat_xor,UInt8.toNat_xor,eP,eP]
 unfold uC
 rw [pg,pg,show(16:Nat)=2^4 from rfl,nu,v4]
 ac_rfl

def iz:List UInt8:= [1,2,4,8,16,32,64,128]
theorem Mk:∀a:Fin 256,UInt8.ofNat a.val=(UInt8.ofNat a.val&&&1)^^^(UInt8.ofNat a.val&&&2)^^^(UInt8.ofNat a.val&&&4)^^^(UInt8.ofNat a.val&&&8)^^^(UInt8.ofNat a.val&&&16)^^^(UInt8.ofNat a.val&&&32)^^^(UInt8.ofNat a.val&&&64)^^^(UInt8.ofNat a.val&&&128):=by decide
theorem E5 {p:UInt8→Prop} (h:∀a:Fin 256,p (UInt8.ofNat a.val)) (a:UInt8):p a:=by
 have:=h ⟨a.toNat,a.toNat_lt⟩
 simpa using this
theorem N5 (a c:UInt8) (hc:c∈iz):a&&&c=0∨a&&&c=c:=by
 have key:∀c∈iz,∀a:Fin 256,UInt8.ofNat a.val&&&c=0∨UInt8.ofNat a.val&&&c=c:=by decide
 exact E5 (p:=fun a=>a&&&c=0∨a&&&c=c) (key c hc) a
theorem kj {f g:UInt8→UInt8} (hf:∀a b,f (a^^^b)=f a^^^f b) (hg:∀a b,g (a^^^b)=g a^^^g b) (h:∀c∈iz,f c=g c) (a:UInt8):f a=g a:=by
 have f0:f 0=0:=by have:=hf 0 0;simpa using this
 have g0:g 0=0:=by have:=hg 0 0;simpa using this
 have hb:∀c∈iz,f (a&&&c)=g (a&&&c):=fun c hc=>by
  rcases N5 a c hc with e|e<;>rw [e]
  ·rw [f0,g0]
  ·exact h c hc
 have e:=E5 (p:=fun a=>a=(a&&&1)^^^(a&&&2)^^^(a&&&4)^^^(a&&&8)^^^(a&&&16)^^^(a&&&32)^^^(a&&&64)^^^(a&&&128)) Mk a
 rw [e]
 simp only [hf,hg]
 rw [hb 1 (by decide),hb 2 (by decide),hb 4 (by decide),hb 8 (by decide),hb 16 (by decide),hb 32 (by decide),hb 64 (by decide),hb 128 (by decide)]

def xt (x:Nat):Nat:=if 255<2*x then 2*x^^^285 else 2*x
def chk (f:UInt8→UInt8→Bool):Nat→Bool
 |0=>true
 |n+1=>iz.all (fun c=>f c (UInt8.ofNat n))&&chk f n
theorem Jk {f:UInt8→UInt8→Bool}:∀{n:Nat},chk f n=true→∀c∈iz,∀b:Nat,b<n→f c (UInt8.ofNat b)=true
 |0,_,c,hc,b,hb=>by omega
 |n+1,h,c,hc,b,hb=>by
  unfold chk at h
  rw [Bool.and_eq_true] at h
  by_cases e:b=n
  ·subst e;exact List.all_eq_true.1 h.1 c hc
  ·exact Jk h.2 c hc b (by omega)
theorem Nq {f:UInt8→UInt8→Bool} (h:chk f 256=true) (c:UInt8) (hc:c∈iz) (b:UInt8):f c b=true:=by
 have:=Jk h c hc b.toNat b.toNat_lt
 simpa using this
theorem ev2:chk (fun c b=>Nat.beq (uC c.toNat b.toNat) (uC b.toNat c.toNat)) 256=true:=by kernel_rfl
theorem pI (c:UInt8) (hc:c∈iz) (b:UInt8):aI c b=aI b c:=by
 refine pd ?_
 rw [eP,eP]
 exact Nat.eq_of_beq_eq_true (Nq ev2 c hc b)
theorem bC (a b:UInt8):aI a b=aI b a:=by
 have hb:∀c∈iz,∀x y:UInt8,aI c (x^^^y)=aI c x^^^aI c y:=fun c hc x y=>by
  rw [pI c hc,pI c hc,pI c hc,bf]
 have hr:∀a x y:UInt8,aI a (x^^^y)=aI a x^^^aI a y:=fun a x y=>by
  refine kj (f:=fun a=>aI a (x^^^y)) (g:=fun a=>aI a x^^^aI a y) (fun p q=>bf p q _) (fun p q=> ?_) (fun c hc=>hb c hc x y) a
  show aI (p^^^q) x^^^aI (p^^^q) y=_
  rw [bf,bf]
  ac_rfl
 exact kj (f:=fun a=>aI a b) (g:=fun a=>aI b a) (fun p q=>bf p q b) (fun p q=>hr b p q) (fun c hc=>pI c hc b) a
theorem cx (a b c:UInt8):aI a (b^^^c)=aI a b^^^aI a c:=by
 rw [bC,bf,bC b,bC c]
def X5:Bool:=iz.all fun a=>iz.all fun b=>iz.all fun c=>Nat.beq (uC (uC a.toNat b.toNat) c.toNat) (uC a.toNat (uC b.toNat c.toNat))
theorem ev3:X5=true:=by kernel_rfl
theorem cK (a b c:UInt8):aI (aI a b) c=aI a (aI b c):=by
 refine kj (f:=fun a=>aI (aI a b) c) (g:=fun a=>aI a (aI b c)) (fun p q=>by show aI (aI (p^^^q) b) c=_;rw [bf,bf]) (fun p q=>bf p q _) (fun a ha=> ?_) a
 refine kj (f:=fun b=>aI (aI a b) c) (g:=fun b=>aI a (aI b c)) (fun p q=>by show aI (aI a (p^^^q)) c=_;rw [cx,bf]) (fun p q=>by show aI a (aI (p^^^q) c)=_;rw [bf,cx]) (fun b hb=> ?_) b
 refine kj (f:=fun c=>aI (aI a b) c) (g:=fun c=>aI a (aI b c)) (fun p q=>cx _ p q) (fun p q=>by show aI a (aI b (p^^^q))=_;rw [cx,cx]) (fun c hc=> ?_) c
 refine pd ?_
 rw [eP,eP,eP,eP]
 have:=ev3
 unfold X5 at this
 simp only [List.all_eq_true] at this
 exact Nat.eq_of_beq_eq_true (this a ha b hb c hc)

theorem bB (a:UInt8):aI a 0=0:=by have:=cx a 0 0;simpa using this
theorem bJ (a:UInt8):aI 0 a=0:=by rw [bC,bB]
theorem mF (a:UInt8):aI a 1=a:=by
 refine kj (f:=fun a=>aI a 1) (g:=fun a=>a) (fun p q=>bf p q 1) (fun p q=>rfl) (fun c hc=> ?_) a
 have:∀c∈iz,aI c 1=c:=by decide
 exact this c hc
theorem ju (a:UInt8):aI 1 a=a:=by rw [bC,mF]
def A6:Nat→Bool
 |0=>true
 |n+1=>Nat.beq (aI (UInt8.ofNat (n+1)) (dj (UInt8.ofNat (n+1)))).toNat 1&&A6 n
theorem ev4:A6 255=true:=by kernel_rfl
theorem wi:∀{n:Nat},A6 n=true→∀k:Nat,0<k→k≤n→(aI (UInt8.ofNat k) (dj (UInt8.ofNat k))).toNat=1
 |0,_,k,h,h'=>by omega
 |n+1,h,k,h0,h'=>by
  unfold A6 at h
  rw [Bool.and_eq_true] at h
  by_cases e:k=n+1
  ·subst e;exact Nat.eq_of_beq_eq_true h.1
  ·exact wi h.2 k h0 (by omega)
theorem mG (a:UInt8) (h:a≠0):aI a (dj a)=1:=by
 have h0:0<a.toNat:=by
  rcases Nat.eq_zero_or_pos a.toNat with e|e
  ·exact absurd (pd e) h
  ·exact e
 have:=wi ev4 a.toNat h0 (by have:=a.toNat_lt;omega)
 refine pd ?_
 simpa using this
theorem fe {a b:UInt8} (h:aI a b=0):a=0∨b=0:=by
 by_cases ha:a=0
 ·exact .inl ha
 ·refine .inr ?_
  have:aI (dj a) (aI a b)=b:=by rw [←cK,bC (dj a),mG a ha,ju]
  rw [h,bB] at this
  exact this.symm
def aB (x:UInt8):List UInt8→UInt8
 |[]=>0
 |c::p=>aI (aB x p) x^^^c
theorem oU (x:UInt8) (p:List UInt8) (k:Nat) (h:k<p.length):aB x (p.drop k)=aI (aB x (p.drop (k+1))) x^^^p.getD k 0:=by
 rw [List.drop_eq_getElem_cons h,aB]
 simp [List.getElem?_eq_getElem h]
def O1:List V→Option (Prop×V×List Blk)
 |[.sl false .u8 p,.u8 x]=>some (p.length≤1000000,.u8 (aB x p), [])
 |_=>none
theorem X0 (p:List UInt8) (x:UInt8) (hp:p.length≤1000000):bI (En C7 tys G6 []) Tryd.f52 [.k] [.sl false .u8 p,.u8 x] (.u8 (aB x p)) []:=by
 refine⟨⟨by omega,by omega⟩,0, [(0,.k),(1,.k),(5,.k),(6,.k)],fun n vs H=>∃k:Int,n=(k+1).toNat∧-1≤k∧k<p.length∧vs= [.sl false .u8 p,.u8 x,.u8 (aB x (p.drop (k+1).toNat)),.int .i64 k]∧H= [],⟨rfl,p.length,p.length-1,by omega,by omega,by omega,?_,rfl⟩,?_⟩
 ·have:((p.length:Int)-1+1).toNat=p.length:=by omega
  rw [this,List.drop_length]
  rfl
 ·rintro n vs H ⟨k,rfl,h1,h2,rfl,rfl⟩
  refine⟨fun hk=> ?_,fun hk=> ?_⟩
  ·refine⟨by kernel_rfl,trivial,⟨hk,h2⟩,⟨by omega,by omega⟩,rfl,k.toNat,by omega,k-1,by omega,by omega,by omega,?_,rfl⟩
   have e:=oU x p k.toNat (by omega)
   have e1:(k-1+1).toNat=k.toNat:=by omega
   have e2:(k+1).toNat=k.toNat+1:=by omega
   rw [e1,e,←e2]
   rfl
  ·have:k= -1:=by omega
   subst this
   exact a6
def C8:List (Nat×bW):=(52,aW [.v (.sl .u8),.v .u8] O1)::C7
theorem k8:Known Tryd.prog (En C8 tys G6 []):=k7.add Tryd.func52 Tryd.call52 [.k] fun ds p v bs h hp=>by
 unfold O1 at h
 split at h<;>simp only [Option.some.injEq,Prod.mk.injEq,reduceCtorEq] at h
 obtain⟨rfl,rfl,rfl⟩:=h
 exact X0 _ _ hp

def aF:List UInt8→List UInt8
 |[]=> []
 |c::p=>match aF p with
  |[]=>if c=0 then [] else [c]
  |d::q=>c::d::q
theorem ft (c:UInt8):∀l:List UInt8,aF (l++ [c])=if c=0 then aF l else l++ [c]
 |[]=>by simp [aF]
 | d::l=>by
  have ih:=ft c l
  by_cases hc:c=0
  ·rw [if_pos hc] at ih ⊢
   simp [aF,ih]
  ·rw [if_neg hc] at ih ⊢
   rw [List.cons_append]
   show(match aF (l++ [c]) with| []=>if d=0 then [] else [d]|e::q=>d::e::q)=_
   rw [ih]
   cases l<;>rfl
theorem cw:∀l:List UInt8,(aF l).length≤l.length
 |[]=>by simp [aF]
 |c::l=>by
  have:=cw l
  unfold aF
  split
  ·split<;>simp
  ·rename_i h;rw [h] at this;simpa using this
theorem pf:∀l:List UInt8,l.take (aF l).length=aF l
 |[]=>rfl
 |c::l=>by
  have ih:=pf l
  unfold aF
  split
  ·split<;>simp
  ·rename_i h;rw [h] at ih;simpa using ih
theorem fk (p:List UInt8) (k:Nat) (h:k<p.length):p.take (k+1)=p.take k++ [p.getD k 0]:=by
 rw [List.take_succ_eq_append_getElem h]
 simp [List.getElem?_eq_getElem h]
def eF (p:List UInt8):Int:=(aF p).length-1
def Vs:List V→Option (Prop×V×List Blk)
 |[.sl false .u8 p]=>some (p.length≤1000000,.int .i64 (eF p), [])
 |_=>none
theorem aBb (p:List UInt8) (hp:p.length≤1000000):bI (En C8 tys G6 []) Tryd.f72 [.k] [.sl false .u8 p] (.int .i64 (eF p)) []:=by
 refine⟨⟨by omega,by omega⟩,0, [(0,.k),(3,.k)],fun n vs H=>∃k:Int,n=(k+1).toNat∧-1≤k∧k<p.length∧aF p=aF (p.take (k+1).toNat)∧vs= [.sl false .u8 p,.int .i64 k]∧H= [],⟨rfl,p.length,p.length-1,by omega,by omega,by omega,?_,rfl,rfl⟩,?_⟩
 ·have:((p.length:Int)-1+1).toNat=p.length:=by omega
  rw [this,List.take_length]
 ·rintro n vs H ⟨k,rfl,h1,h2,ht,rfl,rfl⟩
  refine⟨fun hk=> ?_,fun hk=> ?_⟩
  ·have e2:(k+1).toNat=k.toNat+1:=by omega
   rw [e2,fk p k.toNat (by omega),ft] at ht
   refine⟨⟨hk,h2⟩,yn (p.getD k.toNat 0≠0) (fun h3=> ?_) fun h3=> ?_⟩
   ·rw [if_neg h3] at ht
    have:eF p=k:=by
     unfold eF
     rw [ht,List.length_append,List.length_take]
     simp
     omega
    rw [this]
    exact a6
   ·have h3:p.getD k.toNat 0=0:=nw h3
    rw [if_pos h3] at ht
    refine⟨⟨by omega,by omega⟩,rfl,k.toNat,by omega,k-1,by omega,by omega,by omega,?_,rfl,rfl⟩
    rw [ht]
    congr 2
    omega
  ·have:k= -1:=by omega
   subst this
   have:eF p= -1:=by unfold eF;rw [ht];rfl
   rw [this]
   exact a6
def C9:List (Nat×bW):=(72,aW [.v (.sl .u8)] Vs)::C8
theorem k9:Known Tryd.prog (En C9 tys G6 []):=k8.add Tryd.func72 Tryd.call72 [.k] fun ds p v bs h hp=>by
 unfold Vs at h
 split at h<;>simp only [Option.some.injEq,Prod.mk.injEq,reduceCtorEq] at h
 obtain⟨rfl,rfl,rfl⟩:=h
 exact aBb _ hp

def Ga:List V→Option (Prop×V×List Blk)
 |[.sl false .u8 p]=>some (p.length≤1000000,.own .u8 0, [.row true .u8 p])
 |_=>none
theorem S0 (p:List UInt8) (hp:p.length≤1000000):bI (En C9 tys G6 []) Tryd.f85 [.o .u8] [.sl false .u8 p] (.own .u8 0) [.row true .u8 p]:=by
 intro q hq
 refine⟨fun h=> ?_,fun h=> ?_⟩
 ·have:=hq h
  subst this
  exact a6
 ·refine⟨fY,?_,?_⟩
  ·show 0+p.length≤1000000000
   omega
  exact a6
def C10:List (Nat×bW):=(85,aW [.v (.sl .u8)] Ga)::C9
theorem k10:Known Tryd.prog (En C10 tys G6 []):=k9.add Tryd.func85 Tryd.call85 [.o .u8] fun ds p v bs h hp=>by
 unfold Ga at h
 split at h<;>simp only [Option.some.injEq,Prod.mk.injEq,reduceCtorEq] at h
 obtain⟨rfl,rfl,rfl⟩:=h
 exact S0 _ hp

def Oy:List V→Option (Prop×V×List Blk)
 |[.sl false .u8 p]=>some (p.length≤1000000,.own .u8 0, [.row true .u8 (aF p)])
 |_=>none
theorem Xo (p:List UInt8) (hp:p.length≤1000000):bI (En C10 tys G6 []) Tryd.f83 [.o .u8] [.sl false .u8 p] (.own .u8 0) [.row true .u8 (aF p)]:=by
 have h1:=cw p
 have h2:eF p=(aF p).length-1:=rfl
 have h3:(eF p+1).toNat=(aF p).length:=by omega
 refine⟨hp,⟨by omega,by omega⟩,⟨by omega,by omega⟩,?_,?_⟩
 ·show(p.take (eF p+1).toNat).length≤1000000
  rw [List.length_take]
  omega
 have e:p.take (eF p+1).toNat=aF p:=by rw [h3,pf]
 refine⟨rfl,rfl,rfl,?_⟩
 show [Blk.row true .u8 (p.take (eF p+1).toNat)]=_
 rw [e]
def C11:List (Nat×bW):=(83,aW [.v (.sl .u8)] Oy)::C10
theorem k11:Known Tryd.prog (En C11 tys G6 []):=k10.add Tryd.func83 Tryd.call83 [.o .u8] fun ds p v bs h hp=>by
 unfold Oy at h
 split at h<;>simp only [Option.some.injEq,Prod.mk.injEq,reduceCtorEq] at h
 obtain⟨rfl,rfl,rfl⟩:=h
 exact Xo _ hp
def bz:List UInt8→List UInt8→List UInt8
 |[],b=>b
 |a, []=>a
 |x::a,y::b=>(x^^^y)::bz a b
theorem pZ (a:List UInt8):bz a []=a:=by cases a<;>rfl
theorem fA:∀a b:List UInt8,(bz a b).length=max a.length b.length
 |[],b=>by simp [bz]
 |x::a, []=>by simp [bz]
 |x::a,y::b=>by simp [bz,fA a b]
theorem sB (c:UInt8):∀(a l:List UInt8),bz a (l++ [c])=if l.length=(bz a l).length then bz a l++ [c] else(bz a l).set l.length ((bz a l).getD l.length 0^^^c)
 |[],l=>by simp [bz]
 |x::a, []=>by simp [bz,pZ]
 |x::a,y::l=>by
  have ih:=sB c a l
  simp only [List.cons_append,bz,List.length_cons,Nat.add_right_cancel_iff,List.set_cons_succ,List.getD_cons_succ]
  rw [ih]
  split<;>rfl
def m4 (ls:List (List UInt8)):List UInt8:=ls.foldl bz []
def dS (ls:List (List UInt8)):List UInt8:=aF (m4 ls)
theorem Ch (ls:List (List UInt8)) (p:List UInt8):m4 (ls++ [p])=bz (m4 ls) p:=by simp [m4]
theorem yG (ls:List (List UInt8)) (k:Nat) (h:k<ls.length):ls.take (k+1)=ls.take k++ [ls.getD k []]:=by
 rw [List.take_succ_eq_append_getElem h]
 simp [List.getElem?_eq_getElem h]
theorem pq (N:Nat):∀(ls:List (List UInt8)),(∀p∈ls,p.length≤N)→(m4 ls).length≤N:=by
 intro ls h
 have:∀(ls:List (List UInt8)) (a:List UInt8),a.length≤N→(∀p∈ls,p.length≤N)→(ls.foldl bz a).length≤N:=by
  intro ls
  induction ls with
  |nil=>intro a ha _;exact ha
  |cons p ls ih=>
   intro a ha hp
   refine ih _ ?_ fun q hq=>hp q (by simp [hq])
   rw [fA]
   have:=hp p (by simp)
   omega
 exact this ls [] (by simp) h

def Vg:List V→Option (Prop×V×List Blk)
 |[.sl false (.sl .u8) ls]=>some (ls.length≤1000∧∀p∈ls,p.length≤1000000,.own .u8 0, [.row true .u8 (dS ls)])
 |_=>none
theorem aA3 (ls:List (List UInt8)) (hl:ls.length≤1000) (hp:∀p∈ls,p.length≤1000000):bI (En C11 tys G6 []) Tryd.f78 [.o .u8] [.sl false (.sl .u8) ls] (.own .u8 0) [.row true .u8 (dS ls)]:=by
 have hlen:∀k,(m4 (ls.take k)).length≤1000000:=fun k=>pq _ _ fun p h=>hp p (List.mem_of_mem_take h)
 refine⟨0, [(3,.o .u8),(8,.k),(9,.k),(10,.k)],fun n vs H=>∃k:Nat,k≤ls.length∧n=ls.length-k∧vs= [.own .u8 0,.sl false (.sl .u8) ls,.int .i64 ls.length,.int .i64 k]∧H= [.row true .u8 (m4 (ls.take k))],⟨rfl,ls.length,0,by omega,rfl,rfl,rfl⟩,?_⟩
 rintro n vs H ⟨k,hk,rfl,rfl,rfl⟩
 refine⟨fun hlt=> ?_,fun hlt=> ?_⟩
 ·have hk':k<ls.length:=by omega
  obtain⟨p,hpe⟩:∃p,p=ls.getD k []:=⟨_,rfl⟩
  have hpl:p.length≤1000000:=hp p (by rw [hpe];simp [List.getElem?_eq_getElem hk'])
  refine⟨⟨by omega,by omega⟩,?_⟩
  refine⟨0, [(3,.o .u8),(8,.k),(9,.k),(10,.k),(14,.k),(15,.k),(16,.k)],fun n vs H=>∃i:Nat,i≤p.length∧n=p.length-i∧vs= [.own .u8 0,.sl false (.sl .u8) ls,.int .i64 ls.length,.int .i64 k,.sl false .u8 p,.int .i64 p.length,.int .i64 i]∧H= [.row true .u8 (bz (m4 (ls.take k)) (p.take i))],?_,?_⟩
  ·subst hpe
   refine⟨rfl,(ls.getD k []).length,0,by omega,rfl,rfl,?_⟩
   rw [List.take_zero,pZ]
   rfl
  ·rintro n vs H ⟨i,hi,rfl,rfl,rfl⟩
   have hle:(bz (m4 (ls.take k)) (p.take i)).length≤1000000:=by
    rw [fA,List.length_take]
    have:=hlen k
    omega
   have hge:i≤(bz (m4 (ls.take k)) (p.take i)).length:=by
    rw [fA,List.length_take]
    omega
   refine⟨fun hilt=> ?_,fun hilt=> ?_⟩
   ·have hi':i<p.length:=by omega
    have hs:=sB (p.getD i 0) (m4 (ls.take k)) (p.take i)
    rw [←fk p i hi',List.length_take,Nat.min_eq_left hi] at hs
    generalize bz (m4 (ls.take k)) (p.take i)=cur at*
    refine⟨⟨by omega,by omega⟩,fun he=> ?_,fun he=> ?_⟩
    ·replace he:(i:Int)=cur.length:=he
     have he':i=cur.length:=by omega
     rw [if_pos he'] at hs
     refine⟨fY,?_,?_⟩
     ·show cur.length+1≤1000000000
      omega
     have e0:(cur++ [0]).getD i 0^^^p.getD i 0=p.getD i 0:=by rw [he'];simp
     have e1:(cur++ [(0:UInt8)]).set i (p.getD i 0)=cur++ [p.getD i 0]:=by rw [he'];simp
     have hl1:(i:Int)<((cur++ [(0:UInt8)]).length:Int):=by rw [List.length_append,List.length_singleton];omega
     refine⟨⟨by omega,hl1⟩,⟨by omega,hl1⟩,fY,⟨by omega,by omega⟩,rfl,p.length-(i+1),by omega,i+1,by omega,rfl,rfl,?_⟩
     show [Blk.row true .u8 ((cur++ [(0:UInt8)]).set i ((cur++ [(0:UInt8)]).getD i 0^^^p.getD i 0))]=_
     rw [e0,e1,hs]
    ·replace he:¬(i:Int)=cur.length:=he
     have he':¬i=cur.length:=by omega
     rw [if_neg he'] at hs
     refine⟨⟨by omega,by omega⟩,⟨by omega,by omega⟩,fY,⟨by omega,by omega⟩,rfl,p.length-(i+1),by omega,i+1,by omega,rfl,rfl,?_⟩
     rw [hs]
     rfl
   ·have hie:i=p.length:=by omega
    subst hie
    rw [List.take_length]
    refine⟨⟨by omega,by omega⟩,rfl,ls.length-(k+1),by omega,k+1,by omega,rfl,rfl,?_⟩
    rw [yG ls k hk',Ch,←hpe]
    rfl
 ·have hke:k=ls.length:=by omega
  subst hke
  rw [List.take_length]
  have:=pq _ _ hp
  exact⟨this,rfl,rfl,rfl,rfl⟩
def C12:List (Nat×bW):=(78,aW [.v (.sl (.sl .u8))] Vg)::C11
theorem k12:Known Tryd.prog (En C12 tys G6 []):=k11.add Tryd.func78 Tryd.call78 [.o .u8] fun ds p v bs h hp=>by
 unfold Vg at h
 split at h<;>simp only [Option.some.injEq,Prod.mk.injEq,reduceCtorEq] at h
 obtain⟨rfl,rfl,rfl⟩:=h
 exact aA3 _ hp.1 hp.2

def aCJ:List V→Option (Prop×V×List Blk)
 |[.sl false .u8 a,.sl false .u8 b]=>some (a.length≤1000000∧b.length≤1000000,.own .u8 0, [.row true .u8 (dS [a,b])])
 |_=>none
def C13:List (Nat×bW):=C12
theorem k13:Known Tryd.prog (En C13 tys G6 []):=k12
def ra (acc:List UInt8) (i:Nat) (c:UInt8):List UInt8:=acc.set i (acc.getD i 0^^^c)
def i9 (x:UInt8):List UInt8→Nat→List UInt8→List UInt8
 |acc,_, []=>acc
 |acc,i,y::ys=>i9 x (ra acc i (aI x y)) (i+1) ys
def js (b:List UInt8):List UInt8→Nat→List UInt8→List UInt8
 |acc,_, []=>acc
 |acc,i,x::xs=>js b (i9 x acc i b) (i+1) xs
def ae (a b:List UInt8):List UInt8:=aF (js b (List.replicate (a.length+b.length) 0) 0 a)
theorem ko (acc:List UInt8) (i:Nat) (c:UInt8):(ra acc i c).length=acc.length:=by simp [ra]
theorem jn (x:UInt8):∀(b acc:List UInt8) (i:Nat),(i9 x acc i b).length=acc.length
 |[],acc,i=>rfl
 |y::b,acc,i=>by rw [i9,jn x b,ko]
theorem nD (b:List UInt8):∀(a acc:List UInt8) (i:Nat),(js b acc i a).length=acc.length
 |[],acc,i=>rfl
 |y::a,acc,i=>by rw [js,nD b a,jn]
theorem dd (p:List UInt8) (k:Nat) (h:k<p.length):p.drop k=p.getD k 0::p.drop (k+1):=by
 rw [List.drop_eq_getElem_cons h]
 simp [List.getElem?_eq_getElem h]

def Oz:List V→Option (Prop×V×List Blk)
 |[.sl false .u8 a,.sl false .u8 b]=>some (a.length≤100000∧b.length≤100000,.own .u8 0, [.row true .u8 (ae a b)])
 |_=>none
theorem Xq (a b:List UInt8) (ha:a.length≤100000) (hb:b.length≤100000):bI (En C13 tys G6 []) Tryd.f79 [.o .u8] [.sl false .u8 a,.sl false .u8 b] (.own .u8 0) [.row true .u8 (ae a b)]:=by
 obtain⟨fin,hfin⟩:∃fin,fin=js b (List.replicate (a.length+b.length) 0) 0 a:=⟨_,rfl⟩
 have hfl:fin.length=a.length+b.length:=by rw [hfin,nD,List.length_replicate]
 refine⟨⟨by omega,by omega⟩,⟨rfl,by omega,by omega⟩,?_⟩
 refine⟨0, [(1,.k),(5,.o .u8),(16,.k),(17,.k),(18,.k)],fun n vs H=>∃(i:Nat) (cur:List UInt8),i≤a.length∧n=a.length-i∧cur.length=a.length+b.length∧js b cur i (a.drop i)=fin∧vs= [.sl false .u8 b,.own .u8 0,.sl false .u8 a,.int .i64 a.length,.int .i64 i]∧H= [.row true .u8 cur],
  ⟨rfl,a.length,0,List.replicate (a.length+b.length) 0,by omega,rfl,by rw [List.length_replicate],hfin.symm,rfl,?_⟩,?_⟩
 ·have:((a.length:Int)+b.length).toNat=a.length+b.length:=by omega
  show [Blk.row true .u8 (List.replicate ((a.length:Int)+b.length).toNat 0)]=_
  rw [this]
 rintro n vs H ⟨i,cur,hi,rfl,hcl,hcur,rfl,rfl⟩
 refine⟨fun hlt=> ?_,fun hlt=> ?_⟩
 ·have hi':i<a.length:=by omega
  obtain⟨x,hx⟩:∃x,x=a.getD i 0:=⟨_,rfl⟩
  rw [dd a i hi',←hx,js] at hcur
  refine⟨⟨by omega,by omega⟩,?_⟩
  refine⟨0, [(1,.k),(5,.o .u8),(6,.k),(7,.k),(16,.k),(17,.k),(18,.k),(23,.k),(24,.k),(25,.k)],fun n vs H=>∃(j:Nat) (cur2:List UInt8),j≤b.length∧n=b.length-j∧cur2.length=a.length+b.length∧i9 x cur2 (i+j) (b.drop j)=i9 x cur i b∧vs= [.sl false .u8 b,.own .u8 0,.int .i64 i,.u8 x,.sl false .u8 a,.int .i64 a.length,.int .i64 i,.sl false .u8 b,.int .i64 b.length,.int .i64 j]∧H= [.row true .u8 cur2],
   ⟨rfl,b.length,0,cur,by omega,rfl,hcl,rfl,by rw [hx];rfl,rfl⟩,?_⟩
  rintro n vs H ⟨j,cur2,hj,rfl,hc2,hrow,rfl,rfl⟩
  refine⟨fun hlt2=> ?_,fun hlt2=> ?_⟩
  ·have hj':j<b.length:=by omega
   rw [dd b j hj',i9] at hrow
   refine⟨⟨by omega,by omega⟩,by kernel_rfl,⟨by omega,by omega⟩,⟨by omega,by omega⟩,trivial,⟨by omega,by omega⟩,fY,⟨by omega,by omega⟩,rfl,b.length-(j+1),by omega,j+1,ra cur2 (i+j) (aI x (b.getD j 0)),by omega,rfl,by rw [ko];exact hc2,hrow,rfl,?_⟩
   have e:((i:Int)+j).toNat=i+j:=by omega
   show [Blk.row true .u8 (cur2.set ((i:Int)+j).toNat (cur2.getD ((i:Int)+j).toNat 0^^^aI x (b.getD j 0)))]=_
   rw [e]
   rfl
  ·have hje:j=b.length:=by omega
   subst hje
   rw [List.drop_length,i9] at hrow
   subst hrow
   exact⟨⟨by omega,by omega⟩,rfl,a.length-(i+1),by omega,i+1,_,by omega,rfl,hc2,hcur,rfl,rfl⟩
 ·have hie:i=a.length:=by omega
  subst hie
  rw [List.drop_length,js] at hcur
  subst hcur
  refine⟨om (cur.length≤1000000),rfl,rfl,rfl,?_⟩
  show [Blk.row true .u8 (aF cur)]=_
  rw [hfin]
  rfl
def C14:List (Nat×bW):=(79,aW [.v (.sl .u8),.v (.sl .u8)] Oz)::C13
theorem k14:Known Tryd.prog (En C14 tys G6 []):=k13.add Tryd.func79 Tryd.call79 [.o .u8] fun ds p v bs h hp=>by
 unfold Oz at h
 split at h<;>simp only [Option.some.injEq,Prod.mk.injEq,reduceCtorEq] at h
 obtain⟨rfl,rfl,rfl⟩:=h
 exact Xq _ _ hp.1 hp.2

def C15:List (Nat×bW):=C14
theorem k15:Known Tryd.prog (En C15 tys G6 []):=k14
def kE (b:List UInt8) (inv:UInt8):Nat→List UInt8→List UInt8→List UInt8×List UInt8
 |0,q,r=>(q,r)
 |k+1,q,r=>kE b inv k (q.set k (aI (r.getD (k+b.length-1) 0) inv)) (i9 (aI (r.getD (k+b.length-1) 0) inv) r k b)
def eW (a b:List UInt8):List UInt8×List UInt8:=
 kE (aF b) (dj ((aF b).getD ((aF b).length-1) 0)) ((aF a).length+1-(aF b).length) (List.replicate ((aF a).length+1-(aF b).length) 0) (aF a)
theorem rN (b:List UInt8) (inv:UInt8):∀(k:Nat) (q r:List UInt8),(kE b inv k q r).1.length=q.length∧(kE b inv k q r).2.length=r.length
 |0,q,r=>⟨rfl,rfl⟩
 |k+1,q,r=>by
  rw [kE]
  have:=rN b inv k (q.set k (aI (r.getD (k+b.length-1) 0) inv)) (i9 (aI (r.getD (k+b.length-1) 0) inv) r k b)
  rw [this.1,this.2,jn,List.length_set]
  exact⟨rfl,rfl⟩

def zx:List V→Option (Prop×V×List Blk)
 |[.sl false .u8 a,.sl false .u8 b]=>some (a.length≤100000∧b.length≤100000∧aF b≠ [],.tup [.own .u8 0,.own .u8 1], [.row true .u8 (aF (eW a b).1),.row true .u8 (aF (eW a b).2)])
 |_=>none
theorem Nw (a b:List UInt8) (ha:a.length≤100000) (hb:b.length≤100000) (hb0:aF b≠ []):
  bI (En C15 tys G6 []) Tryd.f77 [.o .u8,.o .u8] [.sl false .u8 a,.sl false .u8 b] (.tup [.own .u8 0,.own .u8 1]) [.row true .u8 (aF (eW a b).1),.row true .u8 (aF (eW a b).2)]:=by
 have hta:=cw a
 have htb:=cw b
 have hcl:0<(aF b).length:=List.length_pos_iff.2 hb0
 obtain⟨N,hN⟩:∃N,N=(aF a).length+1-(aF b).length:=⟨_,rfl⟩
 obtain⟨inv,hinv⟩:∃inv,inv=dj ((aF b).getD ((aF b).length-1) 0):=⟨_,rfl⟩
 have hfin:eW a b=kE (aF b) inv N (List.replicate N 0) (aF a):=by rw [hinv,hN];rfl
 generalize eW a b=fin at hfin ⊢
 have hfl:=rN (aF b) inv N (List.replicate N 0) (aF a)
 rw [←hfin,List.length_replicate] at hfl
 have hinv':∀m:Int,m=(aF b).length-1→dj ((aF b).getD m.toNat 0)=inv:=fun m hm=>by
  rw [hinv]
  congr 2
  omega
 have hrev:∀(n:Nat) (q r:List UInt8),kE (aF b) inv n q r=fin→True:=fun _ _ _ _=>trivial
 obtain⟨I,hI⟩:∃I:Nat→List V→List Blk→Prop,I=fun n vs H=>∃(k:Int) (q r:List UInt8),n=(k+1).toNat∧k<N∧-1000000≤k∧q.length=N∧r.length=(aF a).length∧kE (aF b) inv n q r=fin∧vs= [.sl true .u8 (aF b),.own .u8 0,.own .u8 1,.u8 inv,.int .i64 k]∧H= [.row true .u8 q,.row true .u8 r]:=⟨_,rfl⟩
 refine⟨om (a.length≤1000000),om (b.length≤1000000),⟨by omega,by omega⟩,⟨by omega,by omega⟩,trivial,fun hge=>⟨⟨by omega,by omega⟩,⟨by omega,by omega⟩,⟨rfl,?p1,?p2⟩,⟨by omega,by omega⟩,
   ⟨0, [(1,.d .u8),(4,.o .u8),(5,.o .u8),(6,.k),(8,.k)],I,?i1,?s1⟩⟩,fun hge=>⟨⟨by omega,by omega⟩,⟨0, [(1,.d .u8),(4,.o .u8),(5,.o .u8),(6,.k),(8,.k)],I,?i2,?s2⟩⟩⟩
 case p1=>
  replace hge:((aF b).length:Int)≤(aF a).length:=hge
  omega
 case p2=>omega
 case i1=>
  replace hge:((aF b).length:Int)≤(aF a).length:=hge
  rw [hI]
  have hn:((aF a).length-(aF b).length+1:Int).toNat=N:=by omega
  refine⟨rfl,N,(aF a).length-(aF b).length,List.replicate N 0,aF a,by omega,by omega,by omega,by rw [List.length_replicate],rfl,hfin.symm,?_,?_⟩
  ·rw [←hinv' _ rfl];rfl
  ·rw [←hn];rfl
 case i2=>
  replace hge:¬((aF b).length:Int)≤(aF a).length:=hge
  rw [hI]
  have hn:N=0:=by omega
  refine⟨rfl,0,(aF a).length-(aF b).length, [],aF a,by omega,by omega,by omega,by rw [hn];rfl,rfl,?_,?_,rfl⟩
  ·rw [hfin,hn];rfl
  ·rw [←hinv' _ rfl];rfl
 all_goals
  rw [hI]
  rintro n vs H ⟨k,q,r,rfl,hkN,hk0,hql,hrl,hdiv,rfl,rfl⟩
  refine⟨fun hk=> ?_,fun hk=> ?_⟩
  ·replace hk:0≤k:=hk
   have e1:(k+1).toNat=k.toNat+1:=by omega
   rw [e1,kE] at hdiv
   have e2:(k+(aF b).length-1).toNat=k.toNat+(aF b).length-1:=by omega
   refine⟨⟨by omega,by omega⟩,⟨by omega,by omega⟩,⟨by omega,by omega⟩,trivial,⟨by omega,by omega⟩,fY,?_⟩
   obtain⟨x,hx⟩:∃x,x=aI (r.getD (k.toNat+(aF b).length-1) 0) inv:=⟨_,rfl⟩
   rw [←hx] at hdiv
   refine⟨0, [(1,.k),(4,.o .u8),(5,.o .u8),(6,.k),(8,.k),(9,.k),(61,.k),(62,.k),(63,.k)],fun n vs H=>∃(j:Nat) (r2:List UInt8),j≤(aF b).length∧n=(aF b).length-j∧r2.length=(aF a).length∧i9 x r2 (k.toNat+j) ((aF b).drop j)=i9 x r k.toNat (aF b)∧
    vs= [.sl true .u8 (aF b),.own .u8 0,.own .u8 1,.u8 inv,.int .i64 k,.u8 x,.sl true .u8 (aF b),.int .i64 (aF b).length,.int .i64 j]∧H= [.row true .u8 (q.set k.toNat x),.row true .u8 r2],⟨rfl,(aF b).length,0,r,by omega,rfl,hrl,rfl,?_,?_⟩,?_⟩
   ·rw [hx,←e2];rfl
   ·rw [hx,←e2];rfl
   rintro n vs H ⟨j,r2,hj,rfl,hr2,hrow,rfl,rfl⟩
   refine⟨fun hlt=> ?_,fun hlt=> ?_⟩
   ·have hj':j<(aF b).length:=by omega
    rw [dd (aF b) j hj',i9] at hrow
    refine⟨⟨by omega,by omega⟩,by kernel_rfl,⟨by omega,by omega⟩,⟨by omega,by omega⟩,trivial,⟨by omega,by omega⟩,fY,⟨by omega,by omega⟩,rfl,(aF b).length-(j+1),by omega,j+1,ra r2 (k.toNat+j) (aI x ((aF b).getD j 0)),by omega,rfl,by rw [ko];exact hr2,hrow,rfl,?_⟩
    have e:(k+j).toNat=k.toNat+j:=by omega
    show [Blk.row true .u8 (q.set k.toNat x),Blk.row true .u8 (r2.set (k+j).toNat (r2.getD (k+j).toNat 0^^^aI x ((aF b).getD j 0)))]=_
    rw [e]
    rfl
   ·have hje:j=(aF b).length:=by omega
    rw [hje,List.drop_length,i9] at hrow
    refine⟨⟨by omega,by omega⟩,rfl,k.toNat,by omega,k-1,q.set k.toNat x,r2,by omega,by omega,by omega,by rw [List.length_set];exact hql,hr2,?_,rfl,rfl⟩
    rw [hrow]
    exact hdiv
  ·replace hk:¬0≤k:=hk
   have e1:(k+1).toNat=0:=by omega
   rw [e1,kE] at hdiv
   rw [←hdiv]
   exact⟨om (q.length≤1000000),om (r.length≤1000000),rfl,rfl,rfl,rfl⟩
def C16:List (Nat×bW):=(77,aW [.v (.sl .u8),.v (.sl .u8)] zx)::C15
theorem k16:Known Tryd.prog (En C16 tys G6 []):=k15.add Tryd.func77 Tryd.call77 [.o .u8,.o .u8] fun ds p v bs h hp=>by
 unfold zx at h
 split at h<;>simp only [Option.some.injEq,Prod.mk.injEq,reduceCtorEq] at h
 obtain⟨rfl,rfl,rfl⟩:=h
 exact Nw _ _ hp.1 hp.2.1 hp.2.2

def C17:List (Nat×bW):=C16
theorem k17:Known Tryd.prog (En C17 tys G6 []):=k16
def b9 (xs ys:List UInt8):Prop:=xs.Nodup∧xs.length=ys.length
def F7:List V→Option (Prop×V×List Blk)
 |[.sl false .u8 a,.sl false .u8 b]=>some (a.length≤100000∧b.length≤100000,.b (b9 a b), [])
 |_=>none
theorem qQ (l:List UInt8) (x:UInt8):(l++ [x]).Nodup↔l.Nodup∧x∉l:=by
 rw [List.nodup_append]
 constructor
 ·rintro⟨h1,_,h3⟩
  exact⟨h1,fun hx=>h3 x hx x (by simp) rfl⟩
 ·rintro⟨h1,h2⟩
  refine⟨h1,by simp,fun a ha b hb=> ?_⟩
  simp only [List.mem_singleton] at hb
  subst hb
  exact fun e=>h2 (e▸ha)
theorem Sx (a b:List UInt8) (ha:a.length≤100000) (hb:b.length≤100000):bI (En C17 tys G6 []) Tryd.f70 [.k] [.sl false .u8 a,.sl false .u8 b] (.b (b9 a b)) []:=by
 refine⟨1, [(0,.k),(1,.k),(5,.k),(8,.k),(9,.k),(10,.k)],fun n vs H=>∃(k:Nat) (seen:List Bool),k≤a.length∧n=a.length-k∧seen.length=256∧(∀c:UInt8,seen.getD c.toNat false=true↔c∈a.take k)∧(a.take k).Nodup∧
  vs= [.sl false .u8 a,.sl false .u8 b,.ptr 0 1 0 0,.sl false .u8 a,.int .i64 a.length,.int .i64 k]∧H= [.row true .bool seen],⟨rfl,a.length,0,List.replicate 256 false,by omega,rfl,by rw [List.length_replicate],?_,by simp,rfl,rfl⟩,?_⟩
 ·intro c
  have:=c.toNat_lt
  have e:(List.replicate 256 false).getD c.toNat false=false:=by
   simp only [List.getD_eq_getElem?_getD,List.getElem?_replicate]
   split<;>rfl
  rw [e,List.take_zero]
  simp
 rintro n vs H ⟨k,seen,hk,rfl,hsl,hseen,hnd,rfl,rfl⟩
 refine⟨fun hlt=> ?_,fun hlt=> ?_⟩
 ·have hk':k<a.length:=by omega
  obtain⟨x,hx⟩:∃x,x=a.getD k 0:=⟨_,rfl⟩
  have hxt:=x.toNat_lt
  have hts:a.take (k+1)=a.take k++ [x]:=by rw [fk a k hk',hx]
  have hxi:((x.toNat:Int)).toNat=x.toNat:=by omega
  refine⟨⟨by omega,by omega⟩,?_⟩
  have hx':a.getD (k:Int).toNat Ty.u8.dflt=x:=hx.symm
  rw [hx']
  refine⟨⟨by omega,by omega,hsl⟩,fun hs=> ?_,fun hs=> ?_⟩
  ·replace hs:seen.getD x.toNat false=true:=hs
   have hno:¬b9 a b:=fun h=>by
    have h1:(a.take (k+1)).Nodup:=h.1.sublist (List.take_sublist _ _)
    rw [hts,qQ] at h1
    exact h1.2 ((hseen x).1 hs)
   refine⟨rfl,rfl,congrArg V.b (propext ⟨fun h=>absurd h (by decide),fun h=>absurd h hno⟩),rfl⟩
  ·replace hs:¬seen.getD x.toNat false=true:=hs
   have hno:x∉a.take k:=fun h=>hs ((hseen x).2 h)
   refine⟨⟨by omega,by omega,hsl⟩,fY,⟨by omega,by omega⟩,rfl,a.length-(k+1),by omega,k+1,seen.set x.toNat true,by omega,rfl,by rw [List.length_set];exact hsl,fun c=> ?_,?_,rfl,?_⟩
   ·rw [hts,List.mem_append,List.mem_singleton,←hseen c]
    by_cases hc:x.toNat=c.toNat
    ·have:c=x:=(UInt8.toNat_inj.1 hc).symm
     subst this
     simp [List.getD_eq_getElem?_getD,hsl,hxt]
    ·have hne:c≠x:=fun h=>hc (by rw [h])
     simp [List.getD_eq_getElem?_getD,List.getElem?_set_ne hc,hne]
   ·rw [hts,qQ]
    exact⟨hnd,hno⟩
   ·show [Blk.row true .bool (seen.set x.toNat (@decide (true=true) (Classical.propDecidable _)))]=_
    simp
 ·have hke:k=a.length:=by omega
  rw [hke,List.take_length] at hnd
  refine⟨rfl,rfl,congrArg V.b (propext ?_),rfl⟩
  show(a.length:Int)=b.length↔b9 a b
  exact⟨fun h=>⟨hnd,by omega⟩,fun h=>by have:=h.2;omega⟩
def C18:List (Nat×bW):=(70,aW [.v (.sl .u8),.v (.sl .u8)] F7)::C17
theorem k18:Known Tryd.prog (En C18 tys G6 []):=k17.add Tryd.func70 Tryd.call70 [.k] fun ds p v bs h hp=>by
 unfold F7 at h
 split at h<;>simp only [Option.some.injEq,Prod.mk.injEq,reduceCtorEq] at h
 obtain⟨rfl,rfl,rfl⟩:=h
 exact Sx _ _ hp.1 hp.2

theorem nC (a b:List UInt8):(ae a b).length≤a.length+b.length:=by
 unfold ae
 refine Nat.le_trans (cw _) ?_
 rw [nD,List.length_replicate]
 exact Nat.le_refl _
def aw (xs:List UInt8):List UInt8:=xs.foldl (fun p x=>ae p [x,1]) [1]
theorem vu (xs:List UInt8) (x:UInt8):aw (xs++ [x])=ae (aw xs) [x,1]:=by simp [aw]
theorem lI (xs:List UInt8):(aw xs).length≤1+2*xs.length:=by
 have:∀(xs p:List UInt8),(xs.foldl (fun p x=>ae p [x,1]) p).length≤p.length+2*xs.length:=by
  intro xs
  induction xs with
  |nil=>intro p;simp
  |cons x xs ih=>
   intro p
   have h1:=ih (ae p [x,1])
   have h2:=nC p [x,1]
   simp only [List.foldl_cons,List.length_cons,List.length_nil] at*
   omega
 exact this xs [1]
def F6:List V→Option (Prop×V×List Blk)
 |[.sl false .u8 a]=>some (a.length≤10000,.own .u8 0, [.row true .u8 (aw a)])
 |_=>none
theorem Sw (a:List UInt8) (ha:a.length≤10000):bI (En C18 tys G6 []) Tryd.f76 [.o .u8] [.sl false .u8 a] (.own .u8 0) [.row true .u8 (aw a)]:=by
 refine⟨0, [(3,.o .u8),(7,.k),(8,.k),(9,.k)],fun n vs H=>∃k:Nat,k≤a.length∧n=a.length-k∧vs= [.own .u8 0,.sl false .u8 a,.int .i64 a.length,.int .i64 k]∧H= [.row true .u8 (aw (a.take k))],⟨rfl,a.length,0,by omega,rfl,rfl,rfl⟩,?_⟩
 rintro n vs H ⟨k,hk,rfl,rfl,rfl⟩
 have hlen:=lI (a.take k)
 rw [List.length_take] at hlen
 refine⟨fun hlt=> ?_,fun hlt=> ?_⟩
 ·have hk':k<a.length:=by omega
  refine⟨⟨by omega,by omega⟩,⟨om ((aw (a.take k)).length≤100000),om (2≤100000)⟩,⟨by omega,by omega⟩,rfl,a.length-(k+1),by omega,k+1,by omega,rfl,rfl,?_⟩
  rw [fk a k hk',vu]
  rfl
 ·have hke:k=a.length:=by omega
  subst hke
  rw [List.take_length]
  exact a6
def C19:List (Nat×bW):=(76,aW [.v (.sl .u8)] F6)::C18
theorem k19:Known Tryd.prog (En C19 tys G6 []):=k18.add Tryd.func76 Tryd.call76 [.o .u8] fun ds p v bs h hp=>by
 unfold F6 at h
 split at h<;>simp only [Option.some.injEq,Prod.mk.injEq,reduceCtorEq] at h
 obtain⟨rfl,rfl,rfl⟩:=h
 exact Sw _ hp

def bU (a b:List UInt8):List UInt8:=aF (eW a b).1
theorem mU (a b:List UInt8):(bU a b).length≤a.length+1:=by
 unfold bU eW
 have h1:=cw a
 refine Nat.le_trans (cw _) ?_
 rw [(rN _ _ _ _ _).1,List.length_replicate]
 omega
def fx (all:List UInt8) (x y:UInt8):List UInt8:=ae (bU all [x,1]) [aI y (dj (aB x (bU all [x,1])))]
theorem sR (all:List UInt8) (x y:UInt8):(fx all x y).length≤all.length+2:=by
 have h1:=mU all [x,1]
 have h2:=nC (bU all [x,1]) [aI y (dj (aB x (bU all [x,1])))]
 unfold fx
 simp only [List.length_cons,List.length_nil] at h2
 omega
theorem Lm (x:UInt8):aF [x,1]≠ []:=by
 have:aF [x,1]= [x,1]:=ft 1 [x]
 rw [this]
 simp
def O0:List V→Option (Prop×V×List Blk)
 |[.u8 x,.u8 y,.rp false (.sl .u8) all 0]=>some (all.length≤50000,.own .u8 0, [.row true .u8 (fx all x y)])
 |_=>none
theorem Xr (x y:UInt8) (all:List UInt8) (ha:all.length≤50000):bI (En C19 tys G6 []) Tryd.f81 [.o .u8] [.u8 x,.u8 y,.rp false (.sl .u8) all 0] (.own .u8 0) [.row true .u8 (fx all x y)]:=by
 have h1:=mU all [x,1]
 refine⟨⟨om (all.length≤100000),om (2≤100000),Lm x⟩,?_⟩
 refine⟨om ((bU all [x,1]).length≤1000000),trivial,trivial,⟨om ((bU all [x,1]).length≤100000),om (1≤100000)⟩,rfl,rfl,rfl,rfl⟩
def C20:List (Nat×bW):=(81,aW [.v .u8,.v .u8,.ref (.sl .u8)] O0)::C19
theorem k20:Known Tryd.prog (En C20 tys G6 []):=k19.add Tryd.func81 Tryd.call81 [.o .u8] fun ds p v bs h hp=>by
 unfold O0 at h
 split at h<;>simp only [Option.some.injEq,Prod.mk.injEq,reduceCtorEq] at h
 obtain⟨rfl,rfl,rfl⟩:=h
 exact Xr _ _ _ hp
def vS (all:List UInt8) (zs:List (UInt8×UInt8)):List UInt8:=zs.foldl (fun p q=>dS [p,fx all q.1 q.2]) []
def fM (xs ys:List UInt8):List UInt8:=vS (aw xs) (xs.zip ys)
theorem Cg (all:List UInt8) (zs:List (UInt8×UInt8)) (q:UInt8×UInt8):vS all (zs++ [q])=dS [vS all zs,fx all q.1 q.2]:=by simp [vS]
theorem vR (all:List UInt8) (zs:List (UInt8×UInt8)):(vS all zs).length≤all.length+2:=by
 have:∀(zs:List (UInt8×UInt8)) (p:List UInt8),p.length≤all.length+2→(zs.foldl (fun p q=>dS [p,fx all q.1 q.2]) p).length≤all.length+2:=by
  intro zs
  induction zs with
  |nil=>intro p h;exact h
  |cons q zs ih=>
   intro p h
   refine ih _ (Nat.le_trans (cw _) (pq _ _ fun r hr=> ?_))
   simp only [List.mem_cons,List.not_mem_nil,or_false] at hr
   rcases hr with hr|hr<;>subst hr
   ·exact h
   ·exact sR _ _ _
 exact this zs [] (by simp)
theorem Ej (xs ys:List UInt8) (k:Nat) (h1:k<xs.length) (h2:k<ys.length):(xs.take (k+1)).zip (ys.take (k+1))=(xs.take k).zip (ys.take k)++ [(xs.getD k 0,ys.getD k 0)]:=by
 rw [fk xs k h1,fk ys k h2,List.zip_append (by simp;omega)]
 rfl
def vg:List V→Option (Prop×V×List Blk)
 |[.sl false .u8 a,.sl false .u8 b]=>some (a.length≤10000∧a.length=b.length,.own .u8 0, [.row true .u8 (fM a b)])
 |_=>none
theorem Jq (a b:List UInt8) (ha:a.length≤10000) (hab:a.length=b.length):bI (En C20 tys G6 []) Tryd.f71 [.o .u8] [.sl false .u8 a,.sl false .u8 b] (.own .u8 0) [.row true .u8 (fM a b)]:=by
 have hall:=lI a
 refine⟨ha,gY,?_⟩
 refine⟨2, [(1,.k),(6,.k),(7,.o .u8),(13,.k),(14,.k),(15,.k)],fun n vs H=>∃k:Nat,k≤a.length∧n=a.length-k∧vs= [.sl false .u8 b,.fn 81 [.ptr 1 1 0 0],.own .u8 2,.sl false .u8 a,.int .i64 a.length,.int .i64 k]∧H= [.row true .u8 (aw a),.cells [.own .u8 0],.row true .u8 (vS (aw a) ((a.take k).zip (b.take k)))],⟨rfl,a.length,0,by omega,rfl,rfl,rfl⟩,?_⟩
 rintro n vs H ⟨k,hk,rfl,rfl,rfl⟩
 have hlen:=vR (aw a) ((a.take k).zip (b.take k))
 refine⟨fun hlt=> ?_,fun hlt=> ?_⟩
 ·have hk':k<a.length:=by omega
  have hpl:=sR (aw a) (a.getD k 0) (b.getD k 0)
  refine⟨⟨by omega,by omega⟩,⟨by omega,by omega⟩,om ((aw a).length≤50000),⟨om (2≤1000),?_⟩,⟨by omega,by omega⟩,rfl,a.length-(k+1),by omega,k+1,by omega,rfl,rfl,?_⟩
  ·intro p hp
   replace hp:p∈ [vS (aw a) ((a.take k).zip (b.take k)),fx (aw a) (a.getD k 0) (b.getD k 0)]:=hp
   simp only [List.mem_cons,List.not_mem_nil,or_false] at hp
   rcases hp with h|h<;>subst h<;>omega
  ·rw [Ej a b k hk' (by omega),Cg]
   rfl
 ·have hke:k=a.length:=by omega
  rw [hke,List.take_length,hab,List.take_length]
  exact a6
def C21:List (Nat×bW):=(71,aW [.v (.sl .u8),.v (.sl .u8)] vg)::C20
theorem k21:Known Tryd.prog (En C21 tys G6 []):=k20.add Tryd.func71 Tryd.call71 [.o .u8] fun ds p v bs h hp=>by
 unfold vg at h
 split at h<;>simp only [Option.some.injEq,Prod.mk.injEq,reduceCtorEq] at h
 obtain⟨rfl,rfl,rfl⟩:=h
 exact Jq _ _ hp.1 hp.2
instance (xs ys:List UInt8):Decidable (b9 xs ys):=inferInstanceAs (Decidable (_∧_))
def ipL (xs ys:List UInt8):List UInt8×Int:=if b9 xs ys then(fM xs ys,0) else([],1)
def sIp:List V→Option (Prop×V×List Blk)
 |[.sl false .u8 a,.sl false .u8 b]=>some (a.length≤10000∧b.length≤10000,.tup [.own .u8 0,.int .i64 (ipL a b).2], [.row true .u8 (ipL a b).1])
 |_=>none
def C22:List (Nat×bW):=C21
theorem k22:Known Tryd.prog (En C22 tys G6 []):=k21
def lF (xs ys:List UInt8) (d:Int):List UInt8×Int:=
 if b9 xs ys then if d<0 then([],3) else if(xs.length:Int)≤d then([],3) else if d<eF (fM xs ys) then([],8) else(fM xs ys,0) else([],1)
def sTp:List V→Option (Prop×V×List Blk)
 |[.sl false .u8 a,.sl false .u8 b,.int .i64 d]=>some (a.length≤10000∧b.length≤10000,.tup [.own .u8 0,.int .i64 (lF a b d).2], [.row true .u8 (lF a b d).1])
 |_=>none
theorem vP (xs ys:List UInt8):(fM xs ys).length≤2*xs.length+3:=by
 have h1:=vR (aw xs) (xs.zip ys)
 have h2:=lI xs
 unfold fM
 omega
theorem bTp (a b:List UInt8) (d:Int) (ha:a.length≤10000) (hb:b.length≤10000):bI (En C22 tys G6 []) Tryd.f50 [.o .u8,.k] [.sl false .u8 a,.sl false .u8 b,.int .i64 d] (.tup [.own .u8 0,.int .i64 (lF a b d).2]) [.row true .u8 (lF a b d).1]:=by
 refine⟨⟨om (a.length≤100000),om (b.length≤100000)⟩,fun h=> ?_,fun h=> ?_⟩
 ·rw [show lF a b d=_ from if_neg h]
  exact a6
 ·have h:b9 a b:=nw h
  rw [show lF a b d=_ from if_pos h]
  have hl:=vP a b
  refine⟨fun hn=>⟨fun h2=> ?_,fun h2=> ?_⟩,fun hp=> ?_⟩
  ·replace hn:¬d<0:=hn
   replace h2:(a.length:Int)≤d:=h2
   rw [if_neg hn,if_pos h2]
   exact a6
  ·replace hn:¬d<0:=hn
   replace h2:¬(a.length:Int)≤d:=h2
   rw [if_neg hn,if_neg h2]
   refine⟨⟨ha,h.2⟩,om ((fM a b).length≤1000000),yn (d<eF (fM a b)) (fun h3=> ?_) fun h3=> ?_⟩
   ·rw [if_pos h3]
    exact a6
   ·rw [if_neg h3]
    exact a6
  ·replace hp:d<0:=hp
   rw [if_pos hp]
   exact a6
def Yu:List (Nat×bW):=(50,aW [.v (.sl .u8),.v (.sl .u8),.v (.int .i64)] sTp)::C22
theorem k23:Known Tryd.prog (En Yu tys G6 []):=k22.add Tryd.func50 Tryd.call50 [.o .u8,.k] fun ds p v bs h hp=>by
 unfold sTp at h
 split at h<;>simp only [Option.some.injEq,Prod.mk.injEq,reduceCtorEq] at h
 obtain⟨rfl,rfl,rfl⟩:=h
 exact bTp _ _ _ hp.1 hp.2
def ru (a b:List UInt8):List UInt8:=aF (eW a b).2
def jg (l:List UInt8):Prop:=l.length≤40000
instance (l:List UInt8):Decidable (jg l):=inferInstanceAs (Decidable (_≤_))
def eu:Nat→Int→List UInt8→List UInt8→List UInt8→List UInt8→Option (List UInt8×List UInt8)
 |0,_,_,_,_,_=>none
 | f+1,m,a,b,u,v=>if jg a∧jg b∧jg u∧jg v then
   if 2*eF b<m then some (b,v) else if aF b= [] then none else eu f m b (ru a b) v (dS [u,ae (bU a b) v])
  else none
def cB (p xs ys:List UInt8):Nat→List Int
 |0=> []
 |k+1=>if aB (xs.getD k 0) p≠ys.getD k 0 then cB p xs ys k++ [(k:Int)] else cB p xs ys k
theorem sf (p xs ys:List UInt8):∀k,(cB p xs ys k).length≤k
 |0=>Nat.le_refl _
 |k+1=>by
  have:=sf p xs ys k
  unfold cB
  split
  ·rw [List.length_append,List.length_singleton];omega
  ·omega
def kF (xs ys:List UInt8) (d w:Int) (b v:List UInt8):Option (List UInt8×List Int×Int):=
 if aF v= [] then none else if 0<(ru b v).length then some ([], [],17) else if d<eF (bU b v) then some ([], [],17) else
  if w<(cB (bU b v) xs ys xs.length).length then some ([], [],17) else some (bU b v,cB (bU b v) xs ys xs.length,0)
def aS (xs ys:List UInt8) (d w:Int):Option (List UInt8×List Int×Int):=
 if b9 xs ys then
  if d<0∨w<0∨(xs.length:Int)≤d∨((xs.length:Int)-d-1)/2<w then some ([], [],3)
  else match eu 20000 (xs.length+d+1) (aw xs) (fM xs ys) [] [1] with
   |none=>none
   |some (b,v)=>kF xs ys d w b v
 else some ([], [],1)
theorem Sy (a b:List UInt8) (d w:Int) (p:List UInt8) (l:List Int) (e:Int) (ha:a.length≤10000) (hb:b.length≤10000) (hd:aS a b d w=some (p,l,e)):
  bI (En Yu tys G6 []) Tryd.f64 [.o .u8,.o (.int .i64),.k] [.sl false .u8 a,.sl false .u8 b,.int .i64 d,.int .i64 w] (.tup [.own .u8 0,.own (.int .i64) 1,.int .i64 e]) [.row true .u8 p,.row true (.int .i64) l]:=by
 have bad:∀{c:Int},aS a b d w=some ([], [],c)→p= []∧l= []∧e=c:=fun {c} h=>by
  rw [h] at hd
  simp only [Option.some.injEq,Prod.mk.injEq] at hd
  exact⟨hd.1.symm,hd.2.1.symm,hd.2.2.symm⟩
 refine⟨⟨om (a.length≤100000),om (b.length≤100000)⟩,fun h=> ?_,fun h=> ?_⟩
 ·obtain⟨rfl,rfl,rfl⟩:=bad (if_neg h)
  exact a6
 have h:b9 a b:=nw h
 have bad3:(d<0∨w<0∨(a.length:Int)≤d∨((a.length:Int)-d-1)/2<w)→p= []∧l= []∧e=3:=fun hx=>bad (by unfold aS;rw [if_pos h,if_pos hx])
 refine⟨fun h1=>⟨fun h2=>⟨fun h3=> ?_,fun h3=> ?_⟩,fun h2=> ?_⟩,fun h1=> ?_⟩
 rotate_left
 ·obtain⟨rfl,rfl,rfl⟩:=bad3 (.inr (.inr (.inl h3)))
  exact a6
 ·obtain⟨rfl,rfl,rfl⟩:=bad3 (.inr (.inl h2))
  exact a6
 ·obtain⟨rfl,rfl,rfl⟩:=bad3 (.inl h1)
  exact a6
 replace h1:¬d<0:=h1
 replace h2:¬w<0:=h2
 replace h3:¬(a.length:Int)≤d:=h3
 refine⟨⟨by omega,by omega⟩,⟨by omega,by omega⟩,.inl ⟨⟨by omega,by omega⟩,⟨fun h4=> ?_,fun h4=> ?_⟩⟩⟩
 ·obtain⟨rfl,rfl,rfl⟩:=bad3 (.inr (.inr (.inr h4)))
  exact a6
 replace h4:¬((a.length:Int)-d-1)/2<w:=h4
 have hx:¬(d<0∨w<0∨(a.length:Int)≤d∨((a.length:Int)-d-1)/2<w):=by
  rintro(h|h|h|h)<;>contradiction
 unfold aS at hd
 rw [if_pos h,if_neg hx] at hd
 cases heu:eu 20000 (a.length+d+1) (aw a) (fM a b) [] [1] with
 |none=>rw [heu] at hd;cases hd
 |some q=>
 obtain⟨b1,v1⟩:=q
 rw [heu] at hd
 replace hd:kF a b d w b1 v1=some (p,l,e):=hd
 refine⟨ha,⟨ha,h.2⟩,?_⟩
 refine⟨0, [(0,.k),(1,.k),(2,.k),(3,.k),(9,.k),(11,.k),(12,.d .u8),(13,.d .u8),(14,.d .u8),(15,.d .u8)],fun f vs H=>∃a' b' u' v':List UInt8,eu f (a.length+d+1) a' b' u' v'=some (b1,v1)∧vs= [.sl false .u8 a,.sl false .u8 b,.int .i64 d,.int .i64 w,.nils,.int .i64 a.length,.sl true .u8 a',.sl true .u8 b',.sl true .u8 u',.sl true .u8 v']∧H= [],⟨rfl,20000,aw a,fM a b, [], [1],heu,rfl,rfl⟩,?_⟩
 rintro f vs H ⟨a',b',u',v',he,rfl,rfl⟩
 cases f with
 |zero=>cases he
 |succ f=>
 unfold eu at he
 split at he
 ·rename_i hsm
  obtain⟨hs1,hs2,hs3,hs4⟩:=hsm
  unfold jg at hs1 hs2 hs3 hs4
  have htb:=cw b'
  have hdeg:eF b'=(aF b').length-1:=rfl
  refine⟨om (b'.length≤1000000),⟨by omega,by omega⟩,⟨by omega,by omega⟩,⟨by omega,by omega⟩,yn (2*eF b'<a.length+d+1) (fun h5=> ?_) fun h5=> ?_⟩
  ·rw [if_pos h5] at he
   simp only [Option.some.injEq,Prod.mk.injEq] at he
   obtain⟨rfl,rfl⟩:=he
   unfold kF at hd
   split at hd
   ·cases hd
   ·rename_i htr
    have hq:=mU b' v'
    have bad':∀{c:Int},some (([]:List UInt8),([]:List Int),c)=some (p,l,e)→p= []∧l= []∧e=c:=fun {c} h=>by
     simp only [Option.some.injEq,Prod.mk.injEq] at h
     exact⟨h.1.symm,h.2.1.symm,h.2.2.symm⟩
    refine⟨⟨om (b'.length≤100000),om (v'.length≤100000),htr⟩,fun g1=>⟨om ((bU b' v').length≤1000000),⟨fun h6=> ?_,fun h6=> ?_⟩⟩,fun g1=> ?_⟩
    ·replace g1:¬(0:Int)<(ru b' v').length:=g1
     replace h6:d<eF (bU b' v'):=h6
     rw [if_neg (by omega),if_pos h6] at hd
     obtain⟨rfl,rfl,rfl⟩:=bad' hd
     exact a6
    ·replace g1:¬(0:Int)<(ru b' v').length:=g1
     replace h6:¬d<eF (bU b' v'):=h6
     rw [if_neg (by omega),if_neg h6] at hd
     refine⟨0, [(1,.k),(3,.k),(8,.o .u8),(9,.o (.int .i64)),(91,.k),(92,.k),(93,.k)],fun n vs H=>∃k:Nat,k≤a.length∧n=a.length-k∧vs= [.sl false .u8 b,.int .i64 w,.own .u8 0,.own (.int .i64) 1,.sl false .u8 a,.int .i64 a.length,.int .i64 k]∧H= [.row true .u8 (bU b' v'),.row true (.int .i64) (cB (bU b' v') a b k)],⟨rfl,a.length,0,by omega,rfl,rfl,rfl⟩,?_⟩
     rintro n vs H ⟨k,hk,rfl,rfl,rfl⟩
     have hml:=sf (bU b' v') a b k
     have hab:=h.2
     refine⟨fun hlt=> ?_,fun hlt=> ?_⟩
     ·have hk':k<a.length:=by omega
      refine⟨⟨by omega,by omega⟩,by kernel_rfl,om ((bU b' v').length≤1000000),⟨by omega,by omega⟩,yn (aB (a.getD k 0) (bU b' v')≠b.getD k 0) (fun h7=> ?_) fun h7=> ?_⟩
      ·refine⟨rfl,fY,?_,⟨by omega,by omega⟩,rfl,a.length-(k+1),by omega,k+1,by omega,rfl,rfl,?_⟩
       ·show(cB (bU b' v') a b k).length+1≤1000000000
        omega
       rw [show cB (bU b' v') a b (k+1)=_ from if_pos h7]
       rfl
      ·refine⟨⟨by omega,by omega⟩,rfl,a.length-(k+1),by omega,k+1,by omega,rfl,rfl,?_⟩
       rw [show cB (bU b' v') a b (k+1)=_ from if_neg h7]
       rfl
     ·have hke:k=a.length:=by omega
      subst hke
      refine yn (w<(cB (bU b' v') a b a.length).length) (fun h8=> ?_) fun h8=> ?_
      ·rw [if_pos h8] at hd
       obtain⟨rfl,rfl,rfl⟩:=bad' hd
       exact a6
      ·rw [if_neg h8] at hd
       simp only [Option.some.injEq,Prod.mk.injEq] at hd
       obtain⟨rfl,rfl,rfl⟩:=hd
       exact a6
    ·replace g1:(0:Int)<(ru b' v').length:=g1
     rw [if_pos (by omega)] at hd
     obtain⟨rfl,rfl,rfl⟩:=bad' hd
     exact a6
  ·rw [if_neg h5] at he
   split at he
   ·cases he
   ·rename_i htr
    have hq:=mU a' b'
    have hpr:=nC (bU a' b') v'
    refine⟨⟨om (a'.length≤100000),om (b'.length≤100000),htr⟩,⟨om ((bU a' b').length≤100000),om (v'.length≤100000)⟩,⟨om (2≤1000),?_⟩,rfl,f,by omega,_,_,_,_,he,rfl,rfl⟩
    intro x hx
    replace hx:x∈ [u',ae (bU a' b') v']:=hx
    simp only [List.mem_cons,List.not_mem_nil,or_false] at hx
    rcases hx with h|h<;>subst h<;>omega
 ·cases he
instance mulComm:Std.Commutative aI:=⟨bC⟩
instance mulAssoc:Std.Associative aI:=⟨cK⟩

def co (p:List UInt8) (i:Nat):UInt8:=p.getD i 0
theorem rR (i:Nat):co [] i=0:=rfl
theorem Bs (c:UInt8) (p:List UInt8):co (c::p) 0=c:=rfl
theorem ep (c:UInt8) (p:List UInt8) (i:Nat):co (c::p) (i+1)=co p i:=rfl
theorem Pn (p:List UInt8) (i:Nat) (h:p.length≤i):co p i=0:=by
 unfold co
 rw [List.getD_eq_getElem?_getD,List.getElem?_eq_none h]
 rfl
theorem iK:∀(p:List UInt8),(∀i,co p i=0)→aF p= []
 |[],_=>rfl
 |c::p,h=>by
  have h0:c=0:=h 0
  have hp:aF p= []:=iK p fun i=>h (i+1)
  unfold aF
  rw [hp,if_pos h0]
theorem cg:∀(p:List UInt8) (i:Nat),co (aF p) i=co p i
 |[],_=>rfl
 | c::p,i=>by
  have ih:=cg p
  cases hp:aF p with
  | nil=>
   unfold aF
   rw [hp]
   have hz:∀j,co p j=0:=fun j=>by rw [←ih j,hp];rfl
   by_cases hc:c=0
   ·rw [if_pos hc]
    cases i with
    |zero=>rw [Bs,hc];rfl
    |succ i=>rw [ep,hz i];rfl
   ·rw [if_neg hc]
    cases i with
    |zero=>rfl
    |succ i=>rw [ep,ep,hz i];rfl
  |cons d q=>
   unfold aF
   rw [hp]
   show co (c::d::q) i=_
   rw [←hp]
   cases i with
   |zero=>rfl
   |succ i=>exact ih i
theorem dX:∀(p q:List UInt8),(∀i,co p i=co q i)→aF p=aF q
 |[],q,h=>(iK q fun i=>(h i).symm).symm
 |c::p, [],h=>iK _ h
 |c::p,d::q,h=>by
  have h0:c=d:=h 0
  have hp:=dX p q fun i=>h (i+1)
  unfold aF
  rw [h0,hp]
theorem iM (p:List UInt8):aF (aF p)=aF p:=dX _ _ (cg p)
theorem lD {p q:List UInt8} (h:aF p=aF q) (i:Nat):co p i=co q i:=by rw [←cg p,h,cg]
theorem jR:∀(a b:List UInt8) (i:Nat),co (bz a b) i=co a i^^^co b i
 |[],b,i=>by simp [bz,rR]
 |x::a, [],i=>by simp [bz,rR]
 |x::a,y::b,0=>rfl
 |x::a,y::b,i+1=>by rw [bz,ep,ep,ep,jR a b i]
theorem l4 (a b:List UInt8):dS [a,b]=aF (bz a b):=by simp [dS,m4,bz]
theorem nZ (a b:List UInt8) (i:Nat):co (dS [a,b]) i=co a i^^^co b i:=by rw [l4,cg,jR]

def sz (p:List UInt8):Nat:=(aF p).length
theorem eJ (p:List UInt8) (i:Nat) (h:sz p≤i):co p i=0:=by rw [←cg];exact Pn _ _ h
theorem dt:∀(p:List UInt8),aF p≠ []→co p (sz p-1)≠0
 |[],h=>absurd rfl h
 | c::p,h=>by
  have ih:=dt p
  unfold sz at ih ⊢
  cases hp:aF p with
  |nil=>
   unfold aF at h ⊢
   rw [hp] at h ⊢
   by_cases hc:c=0
   ·rw [if_pos hc] at h;exact absurd rfl h
   ·rw [if_neg hc];exact hc
  |cons d q=>
   rw [hp] at ih
   unfold aF
   rw [hp]
   have:=ih (by simp)
   simpa [ep] using this
theorem pp {p:List UInt8} {n:Nat} (h:∀i,n≤i→co p i=0):sz p≤n:=by
 by_cases hp:aF p= []
 ·unfold sz;rw [hp];exact Nat.zero_le _
 ·have h1:=dt p hp
  have h2:0<sz p:=List.length_pos_iff.2 hp
  rcases Nat.lt_or_ge n (sz p) with g|g
  ·exact absurd (h _ (by omega)) h1
  ·exact g
theorem lw {p:List UInt8}:sz p=0↔aF p= []:=List.length_eq_zero_iff
theorem Ou {p:List UInt8} {n:Nat} (h:∀i,n<i→co p i=0) (hn:co p n≠0):sz p=n+1:=by
 have h1:sz p≤n+1:=pp fun i hi=>h i (by omega)
 rcases Nat.lt_or_ge n (sz p) with g|g
 ·omega
 ·exact absurd (eJ p n g) hn
theorem eo (p:List UInt8):eF p=(sz p:Int)-1:=rfl
theorem kN (p:List UInt8):sz (aF p)=sz p:=by unfold sz;rw [iM]
theorem je (p:List UInt8):sz p≤p.length:=cw p

def cv (f g:Nat→UInt8):Nat→UInt8
 |0=>aI (f 0) (g 0)
 |n+1=>aI (f 0) (g (n+1))^^^cv (fun i=>f (i+1)) g n
theorem pR (g:Nat→UInt8):∀(n:Nat) (f f':Nat→UInt8),cv (fun i=>f i^^^f' i) g n=cv f g n^^^cv f' g n
 |0,f,f'=>bf _ _ _
 |n+1,f,f'=>by
  show aI (f 0^^^f' 0) (g (n+1))^^^cv (fun i=>f (i+1)^^^f' (i+1)) g n=_
  rw [bf,pR g n (fun i=>f (i+1)) (fun i=>f' (i+1))]
  show _=(aI (f 0) (g (n+1))^^^cv (fun i=>f (i+1)) g n)^^^(aI (f' 0) (g (n+1))^^^cv (fun i=>f' (i+1)) g n)
  ac_rfl
theorem Bp (c:UInt8) (g:Nat→UInt8):∀(n:Nat) (f:Nat→UInt8),cv (fun i=>aI c (f i)) g n=aI c (cv f g n)
 |0,f=>cK _ _ _
 |n+1,f=>by
  show aI (aI c (f 0)) (g (n+1))^^^cv (fun i=>aI c (f (i+1))) g n=_
  rw [Bp c g n (fun i=>f (i+1)),cK,←cx]
  rfl
theorem dN (f g:Nat→UInt8) (n:Nat):cv f g (n+1)=aI (f 0) (g (n+1))^^^cv (fun i=>f (i+1)) g n:=rfl
theorem xK:∀(n:Nat) (f g:Nat→UInt8),cv f g (n+1)=aI (g 0) (f (n+1))^^^cv f (fun i=>g (i+1)) n
 |0,f,g=>by
  show aI (f 0) (g 1)^^^aI (f 1) (g 0)=aI (g 0) (f 1)^^^aI (f 0) (g 1)
  rw [bC (g 0)]
  ac_rfl
 |n+1,f,g=>by
  rw [dN f g,xK n (fun i=>f (i+1)) g,dN f (fun i=>g (i+1))]
  ac_rfl
theorem um:∀(n:Nat) (f g:Nat→UInt8),cv f g n=cv g f n
 |0,f,g=>bC _ _
 |n+1,f,g=>by rw [xK,um n f,dN g f]
theorem xN:∀(n:Nat) (f g h:Nat→UInt8),cv (cv f g) h n=cv f (cv g h) n
 |0,f,g,h=>cK _ _ _
 |n+1,f,g,h=>by
  have e:(fun i=>cv f g (i+1))=fun i=>aI (f 0) (g (i+1))^^^cv (fun i=>f (i+1)) g i:=rfl
  rw [dN (cv f g) h,e,pR h n (fun i=>aI (f 0) (g (i+1))) (fun i=>cv (fun i=>f (i+1)) g i),Bp (f 0) h n (fun i=>g (i+1)),xN n (fun i=>f (i+1)) g h,dN f (cv g h),dN g h,cx]
  show aI (aI (f 0) (g 0)) (h (n+1))^^^_=_
  rw [cK]
  ac_rfl
theorem fJ (g:Nat→UInt8):∀(n:Nat) (f:Nat→UInt8),(∀i,f i=0)→cv f g n=0
 |0,f,h=>by show aI (f 0) _=0;rw [h,bJ]
 |n+1,f,h=>by rw [dN,h,bJ,fJ g n _ fun i=>h (i+1)];rfl
theorem zI (k:Nat) (g:Nat→UInt8) (hg:∀i,k<i→g i=0):∀(m:Nat) (f:Nat→UInt8),(∀i,m<i→f i=0)→cv f g (m+k)=aI (f m) (g k)∧∀n,m+k<n→cv f g n=0
 | 0,f,hf=>by
  have key:∀n,cv f g n=aI (f 0) (g n):=fun n=>by
   cases n with
   |zero=>rfl
   |succ n=>rw [dN,fJ g n _ fun i=>hf (i+1) (by omega)];simp
  exact⟨by rw [key,Nat.zero_add],fun n hn=>by rw [key,hg n (by omega),bB]⟩
 | m+1,f,hf=>by
  obtain⟨h1,h2⟩:=zI k g hg m (fun i=>f (i+1)) fun i hi=>hf (i+1) (by omega)
  refine⟨?_,fun n hn=> ?_⟩
  ·rw [show m+1+k=(m+k)+1 by omega,dN,hg _ (by omega),bB,h1];simp
  ·cases n with
   |zero=>omega
   |succ n=>rw [dN,hg _ (by omega),bB,h2 n (by omega)];rfl
def sh (k:Nat) (f:Nat→UInt8) (j:Nat):UInt8:=if j<k then 0 else f (j-k)
theorem xM (c:UInt8) (g:Nat→UInt8):∀(k n:Nat),cv (fun j=>if j=k then c else 0) g n=sh k (fun i=>aI c (g i)) n
 |0,n=>by
  have key:∀i,(fun j=>if j=0 then c else(0:UInt8)) (i+1)=0:=fun i=>if_neg (by omega)
  cases n with
  |zero=>rfl
  |succ n=>rw [dN,fJ g n _ key];simp [sh]
 |k+1,0=>by
  show aI (if 0=k+1 then c else 0) (g 0)=_
  rw [if_neg (by omega),bJ]
  simp [sh]
 | k+1,n+1=>by
  have e:(fun i=>if i+1=k+1 then c else(0:UInt8))=fun i=>if i=k then c else 0:=by
   funext i
   by_cases h:i=k
   ·rw [if_pos h,if_pos (by omega)]
   ·rw [if_neg h,if_neg (by omega)]
  rw [dN,if_neg (by omega),bJ]
  show 0^^^cv (fun i=>if i+1=k+1 then c else 0) g n=_
  rw [e,xM c g k n]
  unfold sh
  by_cases h:n<k
  ·rw [if_pos h,if_pos (by omega)];rfl
  ·rw [if_neg h,if_neg (by omega),show n+1-(k+1)=n-k by omega];simp
theorem Je (q:List UInt8) (k:Nat) (c:UInt8) (j:Nat) (hk:k<q.length):co (q.set k c) j=if j=k then c else co q j:=by
 unfold co
 simp only [List.getD_eq_getElem?_getD,List.getElem?_set]
 by_cases h:j=k
 ·rw [if_pos h,if_pos h.symm,if_pos hk];rfl
 ·rw [if_neg h,if_neg (Ne.symm h)]
theorem Jg (acc:List UInt8) (i:Nat) (c:UInt8) (j:Nat) (hi:i<acc.length):co (ra acc i c) j=co acc j^^^(if j=i then c else 0):=by
 unfold ra
 rw [Je _ _ _ _ hi]
 by_cases h:j=i
 ·rw [if_pos h,if_pos h,h];rfl
 ·rw [if_neg h,if_neg h];simp
theorem un (x:UInt8):∀(b acc:List UInt8) (i j:Nat),i+b.length≤acc.length→co (i9 x acc i b) j=co acc j^^^sh i (fun k=>aI x (co b k)) j
 | [],acc,i,j,h=>by
  rw [i9]
  have:sh i (fun k=>aI x (co [] k)) j=0:=by
   unfold sh
   split
   ·rfl
   ·dsimp only;rw [rR,bB]
  rw [this];simp
 | y::b,acc,i,j,h=>by
  simp only [List.length_cons] at h
  rw [i9,un x b _ (i+1) j (by rw [ko];omega),Jg _ _ _ _ (by omega)]
  have:sh i (fun k=>aI x (co (y::b) k)) j=(if j=i then aI x y else 0)^^^sh (i+1) (fun k=>aI x (co b k)) j:=by
   unfold sh
   by_cases h1:j<i
   ·rw [if_pos h1,if_neg (by omega),if_pos (by omega)];rfl
   ·by_cases h2:j=i
    ·rw [if_neg h1,if_pos h2,if_pos (by omega),h2,Nat.sub_self];simp [Bs]
    ·rw [if_neg h1,if_neg h2,if_neg (by omega)]
     rw [show j-i=(j-(i+1))+1 by omega]
     dsimp only
     rw [ep]
     simp
  rw [this]
  ac_rfl
theorem xP (b:List UInt8):∀(a acc:List UInt8) (i j:Nat),i+a.length+b.length≤acc.length→co (js b acc i a) j=co acc j^^^sh i (cv (co a) (co b)) j
 | [],acc,i,j,h=>by
  rw [js]
  have:sh i (cv (co []) (co b)) j=0:=by
   unfold sh
   split
   ·rfl
   ·exact fJ _ _ _ fun i=>rfl
  rw [this];simp
 | x::a,acc,i,j,h=>by
  simp only [List.length_cons] at h
  rw [js,xP b a _ (i+1) j (by rw [jn];omega),un x b acc i j (by omega)]
  have:sh i (cv (co (x::a)) (co b)) j=sh i (fun k=>aI x (co b k)) j^^^sh (i+1) (cv (co a) (co b)) j:=by
   unfold sh
   by_cases h1:j<i
   ·rw [if_pos h1,if_pos h1,if_pos (by omega)];rfl
   ·rw [if_neg h1,if_neg h1]
    by_cases h2:j=i
    ·rw [if_pos (by omega),h2,Nat.sub_self]
     show aI x (co b 0)=aI x (co b 0)^^^0
     simp
    ·rw [if_neg (by omega),show j-i=(j-(i+1))+1 by omega,dN]
     rfl
  rw [this]
  ac_rfl
theorem rQ (n i:Nat):co (List.replicate n 0) i=0:=by
 unfold co
 rw [List.getD_eq_getElem?_getD,List.getElem?_replicate]
 split<;>rfl
theorem dC (a b:List UInt8) (j:Nat):co (ae a b) j=cv (co a) (co b) j:=by
 unfold ae
 rw [cg,xP b a _ 0 j (by rw [List.length_replicate];omega),rQ]
 simp [sh]
theorem dy (a b:List UInt8):aF (ae a b)=ae a b:=by unfold ae;exact iM _
theorem iS (a b:List UInt8):aF (dS [a,b])=dS [a,b]:=by rw [l4];exact iM _
theorem it {f f' g g':Nat→UInt8} (hf:∀i,f i=f' i) (hg:∀i,g i=g' i) (n:Nat):cv f g n=cv f' g' n:=by
 rw [show f=f' from funext hf,show g=g' from funext hg]
theorem sP (a b:List UInt8):ae a b=ae b a:=by
 exact(dy _ _).symm.trans ((dX _ _ fun i=>by rw [dC,dC,um]).trans (dy _ _))
theorem qH (a b c:List UInt8):ae (ae a b) c=ae a (ae b c):=by
 refine(dy _ _).symm.trans ((dX _ _ fun i=> ?_).trans (dy _ _))
 rw [dC,dC,it (fun i=>dC a b i) (fun _=>rfl),it (f:=co a) (fun _=>rfl) (fun i=>dC b c i),xN]
theorem ao (x:UInt8):∀p:List UInt8,aB x (aF p)=aB x p
 |[]=>rfl
 | c::p=>by
  have ih:=ao x p
  unfold aF
  cases hp:aF p with
  | nil=>
   rw [hp] at ih
   show aB x (if c=0 then [] else [c])=aI (aB x p) x^^^c
   rw [←ih]
   by_cases hc:c=0
   ·rw [if_pos hc,hc]
    show(0:UInt8)=aI 0 x^^^0
    rw [bJ];rfl
   ·rw [if_neg hc];rfl
  |cons d q=>
   rw [hp] at ih
   show aI (aB x (d::q)) x^^^c=aI (aB x p) x^^^c
   rw [ih]
theorem qo (x:UInt8) {p q:List UInt8} (h:∀i,co p i=co q i):aB x p=aB x q:=by
 rw [←ao,dX p q h,ao]
theorem dH (x:UInt8):∀a b:List UInt8,aB x (bz a b)=aB x a^^^aB x b
 |[],b=>by simp [bz,aB]
 |c::a, []=>by simp [bz,aB]
 |c::a,d::b=>by
  show aI (aB x (bz a b)) x^^^(c^^^d)=(aI (aB x a) x^^^c)^^^(aI (aB x b) x^^^d)
  rw [dH x a b,bf]
  ac_rfl
theorem dk (x:UInt8) (a b:List UInt8):aB x (dS [a,b])=aB x a^^^aB x b:=by
 rw [l4,ao,dH]
def pm:List UInt8→List UInt8→List UInt8
 |[],_=> []
 |x::a,b=>bz (b.map (aI x)) (0::pm a b)
theorem zJ (c:UInt8):∀(b:List UInt8) (i:Nat),co (b.map (aI c)) i=aI c (co b i)
 |[],i=>by show(0:UInt8)=aI c 0;rw [bB]
 |d::b,0=>rfl
 |d::b,i+1=>zJ c b i
theorem Pm (b:List UInt8):∀(a:List UInt8) (i:Nat),co (pm a b) i=cv (co a) (co b) i
 |[],i=>(fJ _ _ _ fun _=>rfl).symm
 | x::a,i=>by
  rw [pm,jR,zJ]
  cases i with
  |zero=>
   show aI x (co b 0)^^^0=aI x (co b 0)
   simp
  |succ i=>
   rw [ep,Pm b a i]
   rfl
theorem jK (x c:UInt8):∀b:List UInt8,aB x (b.map (aI c))=aI c (aB x b)
 |[]=>by show(0:UInt8)=aI c 0;rw [bB]
 |d::b=>by
  show aI (aB x (b.map (aI c))) x^^^aI c d=aI c (aI (aB x b) x^^^d)
  rw [jK x c b,cx,cK]
theorem sk (x:UInt8) (b:List UInt8):∀a:List UInt8,aB x (pm a b)=aI (aB x a) (aB x b)
 |[]=>by show(0:UInt8)=aI 0 _;rw [bJ]
 |c::a=>by
  rw [pm,dH,jK]
  show _^^^(aI (aB x (pm a b)) x^^^0)=aI (aI (aB x a) x^^^c) (aB x b)
  rw [sk x b a,bf]
  have:aI (aI (aB x a) (aB x b)) x=aI (aI (aB x a) x) (aB x b):=by ac_rfl
  rw [this]
  simp only [UInt8.xor_zero]
  ac_rfl
theorem bR (x:UInt8) (a b:List UInt8):aB x (ae a b)=aI (aB x a) (aB x b):=by
 rw [←sk]
 exact qo x fun i=>by rw [dC,Pm]

theorem kO (a b:List UInt8) (ha:aF a≠ []) (hb:aF b≠ []):sz (ae a b)+1=sz a+sz b:=by
 have h1:0<sz a:=List.length_pos_iff.2 ha
 have h2:0<sz b:=List.length_pos_iff.2 hb
 have ht:=zI (sz b-1) (co b) (fun i hi=>eJ b i (by omega)) (sz a-1) (co a) fun i hi=>eJ a i (by omega)
 have hne:co (ae a b) (sz a-1+(sz b-1))≠0:=by
  rw [dC,ht.1]
  intro h
  rcases fe h with h|h
  ·exact dt a ha h
  ·exact dt b hb h
 have:=Ou (fun i hi=>by rw [dC];exact ht.2 i hi) hne
 omega
theorem gq (a b:List UInt8) (ha:aF a= []):ae a b= []:=by
 rw [←dy]
 refine iK _ fun i=> ?_
 rw [dC]
 exact fJ _ _ _ fun i=>by rw [←cg,ha];rfl
theorem wC (a b:List UInt8) (hb:aF b= []):ae a b= []:=by rw [sP];exact gq b a hb
theorem wE {a b:List UInt8} (h:ae a b= []):aF a= []∨aF b= []:=by
 by_cases ha:aF a= []
 ·exact .inl ha
 ·by_cases hb:aF b= []
  ·exact .inr hb
  ·have:=kO a b ha hb
   have h1:0<sz a:=List.length_pos_iff.2 ha
   have h2:0<sz b:=List.length_pos_iff.2 hb
   have h3:sz (ae a b)=0:=by rw [h];rfl
   omega
theorem fu (a b:List UInt8):sz (ae a b)≤sz a+sz b-1:=by
 by_cases ha:aF a= []
 ·rw [gq a b ha];exact Nat.zero_le _
 ·by_cases hb:aF b= []
  ·rw [wC a b hb];exact Nat.zero_le _
  ·have:=kO a b ha hb
   omega
theorem iQ (a b:List UInt8) (n:Nat) (ha:sz a≤n) (hb:sz b≤n):sz (dS [a,b])≤n:=
 pp fun i hi=>by rw [nZ,eJ a i (by omega),eJ b i (by omega)];rfl

theorem Bl (b:List UInt8) (inv:UInt8) (hb:0<b.length) (hinv:aI (co b (b.length-1)) inv=1):∀(k:Nat) (q r:List UInt8),k≤q.length→(0<k→k+b.length≤r.length+1)→(∀j,j<k→co q j=0)→(∀j,k+b.length≤j+1→co r j=0)→
  (∀n,cv (co (kE b inv k q r).1) (co b) n^^^co (kE b inv k q r).2 n=cv (co q) (co b) n^^^co r n)∧∀j,b.length≤j+1→co (kE b inv k q r).2 j=0
 |0,q,r,_,_,_,h4=>⟨fun n=>rfl,fun j hj=>h4 j (by omega)⟩
 | k+1,q,r,h1,h2,h3,h4=>by
  have h2:=h2 (by omega)
  obtain⟨c,hc⟩:∃c,c=aI (r.getD (k+b.length-1) 0) inv:=⟨_,rfl⟩
  have hcr:c=aI (co r (k+b.length-1)) inv:=hc
  rw [kE,←hc]
  have hrow:∀j,co (i9 c r k b) j=co r j^^^sh k (fun i=>aI c (co b i)) j:=fun j=>un c b r k j (by omega)
  have hq:∀j,co (q.set k c) j=co q j^^^(if j=k then c else 0):=fun j=>by
   rw [Je _ _ _ _ (by omega)]
   by_cases h:j=k
   ·rw [if_pos h,if_pos h,h,h3 k (by omega)];simp
   ·rw [if_neg h,if_neg h];simp
  have ih:=Bl b inv hb hinv k (q.set k c) (i9 c r k b) (by rw [List.length_set];omega) (fun _=>by rw [jn];omega)
   (fun j hj=>by rw [hq,h3 j (by omega),if_neg (by omega)];rfl)
   (fun j hj=>by
    rw [hrow]
    by_cases hj2:k+b.length=j+1
    ·have hj3:j=k+b.length-1:=by omega
     unfold sh
     rw [if_neg (by omega),show j-k=b.length-1 by omega,hcr,←hj3]
     dsimp only
     rw [cK,bC inv,hinv,mF]
     simp
    ·rw [h4 j (by omega)]
     unfold sh
     rw [if_neg (by omega)]
     dsimp only
     rw [Pn b _ (by omega),bB]
     rfl)
  refine⟨fun n=> ?_,ih.2⟩
  rw [ih.1 n,hrow n,it (f:=co (q.set k c)) (fun j=>hq j) (fun _=>rfl),pR (co b) n (co q) (fun j=>if j=k then c else 0),xM]
  have:∀u v w:UInt8,u^^^v^^^(w^^^v)=u^^^w:=fun u v w=>by
   have:u^^^v^^^(w^^^v)=u^^^w^^^(v^^^v):=by ac_rfl
   rw [this];simp
  exact this _ _ _
theorem H7 (b:List UInt8) (hb:aF b≠ []):aI (co (aF b) ((aF b).length-1)) (dj ((aF b).getD ((aF b).length-1) 0))=1:=by
 refine mG _ ?_
 show co (aF b) (sz b-1)≠0
 rw [cg]
 exact dt b hb
theorem Nb (a b r0:List UInt8) (N M:Nat) (hb:aF b≠ []) (hr:∀i,co r0 i=co a i) (hN:N≤M) (h2:0<N→N+sz b≤r0.length+1) (h3:sz a≤N+sz b-1):
  (∀n,cv (co (kE (aF b) (dj ((aF b).getD ((aF b).length-1) 0)) N (List.replicate M 0) r0).1) (co b) n^^^co (kE (aF b) (dj ((aF b).getD ((aF b).length-1) 0)) N (List.replicate M 0) r0).2 n=co a n)∧
  ∀j,sz b≤j+1→co (kE (aF b) (dj ((aF b).getD ((aF b).length-1) 0)) N (List.replicate M 0) r0).2 j=0:=by
 have h0:0<(aF b).length:=List.length_pos_iff.2 hb
 have h:=Bl (aF b) _ h0 (H7 b hb) N (List.replicate M 0) r0 (by rw [List.length_replicate];exact hN) h2 (fun j _=>rQ _ _) (fun j hj=>by rw [hr];exact eJ a j (by unfold sz at*;omega))
 refine⟨fun n=> ?_,h.2⟩
 have:=h.1 n
 rw [fJ (co (aF b)) n _ (fun i=>rQ _ _),hr n,UInt8.zero_xor] at this
 rw [←this]
 congr 1
 exact it (fun _=>rfl) (fun i=>(cg b i).symm) n
theorem zH (a b:List UInt8) (hb:aF b≠ []):(∀n,cv (co (eW a b).1) (co b) n^^^co (eW a b).2 n=co a n)∧∀j,sz b≤j+1→co (eW a b).2 j=0:=by
 have h0:0<sz b:=List.length_pos_iff.2 hb
 exact Nb a b (aF a) _ _ hb (fun i=>cg a i) (Nat.le_refl _) (fun h=>by unfold sz at*;omega) (by unfold sz at*;omega)
theorem rM (b q q' r r':List UInt8) (hb:aF b≠ []) (h:∀n,cv (co q) (co b) n^^^co r n=cv (co q') (co b) n^^^co r' n) (hr:∀j,sz b≤j+1→co r j=0) (hr':∀j,sz b≤j+1→co r' j=0):
  aF q=aF q'∧aF r=aF r':=by
 have h0:0<sz b:=List.length_pos_iff.2 hb
 have x3:∀u v w z:UInt8,u^^^v=w^^^z→u^^^w=v^^^z:=fun u v w z h=>by
  have:u^^^w=(u^^^v)^^^v^^^w:=by rw [UInt8.xor_assoc u,UInt8.xor_self,UInt8.xor_zero]
  rw [this,h]
  have:w^^^z^^^v^^^w=v^^^z^^^(w^^^w):=by ac_rfl
  rw [this,UInt8.xor_self,UInt8.xor_zero]
 have hx:∀u v:UInt8,u^^^v=0→u=v:=fun u v h=>UInt8.xor_eq_zero_iff.1 h
 have hd:∀n,cv (co (bz q q')) (co b) n=co r n^^^co r' n:=fun n=>by
  rw [it (fun i=>jR q q' i) (fun _=>rfl),pR]
  exact x3 _ _ _ _ (h n)
 have hz:aF (bz q q')= []:=Classical.byContradiction fun hne=>by
  have h1:0<sz (bz q q'):=List.length_pos_iff.2 hne
  have ht:=(zI (sz b-1) (co b) (fun i hi=>eJ b i (by omega)) (sz (bz q q')-1) (co (bz q q')) fun i hi=>eJ _ i (by omega)).1
  rw [hd,hr _ (by omega),hr' _ (by omega)] at ht
  rcases fe (a:=co (bz q q') (sz (bz q q')-1)) (b:=co b (sz b-1)) (by rw [←ht];rfl) with e|e
  ·exact dt _ hne e
  ·exact dt b hb e
 have hq:∀i,co q i=co q' i:=fun i=>hx _ _ (by rw [←jR,←cg,hz];rfl)
 refine⟨dX _ _ hq,dX _ _ fun i=> ?_⟩
 refine(hx _ _ ?_)
 rw [←hd i]
 exact fJ _ _ _ fun j=>by rw [jR,hq j,UInt8.xor_self]
theorem ug (a b:List UInt8) (hb:aF b≠ []):dS [ae (aF (eW a b).1) b,aF (eW a b).2]=aF a:=by
 rw [←iS]
 refine dX _ _ fun i=> ?_
 rw [nZ,dC,cg,←(zH a b hb).1 i]
 congr 1
 exact it (fun i=>cg _ i) (fun _=>rfl) i
theorem uh (a b:List UInt8) (hb:aF b≠ []):sz (eW a b).2<sz b:=by
 have h0:0<sz b:=List.length_pos_iff.2 hb
 have:=pp (p:=(eW a b).2) (n:=sz b-1) fun j hj=>(zH a b hb).2 j (by omega)
 omega
end Go.Proofs.YtailffhfhekkpaaDoor.S62

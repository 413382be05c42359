/- Texts of this claim. -/
import Derived.Test.YtlmegkgkipjgbaaDoorVc10
import Derived.Test.YtlmegkgkipjgbaaDoorProg
import Derived.KernelRfl
set_option linter.unusedVariables false
set_option linter.unusedSimpArgs false
namespace Go.Proofs.YtlmegkgkipjgbaaDoor.S33
set_option maxHeartbeats 20000000
open Go Go.Proofs.YtlmegkgkipjgbaaDoor.Vc Go.Proofs
theorem ty3:TyOk Tryd.prog 3 (.int .i64):=⟨(by unfold InfoOk;kernel_rfl),Tryd.underlying3⟩
theorem ty4:TyOk Tryd.prog 4 .bool:=⟨(by unfold InfoOk;kernel_rfl),Tryd.underlying4⟩
theorem ty5:TyOk Tryd.prog 5 .u8:=⟨(by unfold InfoOk;kernel_rfl),Tryd.underlying5⟩
theorem ty9:TyOk Tryd.prog 9 .str:=⟨(by unfold InfoOk;kernel_rfl),Tryd.underlying9⟩
theorem ty22:TyOk Tryd.prog 22 (.sl (.int .i64)):=⟨(by unfold InfoOk;kernel_rfl),3,Tryd.underlying22,by unfold InfoOk;kernel_rfl,by decide⟩
theorem ty24:TyOk Tryd.prog 24 (.cons (.sl (.int .i64)) (.cons (.int .i64) (.cons (.int .i64) (.cons (.int .i64) (.cons (.int .i64) (.cons (.int .i64) .nil)))))):=⟨(by unfold InfoOk;kernel_rfl),_,Tryd.underlying24,by kernel_rfl,by kernel_rfl⟩
theorem ty25:TyOk Tryd.prog 25 (.arr 2 .str):=⟨(by unfold InfoOk;kernel_rfl),9,Tryd.underlying25,by unfold InfoOk;kernel_rfl,by decide,by kernel_rfl⟩
theorem ty26:TyOk Tryd.prog 26 (.sl (.cons (.cons (.int .i64) (.cons (.int .i64) (.cons (.int .i64) (.cons (.int .i64) (.cons (.sl .str) .nil))))) (.cons (.int .i64) .nil))):=⟨(by unfold InfoOk;kernel_rfl),48,Tryd.underlying26,by unfold InfoOk;kernel_rfl,by decide⟩
theorem ty27:TyOk Tryd.prog 27 (.sl (.cons (.int .i64) (.cons (.sl (.int .i64)) .nil))):=⟨(by unfold InfoOk;kernel_rfl),51,Tryd.underlying27,by unfold InfoOk;kernel_rfl,by decide⟩
theorem ty30:TyOk Tryd.prog 30 (.sl (.sl .str)):=⟨(by unfold InfoOk;kernel_rfl),44,Tryd.underlying30,by unfold InfoOk;kernel_rfl,by decide⟩
theorem ty31:TyOk Tryd.prog 31 (.sl (.sl (.sl .str))):=⟨(by unfold InfoOk;kernel_rfl),30,Tryd.underlying31,by unfold InfoOk;kernel_rfl,by decide⟩
theorem ty33:TyOk Tryd.prog 33 (.cons (.int .i64) (.cons .str (.cons (.sl (.sl .str)) (.cons (.sl (.sl (.sl .str))) .nil)))):=⟨(by unfold InfoOk;kernel_rfl),_,Tryd.underlying33,by kernel_rfl,by kernel_rfl⟩
theorem ty34:TyOk Tryd.prog 34 (.sl (.cons (.int .i64) (.cons (.int .i64) (.cons (.int .i64) (.cons (.int .i64) (.cons (.sl .str) .nil)))))):=⟨(by unfold InfoOk;kernel_rfl),46,Tryd.underlying34,by unfold InfoOk;kernel_rfl,by decide⟩
theorem ty35:TyOk Tryd.prog 35 (.int .i64):=⟨(by unfold InfoOk;kernel_rfl),Tryd.underlying35⟩
theorem ty39:TyOk Tryd.prog 39 (.cons (.cons (.int .i64) (.cons .str (.cons (.sl (.sl .str)) (.cons (.sl (.sl (.sl .str))) .nil)))) (.cons (.sl (.cons (.int .i64) (.cons (.int .i64) (.cons (.int .i64) (.cons (.int .i64) (.cons (.sl .str) .nil)))))) (.cons (.int .i64) .nil))):=⟨(by unfold InfoOk;kernel_rfl),_,Tryd.underlying39,by kernel_rfl,by kernel_rfl⟩
theorem ty44:TyOk Tryd.prog 44 (.sl .str):=⟨(by unfold InfoOk;kernel_rfl),9,Tryd.underlying44,by unfold InfoOk;kernel_rfl,by decide⟩
theorem ty46:TyOk Tryd.prog 46 (.cons (.int .i64) (.cons (.int .i64) (.cons (.int .i64) (.cons (.int .i64) (.cons (.sl .str) .nil))))):=⟨(by unfold InfoOk;kernel_rfl),_,Tryd.underlying46,by kernel_rfl,by kernel_rfl⟩
theorem ty48:TyOk Tryd.prog 48 (.cons (.cons (.int .i64) (.cons (.int .i64) (.cons (.int .i64) (.cons (.int .i64) (.cons (.sl .str) .nil))))) (.cons (.int .i64) .nil)):=⟨(by unfold InfoOk;kernel_rfl),_,Tryd.underlying48,by kernel_rfl,by kernel_rfl⟩
theorem ty51:TyOk Tryd.prog 51 (.cons (.int .i64) (.cons (.sl (.int .i64)) .nil)):=⟨(by unfold InfoOk;kernel_rfl),_,Tryd.underlying51,by kernel_rfl,by kernel_rfl⟩
theorem ty55:TyOk Tryd.prog 55 (.cons (.int .i64) (.cons .str .nil)):=⟨(by unfold InfoOk;kernel_rfl),_,Tryd.underlying55,by kernel_rfl,by kernel_rfl⟩
theorem ty59:TyOk Tryd.prog 59 (.cons (.cons (.int .i64) (.cons .str .nil)) (.cons (.int .i64) .nil)):=⟨(by unfold InfoOk;kernel_rfl),_,Tryd.underlying59,by kernel_rfl,by kernel_rfl⟩
theorem ty63:TyOk Tryd.prog 63 (.sl .bool):=⟨(by unfold InfoOk;kernel_rfl),4,Tryd.underlying63,by unfold InfoOk;kernel_rfl,by decide⟩
theorem ty73:TyOk Tryd.prog 73 (.sl (.cons (.int .i64) (.cons (.int .i64) .nil))):=⟨(by unfold InfoOk;kernel_rfl),77,Tryd.underlying73,by unfold InfoOk;kernel_rfl,by decide⟩
theorem ty77:TyOk Tryd.prog 77 (.cons (.int .i64) (.cons (.int .i64) .nil)):=⟨(by unfold InfoOk;kernel_rfl),_,Tryd.underlying77,by kernel_rfl,by kernel_rfl⟩
theorem ty87:TyOk Tryd.prog 87 .fnT:=⟨(by unfold InfoOk;kernel_rfl),_,_,_,Tryd.underlying87⟩
theorem ty90:TyOk Tryd.prog 90 (.cons (.int .i64) (.cons (.sl (.sl .str)) .nil)):=⟨(by unfold InfoOk;kernel_rfl),_,Tryd.underlying90,by kernel_rfl,by kernel_rfl⟩
theorem ty95:TyOk Tryd.prog 95 .fnT:=⟨(by unfold InfoOk;kernel_rfl),_,_,_,Tryd.underlying95⟩
theorem ty100:TyOk Tryd.prog 100 (.cons (.cons (.int .i64) (.cons (.sl (.sl .str)) .nil)) (.cons (.int .i64) .nil)):=⟨(by unfold InfoOk;kernel_rfl),_,Tryd.underlying100,by kernel_rfl,by kernel_rfl⟩
theorem ty103:TyOk Tryd.prog 103 (.cons (.sl .str) (.cons (.int .i64) .nil)):=⟨(by unfold InfoOk;kernel_rfl),_,Tryd.underlying103,by kernel_rfl,by kernel_rfl⟩
theorem ty105:TyOk Tryd.prog 105 .fnT:=⟨(by unfold InfoOk;kernel_rfl),_,_,_,Tryd.underlying105⟩
theorem ty111:TyOk Tryd.prog 111 (.cons .str (.cons (.int .i64) .nil)):=⟨(by unfold InfoOk;kernel_rfl),_,Tryd.underlying111,by kernel_rfl,by kernel_rfl⟩
theorem ty118:TyOk Tryd.prog 118 (.cons (.sl (.cons (.int .i64) (.cons (.int .i64) .nil))) (.cons (.int .i64) .nil)):=⟨(by unfold InfoOk;kernel_rfl),_,Tryd.underlying118,by kernel_rfl,by kernel_rfl⟩
theorem ty121:TyOk Tryd.prog 121 (.cons (.cons (.int .i64) (.cons .str .nil)) (.cons (.int .i64) .nil)):=⟨(by unfold InfoOk;kernel_rfl),_,Tryd.underlying121,by kernel_rfl,by kernel_rfl⟩
theorem ty129:TyOk Tryd.prog 129 (.mapT (.sl (.int .i64))):=⟨(by unfold InfoOk;kernel_rfl),3,22,Tryd.underlying129,Tryd.underlying3,by unfold InfoOk;kernel_rfl,by kernel_rfl⟩
theorem ty132:TyOk Tryd.prog 132 .fnT:=⟨(by unfold InfoOk;kernel_rfl),_,_,_,Tryd.underlying132⟩
theorem ty134:TyOk Tryd.prog 134 .fnT:=⟨(by unfold InfoOk;kernel_rfl),_,_,_,Tryd.underlying134⟩
theorem ty137:TyOk Tryd.prog 137 (.sl .u8):=⟨(by unfold InfoOk;kernel_rfl),5,Tryd.underlying137,by unfold InfoOk;kernel_rfl,by decide⟩
theorem ty139:TyOk Tryd.prog 139 .fnT:=⟨(by unfold InfoOk;kernel_rfl),_,_,_,Tryd.underlying139⟩
theorem ty143:TyOk Tryd.prog 143 .fnT:=⟨(by unfold InfoOk;kernel_rfl),_,_,_,Tryd.underlying143⟩
theorem ty145:TyOk Tryd.prog 145 .fnT:=⟨(by unfold InfoOk;kernel_rfl),_,_,_,Tryd.underlying145⟩
theorem ty147:TyOk Tryd.prog 147 (.sl (.sl .u8)):=⟨(by unfold InfoOk;kernel_rfl),137,Tryd.underlying147,by unfold InfoOk;kernel_rfl,by decide⟩
theorem ty154:TyOk Tryd.prog 154 (.cons (.sl .u8) (.cons (.sl (.int .i64)) (.cons (.int .i64) .nil))):=⟨(by unfold InfoOk;kernel_rfl),_,Tryd.underlying154,by kernel_rfl,by kernel_rfl⟩
theorem ty183:TyOk Tryd.prog 183 (.int .u64):=⟨(by unfold InfoOk;kernel_rfl),Tryd.underlying183⟩
theorem ty185:TyOk Tryd.prog 185 (.arr 256 .bool):=⟨(by unfold InfoOk;kernel_rfl),4,Tryd.underlying185,by unfold InfoOk;kernel_rfl,by decide,by kernel_rfl⟩
theorem ty188:TyOk Tryd.prog 188 .fnT:=⟨(by unfold InfoOk;kernel_rfl),_,_,_,Tryd.underlying188⟩
theorem ty191:TyOk Tryd.prog 191 (.arr 16 .u8):=⟨(by unfold InfoOk;kernel_rfl),5,Tryd.underlying191,by unfold InfoOk;kernel_rfl,by decide,by kernel_rfl⟩
def tys:List (Nat×Ty):= [(3,(.int .i64)),(4,.bool),(5,.u8),(9,.str),(22,(.sl (.int .i64))),(24,(.cons (.sl (.int .i64)) (.cons (.int .i64) (.cons (.int .i64) (.cons (.int .i64) (.cons (.int .i64) (.cons (.int .i64) .nil))))))),(25,(.arr 2 .str)),(26,(.sl (.cons (.cons (.int .i64) (.cons (.int .i64) (.cons (.int .i64) (.cons (.int .i64) (.cons (.sl .str) .nil))))) (.cons (.int .i64) .nil)))),(27,(.sl (.cons (.int .i64) (.cons (.sl (.int .i64)) .nil)))),(30,(.sl (.sl .str))),(31,(.sl (.sl (.sl .str)))),(33,(.cons (.int .i64) (.cons .str (.cons (.sl (.sl .str)) (.cons (.sl (.sl (.sl .str))) .nil))))),(34,(.sl (.cons (.int .i64) (.cons (.int .i64) (.cons (.int .i64) (.cons (.int .i64) (.cons (.sl .str) .nil))))))),(35,(.int .i64)),(39,(.cons (.cons (.int .i64) (.cons .str (.cons (.sl (.sl .str)) (.cons (.sl (.sl (.sl .str))) .nil)))) (.cons (.sl (.cons (.int .i64) (.cons (.int .i64) (.cons (.int .i64) (.cons (.int .i64) (.cons (.sl .str) .nil)))))) (.cons (.int .i64) .nil)))),(44,(.sl .str)),(46,(.cons (.int .i64) (.cons (.int .i64) (.cons (.int .i64) (.cons (.int .i64) (.cons (.sl .str) .nil)))))),(48,(.cons (.cons (.int .i64) (.cons (.int .i64) (.cons (.int .i64) (.cons (.int .i64) (.cons (.sl .str) .nil))))) (.cons (.int .i64) .nil))),(51,(.cons (.int .i64) (.cons (.sl (.int .i64)) .nil))),(55,(.cons (.int .i64) (.cons .str .nil))),(59,(.cons (.cons (.int .i64) (.cons .str .nil)) (.cons (.int .i64) .nil))),(63,(.sl .bool)),(73,(.sl (.cons (.int .i64) (.cons (.int .i64) .nil)))),(77,(.cons (.int .i64) (.cons (.int .i64) .nil))),(87,.fnT),(90,(.cons (.int .i64) (.cons (.sl (.sl .str)) .nil))),(95,.fnT),(100,(.cons (.cons (.int .i64) (.cons (.sl (.sl .str)) .nil)) (.cons (.int .i64) .nil))),(103,(.cons (.sl .str) (.cons (.int .i64) .nil))),(105,.fnT),(111,(.cons .str (.cons (.int .i64) .nil))),(118,(.cons (.sl (.cons (.int .i64) (.cons (.int .i64) .nil))) (.cons (.int .i64) .nil))),(121,(.cons (.cons (.int .i64) (.cons .str .nil)) (.cons (.int .i64) .nil))),(129,(.mapT (.sl (.int .i64)))),(132,.fnT),(134,.fnT),(137,(.sl .u8)),(139,.fnT),(143,.fnT),(145,.fnT),(147,(.sl (.sl .u8))),(154,(.cons (.sl .u8) (.cons (.sl (.int .i64)) (.cons (.int .i64) .nil)))),(183,(.int .u64)),(185,(.arr 256 .bool)),(188,.fnT),(191,(.arr 16 .u8))]
theorem tysOk:∀T t,lk tys T=some t→TyOk Tryd.prog T t∧eqTyOk Tryd.prog T t=true:=
 AllTy.ok (⟨⟨ty3,by kernel_rfl⟩,⟨ty4,by kernel_rfl⟩,⟨ty5,by kernel_rfl⟩,⟨ty9,by kernel_rfl⟩,⟨ty22,by kernel_rfl⟩,⟨ty24,by kernel_rfl⟩,⟨ty25,by kernel_rfl⟩,⟨ty26,by kernel_rfl⟩,⟨ty27,by kernel_rfl⟩,⟨ty30,by kernel_rfl⟩,⟨ty31,by kernel_rfl⟩,⟨ty33,by kernel_rfl⟩,⟨ty34,by kernel_rfl⟩,⟨ty35,by kernel_rfl⟩,⟨ty39,by kernel_rfl⟩,⟨ty44,by kernel_rfl⟩,⟨ty46,by kernel_rfl⟩,⟨ty48,by kernel_rfl⟩,⟨ty51,by kernel_rfl⟩,⟨ty55,by kernel_rfl⟩,⟨ty59,by kernel_rfl⟩,⟨ty63,by kernel_rfl⟩,⟨ty73,by kernel_rfl⟩,⟨ty77,by kernel_rfl⟩,⟨ty87,by kernel_rfl⟩,⟨ty90,by kernel_rfl⟩,⟨ty95,by kernel_rfl⟩,⟨ty100,by kernel_rfl⟩,⟨ty103,by kernel_rfl⟩,⟨ty105,by kernel_rfl⟩,⟨ty111,by kernel_rfl⟩,⟨ty118,by kernel_rfl⟩,⟨ty121,by kernel_rfl⟩,⟨ty129,by kernel_rfl⟩,⟨ty132,by kernel_rfl⟩,⟨ty134,by kernel_rfl⟩,⟨ty137,by kernel_rfl⟩,⟨ty139,by kernel_rfl⟩,⟨ty143,by kernel_rfl⟩,⟨ty145,by kernel_rfl⟩,⟨ty147,by kernel_rfl⟩,⟨ty154,by kernel_rfl⟩,⟨ty183,by kernel_rfl⟩,⟨ty185,by kernel_rfl⟩,⟨ty188,by kernel_rfl⟩,⟨ty191,by kernel_rfl⟩,trivial⟩:AllTy Tryd.prog tys)
set_option maxRecDepth 100000
def hi:List UInt8:= [0,29,58,39,116,105,78,83,232,245,210,207,156,129,166,187]
def G6:List (Nat×V):= [(0,.rp false (.arr 16 .u8) hi 0)]
theorem globOk:GlobOk G6:=fun g x id h=>by
 unfold G6 lk at h
 cases hb:Nat.beq 0 g<;>simp [hb,lk] at h
 subst h;rfl
theorem noRef6:noRef G6:=fun g x h=>by
 unfold G6 lk at h
 cases hb:Nat.beq 0 g<;>simp [hb,lk] at h
 exact⟨_,_,_,h.symm⟩
theorem mixed:Tryd.prog.follows .mixedOrders=true:=by kernel_rfl

theorem k0:Known Tryd.prog (En [] tys G6 []):= .start globOk noRef6 mixed tysOk

def redL (x:Int):UInt8:=UInt8.ofNat (x%256).toNat^^^hi.getD (((x/256).toNat&&&15:Nat):Int).toNat 0
def sRed:List V→Option (Prop×V×List Blk)
 |[.int .u64 x]=>some (0≤x,.u8 (redL x), [])
 |_=>none

theorem and15 (n:Nat):n&&&15<16:=Nat.lt_of_le_of_lt Nat.and_le_right (by omega)

def C1:List (Nat×Con):= [(113,pureC [.v (.int .u64)] sRed)]
theorem bRed (x:Int) (hx:0≤x):bodyP (En [] tys G6 []) Tryd.f113 [.k] [.int .u64 x] (.u8 (redL x)) []:=by
 have h15:=and15 (x/256).toNat
 refine⟨⟨by omega,by omega⟩,.inl ⟨⟨?_,by omega⟩,?_⟩⟩
 ·show 0≤x/256
  omega
 refine⟨⟨?_,?_⟩,?_⟩
 ·show(0:Int)≤(((x/256).toNat&&&15:Nat):Int)
  omega
 ·show(((x/256).toNat&&&15:Nat):Int)<16
  omega
 exact d4'

theorem k1:Known Tryd.prog (En C1 tys G6 []):=k0.add Tryd.func113 Tryd.call113 [.k] fun ds p v bs h hp=>by
 unfold sRed at h
 split at h<;>simp only [Option.some.injEq,Prod.mk.injEq,reduceCtorEq] at h
 obtain⟨rfl,rfl,rfl⟩:=h
 exact bRed _ hp

def tx (a n:Int):Nat→Int
 |0=>0
 |k+1=>if(((n/2^k).toNat&&&1:Nat):Int)=1 then(((tx a n k).toNat^^^(a*2^k).toNat:Nat):Int) else tx a n k
theorem tx_nonneg (a n:Int) (k:Nat):0≤tx a n k:=by
 induction k with
 |zero=>exact Int.le_refl _
 |succ k ih=>unfold tx;split<;>omega
def timesL (a:UInt8) (n:Int):UInt8:=redL (tx a.toNat n 4)
def sTimes:List V→Option (Prop×V×List Blk)
 |[.u8 a,.int .u64 n]=>some (0≤n,.u8 (timesL a n), [])
 |_=>none

def C2:List (Nat×Con):=(114,pureC [.v .u8,.v (.int .u64)] sTimes)::C1
theorem bTimes (a:UInt8) (m:Int) (hm:0≤m):bodyP (En C1 tys G6 []) Tryd.f114 [.k] [.u8 a,.int .u64 m] (.u8 (timesL a m)) []:=by
 have ha:=a.toNat_lt
 refine⟨0, [(0,.k),(1,.k),(5,.k),(7,.k)],fun n vs H=>∃k:Nat,k≤4∧n=4-k∧vs= [.u8 a,.int .u64 m,.int .u64 (tx a.toNat m k),.int .i64 k]∧H= [],⟨rfl,4,0,by omega,rfl,rfl,rfl⟩,?_⟩
 rintro n vs H ⟨k,hk,rfl,rfl,rfl⟩
 refine⟨fun h4=> ?_,fun h4=> ?_⟩
 ·have hk4:k<4:=by omega
  have hp:(2:Int)^k≤8:=by
   have:k=0∨k=1∨k=2∨k=3:=by omega
   rcases this with h|h|h|h<;>subst h<;>decide
  have hp0:(0:Int)<2^k:=Int.pow_pos (by decide)
  refine⟨⟨by omega,by omega⟩,.inl ⟨⟨?_,by omega⟩,?_⟩⟩
  ·exact Int.ediv_nonneg hm (Int.le_of_lt hp0)
  refine⟨fun h1=> ?_,fun h1=> ?_⟩
  ·have hx:(a.toNat:Int)*2^k≤255*8:=Int.mul_le_mul (by omega) hp (by omega) (by omega)
   have hx0:(0:Int)≤(a.toNat:Int)*2^k:=Int.mul_nonneg (by omega) (by omega)
   have e:tx a.toNat m (k+1)=_:=if_pos h1
   refine⟨⟨by omega,by omega⟩,⟨hx0,?_⟩,⟨tx_nonneg _ _ _,hx0⟩,⟨by omega,by omega⟩,⟨rfl,4-(k+1),by omega,k+1,by omega,by omega,?_,rfl⟩⟩
   ·show(a.toNat:Int)*2^k≤18446744073709551615
    omega
   ·rw [e];rfl
  ·have e:tx a.toNat m (k+1)=_:=if_neg h1
   refine⟨⟨by omega,by omega⟩,⟨rfl,4-(k+1),by omega,k+1,by omega,by omega,?_,rfl⟩⟩
   rw [e];rfl
 ·have:k=4:=by omega
  subst this
  exact⟨rfl,tx_nonneg _ _ _,rfl,rfl,rfl,rfl⟩

theorem k2:Known Tryd.prog (En C2 tys G6 []):=k1.add Tryd.func114 Tryd.call114 [.k] fun ds p v bs h hp=>by
 unfold sTimes at h
 split at h<;>simp only [Option.some.injEq,Prod.mk.injEq,reduceCtorEq] at h
 obtain⟨rfl,rfl,rfl⟩:=h
 exact bTimes _ _ hp

def mulL (a b:UInt8):UInt8:=redL ((timesL a (UInt8.ofNat (b.toNat/16)).toNat).toNat*16)^^^timesL a (b&&&15).toNat
def sMul:List V→Option (Prop×V×List Blk)
 |[.u8 a,.u8 b]=>some (True,.u8 (mulL a b), [])
 |_=>none
theorem bMul (a b:UInt8):bodyP (En C2 tys G6 []) Tryd.f92 [.k] [.u8 a,.u8 b] (.u8 (mulL a b)) []:=by
 have h1:=(timesL a (UInt8.ofNat (b.toNat/16)).toNat).toNat_lt
 refine⟨⟨by omega,by omega⟩,⟨rfl,by omega,?_⟩⟩
 refine⟨⟨by omega,by omega⟩,⟨?_,?_⟩,⟨rfl,?_,?_⟩⟩
 ·show(0:Int)≤(timesL a (UInt8.ofNat (b.toNat/16)).toNat).toNat*16
  omega
 ·show((timesL a (UInt8.ofNat (b.toNat/16)).toNat).toNat:Int)*16≤18446744073709551615
  omega
 ·show(0:Int)≤(timesL a (UInt8.ofNat (b.toNat/16)).toNat).toNat*16
  omega
 exact⟨rfl,by omega,rfl,rfl,rfl,rfl⟩
def C3:List (Nat×Con):=(92,pureC [.v .u8,.v .u8] sMul)::C2
theorem k3:Known Tryd.prog (En C3 tys G6 []):=k2.add Tryd.func92 Tryd.call92 [.k] fun ds p v bs h hp=>by
 unfold sMul at h
 split at h<;>simp only [Option.some.injEq,Prod.mk.injEq,reduceCtorEq] at h
 obtain⟨rfl,rfl,rfl⟩:=h
 exact bMul _ _

def powF:Nat→UInt8→Int→UInt8→UInt8
 |0,_,_,x=>x
 |f+1,a,n,x=>if 0<n then powF f (mulL a a) (n/2) (if((n.toNat&&&1:Nat):Int)=1 then mulL x a else x) else x
def sPow:List V→Option (Prop×V×List Blk)
 |[.u8 a,.int .i64 n]=>some (0≤n∧n<256,.u8 (powF 8 a n 1), [])
 |_=>none
theorem bPow (a:UInt8) (m:Int) (h0:0≤m) (h1:m<256):bodyP (En C3 tys G6 []) Tryd.f122 [.k] [.u8 a,.int .i64 m] (.u8 (powF 8 a m 1)) []:=by
 refine⟨0, [(0,.k),(1,.k),(5,.k)],fun f vs H=>∃a' n' x',0≤n'∧n'<2^f∧powF f a' n' x'=powF 8 a m 1∧vs= [.u8 a',.int .i64 n',.u8 x']∧H= [],⟨rfl,8,a,m,1,h0,by omega,rfl,rfl,rfl⟩,?_⟩
 rintro f vs H ⟨a',n',x',h2,h3,h4,rfl,rfl⟩
 refine⟨fun hn=> ?_,fun hn=> ?_⟩
 ·cases f with
  |zero=>exact absurd h3 (by omega)
  |succ f=>
  have hb:n'/2<2^f:=by rw [Int.pow_succ] at h3;omega
  rw [show powF (f+1) a' n' x'=_ from if_pos hn] at h4
  refine .inl ⟨⟨h2,by omega⟩,yn (((n'.toNat&&&1:Nat):Int)=1) (fun h5=> ?_) fun h5=> ?_⟩
  ·rw [if_pos h5] at h4
   exact⟨trivial,trivial,⟨by omega,by omega⟩,rfl,f,by omega,_,_,_,Int.ediv_nonneg h2 (by omega),hb,h4,rfl,rfl⟩
  ·rw [if_neg h5] at h4
   exact⟨trivial,⟨by omega,by omega⟩,rfl,f,by omega,_,_,_,Int.ediv_nonneg h2 (by omega),hb,h4,rfl,rfl⟩
 ·have:n'=0:=by omega
  subst this
  have:powF f a' 0 x'=x':=by cases f<;>rfl
  rw [this] at h4
  subst h4
  exact d4'
def C4:List (Nat×Con):=(122,pureC [.v .u8,.v (.int .i64)] sPow)::C3
theorem k4:Known Tryd.prog (En C4 tys G6 []):=k3.add Tryd.func122 Tryd.call122 [.k] fun ds p v bs h hp=>by
 unfold sPow at h
 split at h<;>simp only [Option.some.injEq,Prod.mk.injEq,reduceCtorEq] at h
 obtain⟨rfl,rfl,rfl⟩:=h
 exact bPow _ _ hp.1 hp.2

def invL (a:UInt8):UInt8:=if a=0 then 0 else powF 8 a 254 1
def sInv:List V→Option (Prop×V×List Blk)
 |[.u8 a]=>some (True,.tup [.u8 (invL a),.int .i64 (if a=0 then 1 else 0)], [])
 |_=>none
theorem bInv (a:UInt8):bodyP (En C4 tys G6 []) Tryd.f116 [.k,.k] [.u8 a] (.tup [.u8 (invL a),.int .i64 (if a=0 then 1 else 0)]) []:=by
 refine⟨fun h=> ?_,fun h=> ?_⟩
 ·replace h:a=0:=h
  rw [show invL a=0 from if_pos h,if_pos h]
  exact d4'
 ·replace h:¬a=0:=h
  rw [show invL a=_ from if_neg h,if_neg h]
  exact⟨rfl,⟨by omega,by omega⟩,rfl,rfl,rfl,rfl⟩
def C5:List (Nat×Con):=(116,pureC [.v .u8] sInv)::C4
theorem k5:Known Tryd.prog (En C5 tys G6 []):=k4.add Tryd.func116 Tryd.call116 [.k,.k] fun ds p v bs h hp=>by
 unfold sInv at h
 split at h<;>simp only [Option.some.injEq,Prod.mk.injEq,reduceCtorEq] at h
 obtain⟨rfl,rfl,rfl⟩:=h
 exact bInv _

def rmF:Nat→Int→Int→Int→Int
 |0,_,_,s=>s
 |f+1,x,y,s=>if 0<y then rmF f (if 255<2*x then(((2*x).toNat^^^285:Nat):Int) else 2*x) (y/2) (if y%2=1 then((s.toNat^^^x.toNat:Nat):Int) else s) else s
def rmulL (a b:UInt8):UInt8:=UInt8.ofNat (rmF 8 a.toNat b.toNat 0%256).toNat
def sRmul:List V→Option (Prop×V×List Blk)
 |[.u8 a,.u8 b]=>some (True,.u8 (rmulL a b), [])
 |_=>none
theorem xor285:∀n:Nat,n<256→255<2*n→(2*n^^^285)<256:=by decide
theorem bRmul {l:List (Nat×Con)} (a b:UInt8):bodyP (En l tys G6 []) Tryd.f108 [.k] [.u8 a,.u8 b] (.u8 (rmulL a b)) []:=by
 have hat:=a.toNat_lt
 have hbt:=b.toNat_lt
 refine⟨0, [(5,.k),(6,.k),(7,.k)],fun f vs H=>∃x y s:Int,0≤x∧x<256∧0≤y∧y<2^f∧y<256∧0≤s∧s<256∧rmF f x y s=rmF 8 a.toNat b.toNat 0∧vs= [.int .i64 x,.int .i64 y,.int .i64 s]∧H= [],⟨rfl,8,a.toNat,b.toNat,0,by omega,by omega,by omega,by omega,by omega,by omega,by omega,rfl,rfl,rfl⟩,?_⟩
 rintro f vs H ⟨x,y,s,hx0,hx,hy0,hyf,hy,hs0,hs,he,rfl,rfl⟩
 refine⟨fun hn=> ?_,fun hn=> ?_⟩
 ·cases f with
  |zero=>exact absurd hyf (by omega)
  |succ f=>
  have hb:y/2<2^f:=by rw [Int.pow_succ] at hyf;omega
  rw [show rmF (f+1) x y s=_ from if_pos hn] at he
  have hd:(2*x).toNat=2*x.toNat:=by omega
  have hx':255<2*x→(0:Int)≤(((2*x).toNat^^^285:Nat):Int)∧(((2*x).toNat^^^285:Nat):Int)<256:=fun h=>by
   have:=xor285 x.toNat (by omega) (by omega)
   rw [hd]
   omega
  have hs':(0:Int)≤((s.toNat^^^x.toNat:Nat):Int)∧((s.toNat^^^x.toNat:Nat):Int)<256:=by
   have:s.toNat^^^x.toNat<2^8:=Nat.xor_lt_two_pow (by omega) (by omega)
   omega
  have hy2:0≤y/2:=Int.ediv_nonneg hy0 (by omega)
  refine .inl ⟨⟨hy0,by omega⟩,⟨?_,?_⟩⟩
  ·intro h1
   replace h1:y%2=1:=h1
   rw [if_pos h1] at he
   refine⟨⟨hs0,hx0⟩,.inl ⟨⟨hy0,by omega⟩,⟨⟨by omega,by omega⟩,fun h2=> ?_,fun h2=> ?_⟩⟩⟩
   ·rw [if_pos h2] at he
    exact⟨⟨by omega,by omega⟩,rfl,f,by omega,_,_,_,(hx' h2).1,(hx' h2).2,hy2,hb,by omega,hs'.1,hs'.2,he,rfl,rfl⟩
   ·rw [if_neg h2] at he
    exact⟨rfl,f,by omega,_,_,_,by omega,by omega,hy2,hb,by omega,hs'.1,hs'.2,he,rfl,rfl⟩
  ·intro h1
   replace h1:¬y%2=1:=h1
   rw [if_neg h1] at he
   refine .inl ⟨⟨hy0,by omega⟩,⟨⟨by omega,by omega⟩,fun h2=> ?_,fun h2=> ?_⟩⟩
   ·rw [if_pos h2] at he
    exact⟨⟨by omega,by omega⟩,rfl,f,by omega,_,_,_,(hx' h2).1,(hx' h2).2,hy2,hb,by omega,hs0,hs,he,rfl,rfl⟩
   ·rw [if_neg h2] at he
    exact⟨rfl,f,by omega,_,_,_,by omega,by omega,hy2,hb,by omega,hs0,hs,he,rfl,rfl⟩
 ·have:y=0:=by omega
  subst this
  have:rmF f x 0 s=s:=by cases f<;>rfl
  rw [this] at he
  unfold rmulL
  rw [←he]
  exact d4'
def C6:List (Nat×Con):=(108,pureC [.v .u8,.v .u8] sRmul)::C5
theorem k6:Known Tryd.prog (En C6 tys G6 []):=k5.add Tryd.func108 Tryd.call108 [.k] fun ds p v bs h hp=>by
 unfold sRmul at h
 split at h<;>simp only [Option.some.injEq,Prod.mk.injEq,reduceCtorEq] at h
 obtain⟨rfl,rfl,rfl⟩:=h
 exact bRmul _ _

def rinvF (a:UInt8):Nat→Nat→UInt8
 |0,_=>0
 |f+1,b=>if rmulL a (UInt8.ofNat b)=1 then UInt8.ofNat b else rinvF a f (b+1)
def rinvL (a:UInt8):UInt8:=rinvF a 255 1
def sRinv:List V→Option (Prop×V×List Blk)
 |[.u8 a]=>some (True,.u8 (rinvL a), [])
 |_=>none
theorem bRinv (a:UInt8):bodyP (En C6 tys G6 []) Tryd.f118 [.k] [.u8 a] (.u8 (rinvL a)) []:=by
 refine⟨0, [(0,.k),(3,.k)],fun f vs H=>∃b:Nat,1≤b∧b+f=256∧rinvF a f b=rinvL a∧vs= [.u8 a,.int .i64 b]∧H= [],⟨rfl,255,1,by omega,by omega,rfl,rfl,rfl⟩,?_⟩
 rintro f vs H ⟨b,hb,hf,he,rfl,rfl⟩
 have hmod:b<256→UInt8.ofNat ((b:Int)%256).toNat=UInt8.ofNat b:=fun h=>by
  congr 1
  omega
 refine⟨fun hn=> ?_,fun hn=> ?_⟩
 ·cases f with
  |zero=>exact absurd hn (by omega)
  |succ f=>
  have hm:=hmod (by omega)
  refine⟨trivial,yn (rmulL a (UInt8.ofNat ((b:Int)%256).toNat)=1) (fun h1=> ?_) fun h1=> ?_⟩
  ·rw [hm] at h1
   rw [show rinvF a (f+1) b=_ from if_pos h1] at he
   rw [←he,←hm]
   exact d4'
  ·rw [hm] at h1
   rw [show rinvF a (f+1) b=_ from if_neg h1] at he
   exact⟨⟨by omega,by omega⟩,rfl,f,by omega,b+1,by omega,by omega,he,rfl,rfl⟩
 ·cases f with
  |zero=>
   rw [←he]
   exact d4'
  |succ f=>exact absurd (by omega:(b:Int)<256) hn
def C7:List (Nat×Con):=(118,pureC [.v .u8] sRinv)::C6
theorem k7:Known Tryd.prog (En C7 tys G6 []):=k6.add Tryd.func118 Tryd.call118 [.k] fun ds p v bs h hp=>by
 unfold sRinv at h
 split at h<;>simp only [Option.some.injEq,Prod.mk.injEq,reduceCtorEq] at h
 obtain⟨rfl,rfl,rfl⟩:=h
 exact bRinv _
theorem xor_mul_pow (a b k:Nat):(a^^^b)*2^k=a*2^k^^^b*2^k:=by
 rw [←Nat.shiftLeft_eq,←Nat.shiftLeft_eq,←Nat.shiftLeft_eq,Nat.shiftLeft_xor_distrib]
def txN (a n:Nat):Nat→Nat
 |0=>0
 |k+1=>if n/2^k%2=1 then txN a n k^^^a*2^k else txN a n k
def redN (x:Nat):Nat:=x%256^^^(hi.getD (x/256%16) 0).toNat
theorem tx_nat (a n:Nat):∀k,tx (a:Int) (n:Int) k=(txN a n k:Int)
 |0=>rfl
 | k+1=>by
  have h1:((n:Int)/2^k).toNat&&&1=n/2^k%2:=by
   have e:(n:Int)/2^k=((n/2^k:Nat):Int):=by rw [Int.natCast_ediv,Int.natCast_pow];rfl
   rw [e,Int.toNat_natCast,Nat.and_one_is_mod]
  have h2:((a:Int)*2^k).toNat=a*2^k:=by
   have e:(a:Int)*2^k=((a*2^k:Nat):Int):=by rw [Int.natCast_mul,Int.natCast_pow];rfl
   rw [e,Int.toNat_natCast]
  unfold tx txN
  rw [tx_nat a n k,h1,h2,Int.toNat_natCast]
  by_cases h:n/2^k%2=1
  ·rw [if_pos h,if_pos (by omega)]
  ·rw [if_neg h,if_neg (by omega)]
theorem u8_nat {x y:UInt8} (h:x.toNat=y.toNat):x=y:=UInt8.toNat_inj.1 h
theorem redL_nat (x:Nat):(redL (x:Int)).toNat=redN x:=by
 have h1:((x:Int)/256).toNat&&&15=x/256%16:=by
  have e:(x:Int)/256=((x/256:Nat):Int):=by rw [Int.natCast_ediv];rfl
  rw [e,Int.toNat_natCast,show(15:Nat)=2^4-1 from rfl,Nat.and_two_pow_sub_one_eq_mod]
 have h2:((x:Int)%256).toNat=x%256:=by omega
 unfold redL redN
 rw [h1,h2,Int.toNat_natCast,UInt8.toNat_xor,UInt8.toNat_ofNat_of_lt' (om (x%256<256))]
theorem hi_xor:∀i:Fin 16,∀j:Fin 16,(hi.getD (i.val^^^j.val) 0).toNat=(hi.getD i.val 0).toNat^^^(hi.getD j.val 0).toNat:=by decide
theorem redN_xor (x y:Nat):redN (x^^^y)=redN x^^^redN y:=by
 unfold redN
 have h1:(x^^^y)%256=x%256^^^y%256:=by rw [show 256=2^8 from rfl,Nat.xor_mod_two_pow]
 have h2:(x^^^y)/256%16=(x/256%16)^^^(y/256%16):=by
  rw [show 256=2^8 from rfl,show 16=2^4 from rfl,Nat.xor_div_two_pow,Nat.xor_mod_two_pow]
 have h3:=hi_xor ⟨x/256%16,by omega⟩ ⟨y/256%16,by omega⟩
 rw [h1,h2,h3]
 ac_rfl
theorem txN_xor (a b n:Nat):∀k,txN (a^^^b) n k=txN a n k^^^txN b n k
 |0=>by simp [txN]
 |k+1=>by
  unfold txN
  rw [txN_xor a b n k]
  split
  ·rw [xor_mul_pow];ac_rfl
  ·rfl
def timesN (a n:Nat):Nat:=redN (txN a n 4)
theorem timesN_xor (a b n:Nat):timesN (a^^^b) n=timesN a n^^^timesN b n:=by
 unfold timesN;rw [txN_xor,redN_xor]
theorem timesL_nat (a:UInt8) (n:Nat):(timesL a (n:Int)).toNat=timesN a.toNat n:=by
 unfold timesL timesN
 rw [tx_nat,redL_nat]
def mulN (a b:Nat):Nat:=redN (timesN a (b/16)*16)^^^timesN a (b%16)
theorem mulL_nat (a b:UInt8):(mulL a b).toNat=mulN a.toNat b.toNat:=by
 have hb:=b.toNat_lt
 unfold mulL mulN
 have h1:(UInt8.ofNat (b.toNat/16)).toNat=b.toNat/16:=UInt8.toNat_ofNat_of_lt' (om (b.toNat/16<256))
 have h2:(b&&&15).toNat=b.toNat%16:=by
  rw [UInt8.toNat_and]
  exact Nat.and_two_pow_sub_one_eq_mod b.toNat 4
 rw [UInt8.toNat_xor,h1,h2,timesL_nat,timesL_nat]
 rw [show((timesN a.toNat (b.toNat/16):Nat):Int)*16=((timesN a.toNat (b.toNat/16)*16:Nat):Int) by rw [Int.natCast_mul];rfl,redL_nat]
theorem mulL_add (a b c:UInt8):mulL (a^^^b) c=mulL a c^^^mulL b c:=by
 refine u8_nat ?_
 rw [mulL_nat,UInt8.toNat_xor,UInt8.toNat_xor,mulL_nat,mulL_nat]
 unfold mulN
 rw [timesN_xor,timesN_xor,show(16:Nat)=2^4 from rfl,xor_mul_pow,redN_xor]
 ac_rfl

def bits8:List UInt8:= [1,2,4,8,16,32,64,128]
theorem of_bits:∀a:Fin 256,UInt8.ofNat a.val=(UInt8.ofNat a.val&&&1)^^^(UInt8.ofNat a.val&&&2)^^^(UInt8.ofNat a.val&&&4)^^^(UInt8.ofNat a.val&&&8)^^^(UInt8.ofNat a.val&&&16)^^^(UInt8.ofNat a.val&&&32)^^^(UInt8.ofNat a.val&&&64)^^^(UInt8.ofNat a.val&&&128):=by decide
theorem u8_fin {p:UInt8→Prop} (h:∀a:Fin 256,p (UInt8.ofNat a.val)) (a:UInt8):p a:=by
 have:=h ⟨a.toNat,a.toNat_lt⟩
 simpa using this
theorem and_bit (a c:UInt8) (hc:c∈bits8):a&&&c=0∨a&&&c=c:=by
 have key:∀c∈bits8,∀a:Fin 256,UInt8.ofNat a.val&&&c=0∨UInt8.ofNat a.val&&&c=c:=by decide
 exact u8_fin (p:=fun a=>a&&&c=0∨a&&&c=c) (key c hc) a
theorem add_ext {f g:UInt8→UInt8} (hf:∀a b,f (a^^^b)=f a^^^f b) (hg:∀a b,g (a^^^b)=g a^^^g b) (h:∀c∈bits8,f c=g c) (a:UInt8):f a=g a:=by
 have f0:f 0=0:=by have:=hf 0 0;simpa using this
 have g0:g 0=0:=by have:=hg 0 0;simpa using this
 have hb:∀c∈bits8,f (a&&&c)=g (a&&&c):=fun c hc=>by
  rcases and_bit a c hc with e|e<;>rw [e]
  ·rw [f0,g0]
  ·exact h c hc
 have e:=u8_fin (p:=fun a=>a=(a&&&1)^^^(a&&&2)^^^(a&&&4)^^^(a&&&8)^^^(a&&&16)^^^(a&&&32)^^^(a&&&64)^^^(a&&&128)) of_bits a
 rw [e]
 simp only [hf,hg]
 rw [hb 1 (by decide),hb 2 (by decide),hb 4 (by decide),hb 8 (by decide),hb 16 (by decide),hb 32 (by decide),hb 64 (by decide),hb 128 (by decide)]

def xt (x:Nat):Nat:=if 255<2*x then 2*x^^^285 else 2*x
def rmN:Nat→Nat→Nat→Nat→Nat
 |0,_,_,s=>s
 |f+1,x,y,s=>if 0<y then rmN f (xt x) (y/2) (if y%2=1 then s^^^x else s) else s
theorem rmF_nat:∀(f x y s:Nat),rmF f (x:Int) (y:Int) (s:Int)=(rmN f x y s:Int)
 |0,x,y,s=>rfl
 | f+1,x,y,s=>by
  have h1:(if 255<2*(x:Int) then(((2*(x:Int)).toNat^^^285:Nat):Int) else 2*(x:Int))=(xt x:Int):=by
   have e:(2*(x:Int)).toNat=2*x:=by omega
   unfold xt
   rw [e]
   by_cases h:255<2*x
   ·rw [if_pos h,if_pos (by omega)]
   ·rw [if_neg h,if_neg (by omega)];omega
  have h2:(if(y:Int)%2=1 then((Int.toNat (s:Int)^^^Int.toNat (x:Int):Nat):Int) else(s:Int))=((if y%2=1 then s^^^x else s:Nat):Int):=by
   rw [Int.toNat_natCast,Int.toNat_natCast]
   by_cases h:y%2=1
   ·rw [if_pos h,if_pos (by omega)]
   ·rw [if_neg h,if_neg (by omega)]
  unfold rmF rmN
  rw [h1,h2,show(y:Int)/2=((y/2:Nat):Int) by omega,rmF_nat]
  by_cases h:0<y
  ·rw [if_pos h,if_pos (by omega)]
  ·rw [if_neg h,if_neg (by omega)]
theorem xt_lt (x:Nat) (h:x<256):xt x<256:=by
 unfold xt
 split
 ·exact xor285 x h (by assumption)
 ·omega
theorem xt_xor (x y:Nat) (hx:x<256) (hy:y<256):xt (x^^^y)=xt x^^^xt y:=by
 have hxy:x^^^y<2^8:=Nat.xor_lt_two_pow (by omega) (by omega)
 have hd:2*(x^^^y)=2*x^^^2*y:=by
  rw [Nat.mul_comm 2,Nat.mul_comm 2 x,Nat.mul_comm 2 y]
  exact xor_mul_pow x y 1
 have ht:∀z,z<256→(255<2*z↔z.testBit 7=true):=by decide
 have hb:(x^^^y).testBit 7=(x.testBit 7^^y.testBit 7):=Nat.testBit_xor ..
 have e1:=ht x hx
 have e2:=ht y hy
 have e3:=ht (x^^^y) hxy
 rw [hb] at e3
 unfold xt
 rw [hd]
 rw [hd] at e3
 by_cases h1:255<2*x<;>by_cases h2:255<2*y
 ·rw [if_neg (by rw [e3,e1.1 h1,e2.1 h2];decide),if_pos h1,if_pos h2]
  have:2*x^^^285^^^(2*y^^^285)=2*x^^^2*y^^^(285^^^285):=by ac_rfl
  rw [this,Nat.xor_self,Nat.xor_zero]
 ·have f2:y.testBit 7=false:=by rw [e2] at h2;simpa using h2
  rw [if_pos (by rw [e3,e1.1 h1,f2];decide),if_pos h1,if_neg h2];ac_rfl
 ·have f1:x.testBit 7=false:=by rw [e1] at h1;simpa using h1
  rw [if_pos (by rw [e3,f1,e2.1 h2];decide),if_neg h1,if_pos h2];ac_rfl
 ·have f1:x.testBit 7=false:=by rw [e1] at h1;simpa using h1
  have f2:y.testBit 7=false:=by rw [e2] at h2;simpa using h2
  rw [if_neg (by rw [e3,f1,f2];decide),if_neg h1,if_neg h2]
theorem rmN_xor:∀(f x x' y s s':Nat),x<256→x'<256→rmN f (x^^^x') y (s^^^s')=rmN f x y s^^^rmN f x' y s'
 |0,x,x',y,s,s',h,h'=>rfl
 | f+1,x,x',y,s,s',h,h'=>by
  unfold rmN
  split
  ·rw [xt_xor x x' h h']
   have:(if y%2=1 then s^^^s'^^^(x^^^x') else s^^^s')=(if y%2=1 then s^^^x else s)^^^(if y%2=1 then s'^^^x' else s'):=by
    split
    ·ac_rfl
    ·rfl
   rw [this,rmN_xor f _ _ _ _ _ (xt_lt x h) (xt_lt x' h')]
  ·rfl
theorem rmulL_nat (a b:UInt8):(rmulL a b).toNat=rmN 8 a.toNat b.toNat 0%256:=by
 unfold rmulL
 have e:rmF 8 (a.toNat:Int) (b.toNat:Int) 0=(rmN 8 a.toNat b.toNat 0:Int):=rmF_nat 8 a.toNat b.toNat 0
 rw [e,show((rmN 8 a.toNat b.toNat 0:Nat):Int)%256=((rmN 8 a.toNat b.toNat 0%256:Nat):Int) by omega,Int.toNat_natCast,UInt8.toNat_ofNat_of_lt' (om (_%256<256))]
theorem rmulL_add (a b c:UInt8):rmulL (a^^^b) c=rmulL a c^^^rmulL b c:=by
 refine u8_nat ?_
 rw [rmulL_nat,UInt8.toNat_xor,UInt8.toNat_xor,rmulL_nat,rmulL_nat]
 have:=rmN_xor 8 a.toNat b.toNat c.toNat 0 0 a.toNat_lt b.toNat_lt
 rw [Nat.xor_self] at this
 rw [this,show 256=2^8 from rfl,Nat.xor_mod_two_pow]
def chk (f:UInt8→UInt8→Bool):Nat→Bool
 |0=>true
 |n+1=>bits8.all (fun c=>f c (UInt8.ofNat n))&&chk f n
theorem chk_ok {f:UInt8→UInt8→Bool}:∀{n:Nat},chk f n=true→∀c∈bits8,∀b:Nat,b<n→f c (UInt8.ofNat b)=true
 |0,_,c,hc,b,hb=>by omega
 |n+1,h,c,hc,b,hb=>by
  unfold chk at h
  rw [Bool.and_eq_true] at h
  by_cases e:b=n
  ·subst e;exact List.all_eq_true.1 h.1 c hc
  ·exact chk_ok h.2 c hc b (by omega)
theorem chk_all {f:UInt8→UInt8→Bool} (h:chk f 256=true) (c:UInt8) (hc:c∈bits8) (b:UInt8):f c b=true:=by
 have:=chk_ok h c hc b.toNat b.toNat_lt
 simpa using this
theorem ev1:chk (fun c b=>Nat.beq (mulN c.toNat b.toNat) (rmN 8 c.toNat b.toNat 0)) 256=true:=by kernel_rfl
theorem ev2:chk (fun c b=>Nat.beq (mulN c.toNat b.toNat) (mulN b.toNat c.toNat)) 256=true:=by kernel_rfl
theorem mulN_lt (a b:UInt8):mulN a.toNat b.toNat<256:=by rw [←mulL_nat];exact(mulL a b).toNat_lt
theorem mul_same (a b:UInt8):rmulL a b=mulL a b:=by
 refine add_ext (f:=fun a=>rmulL a b) (g:=fun a=>mulL a b) (fun x y=>rmulL_add x y b) (fun x y=>mulL_add x y b) (fun c hc=> ?_) a
 refine u8_nat ?_
 have:=Nat.eq_of_beq_eq_true (chk_all ev1 c hc b)
 rw [rmulL_nat,mulL_nat,←this,Nat.mod_eq_of_lt (mulN_lt c b)]
theorem mul_bit (c:UInt8) (hc:c∈bits8) (b:UInt8):mulL c b=mulL b c:=by
 refine u8_nat ?_
 rw [mulL_nat,mulL_nat]
 exact Nat.eq_of_beq_eq_true (chk_all ev2 c hc b)
theorem mul_comm' (a b:UInt8):mulL a b=mulL b a:=by
 have hb:∀c∈bits8,∀x y:UInt8,mulL c (x^^^y)=mulL c x^^^mulL c y:=fun c hc x y=>by
  rw [mul_bit c hc,mul_bit c hc,mul_bit c hc,mulL_add]
 have hr:∀a x y:UInt8,mulL a (x^^^y)=mulL a x^^^mulL a y:=fun a x y=>by
  refine add_ext (f:=fun a=>mulL a (x^^^y)) (g:=fun a=>mulL a x^^^mulL a y) (fun p q=>mulL_add p q _) (fun p q=> ?_) (fun c hc=>hb c hc x y) a
  show mulL (p^^^q) x^^^mulL (p^^^q) y=_
  rw [mulL_add,mulL_add]
  ac_rfl
 exact add_ext (f:=fun a=>mulL a b) (g:=fun a=>mulL b a) (fun p q=>mulL_add p q b) (fun p q=>hr b p q) (fun c hc=>mul_bit c hc b) a
theorem mulL_addr (a b c:UInt8):mulL a (b^^^c)=mulL a b^^^mulL a c:=by
 rw [mul_comm',mulL_add,mul_comm' b,mul_comm' c]
def ass3:Bool:=bits8.all fun a=>bits8.all fun b=>bits8.all fun c=>Nat.beq (mulN (mulN a.toNat b.toNat) c.toNat) (mulN a.toNat (mulN b.toNat c.toNat))
theorem ev3:ass3=true:=by kernel_rfl
theorem mul_assoc' (a b c:UInt8):mulL (mulL a b) c=mulL a (mulL b c):=by
 refine add_ext (f:=fun a=>mulL (mulL a b) c) (g:=fun a=>mulL a (mulL b c)) (fun p q=>by show mulL (mulL (p^^^q) b) c=_;rw [mulL_add,mulL_add]) (fun p q=>mulL_add p q _) (fun a ha=> ?_) a
 refine add_ext (f:=fun b=>mulL (mulL a b) c) (g:=fun b=>mulL a (mulL b c)) (fun p q=>by show mulL (mulL a (p^^^q)) c=_;rw [mulL_addr,mulL_add]) (fun p q=>by show mulL a (mulL (p^^^q) c)=_;rw [mulL_add,mulL_addr]) (fun b hb=> ?_) b
 refine add_ext (f:=fun c=>mulL (mulL a b) c) (g:=fun c=>mulL a (mulL b c)) (fun p q=>mulL_addr _ p q) (fun p q=>by show mulL a (mulL b (p^^^q))=_;rw [mulL_addr,mulL_addr]) (fun c hc=> ?_) c
 refine u8_nat ?_
 rw [mulL_nat,mulL_nat,mulL_nat,mulL_nat]
 have:=ev3
 unfold ass3 at this
 simp only [List.all_eq_true] at this
 exact Nat.eq_of_beq_eq_true (this a ha b hb c hc)

theorem mul_zero' (a:UInt8):mulL a 0=0:=by have:=mulL_addr a 0 0;simpa using this
theorem zero_mul' (a:UInt8):mulL 0 a=0:=by rw [mul_comm',mul_zero']
theorem mul_one' (a:UInt8):mulL a 1=a:=by
 refine add_ext (f:=fun a=>mulL a 1) (g:=fun a=>a) (fun p q=>mulL_add p q 1) (fun p q=>rfl) (fun c hc=> ?_) a
 have:∀c∈bits8,mulL c 1=c:=by decide
 exact this c hc
theorem one_mul' (a:UInt8):mulL 1 a=a:=by rw [mul_comm',mul_one']
def invOk:Nat→Bool
 |0=>true
 |n+1=>Nat.beq (mulL (UInt8.ofNat (n+1)) (invL (UInt8.ofNat (n+1)))).toNat 1&&invOk n
theorem ev4:invOk 255=true:=by kernel_rfl
theorem invOk_ok:∀{n:Nat},invOk n=true→∀k:Nat,0<k→k≤n→(mulL (UInt8.ofNat k) (invL (UInt8.ofNat k))).toNat=1
 |0,_,k,h,h'=>by omega
 |n+1,h,k,h0,h'=>by
  unfold invOk at h
  rw [Bool.and_eq_true] at h
  by_cases e:k=n+1
  ·subst e;exact Nat.eq_of_beq_eq_true h.1
  ·exact invOk_ok h.2 k h0 (by omega)
theorem mul_inv' (a:UInt8) (h:a≠0):mulL a (invL a)=1:=by
 have h0:0<a.toNat:=by
  rcases Nat.eq_zero_or_pos a.toNat with e|e
  ·exact absurd (u8_nat e) h
  ·exact e
 have:=invOk_ok ev4 a.toNat h0 (by have:=a.toNat_lt;omega)
 refine u8_nat ?_
 simpa using this
theorem mul_eq_zero' {a b:UInt8} (h:mulL a b=0):a=0∨b=0:=by
 by_cases ha:a=0
 ·exact .inl ha
 ·refine .inr ?_
  have:mulL (invL a) (mulL a b)=b:=by rw [←mul_assoc',mul_comm' (invL a),mul_inv' a ha,one_mul']
  rw [h,mul_zero'] at this
  exact this.symm
theorem mul_cancel' {a b c:UInt8} (ha:a≠0) (h:mulL a b=mulL a c):b=c:=by
 have e:∀x,mulL (invL a) (mulL a x)=x:=fun x=>by rw [←mul_assoc',mul_comm' (invL a),mul_inv' a ha,one_mul']
 rw [←e b,h,e c]
theorem inv_ne' {a:UInt8} (ha:a≠0):invL a≠0:=fun h=>by
 have:=mul_inv' a ha
 rw [h,mul_zero'] at this
 exact absurd this (by decide)
theorem rinvF_ok (a c:UInt8) (hc:mulL a c=1):∀(f b:Nat),b≤c.toNat→c.toNat<b+f→b+f=256→rinvF a f b=c
 |0,b,h1,h2,h3=>by omega
 | f+1,b,h1,h2,h3=>by
  unfold rinvF
  have ha:a≠0:=fun h=>by rw [h,zero_mul'] at hc;exact absurd hc (by decide)
  split
  ·rename_i h
   rw [mul_same] at h
   exact mul_cancel' ha (h.trans hc.symm)
  ·rename_i h
   have hne:b≠c.toNat:=fun e=>h (by rw [e,mul_same];simpa using hc)
   exact rinvF_ok a c hc f (b+1) (by omega) (by omega) (by omega)
theorem rinvF_zero:∀(f b:Nat),rinvF 0 f b=0
 |0,b=>rfl
 |f+1,b=>by
  unfold rinvF
  rw [mul_same,zero_mul',if_neg (by decide),rinvF_zero f]
theorem inv_same (a:UInt8):rinvL a=invL a:=by
 by_cases h:a=0
 ·subst h
  rw [show invL 0=0 from rfl]
  exact rinvF_zero 255 1
 ·refine rinvF_ok a (invL a) (mul_inv' a h) 255 1 ?_ ?_ rfl
  ·rcases Nat.eq_zero_or_pos (invL a).toNat with e|e
   ·exact absurd (u8_nat e) (inv_ne' h)
   ·exact e
  ·have:=(invL a).toNat_lt;omega
def horner (x:UInt8):List UInt8→UInt8
 |[]=>0
 |c::p=>mulL (horner x p) x^^^c
theorem horner_drop (x:UInt8) (p:List UInt8) (k:Nat) (h:k<p.length):horner x (p.drop k)=mulL (horner x (p.drop (k+1))) x^^^p.getD k 0:=by
 rw [List.drop_eq_getElem_cons h,horner]
 simp [List.getElem?_eq_getElem h]
def sEval:List V→Option (Prop×V×List Blk)
 |[.sl false .u8 p,.u8 x]=>some (p.length≤1000000,.u8 (horner x p), [])
 |_=>none
theorem bEval (p:List UInt8) (x:UInt8) (hp:p.length≤1000000):bodyP (En C7 tys G6 []) Tryd.f89 [.k] [.sl false .u8 p,.u8 x] (.u8 (horner x p)) []:=by
 refine⟨⟨by omega,by omega⟩,0, [(0,.k),(1,.k),(5,.k),(6,.k)],fun n vs H=>∃k:Int,n=(k+1).toNat∧-1≤k∧k<p.length∧vs= [.sl false .u8 p,.u8 x,.u8 (horner x (p.drop (k+1).toNat)),.int .i64 k]∧H= [],⟨rfl,p.length,p.length-1,by omega,by omega,by omega,?_,rfl⟩,?_⟩
 ·have:((p.length:Int)-1+1).toNat=p.length:=by omega
  rw [this,List.drop_length]
  rfl
 ·rintro n vs H ⟨k,rfl,h1,h2,rfl,rfl⟩
  refine⟨fun hk=> ?_,fun hk=> ?_⟩
  ·refine⟨by kernel_rfl,trivial,⟨hk,h2⟩,⟨by omega,by omega⟩,rfl,k.toNat,by omega,k-1,by omega,by omega,by omega,?_,rfl⟩
   have e:=horner_drop x p k.toNat (by omega)
   have e1:(k-1+1).toNat=k.toNat:=by omega
   have e2:(k+1).toNat=k.toNat+1:=by omega
   rw [e1,e,←e2]
   rfl
  ·have:k= -1:=by omega
   subst this
   exact d4'
def C8:List (Nat×Con):=(89,pureC [.v (.sl .u8),.v .u8] sEval)::C7
theorem k8:Known Tryd.prog (En C8 tys G6 []):=k7.add Tryd.func89 Tryd.call89 [.k] fun ds p v bs h hp=>by
 unfold sEval at h
 split at h<;>simp only [Option.some.injEq,Prod.mk.injEq,reduceCtorEq] at h
 obtain⟨rfl,rfl,rfl⟩:=h
 exact bEval _ _ hp

def trimL:List UInt8→List UInt8
 |[]=> []
 |c::p=>match trimL p with
  |[]=>if c=0 then [] else [c]
  |d::q=>c::d::q
theorem trimL_snoc (c:UInt8):∀l:List UInt8,trimL (l++ [c])=if c=0 then trimL l else l++ [c]
 |[]=>by simp [trimL]
 | d::l=>by
  have ih:=trimL_snoc c l
  by_cases hc:c=0
  ·rw [if_pos hc] at ih ⊢
   simp [trimL,ih]
  ·rw [if_neg hc] at ih ⊢
   rw [List.cons_append]
   show(match trimL (l++ [c]) with| []=>if d=0 then [] else [d]|e::q=>d::e::q)=_
   rw [ih]
   cases l<;>rfl
theorem trimL_len:∀l:List UInt8,(trimL l).length≤l.length
 |[]=>by simp [trimL]
 |c::l=>by
  have:=trimL_len l
  unfold trimL
  split
  ·split<;>simp
  ·rename_i h;rw [h] at this;simpa using this
theorem trimL_take:∀l:List UInt8,l.take (trimL l).length=trimL l
 |[]=>rfl
 |c::l=>by
  have ih:=trimL_take l
  unfold trimL
  split
  ·split<;>simp
  ·rename_i h;rw [h] at ih;simpa using ih
theorem take_snoc (p:List UInt8) (k:Nat) (h:k<p.length):p.take (k+1)=p.take k++ [p.getD k 0]:=by
 rw [List.take_succ_eq_append_getElem h]
 simp [List.getElem?_eq_getElem h]
def degL (p:List UInt8):Int:=(trimL p).length-1
def sDeg:List V→Option (Prop×V×List Blk)
 |[.sl false .u8 p]=>some (p.length≤1000000,.int .i64 (degL p), [])
 |_=>none
theorem bDeg (p:List UInt8) (hp:p.length≤1000000):bodyP (En C8 tys G6 []) Tryd.f99 [.k] [.sl false .u8 p] (.int .i64 (degL p)) []:=by
 refine⟨⟨by omega,by omega⟩,0, [(0,.k),(3,.k)],fun n vs H=>∃k:Int,n=(k+1).toNat∧-1≤k∧k<p.length∧trimL p=trimL (p.take (k+1).toNat)∧vs= [.sl false .u8 p,.int .i64 k]∧H= [],⟨rfl,p.length,p.length-1,by omega,by omega,by omega,?_,rfl,rfl⟩,?_⟩
 ·have:((p.length:Int)-1+1).toNat=p.length:=by omega
  rw [this,List.take_length]
 ·rintro n vs H ⟨k,rfl,h1,h2,ht,rfl,rfl⟩
  refine⟨fun hk=> ?_,fun hk=> ?_⟩
  ·have e2:(k+1).toNat=k.toNat+1:=by omega
   rw [e2,take_snoc p k.toNat (by omega),trimL_snoc] at ht
   refine⟨⟨hk,h2⟩,yn (p.getD k.toNat 0≠0) (fun h3=> ?_) fun h3=> ?_⟩
   ·rw [if_neg h3] at ht
    have:degL p=k:=by
     unfold degL
     rw [ht,List.length_append,List.length_take]
     simp
     omega
    rw [this]
    exact d4'
   ·have h3:p.getD k.toNat 0=0:=nw h3
    rw [if_pos h3] at ht
    refine⟨⟨by omega,by omega⟩,rfl,k.toNat,by omega,k-1,by omega,by omega,by omega,?_,rfl,rfl⟩
    rw [ht]
    congr 2
    omega
  ·have:k= -1:=by omega
   subst this
   have:degL p= -1:=by unfold degL;rw [ht];rfl
   rw [this]
   exact d4'
def C9:List (Nat×Con):=(99,pureC [.v (.sl .u8)] sDeg)::C8
theorem k9:Known Tryd.prog (En C9 tys G6 []):=k8.add Tryd.func99 Tryd.call99 [.k] fun ds p v bs h hp=>by
 unfold sDeg at h
 split at h<;>simp only [Option.some.injEq,Prod.mk.injEq,reduceCtorEq] at h
 obtain⟨rfl,rfl,rfl⟩:=h
 exact bDeg _ hp

def sClone:List V→Option (Prop×V×List Blk)
 |[.sl false .u8 p]=>some (p.length≤1000000,.own .u8 0, [.row true .u8 p])
 |_=>none
theorem bClone (p:List UInt8) (hp:p.length≤1000000):bodyP (En C9 tys G6 []) Tryd.f123 [.o .u8] [.sl false .u8 p] (.own .u8 0) [.row true .u8 p]:=by
 intro q hq
 refine⟨fun h=> ?_,fun h=> ?_⟩
 ·have:=hq h
  subst this
  exact d4'
 ·refine⟨w2',?_,?_⟩
  ·show 0+p.length≤1000000000
   omega
  exact d4'
def C10:List (Nat×Con):=(123,pureC [.v (.sl .u8)] sClone)::C9
theorem k10:Known Tryd.prog (En C10 tys G6 []):=k9.add Tryd.func123 Tryd.call123 [.o .u8] fun ds p v bs h hp=>by
 unfold sClone at h
 split at h<;>simp only [Option.some.injEq,Prod.mk.injEq,reduceCtorEq] at h
 obtain⟨rfl,rfl,rfl⟩:=h
 exact bClone _ hp

def sTrim:List V→Option (Prop×V×List Blk)
 |[.sl false .u8 p]=>some (p.length≤1000000,.own .u8 0, [.row true .u8 (trimL p)])
 |_=>none
theorem bTrim (p:List UInt8) (hp:p.length≤1000000):bodyP (En C10 tys G6 []) Tryd.f117 [.o .u8] [.sl false .u8 p] (.own .u8 0) [.row true .u8 (trimL p)]:=by
 have h1:=trimL_len p
 have h2:degL p=(trimL p).length-1:=rfl
 have h3:(degL p+1).toNat=(trimL p).length:=by omega
 refine⟨hp,⟨by omega,by omega⟩,⟨by omega,by omega⟩,?_,?_⟩
 ·show(p.take (degL p+1).toNat).length≤1000000
  rw [List.length_take]
  omega
 have e:p.take (degL p+1).toNat=trimL p:=by rw [h3,trimL_take]
 refine⟨rfl,rfl,rfl,?_⟩
 show [Blk.row true .u8 (p.take (degL p+1).toNat)]=_
 rw [e]
def C11:List (Nat×Con):=(117,pureC [.v (.sl .u8)] sTrim)::C10
theorem k11:Known Tryd.prog (En C11 tys G6 []):=k10.add Tryd.func117 Tryd.call117 [.o .u8] fun ds p v bs h hp=>by
 unfold sTrim at h
 split at h<;>simp only [Option.some.injEq,Prod.mk.injEq,reduceCtorEq] at h
 obtain⟨rfl,rfl,rfl⟩:=h
 exact bTrim _ hp
def xorL:List UInt8→List UInt8→List UInt8
 |[],b=>b
 |a, []=>a
 |x::a,y::b=>(x^^^y)::xorL a b
theorem xorL_nil (a:List UInt8):xorL a []=a:=by cases a<;>rfl
theorem xorL_length:∀a b:List UInt8,(xorL a b).length=max a.length b.length
 |[],b=>by simp [xorL]
 |x::a, []=>by simp [xorL]
 |x::a,y::b=>by simp [xorL,xorL_length a b]
theorem xorL_snoc (c:UInt8):∀(a l:List UInt8),xorL a (l++ [c])=if l.length=(xorL a l).length then xorL a l++ [c] else(xorL a l).set l.length ((xorL a l).getD l.length 0^^^c)
 |[],l=>by simp [xorL]
 |x::a, []=>by simp [xorL,xorL_nil]
 |x::a,y::l=>by
  have ih:=xorL_snoc c a l
  simp only [List.cons_append,xorL,List.length_cons,Nat.add_right_cancel_iff,List.set_cons_succ,List.getD_cons_succ]
  rw [ih]
  split<;>rfl
def sumA (ls:List (List UInt8)):List UInt8:=ls.foldl xorL []
def sumL (ls:List (List UInt8)):List UInt8:=trimL (sumA ls)
theorem sumA_snoc (ls:List (List UInt8)) (p:List UInt8):sumA (ls++ [p])=xorL (sumA ls) p:=by simp [sumA]
theorem takeL_snoc (ls:List (List UInt8)) (k:Nat) (h:k<ls.length):ls.take (k+1)=ls.take k++ [ls.getD k []]:=by
 rw [List.take_succ_eq_append_getElem h]
 simp [List.getElem?_eq_getElem h]
theorem sumA_len (N:Nat):∀(ls:List (List UInt8)),(∀p∈ls,p.length≤N)→(sumA ls).length≤N:=by
 intro ls h
 have:∀(ls:List (List UInt8)) (a:List UInt8),a.length≤N→(∀p∈ls,p.length≤N)→(ls.foldl xorL a).length≤N:=by
  intro ls
  induction ls with
  |nil=>intro a ha _;exact ha
  |cons p ls ih=>
   intro a ha hp
   refine ih _ ?_ fun q hq=>hp q (by simp [hq])
   rw [xorL_length]
   have:=hp p (by simp)
   omega
 exact this ls [] (by simp) h

def sSum:List V→Option (Prop×V×List Blk)
 |[.sl false (.sl .u8) ls]=>some (ls.length≤1000∧∀p∈ls,p.length≤1000000,.own .u8 0, [.row true .u8 (sumL ls)])
 |_=>none
theorem bSum (ls:List (List UInt8)) (hl:ls.length≤1000) (hp:∀p∈ls,p.length≤1000000):bodyP (En C11 tys G6 []) Tryd.f101 [.o .u8] [.sl false (.sl .u8) ls] (.own .u8 0) [.row true .u8 (sumL ls)]:=by
 have hlen:∀k,(sumA (ls.take k)).length≤1000000:=fun k=>sumA_len _ _ fun p h=>hp p (List.mem_of_mem_take h)
 refine⟨0, [(3,.o .u8),(8,.k),(9,.k),(10,.k)],fun n vs H=>∃k:Nat,k≤ls.length∧n=ls.length-k∧vs= [.own .u8 0,.sl false (.sl .u8) ls,.int .i64 ls.length,.int .i64 k]∧H= [.row true .u8 (sumA (ls.take k))],⟨rfl,ls.length,0,by omega,rfl,rfl,rfl⟩,?_⟩
 rintro n vs H ⟨k,hk,rfl,rfl,rfl⟩
 refine⟨fun hlt=> ?_,fun hlt=> ?_⟩
 ·have hk':k<ls.length:=by omega
  obtain⟨p,hpe⟩:∃p,p=ls.getD k []:=⟨_,rfl⟩
  have hpl:p.length≤1000000:=hp p (by rw [hpe];simp [List.getElem?_eq_getElem hk'])
  refine⟨⟨by omega,by omega⟩,?_⟩
  refine⟨0, [(3,.o .u8),(8,.k),(9,.k),(10,.k),(14,.k),(15,.k),(16,.k)],fun n vs H=>∃i:Nat,i≤p.length∧n=p.length-i∧vs= [.own .u8 0,.sl false (.sl .u8) ls,.int .i64 ls.length,.int .i64 k,.sl false .u8 p,.int .i64 p.length,.int .i64 i]∧H= [.row true .u8 (xorL (sumA (ls.take k)) (p.take i))],?_,?_⟩
  ·subst hpe
   refine⟨rfl,(ls.getD k []).length,0,by omega,rfl,rfl,?_⟩
   rw [List.take_zero,xorL_nil]
   rfl
  ·rintro n vs H ⟨i,hi,rfl,rfl,rfl⟩
   have hle:(xorL (sumA (ls.take k)) (p.take i)).length≤1000000:=by
    rw [xorL_length,List.length_take]
    have:=hlen k
    omega
   have hge:i≤(xorL (sumA (ls.take k)) (p.take i)).length:=by
    rw [xorL_length,List.length_take]
    omega
   refine⟨fun hilt=> ?_,fun hilt=> ?_⟩
   ·have hi':i<p.length:=by omega
    have hs:=xorL_snoc (p.getD i 0) (sumA (ls.take k)) (p.take i)
    rw [←take_snoc p i hi',List.length_take,Nat.min_eq_left hi] at hs
    generalize xorL (sumA (ls.take k)) (p.take i)=cur at*
    refine⟨⟨by omega,by omega⟩,fun he=> ?_,fun he=> ?_⟩
    ·replace he:(i:Int)=cur.length:=he
     have he':i=cur.length:=by omega
     rw [if_pos he'] at hs
     refine⟨w2',?_,?_⟩
     ·show cur.length+1≤1000000000
      omega
     have e0:(cur++ [0]).getD i 0^^^p.getD i 0=p.getD i 0:=by rw [he'];simp
     have e1:(cur++ [(0:UInt8)]).set i (p.getD i 0)=cur++ [p.getD i 0]:=by rw [he'];simp
     have hl1:(i:Int)<((cur++ [(0:UInt8)]).length:Int):=by rw [List.length_append,List.length_singleton];omega
     refine⟨⟨by omega,hl1⟩,⟨by omega,hl1⟩,w2',⟨by omega,by omega⟩,rfl,p.length-(i+1),by omega,i+1,by omega,rfl,rfl,?_⟩
     show [Blk.row true .u8 ((cur++ [(0:UInt8)]).set i ((cur++ [(0:UInt8)]).getD i 0^^^p.getD i 0))]=_
     rw [e0,e1,hs]
    ·replace he:¬(i:Int)=cur.length:=he
     have he':¬i=cur.length:=by omega
     rw [if_neg he'] at hs
     refine⟨⟨by omega,by omega⟩,⟨by omega,by omega⟩,w2',⟨by omega,by omega⟩,rfl,p.length-(i+1),by omega,i+1,by omega,rfl,rfl,?_⟩
     rw [hs]
     rfl
   ·have hie:i=p.length:=by omega
    subst hie
    rw [List.take_length]
    refine⟨⟨by omega,by omega⟩,rfl,ls.length-(k+1),by omega,k+1,by omega,rfl,rfl,?_⟩
    rw [takeL_snoc ls k hk',sumA_snoc,←hpe]
    rfl
 ·have hke:k=ls.length:=by omega
  subst hke
  rw [List.take_length]
  have:=sumA_len _ _ hp
  exact⟨this,rfl,rfl,rfl,rfl⟩
def C12:List (Nat×Con):=(101,pureC [.v (.sl (.sl .u8))] sSum)::C11
theorem k12:Known Tryd.prog (En C12 tys G6 []):=k11.add Tryd.func101 Tryd.call101 [.o .u8] fun ds p v bs h hp=>by
 unfold sSum at h
 split at h<;>simp only [Option.some.injEq,Prod.mk.injEq,reduceCtorEq] at h
 obtain⟨rfl,rfl,rfl⟩:=h
 exact bSum _ hp.1 hp.2

def sAdd:List V→Option (Prop×V×List Blk)
 |[.sl false .u8 a,.sl false .u8 b]=>some (a.length≤1000000∧b.length≤1000000,.own .u8 0, [.row true .u8 (sumL [a,b])])
 |_=>none
def C13:List (Nat×Con):=C12
theorem k13:Known Tryd.prog (En C13 tys G6 []):=k12
def addAt (acc:List UInt8) (i:Nat) (c:UInt8):List UInt8:=acc.set i (acc.getD i 0^^^c)
def rowA (x:UInt8):List UInt8→Nat→List UInt8→List UInt8
 |acc,_, []=>acc
 |acc,i,y::ys=>rowA x (addAt acc i (mulL x y)) (i+1) ys
def prodA (b:List UInt8):List UInt8→Nat→List UInt8→List UInt8
 |acc,_, []=>acc
 |acc,i,x::xs=>prodA b (rowA x acc i b) (i+1) xs
def prodL (a b:List UInt8):List UInt8:=trimL (prodA b (List.replicate (a.length+b.length) 0) 0 a)
theorem addAt_len (acc:List UInt8) (i:Nat) (c:UInt8):(addAt acc i c).length=acc.length:=by simp [addAt]
theorem rowA_len (x:UInt8):∀(b acc:List UInt8) (i:Nat),(rowA x acc i b).length=acc.length
 |[],acc,i=>rfl
 |y::b,acc,i=>by rw [rowA,rowA_len x b,addAt_len]
theorem prodA_len (b:List UInt8):∀(a acc:List UInt8) (i:Nat),(prodA b acc i a).length=acc.length
 |[],acc,i=>rfl
 |y::a,acc,i=>by rw [prodA,prodA_len b a,rowA_len]
theorem drop_one (p:List UInt8) (k:Nat) (h:k<p.length):p.drop k=p.getD k 0::p.drop (k+1):=by
 rw [List.drop_eq_getElem_cons h]
 simp [List.getElem?_eq_getElem h]

def sProd:List V→Option (Prop×V×List Blk)
 |[.sl false .u8 a,.sl false .u8 b]=>some (a.length≤100000∧b.length≤100000,.own .u8 0, [.row true .u8 (prodL a b)])
 |_=>none
theorem bProd (a b:List UInt8) (ha:a.length≤100000) (hb:b.length≤100000):bodyP (En C13 tys G6 []) Tryd.f102 [.o .u8] [.sl false .u8 a,.sl false .u8 b] (.own .u8 0) [.row true .u8 (prodL a b)]:=by
 obtain⟨fin,hfin⟩:∃fin,fin=prodA b (List.replicate (a.length+b.length) 0) 0 a:=⟨_,rfl⟩
 have hfl:fin.length=a.length+b.length:=by rw [hfin,prodA_len,List.length_replicate]
 refine⟨⟨by omega,by omega⟩,⟨rfl,by omega,by omega⟩,?_⟩
 refine⟨0, [(1,.k),(5,.o .u8),(16,.k),(17,.k),(18,.k)],fun n vs H=>∃(i:Nat) (cur:List UInt8),i≤a.length∧n=a.length-i∧cur.length=a.length+b.length∧prodA b cur i (a.drop i)=fin∧vs= [.sl false .u8 b,.own .u8 0,.sl false .u8 a,.int .i64 a.length,.int .i64 i]∧H= [.row true .u8 cur],
  ⟨rfl,a.length,0,List.replicate (a.length+b.length) 0,by omega,rfl,by rw [List.length_replicate],hfin.symm,rfl,?_⟩,?_⟩
 ·have:((a.length:Int)+b.length).toNat=a.length+b.length:=by omega
  show [Blk.row true .u8 (List.replicate ((a.length:Int)+b.length).toNat 0)]=_
  rw [this]
 rintro n vs H ⟨i,cur,hi,rfl,hcl,hcur,rfl,rfl⟩
 refine⟨fun hlt=> ?_,fun hlt=> ?_⟩
 ·have hi':i<a.length:=by omega
  obtain⟨x,hx⟩:∃x,x=a.getD i 0:=⟨_,rfl⟩
  rw [drop_one a i hi',←hx,prodA] at hcur
  refine⟨⟨by omega,by omega⟩,?_⟩
  refine⟨0, [(1,.k),(5,.o .u8),(6,.k),(7,.k),(16,.k),(17,.k),(18,.k),(23,.k),(24,.k),(25,.k)],fun n vs H=>∃(j:Nat) (cur2:List UInt8),j≤b.length∧n=b.length-j∧cur2.length=a.length+b.length∧rowA x cur2 (i+j) (b.drop j)=rowA x cur i b∧vs= [.sl false .u8 b,.own .u8 0,.int .i64 i,.u8 x,.sl false .u8 a,.int .i64 a.length,.int .i64 i,.sl false .u8 b,.int .i64 b.length,.int .i64 j]∧H= [.row true .u8 cur2],
   ⟨rfl,b.length,0,cur,by omega,rfl,hcl,rfl,by rw [hx];rfl,rfl⟩,?_⟩
  rintro n vs H ⟨j,cur2,hj,rfl,hc2,hrow,rfl,rfl⟩
  refine⟨fun hlt2=> ?_,fun hlt2=> ?_⟩
  ·have hj':j<b.length:=by omega
   rw [drop_one b j hj',rowA] at hrow
   refine⟨⟨by omega,by omega⟩,by kernel_rfl,⟨by omega,by omega⟩,⟨by omega,by omega⟩,trivial,⟨by omega,by omega⟩,w2',⟨by omega,by omega⟩,rfl,b.length-(j+1),by omega,j+1,addAt cur2 (i+j) (mulL x (b.getD j 0)),by omega,rfl,by rw [addAt_len];exact hc2,hrow,rfl,?_⟩
   have e:((i:Int)+j).toNat=i+j:=by omega
   show [Blk.row true .u8 (cur2.set ((i:Int)+j).toNat (cur2.getD ((i:Int)+j).toNat 0^^^mulL x (b.getD j 0)))]=_
   rw [e]
   rfl
  ·have hje:j=b.length:=by omega
   subst hje
   rw [List.drop_length,rowA] at hrow
   subst hrow
   exact⟨⟨by omega,by omega⟩,rfl,a.length-(i+1),by omega,i+1,_,by omega,rfl,hc2,hcur,rfl,rfl⟩
 ·have hie:i=a.length:=by omega
  subst hie
  rw [List.drop_length,prodA] at hcur
  subst hcur
  refine⟨om (cur.length≤1000000),rfl,rfl,rfl,?_⟩
  show [Blk.row true .u8 (trimL cur)]=_
  rw [hfin]
  rfl
def C14:List (Nat×Con):=(102,pureC [.v (.sl .u8),.v (.sl .u8)] sProd)::C13
theorem k14:Known Tryd.prog (En C14 tys G6 []):=k13.add Tryd.func102 Tryd.call102 [.o .u8] fun ds p v bs h hp=>by
 unfold sProd at h
 split at h<;>simp only [Option.some.injEq,Prod.mk.injEq,reduceCtorEq] at h
 obtain⟨rfl,rfl,rfl⟩:=h
 exact bProd _ _ hp.1 hp.2

def C15:List (Nat×Con):=C14
theorem k15:Known Tryd.prog (En C15 tys G6 []):=k14
def divA (b:List UInt8) (inv:UInt8):Nat→List UInt8→List UInt8→List UInt8×List UInt8
 |0,q,r=>(q,r)
 |k+1,q,r=>divA b inv k (q.set k (mulL (r.getD (k+b.length-1) 0) inv)) (rowA (mulL (r.getD (k+b.length-1) 0) inv) r k b)
def divR (a b:List UInt8):List UInt8×List UInt8:=
 divA (trimL b) (invL ((trimL b).getD ((trimL b).length-1) 0)) ((trimL a).length+1-(trimL b).length) (List.replicate ((trimL a).length+1-(trimL b).length) 0) (trimL a)
theorem divA_len (b:List UInt8) (inv:UInt8):∀(k:Nat) (q r:List UInt8),(divA b inv k q r).1.length=q.length∧(divA b inv k q r).2.length=r.length
 |0,q,r=>⟨rfl,rfl⟩
 |k+1,q,r=>by
  rw [divA]
  have:=divA_len b inv k (q.set k (mulL (r.getD (k+b.length-1) 0) inv)) (rowA (mulL (r.getD (k+b.length-1) 0) inv) r k b)
  rw [this.1,this.2,rowA_len,List.length_set]
  exact⟨rfl,rfl⟩

def sDivide:List V→Option (Prop×V×List Blk)
 |[.sl false .u8 a,.sl false .u8 b]=>some (a.length≤100000∧b.length≤100000∧trimL b≠ [],.tup [.own .u8 0,.own .u8 1], [.row true .u8 (trimL (divR a b).1),.row true .u8 (trimL (divR a b).2)])
 |_=>none
theorem bDivide (a b:List UInt8) (ha:a.length≤100000) (hb:b.length≤100000) (hb0:trimL b≠ []):
  bodyP (En C15 tys G6 []) Tryd.f100 [.o .u8,.o .u8] [.sl false .u8 a,.sl false .u8 b] (.tup [.own .u8 0,.own .u8 1]) [.row true .u8 (trimL (divR a b).1),.row true .u8 (trimL (divR a b).2)]:=by
 have hta:=trimL_len a
 have htb:=trimL_len b
 have hcl:0<(trimL b).length:=List.length_pos_iff.2 hb0
 obtain⟨N,hN⟩:∃N,N=(trimL a).length+1-(trimL b).length:=⟨_,rfl⟩
 obtain⟨inv,hinv⟩:∃inv,inv=invL ((trimL b).getD ((trimL b).length-1) 0):=⟨_,rfl⟩
 have hfin:divR a b=divA (trimL b) inv N (List.replicate N 0) (trimL a):=by rw [hinv,hN];rfl
 generalize divR a b=fin at hfin ⊢
 have hfl:=divA_len (trimL b) inv N (List.replicate N 0) (trimL a)
 rw [←hfin,List.length_replicate] at hfl
 have hinv':∀m:Int,m=(trimL b).length-1→invL ((trimL b).getD m.toNat 0)=inv:=fun m hm=>by
  rw [hinv]
  congr 2
  omega
 have hrev:∀(n:Nat) (q r:List UInt8),divA (trimL b) inv n q r=fin→True:=fun _ _ _ _=>trivial
 obtain⟨I,hI⟩:∃I:Nat→List V→List Blk→Prop,I=fun n vs H=>∃(k:Int) (q r:List UInt8),n=(k+1).toNat∧k<N∧-1000000≤k∧q.length=N∧r.length=(trimL a).length∧divA (trimL b) inv n q r=fin∧vs= [.sl true .u8 (trimL b),.own .u8 0,.own .u8 1,.u8 inv,.int .i64 k]∧H= [.row true .u8 q,.row true .u8 r]:=⟨_,rfl⟩
 refine⟨om (a.length≤1000000),om (b.length≤1000000),⟨by omega,by omega⟩,⟨by omega,by omega⟩,trivial,fun hge=>⟨⟨by omega,by omega⟩,⟨by omega,by omega⟩,⟨rfl,?p1,?p2⟩,⟨by omega,by omega⟩,
   ⟨0, [(1,.d .u8),(4,.o .u8),(5,.o .u8),(6,.k),(8,.k)],I,?i1,?s1⟩⟩,fun hge=>⟨⟨by omega,by omega⟩,⟨0, [(1,.d .u8),(4,.o .u8),(5,.o .u8),(6,.k),(8,.k)],I,?i2,?s2⟩⟩⟩
 case p1=>
  replace hge:((trimL b).length:Int)≤(trimL a).length:=hge
  omega
 case p2=>omega
 case i1=>
  replace hge:((trimL b).length:Int)≤(trimL a).length:=hge
  rw [hI]
  have hn:((trimL a).length-(trimL b).length+1:Int).toNat=N:=by omega
  refine⟨rfl,N,(trimL a).length-(trimL b).length,List.replicate N 0,trimL a,by omega,by omega,by omega,by rw [List.length_replicate],rfl,hfin.symm,?_,?_⟩
  ·rw [←hinv' _ rfl];rfl
  ·rw [←hn];rfl
 case i2=>
  replace hge:¬((trimL b).length:Int)≤(trimL a).length:=hge
  rw [hI]
  have hn:N=0:=by omega
  refine⟨rfl,0,(trimL a).length-(trimL b).length, [],trimL a,by omega,by omega,by omega,by rw [hn];rfl,rfl,?_,?_,rfl⟩
  ·rw [hfin,hn];rfl
  ·rw [←hinv' _ rfl];rfl
 all_goals
  rw [hI]
  rintro n vs H ⟨k,q,r,rfl,hkN,hk0,hql,hrl,hdiv,rfl,rfl⟩
  refine⟨fun hk=> ?_,fun hk=> ?_⟩
  ·replace hk:0≤k:=hk
   have e1:(k+1).toNat=k.toNat+1:=by omega
   rw [e1,divA] at hdiv
   have e2:(k+(trimL b).length-1).toNat=k.toNat+(trimL b).length-1:=by omega
   refine⟨⟨by omega,by omega⟩,⟨by omega,by omega⟩,⟨by omega,by omega⟩,trivial,⟨by omega,by omega⟩,w2',?_⟩
   obtain⟨x,hx⟩:∃x,x=mulL (r.getD (k.toNat+(trimL b).length-1) 0) inv:=⟨_,rfl⟩
   rw [←hx] at hdiv
   refine⟨0, [(1,.k),(4,.o .u8),(5,.o .u8),(6,.k),(8,.k),(9,.k),(61,.k),(62,.k),(63,.k)],fun n vs H=>∃(j:Nat) (r2:List UInt8),j≤(trimL b).length∧n=(trimL b).length-j∧r2.length=(trimL a).length∧rowA x r2 (k.toNat+j) ((trimL b).drop j)=rowA x r k.toNat (trimL b)∧
    vs= [.sl true .u8 (trimL b),.own .u8 0,.own .u8 1,.u8 inv,.int .i64 k,.u8 x,.sl true .u8 (trimL b),.int .i64 (trimL b).length,.int .i64 j]∧H= [.row true .u8 (q.set k.toNat x),.row true .u8 r2],⟨rfl,(trimL b).length,0,r,by omega,rfl,hrl,rfl,?_,?_⟩,?_⟩
   ·rw [hx,←e2];rfl
   ·rw [hx,←e2];rfl
   rintro n vs H ⟨j,r2,hj,rfl,hr2,hrow,rfl,rfl⟩
   refine⟨fun hlt=> ?_,fun hlt=> ?_⟩
   ·have hj':j<(trimL b).length:=by omega
    rw [drop_one (trimL b) j hj',rowA] at hrow
    refine⟨⟨by omega,by omega⟩,by kernel_rfl,⟨by omega,by omega⟩,⟨by omega,by omega⟩,trivial,⟨by omega,by omega⟩,w2',⟨by omega,by omega⟩,rfl,(trimL b).length-(j+1),by omega,j+1,addAt r2 (k.toNat+j) (mulL x ((trimL b).getD j 0)),by omega,rfl,by rw [addAt_len];exact hr2,hrow,rfl,?_⟩
    have e:(k+j).toNat=k.toNat+j:=by omega
    show [Blk.row true .u8 (q.set k.toNat x),Blk.row true .u8 (r2.set (k+j).toNat (r2.getD (k+j).toNat 0^^^mulL x ((trimL b).getD j 0)))]=_
    rw [e]
    rfl
   ·have hje:j=(trimL b).length:=by omega
    rw [hje,List.drop_length,rowA] at hrow
    refine⟨⟨by omega,by omega⟩,rfl,k.toNat,by omega,k-1,q.set k.toNat x,r2,by omega,by omega,by omega,by rw [List.length_set];exact hql,hr2,?_,rfl,rfl⟩
    rw [hrow]
    exact hdiv
  ·replace hk:¬0≤k:=hk
   have e1:(k+1).toNat=0:=by omega
   rw [e1,divA] at hdiv
   rw [←hdiv]
   exact⟨om (q.length≤1000000),om (r.length≤1000000),rfl,rfl,rfl,rfl⟩
def C16:List (Nat×Con):=(100,pureC [.v (.sl .u8),.v (.sl .u8)] sDivide)::C15
theorem k16:Known Tryd.prog (En C16 tys G6 []):=k15.add Tryd.func100 Tryd.call100 [.o .u8,.o .u8] fun ds p v bs h hp=>by
 unfold sDivide at h
 split at h<;>simp only [Option.some.injEq,Prod.mk.injEq,reduceCtorEq] at h
 obtain⟨rfl,rfl,rfl⟩:=h
 exact bDivide _ _ hp.1 hp.2.1 hp.2.2

def C17:List (Nat×Con):=C16
theorem k17:Known Tryd.prog (En C17 tys G6 []):=k16
def rightP (xs ys:List UInt8):Prop:=xs.Nodup∧xs.length=ys.length
def sRight:List V→Option (Prop×V×List Blk)
 |[.sl false .u8 a,.sl false .u8 b]=>some (a.length≤100000∧b.length≤100000,.b (rightP a b), [])
 |_=>none
theorem nodup_snoc (l:List UInt8) (x:UInt8):(l++ [x]).Nodup↔l.Nodup∧x∉l:=by
 rw [List.nodup_append]
 constructor
 ·rintro⟨h1,_,h3⟩
  exact⟨h1,fun hx=>h3 x hx x (by simp) rfl⟩
 ·rintro⟨h1,h2⟩
  refine⟨h1,by simp,fun a ha b hb=> ?_⟩
  simp only [List.mem_singleton] at hb
  subst hb
  exact fun e=>h2 (e▸ha)
theorem bRight (a b:List UInt8) (ha:a.length≤100000) (hb:b.length≤100000):bodyP (En C17 tys G6 []) Tryd.f96 [.k] [.sl false .u8 a,.sl false .u8 b] (.b (rightP a b)) []:=by
 refine⟨1, [(0,.k),(1,.k),(5,.k),(8,.k),(9,.k),(10,.k)],fun n vs H=>∃(k:Nat) (seen:List Bool),k≤a.length∧n=a.length-k∧seen.length=256∧(∀c:UInt8,seen.getD c.toNat false=true↔c∈a.take k)∧(a.take k).Nodup∧
  vs= [.sl false .u8 a,.sl false .u8 b,.ptr 0 1 0 0,.sl false .u8 a,.int .i64 a.length,.int .i64 k]∧H= [.row true .bool seen],⟨rfl,a.length,0,List.replicate 256 false,by omega,rfl,by rw [List.length_replicate],?_,by simp,rfl,rfl⟩,?_⟩
 ·intro c
  have:=c.toNat_lt
  have e:(List.replicate 256 false).getD c.toNat false=false:=by
   simp only [List.getD_eq_getElem?_getD,List.getElem?_replicate]
   split<;>rfl
  rw [e,List.take_zero]
  simp
 rintro n vs H ⟨k,seen,hk,rfl,hsl,hseen,hnd,rfl,rfl⟩
 refine⟨fun hlt=> ?_,fun hlt=> ?_⟩
 ·have hk':k<a.length:=by omega
  obtain⟨x,hx⟩:∃x,x=a.getD k 0:=⟨_,rfl⟩
  have hxt:=x.toNat_lt
  have hts:a.take (k+1)=a.take k++ [x]:=by rw [take_snoc a k hk',hx]
  have hxi:((x.toNat:Int)).toNat=x.toNat:=by omega
  refine⟨⟨by omega,by omega⟩,?_⟩
  have hx':a.getD (k:Int).toNat Ty.u8.dflt=x:=hx.symm
  rw [hx']
  refine⟨⟨by omega,by omega,hsl⟩,fun hs=> ?_,fun hs=> ?_⟩
  ·replace hs:seen.getD x.toNat false=true:=hs
   have hno:¬rightP a b:=fun h=>by
    have h1:(a.take (k+1)).Nodup:=h.1.sublist (List.take_sublist _ _)
    rw [hts,nodup_snoc] at h1
    exact h1.2 ((hseen x).1 hs)
   refine⟨rfl,rfl,congrArg V.b (propext ⟨fun h=>absurd h (by decide),fun h=>absurd h hno⟩),rfl⟩
  ·replace hs:¬seen.getD x.toNat false=true:=hs
   have hno:x∉a.take k:=fun h=>hs ((hseen x).2 h)
   refine⟨⟨by omega,by omega,hsl⟩,w2',⟨by omega,by omega⟩,rfl,a.length-(k+1),by omega,k+1,seen.set x.toNat true,by omega,rfl,by rw [List.length_set];exact hsl,fun c=> ?_,?_,rfl,?_⟩
   ·rw [hts,List.mem_append,List.mem_singleton,←hseen c]
    by_cases hc:x.toNat=c.toNat
    ·have:c=x:=(UInt8.toNat_inj.1 hc).symm
     subst this
     simp [List.getD_eq_getElem?_getD,hsl,hxt]
    ·have hne:c≠x:=fun h=>hc (by rw [h])
     simp [List.getD_eq_getElem?_getD,List.getElem?_set_ne hc,hne]
   ·rw [hts,nodup_snoc]
    exact⟨hnd,hno⟩
   ·show [Blk.row true .bool (seen.set x.toNat (@decide (true=true) (Classical.propDecidable _)))]=_
    simp
 ·have hke:k=a.length:=by omega
  rw [hke,List.take_length] at hnd
  refine⟨rfl,rfl,congrArg V.b (propext ?_),rfl⟩
  show(a.length:Int)=b.length↔rightP a b
  exact⟨fun h=>⟨hnd,by omega⟩,fun h=>by have:=h.2;omega⟩
def C18:List (Nat×Con):=(96,pureC [.v (.sl .u8),.v (.sl .u8)] sRight)::C17
theorem k18:Known Tryd.prog (En C18 tys G6 []):=k17.add Tryd.func96 Tryd.call96 [.k] fun ds p v bs h hp=>by
 unfold sRight at h
 split at h<;>simp only [Option.some.injEq,Prod.mk.injEq,reduceCtorEq] at h
 obtain⟨rfl,rfl,rfl⟩:=h
 exact bRight _ _ hp.1 hp.2

theorem prodL_len (a b:List UInt8):(prodL a b).length≤a.length+b.length:=by
 unfold prodL
 refine Nat.le_trans (trimL_len _) ?_
 rw [prodA_len,List.length_replicate]
 exact Nat.le_refl _
def rootsL (xs:List UInt8):List UInt8:=xs.foldl (fun p x=>prodL p [x,1]) [1]
theorem rootsL_snoc (xs:List UInt8) (x:UInt8):rootsL (xs++ [x])=prodL (rootsL xs) [x,1]:=by simp [rootsL]
theorem rootsL_len (xs:List UInt8):(rootsL xs).length≤1+2*xs.length:=by
 have:∀(xs p:List UInt8),(xs.foldl (fun p x=>prodL p [x,1]) p).length≤p.length+2*xs.length:=by
  intro xs
  induction xs with
  |nil=>intro p;simp
  |cons x xs ih=>
   intro p
   have h1:=ih (prodL p [x,1])
   have h2:=prodL_len p [x,1]
   simp only [List.foldl_cons,List.length_cons,List.length_nil] at*
   omega
 exact this xs [1]
def sRoots:List V→Option (Prop×V×List Blk)
 |[.sl false .u8 a]=>some (a.length≤10000,.own .u8 0, [.row true .u8 (rootsL a)])
 |_=>none
theorem bRoots (a:List UInt8) (ha:a.length≤10000):bodyP (En C18 tys G6 []) Tryd.f97 [.o .u8] [.sl false .u8 a] (.own .u8 0) [.row true .u8 (rootsL a)]:=by
 refine⟨0, [(3,.o .u8),(7,.k),(8,.k),(9,.k)],fun n vs H=>∃k:Nat,k≤a.length∧n=a.length-k∧vs= [.own .u8 0,.sl false .u8 a,.int .i64 a.length,.int .i64 k]∧H= [.row true .u8 (rootsL (a.take k))],⟨rfl,a.length,0,by omega,rfl,rfl,rfl⟩,?_⟩
 rintro n vs H ⟨k,hk,rfl,rfl,rfl⟩
 have hlen:=rootsL_len (a.take k)
 rw [List.length_take] at hlen
 refine⟨fun hlt=> ?_,fun hlt=> ?_⟩
 ·have hk':k<a.length:=by omega
  refine⟨⟨by omega,by omega⟩,⟨om ((rootsL (a.take k)).length≤100000),om (2≤100000)⟩,⟨by omega,by omega⟩,rfl,a.length-(k+1),by omega,k+1,by omega,rfl,rfl,?_⟩
  rw [take_snoc a k hk',rootsL_snoc]
  rfl
 ·have hke:k=a.length:=by omega
  subst hke
  rw [List.take_length]
  exact d4'
def C19:List (Nat×Con):=(97,pureC [.v (.sl .u8)] sRoots)::C18
theorem k19:Known Tryd.prog (En C19 tys G6 []):=k18.add Tryd.func97 Tryd.call97 [.o .u8] fun ds p v bs h hp=>by
 unfold sRoots at h
 split at h<;>simp only [Option.some.injEq,Prod.mk.injEq,reduceCtorEq] at h
 obtain⟨rfl,rfl,rfl⟩:=h
 exact bRoots _ hp

def divQ (a b:List UInt8):List UInt8:=trimL (divR a b).1
theorem divQ_len (a b:List UInt8):(divQ a b).length≤a.length+1:=by
 unfold divQ divR
 have h1:=trimL_len a
 refine Nat.le_trans (trimL_len _) ?_
 rw [(divA_len _ _ _ _ _).1,List.length_replicate]
 omega
def partL (all:List UInt8) (x y:UInt8):List UInt8:=prodL (divQ all [x,1]) [mulL y (invL (horner x (divQ all [x,1])))]
theorem partL_len (all:List UInt8) (x y:UInt8):(partL all x y).length≤all.length+2:=by
 have h1:=divQ_len all [x,1]
 have h2:=prodL_len (divQ all [x,1]) [mulL y (invL (horner x (divQ all [x,1])))]
 unfold partL
 simp only [List.length_cons,List.length_nil] at h2
 omega
theorem trim_x1 (x:UInt8):trimL [x,1]≠ []:=by
 have:trimL [x,1]= [x,1]:=trimL_snoc 1 [x]
 rw [this]
 simp
def sPart:List V→Option (Prop×V×List Blk)
 |[.u8 x,.u8 y,.rp false (.sl .u8) all 0]=>some (all.length≤50000,.own .u8 0, [.row true .u8 (partL all x y)])
 |_=>none
theorem bPart (x y:UInt8) (all:List UInt8) (ha:all.length≤50000):bodyP (En C19 tys G6 []) Tryd.f115 [.o .u8] [.u8 x,.u8 y,.rp false (.sl .u8) all 0] (.own .u8 0) [.row true .u8 (partL all x y)]:=by
 have h1:=divQ_len all [x,1]
 refine⟨⟨om (all.length≤100000),om (2≤100000),trim_x1 x⟩,?_⟩
 refine⟨om ((divQ all [x,1]).length≤1000000),trivial,trivial,⟨om ((divQ all [x,1]).length≤100000),om (1≤100000)⟩,rfl,rfl,rfl,rfl⟩
def C20:List (Nat×Con):=(115,pureC [.v .u8,.v .u8,.ref (.sl .u8)] sPart)::C19
theorem k20:Known Tryd.prog (En C20 tys G6 []):=k19.add Tryd.func115 Tryd.call115 [.o .u8] fun ds p v bs h hp=>by
 unfold sPart at h
 split at h<;>simp only [Option.some.injEq,Prod.mk.injEq,reduceCtorEq] at h
 obtain⟨rfl,rfl,rfl⟩:=h
 exact bPart _ _ _ hp
def thrF (all:List UInt8) (zs:List (UInt8×UInt8)):List UInt8:=zs.foldl (fun p q=>sumL [p,partL all q.1 q.2]) []
def thrL (xs ys:List UInt8):List UInt8:=thrF (rootsL xs) (xs.zip ys)
theorem thrF_snoc (all:List UInt8) (zs:List (UInt8×UInt8)) (q:UInt8×UInt8):thrF all (zs++ [q])=sumL [thrF all zs,partL all q.1 q.2]:=by simp [thrF]
theorem thrF_len (all:List UInt8) (zs:List (UInt8×UInt8)):(thrF all zs).length≤all.length+2:=by
 have:∀(zs:List (UInt8×UInt8)) (p:List UInt8),p.length≤all.length+2→(zs.foldl (fun p q=>sumL [p,partL all q.1 q.2]) p).length≤all.length+2:=by
  intro zs
  induction zs with
  |nil=>intro p h;exact h
  |cons q zs ih=>
   intro p h
   refine ih _ (Nat.le_trans (trimL_len _) (sumA_len _ _ fun r hr=> ?_))
   simp only [List.mem_cons,List.not_mem_nil,or_false] at hr
   rcases hr with hr|hr<;>subst hr
   ·exact h
   ·exact partL_len _ _ _
 exact this zs [] (by simp)
theorem zip_snoc (xs ys:List UInt8) (k:Nat) (h1:k<xs.length) (h2:k<ys.length):(xs.take (k+1)).zip (ys.take (k+1))=(xs.take k).zip (ys.take k)++ [(xs.getD k 0,ys.getD k 0)]:=by
 rw [take_snoc xs k h1,take_snoc ys k h2,List.zip_append (by simp;omega)]
 rfl
def sThrough:List V→Option (Prop×V×List Blk)
 |[.sl false .u8 a,.sl false .u8 b]=>some (a.length≤10000∧a.length=b.length,.own .u8 0, [.row true .u8 (thrL a b)])
 |_=>none
theorem bThrough (a b:List UInt8) (ha:a.length≤10000) (hab:a.length=b.length):bodyP (En C20 tys G6 []) Tryd.f98 [.o .u8] [.sl false .u8 a,.sl false .u8 b] (.own .u8 0) [.row true .u8 (thrL a b)]:=by
 have hall:=rootsL_len a
 refine⟨ha,w3',?_⟩
 refine⟨2, [(1,.k),(6,.k),(7,.o .u8),(13,.k),(14,.k),(15,.k)],fun n vs H=>∃k:Nat,k≤a.length∧n=a.length-k∧vs= [.sl false .u8 b,.fn 115 [.ptr 1 1 0 0],.own .u8 2,.sl false .u8 a,.int .i64 a.length,.int .i64 k]∧H= [.row true .u8 (rootsL a),.cells [.own .u8 0],.row true .u8 (thrF (rootsL a) ((a.take k).zip (b.take k)))],⟨rfl,a.length,0,by omega,rfl,rfl,rfl⟩,?_⟩
 rintro n vs H ⟨k,hk,rfl,rfl,rfl⟩
 have hlen:=thrF_len (rootsL a) ((a.take k).zip (b.take k))
 refine⟨fun hlt=> ?_,fun hlt=> ?_⟩
 ·have hk':k<a.length:=by omega
  have hpl:=partL_len (rootsL a) (a.getD k 0) (b.getD k 0)
  refine⟨⟨by omega,by omega⟩,⟨by omega,by omega⟩,om ((rootsL a).length≤50000),⟨om (2≤1000),?_⟩,⟨by omega,by omega⟩,rfl,a.length-(k+1),by omega,k+1,by omega,rfl,rfl,?_⟩
  ·intro p hp
   replace hp:p∈ [thrF (rootsL a) ((a.take k).zip (b.take k)),partL (rootsL a) (a.getD k 0) (b.getD k 0)]:=hp
   simp only [List.mem_cons,List.not_mem_nil,or_false] at hp
   rcases hp with h|h<;>subst h<;>omega
  ·rw [zip_snoc a b k hk' (by omega),thrF_snoc]
   rfl
 ·have hke:k=a.length:=by omega
  rw [hke,List.take_length,hab,List.take_length]
  exact d4'
def C21:List (Nat×Con):=(98,pureC [.v (.sl .u8),.v (.sl .u8)] sThrough)::C20
theorem k21:Known Tryd.prog (En C21 tys G6 []):=k20.add Tryd.func98 Tryd.call98 [.o .u8] fun ds p v bs h hp=>by
 unfold sThrough at h
 split at h<;>simp only [Option.some.injEq,Prod.mk.injEq,reduceCtorEq] at h
 obtain⟨rfl,rfl,rfl⟩:=h
 exact bThrough _ _ hp.1 hp.2
instance (xs ys:List UInt8):Decidable (rightP xs ys):=inferInstanceAs (Decidable (_∧_))
def ipL (xs ys:List UInt8):List UInt8×Int:=if rightP xs ys then(thrL xs ys,0) else([],1)
def sIp:List V→Option (Prop×V×List Blk)
 |[.sl false .u8 a,.sl false .u8 b]=>some (a.length≤10000∧b.length≤10000,.tup [.own .u8 0,.int .i64 (ipL a b).2], [.row true .u8 (ipL a b).1])
 |_=>none
def C22:List (Nat×Con):=C21
theorem k22:Known Tryd.prog (En C22 tys G6 []):=k21
def tpL (xs ys:List UInt8) (d:Int):List UInt8×Int:=
 if rightP xs ys then if d<0 then([],3) else if(xs.length:Int)≤d then([],3) else if d<degL (thrL xs ys) then([],8) else(thrL xs ys,0) else([],1)
def sTp:List V→Option (Prop×V×List Blk)
 |[.sl false .u8 a,.sl false .u8 b,.int .i64 d]=>some (a.length≤10000∧b.length≤10000,.tup [.own .u8 0,.int .i64 (tpL a b d).2], [.row true .u8 (tpL a b d).1])
 |_=>none
theorem thrL_len (xs ys:List UInt8):(thrL xs ys).length≤2*xs.length+3:=by
 have h1:=thrF_len (rootsL xs) (xs.zip ys)
 have h2:=rootsL_len xs
 unfold thrL
 omega
theorem bTp (a b:List UInt8) (d:Int) (ha:a.length≤10000) (hb:b.length≤10000):bodyP (En C22 tys G6 []) Tryd.f87 [.o .u8,.k] [.sl false .u8 a,.sl false .u8 b,.int .i64 d] (.tup [.own .u8 0,.int .i64 (tpL a b d).2]) [.row true .u8 (tpL a b d).1]:=by
 refine⟨⟨om (a.length≤100000),om (b.length≤100000)⟩,fun h=> ?_,fun h=> ?_⟩
 ·rw [show tpL a b d=_ from if_neg h]
  exact d4'
 ·have h:rightP a b:=nw h
  rw [show tpL a b d=_ from if_pos h]
  have hl:=thrL_len a b
  refine⟨fun hn=>⟨fun h2=> ?_,fun h2=> ?_⟩,fun hp=> ?_⟩
  ·replace hn:¬d<0:=hn
   replace h2:(a.length:Int)≤d:=h2
   rw [if_neg hn,if_pos h2]
   exact d4'
  ·replace hn:¬d<0:=hn
   replace h2:¬(a.length:Int)≤d:=h2
   rw [if_neg hn,if_neg h2]
   refine⟨⟨ha,h.2⟩,om ((thrL a b).length≤1000000),yn (d<degL (thrL a b)) (fun h3=> ?_) fun h3=> ?_⟩
   ·rw [if_pos h3]
    exact d4'
   ·rw [if_neg h3]
    exact d4'
  ·replace hp:d<0:=hp
   rw [if_pos hp]
   exact d4'
def C23:List (Nat×Con):=(87,pureC [.v (.sl .u8),.v (.sl .u8),.v (.int .i64)] sTp)::C22
theorem k23:Known Tryd.prog (En C23 tys G6 []):=k22.add Tryd.func87 Tryd.call87 [.o .u8,.k] fun ds p v bs h hp=>by
 unfold sTp at h
 split at h<;>simp only [Option.some.injEq,Prod.mk.injEq,reduceCtorEq] at h
 obtain⟨rfl,rfl,rfl⟩:=h
 exact bTp _ _ _ hp.1 hp.2
def divM (a b:List UInt8):List UInt8:=trimL (divR a b).2
def small (l:List UInt8):Prop:=l.length≤40000
instance (l:List UInt8):Decidable (small l):=inferInstanceAs (Decidable (_≤_))
def eu:Nat→Int→List UInt8→List UInt8→List UInt8→List UInt8→Option (List UInt8×List UInt8)
 |0,_,_,_,_,_=>none
 | f+1,m,a,b,u,v=>if small a∧small b∧small u∧small v then
   if 2*degL b<m then some (b,v) else if trimL b= [] then none else eu f m b (divM a b) v (sumL [u,prodL (divQ a b) v])
  else none
def missA (p xs ys:List UInt8):Nat→List Int
 |0=> []
 |k+1=>if horner (xs.getD k 0) p≠ys.getD k 0 then missA p xs ys k++ [(k:Int)] else missA p xs ys k
theorem missA_len (p xs ys:List UInt8):∀k,(missA p xs ys k).length≤k
 |0=>Nat.le_refl _
 |k+1=>by
  have:=missA_len p xs ys k
  unfold missA
  split
  ·rw [List.length_append,List.length_singleton];omega
  ·omega
def decEnd (xs ys:List UInt8) (d w:Int) (b v:List UInt8):Option (List UInt8×List Int×Int):=
 if trimL v= [] then none else if 0<(divM b v).length then some ([], [],17) else if d<degL (divQ b v) then some ([], [],17) else
  if w<(missA (divQ b v) xs ys xs.length).length then some ([], [],17) else some (divQ b v,missA (divQ b v) xs ys xs.length,0)
def decL (xs ys:List UInt8) (d w:Int):Option (List UInt8×List Int×Int):=
 if rightP xs ys then
  if d<0∨w<0∨(xs.length:Int)≤d∨((xs.length:Int)-d-1)/2<w then some ([], [],3)
  else match eu 20000 (xs.length+d+1) (rootsL xs) (thrL xs ys) [] [1] with
   |none=>none
   |some (b,v)=>decEnd xs ys d w b v
 else some ([], [],1)
def sDec:List V→Option (Prop×V×List Blk)
 |[.sl false .u8 a,.sl false .u8 b,.int .i64 d,.int .i64 w]=>match decL a b d w with
  |some (p,l,e)=>some (a.length≤10000∧b.length≤10000,.tup [.own .u8 0,.own (.int .i64) 1,.int .i64 e], [.row true .u8 p,.row true (.int .i64) l])
  |none=>none
 |_=>none
theorem bDec (a b:List UInt8) (d w:Int) (p:List UInt8) (l:List Int) (e:Int) (ha:a.length≤10000) (hb:b.length≤10000) (hd:decL a b d w=some (p,l,e)):
  bodyP (En C23 tys G6 []) Tryd.f76 [.o .u8,.o (.int .i64),.k] [.sl false .u8 a,.sl false .u8 b,.int .i64 d,.int .i64 w] (.tup [.own .u8 0,.own (.int .i64) 1,.int .i64 e]) [.row true .u8 p,.row true (.int .i64) l]:=by
 have bad:∀{c:Int},decL a b d w=some ([], [],c)→p= []∧l= []∧e=c:=fun {c} h=>by
  rw [h] at hd
  simp only [Option.some.injEq,Prod.mk.injEq] at hd
  exact⟨hd.1.symm,hd.2.1.symm,hd.2.2.symm⟩
 refine⟨⟨om (a.length≤100000),om (b.length≤100000)⟩,fun h=> ?_,fun h=> ?_⟩
 ·obtain⟨rfl,rfl,rfl⟩:=bad (if_neg h)
  exact d4'
 have h:rightP a b:=nw h
 have bad3:(d<0∨w<0∨(a.length:Int)≤d∨((a.length:Int)-d-1)/2<w)→p= []∧l= []∧e=3:=fun hx=>bad (by unfold decL;rw [if_pos h,if_pos hx])
 refine⟨fun h1=>⟨fun h2=>⟨fun h3=> ?_,fun h3=> ?_⟩,fun h2=> ?_⟩,fun h1=> ?_⟩
 rotate_left
 ·obtain⟨rfl,rfl,rfl⟩:=bad3 (.inr (.inr (.inl h3)))
  exact d4'
 ·obtain⟨rfl,rfl,rfl⟩:=bad3 (.inr (.inl h2))
  exact d4'
 ·obtain⟨rfl,rfl,rfl⟩:=bad3 (.inl h1)
  exact d4'
 replace h1:¬d<0:=h1
 replace h2:¬w<0:=h2
 replace h3:¬(a.length:Int)≤d:=h3
 refine⟨⟨by omega,by omega⟩,⟨by omega,by omega⟩,.inl ⟨⟨by omega,by omega⟩,⟨fun h4=> ?_,fun h4=> ?_⟩⟩⟩
 ·obtain⟨rfl,rfl,rfl⟩:=bad3 (.inr (.inr (.inr h4)))
  exact d4'
 replace h4:¬((a.length:Int)-d-1)/2<w:=h4
 have hx:¬(d<0∨w<0∨(a.length:Int)≤d∨((a.length:Int)-d-1)/2<w):=by
  rintro(h|h|h|h)<;>contradiction
 unfold decL at hd
 rw [if_pos h,if_neg hx] at hd
 cases heu:eu 20000 (a.length+d+1) (rootsL a) (thrL a b) [] [1] with
 |none=>rw [heu] at hd;cases hd
 |some q=>
 obtain⟨b1,v1⟩:=q
 rw [heu] at hd
 replace hd:decEnd a b d w b1 v1=some (p,l,e):=hd
 refine⟨ha,⟨ha,h.2⟩,?_⟩
 refine⟨0, [(0,.k),(1,.k),(2,.k),(3,.k),(9,.k),(11,.k),(12,.d .u8),(13,.d .u8),(14,.d .u8),(15,.d .u8)],fun f vs H=>∃a' b' u' v':List UInt8,eu f (a.length+d+1) a' b' u' v'=some (b1,v1)∧vs= [.sl false .u8 a,.sl false .u8 b,.int .i64 d,.int .i64 w,.nils,.int .i64 a.length,.sl true .u8 a',.sl true .u8 b',.sl true .u8 u',.sl true .u8 v']∧H= [],⟨rfl,20000,rootsL a,thrL a b, [], [1],heu,rfl,rfl⟩,?_⟩
 rintro f vs H ⟨a',b',u',v',he,rfl,rfl⟩
 cases f with
 |zero=>cases he
 |succ f=>
 unfold eu at he
 split at he
 ·rename_i hsm
  obtain⟨hs1,hs2,hs3,hs4⟩:=hsm
  unfold small at hs1 hs2 hs3 hs4
  have htb:=trimL_len b'
  have hdeg:degL b'=(trimL b').length-1:=rfl
  refine⟨om (b'.length≤1000000),⟨by omega,by omega⟩,⟨by omega,by omega⟩,⟨by omega,by omega⟩,yn (2*degL b'<a.length+d+1) (fun h5=> ?_) fun h5=> ?_⟩
  ·rw [if_pos h5] at he
   simp only [Option.some.injEq,Prod.mk.injEq] at he
   obtain⟨rfl,rfl⟩:=he
   unfold decEnd at hd
   split at hd
   ·cases hd
   ·rename_i htr
    have hq:=divQ_len b' v'
    have bad':∀{c:Int},some (([]:List UInt8),([]:List Int),c)=some (p,l,e)→p= []∧l= []∧e=c:=fun {c} h=>by
     simp only [Option.some.injEq,Prod.mk.injEq] at h
     exact⟨h.1.symm,h.2.1.symm,h.2.2.symm⟩
    refine⟨⟨om (b'.length≤100000),om (v'.length≤100000),htr⟩,fun g1=>⟨om ((divQ b' v').length≤1000000),⟨fun h6=> ?_,fun h6=> ?_⟩⟩,fun g1=> ?_⟩
    ·replace g1:¬(0:Int)<(divM b' v').length:=g1
     replace h6:d<degL (divQ b' v'):=h6
     rw [if_neg (by omega),if_pos h6] at hd
     obtain⟨rfl,rfl,rfl⟩:=bad' hd
     exact d4'
    ·replace g1:¬(0:Int)<(divM b' v').length:=g1
     replace h6:¬d<degL (divQ b' v'):=h6
     rw [if_neg (by omega),if_neg h6] at hd
     refine⟨0, [(1,.k),(3,.k),(8,.o .u8),(9,.o (.int .i64)),(91,.k),(92,.k),(93,.k)],fun n vs H=>∃k:Nat,k≤a.length∧n=a.length-k∧vs= [.sl false .u8 b,.int .i64 w,.own .u8 0,.own (.int .i64) 1,.sl false .u8 a,.int .i64 a.length,.int .i64 k]∧H= [.row true .u8 (divQ b' v'),.row true (.int .i64) (missA (divQ b' v') a b k)],⟨rfl,a.length,0,by omega,rfl,rfl,rfl⟩,?_⟩
     rintro n vs H ⟨k,hk,rfl,rfl,rfl⟩
     have hml:=missA_len (divQ b' v') a b k
     have hab:=h.2
     refine⟨fun hlt=> ?_,fun hlt=> ?_⟩
     ·have hk':k<a.length:=by omega
      refine⟨⟨by omega,by omega⟩,by kernel_rfl,om ((divQ b' v').length≤1000000),⟨by omega,by omega⟩,yn (horner (a.getD k 0) (divQ b' v')≠b.getD k 0) (fun h7=> ?_) fun h7=> ?_⟩
      ·refine⟨rfl,w2',?_,⟨by omega,by omega⟩,rfl,a.length-(k+1),by omega,k+1,by omega,rfl,rfl,?_⟩
       ·show(missA (divQ b' v') a b k).length+1≤1000000000
        omega
       rw [show missA (divQ b' v') a b (k+1)=_ from if_pos h7]
       rfl
      ·refine⟨⟨by omega,by omega⟩,rfl,a.length-(k+1),by omega,k+1,by omega,rfl,rfl,?_⟩
       rw [show missA (divQ b' v') a b (k+1)=_ from if_neg h7]
       rfl
     ·have hke:k=a.length:=by omega
      subst hke
      refine yn (w<(missA (divQ b' v') a b a.length).length) (fun h8=> ?_) fun h8=> ?_
      ·rw [if_pos h8] at hd
       obtain⟨rfl,rfl,rfl⟩:=bad' hd
       exact d4'
      ·rw [if_neg h8] at hd
       simp only [Option.some.injEq,Prod.mk.injEq] at hd
       obtain⟨rfl,rfl,rfl⟩:=hd
       exact d4'
    ·replace g1:(0:Int)<(divM b' v').length:=g1
     rw [if_pos (by omega)] at hd
     obtain⟨rfl,rfl,rfl⟩:=bad' hd
     exact d4'
  ·rw [if_neg h5] at he
   split at he
   ·cases he
   ·rename_i htr
    have hq:=divQ_len a' b'
    have hpr:=prodL_len (divQ a' b') v'
    refine⟨⟨om (a'.length≤100000),om (b'.length≤100000),htr⟩,⟨om ((divQ a' b').length≤100000),om (v'.length≤100000)⟩,⟨om (2≤1000),?_⟩,rfl,f,by omega,_,_,_,_,he,rfl,rfl⟩
    intro x hx
    replace hx:x∈ [u',prodL (divQ a' b') v']:=hx
    simp only [List.mem_cons,List.not_mem_nil,or_false] at hx
    rcases hx with h|h<;>subst h<;>omega
 ·cases he
instance mulComm:Std.Commutative mulL:=⟨mul_comm'⟩
instance mulAssoc:Std.Associative mulL:=⟨mul_assoc'⟩

def co (p:List UInt8) (i:Nat):UInt8:=p.getD i 0
theorem co_nil (i:Nat):co [] i=0:=rfl
theorem co_zero (c:UInt8) (p:List UInt8):co (c::p) 0=c:=rfl
theorem co_succ (c:UInt8) (p:List UInt8) (i:Nat):co (c::p) (i+1)=co p i:=rfl
theorem co_ge (p:List UInt8) (i:Nat) (h:p.length≤i):co p i=0:=by
 unfold co
 rw [List.getD_eq_getElem?_getD,List.getElem?_eq_none h]
 rfl
theorem trim_zero:∀(p:List UInt8),(∀i,co p i=0)→trimL p= []
 |[],_=>rfl
 |c::p,h=>by
  have h0:c=0:=h 0
  have hp:trimL p= []:=trim_zero p fun i=>h (i+1)
  unfold trimL
  rw [hp,if_pos h0]
theorem co_trim:∀(p:List UInt8) (i:Nat),co (trimL p) i=co p i
 |[],_=>rfl
 | c::p,i=>by
  have ih:=co_trim p
  cases hp:trimL p with
  | nil=>
   unfold trimL
   rw [hp]
   have hz:∀j,co p j=0:=fun j=>by rw [←ih j,hp];rfl
   by_cases hc:c=0
   ·rw [if_pos hc]
    cases i with
    |zero=>rw [co_zero,hc];rfl
    |succ i=>rw [co_succ,hz i];rfl
   ·rw [if_neg hc]
    cases i with
    |zero=>rfl
    |succ i=>rw [co_succ,co_succ,hz i];rfl
  |cons d q=>
   unfold trimL
   rw [hp]
   show co (c::d::q) i=_
   rw [←hp]
   cases i with
   |zero=>rfl
   |succ i=>exact ih i
theorem trim_ext:∀(p q:List UInt8),(∀i,co p i=co q i)→trimL p=trimL q
 |[],q,h=>(trim_zero q fun i=>(h i).symm).symm
 |c::p, [],h=>trim_zero _ h
 |c::p,d::q,h=>by
  have h0:c=d:=h 0
  have hp:=trim_ext p q fun i=>h (i+1)
  unfold trimL
  rw [h0,hp]
theorem trim_idem (p:List UInt8):trimL (trimL p)=trimL p:=trim_ext _ _ (co_trim p)
theorem co_eq_of_trim {p q:List UInt8} (h:trimL p=trimL q) (i:Nat):co p i=co q i:=by rw [←co_trim p,h,co_trim]
theorem co_xor:∀(a b:List UInt8) (i:Nat),co (xorL a b) i=co a i^^^co b i
 |[],b,i=>by simp [xorL,co_nil]
 |x::a, [],i=>by simp [xorL,co_nil]
 |x::a,y::b,0=>rfl
 |x::a,y::b,i+1=>by rw [xorL,co_succ,co_succ,co_succ,co_xor a b i]
theorem sumL_two (a b:List UInt8):sumL [a,b]=trimL (xorL a b):=by simp [sumL,sumA,xorL]
theorem co_sum (a b:List UInt8) (i:Nat):co (sumL [a,b]) i=co a i^^^co b i:=by rw [sumL_two,co_trim,co_xor]

def sz (p:List UInt8):Nat:=(trimL p).length
theorem sz_co (p:List UInt8) (i:Nat) (h:sz p≤i):co p i=0:=by rw [←co_trim];exact co_ge _ _ h
theorem trim_last:∀(p:List UInt8),trimL p≠ []→co p (sz p-1)≠0
 |[],h=>absurd rfl h
 | c::p,h=>by
  have ih:=trim_last p
  unfold sz at ih ⊢
  cases hp:trimL p with
  |nil=>
   unfold trimL at h ⊢
   rw [hp] at h ⊢
   by_cases hc:c=0
   ·rw [if_pos hc] at h;exact absurd rfl h
   ·rw [if_neg hc];exact hc
  |cons d q=>
   rw [hp] at ih
   unfold trimL
   rw [hp]
   have:=ih (by simp)
   simpa [co_succ] using this
theorem sz_le {p:List UInt8} {n:Nat} (h:∀i,n≤i→co p i=0):sz p≤n:=by
 by_cases hp:trimL p= []
 ·unfold sz;rw [hp];exact Nat.zero_le _
 ·have h1:=trim_last p hp
  have h2:0<sz p:=List.length_pos_iff.2 hp
  rcases Nat.lt_or_ge n (sz p) with g|g
  ·exact absurd (h _ (by omega)) h1
  ·exact g
theorem sz_zero {p:List UInt8}:sz p=0↔trimL p= []:=List.length_eq_zero_iff
theorem sz_eq {p:List UInt8} {n:Nat} (h:∀i,n<i→co p i=0) (hn:co p n≠0):sz p=n+1:=by
 have h1:sz p≤n+1:=sz_le fun i hi=>h i (by omega)
 rcases Nat.lt_or_ge n (sz p) with g|g
 ·omega
 ·exact absurd (sz_co p n g) hn
theorem degL_sz (p:List UInt8):degL p=(sz p:Int)-1:=rfl
theorem sz_trim (p:List UInt8):sz (trimL p)=sz p:=by unfold sz;rw [trim_idem]
theorem sz_len (p:List UInt8):sz p≤p.length:=trimL_len p

def cv (f g:Nat→UInt8):Nat→UInt8
 |0=>mulL (f 0) (g 0)
 |n+1=>mulL (f 0) (g (n+1))^^^cv (fun i=>f (i+1)) g n
theorem cv_addl (g:Nat→UInt8):∀(n:Nat) (f f':Nat→UInt8),cv (fun i=>f i^^^f' i) g n=cv f g n^^^cv f' g n
 |0,f,f'=>mulL_add _ _ _
 |n+1,f,f'=>by
  show mulL (f 0^^^f' 0) (g (n+1))^^^cv (fun i=>f (i+1)^^^f' (i+1)) g n=_
  rw [mulL_add,cv_addl g n (fun i=>f (i+1)) (fun i=>f' (i+1))]
  show _=(mulL (f 0) (g (n+1))^^^cv (fun i=>f (i+1)) g n)^^^(mulL (f' 0) (g (n+1))^^^cv (fun i=>f' (i+1)) g n)
  ac_rfl
theorem cv_smul (c:UInt8) (g:Nat→UInt8):∀(n:Nat) (f:Nat→UInt8),cv (fun i=>mulL c (f i)) g n=mulL c (cv f g n)
 |0,f=>mul_assoc' _ _ _
 |n+1,f=>by
  show mulL (mulL c (f 0)) (g (n+1))^^^cv (fun i=>mulL c (f (i+1))) g n=_
  rw [cv_smul c g n (fun i=>f (i+1)),mul_assoc',←mulL_addr]
  rfl
theorem cv_succ (f g:Nat→UInt8) (n:Nat):cv f g (n+1)=mulL (f 0) (g (n+1))^^^cv (fun i=>f (i+1)) g n:=rfl
theorem cv_succ':∀(n:Nat) (f g:Nat→UInt8),cv f g (n+1)=mulL (g 0) (f (n+1))^^^cv f (fun i=>g (i+1)) n
 |0,f,g=>by
  show mulL (f 0) (g 1)^^^mulL (f 1) (g 0)=mulL (g 0) (f 1)^^^mulL (f 0) (g 1)
  rw [mul_comm' (g 0)]
  ac_rfl
 |n+1,f,g=>by
  rw [cv_succ f g,cv_succ' n (fun i=>f (i+1)) g,cv_succ f (fun i=>g (i+1))]
  ac_rfl
theorem cv_comm:∀(n:Nat) (f g:Nat→UInt8),cv f g n=cv g f n
 |0,f,g=>mul_comm' _ _
 |n+1,f,g=>by rw [cv_succ',cv_comm n f,cv_succ g f]
theorem cv_assoc:∀(n:Nat) (f g h:Nat→UInt8),cv (cv f g) h n=cv f (cv g h) n
 |0,f,g,h=>mul_assoc' _ _ _
 |n+1,f,g,h=>by
  have e:(fun i=>cv f g (i+1))=fun i=>mulL (f 0) (g (i+1))^^^cv (fun i=>f (i+1)) g i:=rfl
  rw [cv_succ (cv f g) h,e,cv_addl h n (fun i=>mulL (f 0) (g (i+1))) (fun i=>cv (fun i=>f (i+1)) g i),cv_smul (f 0) h n (fun i=>g (i+1)),cv_assoc n (fun i=>f (i+1)) g h,cv_succ f (cv g h),cv_succ g h,mulL_addr]
  show mulL (mulL (f 0) (g 0)) (h (n+1))^^^_=_
  rw [mul_assoc']
  ac_rfl
theorem cv_zerol (g:Nat→UInt8):∀(n:Nat) (f:Nat→UInt8),(∀i,f i=0)→cv f g n=0
 |0,f,h=>by show mulL (f 0) _=0;rw [h,zero_mul']
 |n+1,f,h=>by rw [cv_succ,h,zero_mul',cv_zerol g n _ fun i=>h (i+1)];rfl
theorem cv_top (k:Nat) (g:Nat→UInt8) (hg:∀i,k<i→g i=0):∀(m:Nat) (f:Nat→UInt8),(∀i,m<i→f i=0)→cv f g (m+k)=mulL (f m) (g k)∧∀n,m+k<n→cv f g n=0
 | 0,f,hf=>by
  have key:∀n,cv f g n=mulL (f 0) (g n):=fun n=>by
   cases n with
   |zero=>rfl
   |succ n=>rw [cv_succ,cv_zerol g n _ fun i=>hf (i+1) (by omega)];simp
  exact⟨by rw [key,Nat.zero_add],fun n hn=>by rw [key,hg n (by omega),mul_zero']⟩
 | m+1,f,hf=>by
  obtain⟨h1,h2⟩:=cv_top k g hg m (fun i=>f (i+1)) fun i hi=>hf (i+1) (by omega)
  refine⟨?_,fun n hn=> ?_⟩
  ·rw [show m+1+k=(m+k)+1 by omega,cv_succ,hg _ (by omega),mul_zero',h1];simp
  ·cases n with
   |zero=>omega
   |succ n=>rw [cv_succ,hg _ (by omega),mul_zero',h2 n (by omega)];rfl
def sh (k:Nat) (f:Nat→UInt8) (j:Nat):UInt8:=if j<k then 0 else f (j-k)
theorem cv_delta (c:UInt8) (g:Nat→UInt8):∀(k n:Nat),cv (fun j=>if j=k then c else 0) g n=sh k (fun i=>mulL c (g i)) n
 |0,n=>by
  have key:∀i,(fun j=>if j=0 then c else(0:UInt8)) (i+1)=0:=fun i=>if_neg (by omega)
  cases n with
  |zero=>rfl
  |succ n=>rw [cv_succ,cv_zerol g n _ key];simp [sh]
 |k+1,0=>by
  show mulL (if 0=k+1 then c else 0) (g 0)=_
  rw [if_neg (by omega),zero_mul']
  simp [sh]
 | k+1,n+1=>by
  have e:(fun i=>if i+1=k+1 then c else(0:UInt8))=fun i=>if i=k then c else 0:=by
   funext i
   by_cases h:i=k
   ·rw [if_pos h,if_pos (by omega)]
   ·rw [if_neg h,if_neg (by omega)]
  rw [cv_succ,if_neg (by omega),zero_mul']
  show 0^^^cv (fun i=>if i+1=k+1 then c else 0) g n=_
  rw [e,cv_delta c g k n]
  unfold sh
  by_cases h:n<k
  ·rw [if_pos h,if_pos (by omega)];rfl
  ·rw [if_neg h,if_neg (by omega),show n+1-(k+1)=n-k by omega];simp
theorem co_set (q:List UInt8) (k:Nat) (c:UInt8) (j:Nat) (hk:k<q.length):co (q.set k c) j=if j=k then c else co q j:=by
 unfold co
 simp only [List.getD_eq_getElem?_getD,List.getElem?_set]
 by_cases h:j=k
 ·rw [if_pos h,if_pos h.symm,if_pos hk];rfl
 ·rw [if_neg h,if_neg (Ne.symm h)]
theorem co_addAt (acc:List UInt8) (i:Nat) (c:UInt8) (j:Nat) (hi:i<acc.length):co (addAt acc i c) j=co acc j^^^(if j=i then c else 0):=by
 unfold addAt
 rw [co_set _ _ _ _ hi]
 by_cases h:j=i
 ·rw [if_pos h,if_pos h,h];rfl
 ·rw [if_neg h,if_neg h];simp
theorem co_rowA (x:UInt8):∀(b acc:List UInt8) (i j:Nat),i+b.length≤acc.length→co (rowA x acc i b) j=co acc j^^^sh i (fun k=>mulL x (co b k)) j
 | [],acc,i,j,h=>by
  rw [rowA]
  have:sh i (fun k=>mulL x (co [] k)) j=0:=by
   unfold sh
   split
   ·rfl
   ·dsimp only;rw [co_nil,mul_zero']
  rw [this];simp
 | y::b,acc,i,j,h=>by
  simp only [List.length_cons] at h
  rw [rowA,co_rowA x b _ (i+1) j (by rw [addAt_len];omega),co_addAt _ _ _ _ (by omega)]
  have:sh i (fun k=>mulL x (co (y::b) k)) j=(if j=i then mulL x y else 0)^^^sh (i+1) (fun k=>mulL x (co b k)) j:=by
   unfold sh
   by_cases h1:j<i
   ·rw [if_pos h1,if_neg (by omega),if_pos (by omega)];rfl
   ·by_cases h2:j=i
    ·rw [if_neg h1,if_pos h2,if_pos (by omega),h2,Nat.sub_self];simp [co_zero]
    ·rw [if_neg h1,if_neg h2,if_neg (by omega)]
     rw [show j-i=(j-(i+1))+1 by omega]
     dsimp only
     rw [co_succ]
     simp
  rw [this]
  ac_rfl
theorem co_prodA (b:List UInt8):∀(a acc:List UInt8) (i j:Nat),i+a.length+b.length≤acc.length→co (prodA b acc i a) j=co acc j^^^sh i (cv (co a) (co b)) j
 | [],acc,i,j,h=>by
  rw [prodA]
  have:sh i (cv (co []) (co b)) j=0:=by
   unfold sh
   split
   ·rfl
   ·exact cv_zerol _ _ _ fun i=>rfl
  rw [this];simp
 | x::a,acc,i,j,h=>by
  simp only [List.length_cons] at h
  rw [prodA,co_prodA b a _ (i+1) j (by rw [rowA_len];omega),co_rowA x b acc i j (by omega)]
  have:sh i (cv (co (x::a)) (co b)) j=sh i (fun k=>mulL x (co b k)) j^^^sh (i+1) (cv (co a) (co b)) j:=by
   unfold sh
   by_cases h1:j<i
   ·rw [if_pos h1,if_pos h1,if_pos (by omega)];rfl
   ·rw [if_neg h1,if_neg h1]
    by_cases h2:j=i
    ·rw [if_pos (by omega),h2,Nat.sub_self]
     show mulL x (co b 0)=mulL x (co b 0)^^^0
     simp
    ·rw [if_neg (by omega),show j-i=(j-(i+1))+1 by omega,cv_succ]
     rfl
  rw [this]
  ac_rfl
theorem co_zeros (n i:Nat):co (List.replicate n 0) i=0:=by
 unfold co
 rw [List.getD_eq_getElem?_getD,List.getElem?_replicate]
 split<;>rfl
theorem co_prod (a b:List UInt8) (j:Nat):co (prodL a b) j=cv (co a) (co b) j:=by
 unfold prodL
 rw [co_trim,co_prodA b a _ 0 j (by rw [List.length_replicate];omega),co_zeros]
 simp [sh]
theorem prod_trim (a b:List UInt8):trimL (prodL a b)=prodL a b:=by unfold prodL;exact trim_idem _
theorem sum_trim (a b:List UInt8):trimL (sumL [a,b])=sumL [a,b]:=by rw [sumL_two];exact trim_idem _
theorem cv_congr {f f' g g':Nat→UInt8} (hf:∀i,f i=f' i) (hg:∀i,g i=g' i) (n:Nat):cv f g n=cv f' g' n:=by
 rw [show f=f' from funext hf,show g=g' from funext hg]
theorem prod_comm (a b:List UInt8):prodL a b=prodL b a:=by
 exact(prod_trim _ _).symm.trans ((trim_ext _ _ fun i=>by rw [co_prod,co_prod,cv_comm]).trans (prod_trim _ _))
theorem prod_assoc (a b c:List UInt8):prodL (prodL a b) c=prodL a (prodL b c):=by
 refine(prod_trim _ _).symm.trans ((trim_ext _ _ fun i=> ?_).trans (prod_trim _ _))
 rw [co_prod,co_prod,cv_congr (fun i=>co_prod a b i) (fun _=>rfl),cv_congr (f:=co a) (fun _=>rfl) (fun i=>co_prod b c i),cv_assoc]
theorem horner_trim (x:UInt8):∀p:List UInt8,horner x (trimL p)=horner x p
 |[]=>rfl
 | c::p=>by
  have ih:=horner_trim x p
  unfold trimL
  cases hp:trimL p with
  | nil=>
   rw [hp] at ih
   show horner x (if c=0 then [] else [c])=mulL (horner x p) x^^^c
   rw [←ih]
   by_cases hc:c=0
   ·rw [if_pos hc,hc]
    show(0:UInt8)=mulL 0 x^^^0
    rw [zero_mul'];rfl
   ·rw [if_neg hc];rfl
  |cons d q=>
   rw [hp] at ih
   show mulL (horner x (d::q)) x^^^c=mulL (horner x p) x^^^c
   rw [ih]
theorem horner_ext (x:UInt8) {p q:List UInt8} (h:∀i,co p i=co q i):horner x p=horner x q:=by
 rw [←horner_trim,trim_ext p q h,horner_trim]
theorem horner_xor (x:UInt8):∀a b:List UInt8,horner x (xorL a b)=horner x a^^^horner x b
 |[],b=>by simp [xorL,horner]
 |c::a, []=>by simp [xorL,horner]
 |c::a,d::b=>by
  show mulL (horner x (xorL a b)) x^^^(c^^^d)=(mulL (horner x a) x^^^c)^^^(mulL (horner x b) x^^^d)
  rw [horner_xor x a b,mulL_add]
  ac_rfl
theorem horner_sum (x:UInt8) (a b:List UInt8):horner x (sumL [a,b])=horner x a^^^horner x b:=by
 rw [sumL_two,horner_trim,horner_xor]
def pm:List UInt8→List UInt8→List UInt8
 |[],_=> []
 |x::a,b=>xorL (b.map (mulL x)) (0::pm a b)
theorem co_map (c:UInt8):∀(b:List UInt8) (i:Nat),co (b.map (mulL c)) i=mulL c (co b i)
 |[],i=>by show(0:UInt8)=mulL c 0;rw [mul_zero']
 |d::b,0=>rfl
 |d::b,i+1=>co_map c b i
theorem co_pm (b:List UInt8):∀(a:List UInt8) (i:Nat),co (pm a b) i=cv (co a) (co b) i
 |[],i=>(cv_zerol _ _ _ fun _=>rfl).symm
 | x::a,i=>by
  rw [pm,co_xor,co_map]
  cases i with
  |zero=>
   show mulL x (co b 0)^^^0=mulL x (co b 0)
   simp
  |succ i=>
   rw [co_succ,co_pm b a i]
   rfl
theorem horner_map (x c:UInt8):∀b:List UInt8,horner x (b.map (mulL c))=mulL c (horner x b)
 |[]=>by show(0:UInt8)=mulL c 0;rw [mul_zero']
 |d::b=>by
  show mulL (horner x (b.map (mulL c))) x^^^mulL c d=mulL c (mulL (horner x b) x^^^d)
  rw [horner_map x c b,mulL_addr,mul_assoc']
theorem horner_pm (x:UInt8) (b:List UInt8):∀a:List UInt8,horner x (pm a b)=mulL (horner x a) (horner x b)
 |[]=>by show(0:UInt8)=mulL 0 _;rw [zero_mul']
 |c::a=>by
  rw [pm,horner_xor,horner_map]
  show _^^^(mulL (horner x (pm a b)) x^^^0)=mulL (mulL (horner x a) x^^^c) (horner x b)
  rw [horner_pm x b a,mulL_add]
  have:mulL (mulL (horner x a) (horner x b)) x=mulL (mulL (horner x a) x) (horner x b):=by ac_rfl
  rw [this]
  simp only [UInt8.xor_zero]
  ac_rfl
theorem horner_prod (x:UInt8) (a b:List UInt8):horner x (prodL a b)=mulL (horner x a) (horner x b):=by
 rw [←horner_pm]
 exact horner_ext x fun i=>by rw [co_prod,co_pm]

theorem sz_prod (a b:List UInt8) (ha:trimL a≠ []) (hb:trimL b≠ []):sz (prodL a b)+1=sz a+sz b:=by
 have h1:0<sz a:=List.length_pos_iff.2 ha
 have h2:0<sz b:=List.length_pos_iff.2 hb
 have ht:=cv_top (sz b-1) (co b) (fun i hi=>sz_co b i (by omega)) (sz a-1) (co a) fun i hi=>sz_co a i (by omega)
 have hne:co (prodL a b) (sz a-1+(sz b-1))≠0:=by
  rw [co_prod,ht.1]
  intro h
  rcases mul_eq_zero' h with h|h
  ·exact trim_last a ha h
  ·exact trim_last b hb h
 have:=sz_eq (fun i hi=>by rw [co_prod];exact ht.2 i hi) hne
 omega
theorem prod_zero_l (a b:List UInt8) (ha:trimL a= []):prodL a b= []:=by
 rw [←prod_trim]
 refine trim_zero _ fun i=> ?_
 rw [co_prod]
 exact cv_zerol _ _ _ fun i=>by rw [←co_trim,ha];rfl
theorem prod_zero_r (a b:List UInt8) (hb:trimL b= []):prodL a b= []:=by rw [prod_comm];exact prod_zero_l b a hb
theorem prod_eq_nil {a b:List UInt8} (h:prodL a b= []):trimL a= []∨trimL b= []:=by
 by_cases ha:trimL a= []
 ·exact .inl ha
 ·by_cases hb:trimL b= []
  ·exact .inr hb
  ·have:=sz_prod a b ha hb
   have h1:0<sz a:=List.length_pos_iff.2 ha
   have h2:0<sz b:=List.length_pos_iff.2 hb
   have h3:sz (prodL a b)=0:=by rw [h];rfl
   omega
theorem sz_prod_le (a b:List UInt8):sz (prodL a b)≤sz a+sz b-1:=by
 by_cases ha:trimL a= []
 ·rw [prod_zero_l a b ha];exact Nat.zero_le _
 ·by_cases hb:trimL b= []
  ·rw [prod_zero_r a b hb];exact Nat.zero_le _
  ·have:=sz_prod a b ha hb
   omega
theorem sz_sum_le (a b:List UInt8) (n:Nat) (ha:sz a≤n) (hb:sz b≤n):sz (sumL [a,b])≤n:=
 sz_le fun i hi=>by rw [co_sum,sz_co a i (by omega),sz_co b i (by omega)];rfl

theorem divA_ok (b:List UInt8) (inv:UInt8) (hb:0<b.length) (hinv:mulL (co b (b.length-1)) inv=1):∀(k:Nat) (q r:List UInt8),k≤q.length→(0<k→k+b.length≤r.length+1)→(∀j,j<k→co q j=0)→(∀j,k+b.length≤j+1→co r j=0)→
  (∀n,cv (co (divA b inv k q r).1) (co b) n^^^co (divA b inv k q r).2 n=cv (co q) (co b) n^^^co r n)∧∀j,b.length≤j+1→co (divA b inv k q r).2 j=0
 |0,q,r,_,_,_,h4=>⟨fun n=>rfl,fun j hj=>h4 j (by omega)⟩
 | k+1,q,r,h1,h2,h3,h4=>by
  have h2:=h2 (by omega)
  obtain⟨c,hc⟩:∃c,c=mulL (r.getD (k+b.length-1) 0) inv:=⟨_,rfl⟩
  have hcr:c=mulL (co r (k+b.length-1)) inv:=hc
  rw [divA,←hc]
  have hrow:∀j,co (rowA c r k b) j=co r j^^^sh k (fun i=>mulL c (co b i)) j:=fun j=>co_rowA c b r k j (by omega)
  have hq:∀j,co (q.set k c) j=co q j^^^(if j=k then c else 0):=fun j=>by
   rw [co_set _ _ _ _ (by omega)]
   by_cases h:j=k
   ·rw [if_pos h,if_pos h,h,h3 k (by omega)];simp
   ·rw [if_neg h,if_neg h];simp
  have ih:=divA_ok b inv hb hinv k (q.set k c) (rowA c r k b) (by rw [List.length_set];omega) (fun _=>by rw [rowA_len];omega)
   (fun j hj=>by rw [hq,h3 j (by omega),if_neg (by omega)];rfl)
   (fun j hj=>by
    rw [hrow]
    by_cases hj2:k+b.length=j+1
    ·have hj3:j=k+b.length-1:=by omega
     unfold sh
     rw [if_neg (by omega),show j-k=b.length-1 by omega,hcr,←hj3]
     dsimp only
     rw [mul_assoc',mul_comm' inv,hinv,mul_one']
     simp
    ·rw [h4 j (by omega)]
     unfold sh
     rw [if_neg (by omega)]
     dsimp only
     rw [co_ge b _ (by omega),mul_zero']
     rfl)
  refine⟨fun n=> ?_,ih.2⟩
  rw [ih.1 n,hrow n,cv_congr (f:=co (q.set k c)) (fun j=>hq j) (fun _=>rfl),cv_addl (co b) n (co q) (fun j=>if j=k then c else 0),cv_delta]
  have:∀u v w:UInt8,u^^^v^^^(w^^^v)=u^^^w:=fun u v w=>by
   have:u^^^v^^^(w^^^v)=u^^^w^^^(v^^^v):=by ac_rfl
   rw [this];simp
  exact this _ _ _
theorem lead_inv (b:List UInt8) (hb:trimL b≠ []):mulL (co (trimL b) ((trimL b).length-1)) (invL ((trimL b).getD ((trimL b).length-1) 0))=1:=by
 refine mul_inv' _ ?_
 show co (trimL b) (sz b-1)≠0
 rw [co_trim]
 exact trim_last b hb
theorem div_any (a b r0:List UInt8) (N M:Nat) (hb:trimL b≠ []) (hr:∀i,co r0 i=co a i) (hN:N≤M) (h2:0<N→N+sz b≤r0.length+1) (h3:sz a≤N+sz b-1):
  (∀n,cv (co (divA (trimL b) (invL ((trimL b).getD ((trimL b).length-1) 0)) N (List.replicate M 0) r0).1) (co b) n^^^co (divA (trimL b) (invL ((trimL b).getD ((trimL b).length-1) 0)) N (List.replicate M 0) r0).2 n=co a n)∧
  ∀j,sz b≤j+1→co (divA (trimL b) (invL ((trimL b).getD ((trimL b).length-1) 0)) N (List.replicate M 0) r0).2 j=0:=by
 have h0:0<(trimL b).length:=List.length_pos_iff.2 hb
 have h:=divA_ok (trimL b) _ h0 (lead_inv b hb) N (List.replicate M 0) r0 (by rw [List.length_replicate];exact hN) h2 (fun j _=>co_zeros _ _) (fun j hj=>by rw [hr];exact sz_co a j (by unfold sz at*;omega))
 refine⟨fun n=> ?_,h.2⟩
 have:=h.1 n
 rw [cv_zerol (co (trimL b)) n _ (fun i=>co_zeros _ _),hr n,UInt8.zero_xor] at this
 rw [←this]
 congr 1
 exact cv_congr (fun _=>rfl) (fun i=>(co_trim b i).symm) n
theorem div_ok (a b:List UInt8) (hb:trimL b≠ []):(∀n,cv (co (divR a b).1) (co b) n^^^co (divR a b).2 n=co a n)∧∀j,sz b≤j+1→co (divR a b).2 j=0:=by
 have h0:0<sz b:=List.length_pos_iff.2 hb
 exact div_any a b (trimL a) _ _ hb (fun i=>co_trim a i) (Nat.le_refl _) (fun h=>by unfold sz at*;omega) (by unfold sz at*;omega)
theorem div_unique (b q q' r r':List UInt8) (hb:trimL b≠ []) (h:∀n,cv (co q) (co b) n^^^co r n=cv (co q') (co b) n^^^co r' n) (hr:∀j,sz b≤j+1→co r j=0) (hr':∀j,sz b≤j+1→co r' j=0):
  trimL q=trimL q'∧trimL r=trimL r':=by
 have h0:0<sz b:=List.length_pos_iff.2 hb
 have x3:∀u v w z:UInt8,u^^^v=w^^^z→u^^^w=v^^^z:=fun u v w z h=>by
  have:u^^^w=(u^^^v)^^^v^^^w:=by rw [UInt8.xor_assoc u,UInt8.xor_self,UInt8.xor_zero]
  rw [this,h]
  have:w^^^z^^^v^^^w=v^^^z^^^(w^^^w):=by ac_rfl
  rw [this,UInt8.xor_self,UInt8.xor_zero]
 have hx:∀u v:UInt8,u^^^v=0→u=v:=fun u v h=>UInt8.xor_eq_zero_iff.1 h
 have hd:∀n,cv (co (xorL q q')) (co b) n=co r n^^^co r' n:=fun n=>by
  rw [cv_congr (fun i=>co_xor q q' i) (fun _=>rfl),cv_addl]
  exact x3 _ _ _ _ (h n)
 have hz:trimL (xorL q q')= []:=Classical.byContradiction fun hne=>by
  have h1:0<sz (xorL q q'):=List.length_pos_iff.2 hne
  have ht:=(cv_top (sz b-1) (co b) (fun i hi=>sz_co b i (by omega)) (sz (xorL q q')-1) (co (xorL q q')) fun i hi=>sz_co _ i (by omega)).1
  rw [hd,hr _ (by omega),hr' _ (by omega)] at ht
  rcases mul_eq_zero' (a:=co (xorL q q') (sz (xorL q q')-1)) (b:=co b (sz b-1)) (by rw [←ht];rfl) with e|e
  ·exact trim_last _ hne e
  ·exact trim_last b hb e
 have hq:∀i,co q i=co q' i:=fun i=>hx _ _ (by rw [←co_xor,←co_trim,hz];rfl)
 refine⟨trim_ext _ _ hq,trim_ext _ _ fun i=> ?_⟩
 refine(hx _ _ ?_)
 rw [←hd i]
 exact cv_zerol _ _ _ fun j=>by rw [co_xor,hq j,UInt8.xor_self]
theorem div_sum (a b:List UInt8) (hb:trimL b≠ []):sumL [prodL (trimL (divR a b).1) b,trimL (divR a b).2]=trimL a:=by
 rw [←sum_trim]
 refine trim_ext _ _ fun i=> ?_
 rw [co_sum,co_prod,co_trim,←(div_ok a b hb).1 i]
 congr 1
 exact cv_congr (fun i=>co_trim _ i) (fun _=>rfl) i
theorem div_rem (a b:List UInt8) (hb:trimL b≠ []):sz (divR a b).2<sz b:=by
 have h0:0<sz b:=List.length_pos_iff.2 hb
 have:=sz_le (p:=(divR a b).2) (n:=sz b-1) fun j hj=>(div_ok a b hb).2 j (by omega)
 omega
end Go.Proofs.YtlmegkgkipjgbaaDoor.S33

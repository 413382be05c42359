/- Texts of this claim. -/
import Derived.Test.YtogipicegdbhdaaDoorVc10
import Derived.Test.YtogipicegdbhdaaDoorS2
set_option linter.unusedVariables false
set_option linter.unusedSimpArgs false
namespace Go.Proofs.YtogipicegdbhdaaDoor.S72c
set_option maxHeartbeats 20000000
open Go
def aY (b l n:Int):Int:=(l-b)/n+1
def dk:Int→List Int→Bool
 |_, []=>true
 |p,h::t=>decide (0≤h∧h≤11∧p<h)&&dk h t
def f5 (b l n m:Int) (hs:List Int):Int:=
 if 0≤b∧b≤1000000∧b≤l∧l≤1000000∧1≤n∧n≤1000000 then
  (if 500<aY b l n then 2 else if dk (-1) hs=true then(if 1≤m∧m≤hs.length then 0 else 3) else 1)
 else 3

structure Cal (b l n m:Int) (hs:List Int):Prop where
 b0:0≤b
 bl:b≤l
 l1:l≤1000000
 n1:1≤n
 n2:n≤1000000
 c1:1≤aY b l n
 c2:aY b l n≤500
 ho:dk (-1) hs=true
 m1:1≤m
 m2:m≤List.length hs
 h12:List.length hs≤12

theorem mR:∀(l:List Int) (p:Int),-1≤p→dk p l=true→p≤11→(List.length l:Int)≤11-p
 |[],p,_,_,hp=>by simp only [List.length_nil];omega
 |h::t,p,h0,hh,hp=>by
  simp only [dk,Bool.and_eq_true,decide_eq_true_eq] at hh
  have:=mR t h (by omega) hh.2 (by omega)
  simp only [List.length_cons];omega

theorem sA {b l n m:Int} {hs:List Int} (h:f5 b l n m hs=0):Cal b l n m hs:=by
 unfold f5 at h
 split at h
 ·rename_i h1
  split at h
  ·omega
  ·rename_i h2
   split at h
   ·rename_i h3
    split at h
    ·rename_i h4
     obtain⟨a1,a2,a3,a4,a5,a6⟩:=h1
     have:=mR hs (-1) (by omega) h3 (by omega)
     exact⟨a1,a3,a4,a5,a6,by unfold aY;have:=Int.ediv_nonneg (a:=l-b) (b:=n) (by omega) (by omega);omega,by omega,h3,h4.1,h4.2,by omega⟩
    ·omega
   ·omega
 ·omega
theorem Cal.chk {b l n m:Int} {hs:List Int} (h:Cal b l n m hs):f5 b l n m hs=0:=by
 unfold f5
 rw [if_pos ⟨h.b0,by have:=h.bl;have:=h.l1;omega,h.bl,h.l1,h.n1,h.n2⟩,if_neg (by have:=h.c2;omega),if_pos h.ho,if_pos ⟨h.m1,h.m2⟩]

def W9 (b n q:Int):Int:=b+q*n
def vn (b l n q:Int):Int:=min l (b+q*n+n-1)
def zN (b n q:Int):Int:=b+max 0 (q-1)*n
def Ob (b l n q:Int):Int:=min l (b+q*n+n-1)+2
def Zy (b l n m:Int) (hs:List Int) (q:Int):Int:=if f5 b l n m hs=0 then(if 0≤q∧q≤aY b l n-1 then 0 else 8) else f5 b l n m hs

theorem Cal.ask {b l n m:Int} {hs:List Int} (h:Cal b l n m hs) {q:Int} (h0:0≤q) (h1:q<aY b l n):Zy b l n m hs q=0:=by
 unfold Zy
 rw [if_pos h.chk,if_pos ⟨h0,by omega⟩]

theorem Qg {b l n q:Int} (hb:b≤l) (hn:1≤n) (h0:0≤q) (h1:q<aY b l n):0≤q*n∧q*n≤l-b∧q≤q*n:=by
 have h5:q*1≤q*n:=Int.mul_le_mul_of_nonneg_left hn h0
 suffices q*n≤l-b from⟨Int.mul_nonneg h0 (by omega),this,by omega⟩
 have h2:q≤(l-b)/n:=by unfold aY at h1;omega
 have h3:q*n≤((l-b)/n)*n:=Int.mul_le_mul_of_nonneg_right h2 (by omega)
 have h4:=Int.ediv_mul_le (l-b) (b:=n) (by omega)
 omega
theorem bf {α:Type} (d:α) (l:List α) (k:Nat) (h:k<l.length):l.drop k=l.getD k d::l.drop (k+1):=by
 rw [List.drop_eq_getElem_cons h]
 simp [List.getD_eq_getElem?_getD,h]
theorem cZ {α:Type} (d:α) (l:List α) (k:Nat) (h:k<l.length):l.take (k+1)=l.take k++ [l.getD k d]:=by
 rw [List.take_succ_eq_append_getElem h]
 simp [List.getD_eq_getElem?_getD,h]

def tl (hs:List Int) (k:Nat):Int:=if k=0 then -1 else hs.getD (k-1) 0
theorem ip (hs:List Int) {k:Nat} (h:0<k):tl hs k=hs.getD (k-1) 0:=if_neg (by omega)
theorem jl (hs:List Int) {k:Nat} (h:¬0<k):tl hs k= -1:=if_pos (by omega)
theorem i5 {hs:List Int} {k:Nat} (hk:k<hs.length) (hc:dk (tl hs k) (hs.drop k)=dk (-1) hs) (h:¬(0≤hs.getD k 0∧hs.getD k 0≤11∧tl hs k<hs.getD k 0)):dk (-1) hs=false:=by
 rw [←hc,bf 0 hs k hk,dk,decide_eq_false h,Bool.false_and]
theorem gb {hs:List Int} {k:Nat} (hk:k<hs.length) (hc:dk (tl hs k) (hs.drop k)=dk (-1) hs) (h:0≤hs.getD k 0∧hs.getD k 0≤11∧tl hs k<hs.getD k 0):dk (tl hs (k+1)) (hs.drop (k+1))=dk (-1) hs:=by
 rw [←hc,bf 0 hs k hk,dk,decide_eq_true h,Bool.true_and];rfl
theorem zI {hs:List Int} {k:Nat} (hk:k=hs.length) (hc:dk (tl hs k) (hs.drop k)=dk (-1) hs):dk (-1) hs=true:=by
 rw [←hc,hk,List.drop_length];rfl
open Go Go.Proofs.YtogipicegdbhdaaDoor.Vc Go.Proofs
set_option maxRecDepth 100000
set_option linter.unusedVariables false
open Go.Proofs.YtogipicegdbhdaaDoor.S72
def Rp:List V→Option (Prop×V×List Blk)
 |[.int .i64 x,.int .i64 lo,.int .i64 hi]=>some (True,.b (lo≤x∧x≤hi), [])
 |_=>none
theorem bWi (x lo:Int) (hi:Int):ap (En Vq tys G6 bi) Tryd.f73 [.k] Rp [.int .i64 x,.int .i64 lo,.int .i64 hi]:=by
 intro _
 refine yn (lo≤x) (fun h0=> ?_) fun h0=> ?_
 ·exact⟨rfl,rfl,congrArg V.b (propext (by constructor<;>intro h<;>first|omega|(exfalso;first|omega|exact Bool.noConfusion h))),rfl⟩
 ·exact⟨rfl,rfl,congrArg V.b (propext (by constructor<;>intro h<;>first|omega|(exfalso;first|omega|exact Bool.noConfusion h))),rfl⟩
def U1:List (Nat×bI):=(73,aS [.v (.int .i64),.v (.int .i64),.v (.int .i64)] Rp)::Vq
theorem kWi:Known Tryd.prog (En U1 tys G6 bi):=aBV.addQ Tryd.func73 Tryd.call73 [.k] fun ds _ _ _ h=>by unfold Rp at h;split at h;exact bWi _ _ _;cases h
def Sj:List V→Option (Prop×V×List Blk)
 |[.agg [.int .i64 b,.int .i64 l,.int .i64 d,.int .i64 m,.sl false (.int .i64) hs]]=>some (0≤b∧b≤l∧l≤1000000∧1≤d,.int .i64 (aY b l d), [])
 |_=>none
theorem aCO (b l d m:Int) (hs:List Int):ap (En U1 tys G6 bi) Tryd.f67 [.k] Sj [.agg [.int .i64 b,.int .i64 l,.int .i64 d,.int .i64 m,.sl false (.int .i64) hs]]:=by
 rintro⟨hp0,hp1,hp2,hp3⟩
 have hd:=Int.ediv_nonneg (a:=l-b) (b:=d) (by omega) (by omega)
 have hd2:=Int.ediv_le_self (a:=l-b) d (by omega)
 refine⟨aj (l-b),.inl ⟨⟨om ((0:Int)≤(l-b)),om ((0:Int)<d)⟩,?_⟩⟩
 refine⟨aj (((l-b)/d)+1),?_⟩
 exact ao
def Vr:List (Nat×bI):=(67,aS [.v (.cons (.int .i64) (.cons (.int .i64) (.cons (.int .i64) oo)))] Sj)::U1
theorem aBW:Known Tryd.prog (En Vr tys G6 bi):=kWi.addQ Tryd.func67 Tryd.call67 [.k] fun ds _ _ _ h=>by unfold Sj at h;split at h;exact aCO _ _ _ _ _;cases h
def qD:List V→Option (Prop×V×List Blk)
 |[.agg [.int .i64 b,.int .i64 l,.int .i64 d,.int .i64 m,.sl false (.int .i64) hs]]=>some (hs.length≤2000000,.int .i64 (f5 b l d m hs), [])
 |_=>none
theorem Kh (b l d m:Int) (hs:List Int):ap (En Vr tys G6 bi) Tryd.f33 [.k] qD [.agg [.int .i64 b,.int .i64 l,.int .i64 d,.int .i64 m,.sl false (.int .i64) hs]]:=by
 intro hp0
 refine⟨rfl,rfl,rfl,trivial,ny (¬(0≤b∧b≤1000000)) (fun h0=> ?_) fun h0=> ?_⟩
 ·refine⟨rfl,rfl,rfl,trivial,ny (¬(b≤l∧l≤1000000)) (fun h1=> ?_) fun h1=> ?_⟩
  ·refine⟨rfl,rfl,rfl,trivial,yn (¬(1≤d∧d≤1000000)) (fun h2=> ?_) fun h2=> ?_⟩
   ·refine⟨rfl,rfl,?_,rfl⟩
    unfold f5
    repeat' split
    all_goals first|rfl|omega|(exfalso;simp_all;done)
   ·refine⟨rfl,rfl,rfl,rfl,⟨om (0≤b),om (b≤l),om (l≤1000000),om (1≤d)⟩,yn (500<(aY b l d)) (fun h3=> ?_) fun h3=> ?_⟩
    ·refine⟨rfl,rfl,?_,rfl⟩
     unfold f5
     repeat' split
     all_goals first|rfl|omega|(exfalso;simp_all;done)
    ·refine⟨1, [(1,.k),(29,.k),(30,.k),(31,.k)],fun nM vs H=>∃(k:Nat),k≤hs.length∧dk (tl hs k) (hs.drop k)=dk (-1) hs∧nM=hs.length-k∧vs= [.p 0,.sl false (.int .i64) hs,.i (hs.length:Int),.i k]∧H= [.cells [.i b,.i l,.i d,.i m,.sl false (.int .i64) hs]],⟨rfl,hs.length,0,by omega,rfl,by omega,rfl,rfl⟩,?_⟩
     rintro nM vs H ⟨k,hc1_0,hc1_1,rfl,rfl,rfl⟩
     refine yn ((k:Int)<(hs.length:Int)) (fun h4=> ?_) fun h4=> ?_
     ·have hkl:k<hs.length:=by omega
      have hk1:((k:Int)-1).toNat=k-1:=by omega
      refine⟨ix k hs.length,rfl,rfl,rfl,trivial,ny (¬(0≤(hs.getD k 0)∧(hs.getD k 0)≤11)) (fun h5=> ?_) fun h5=> ?_⟩
      ·refine yn (0<(k:Int)) (fun h6=> ?_) fun h6=> ?_
       ·refine⟨aj (k-1),ix (k-1) hs.length,yn ((hs.getD k 0)≤(hs.getD (((k:Int)-1).toNat) 0)) (fun h7=> ?_) fun h7=> ?_⟩
        ·rw [hk1] at h7
         have e:=i5 hkl hc1_1 (by rw [ip hs (by omega)];omega)
         refine⟨rfl,rfl,?_,rfl⟩
         unfold f5
         repeat' split
         all_goals first|rfl|omega|(exfalso;simp_all;done)
        ·rw [hk1] at h7
         refine⟨aj (k+1),?_⟩
         exact⟨rfl,hs.length-(k+1),by omega,k+1,by omega,gb hkl hc1_1 (by first|(rw [ip hs (by omega)];omega)|(rw [jl hs (by omega)];omega)),rfl,rfl,rfl⟩
       ·refine⟨aj (k+1),?_⟩
        exact⟨rfl,hs.length-(k+1),by omega,k+1,by omega,gb hkl hc1_1 (by first|(rw [ip hs (by omega)];omega)|(rw [jl hs (by omega)];omega)),rfl,rfl,rfl⟩
      ·have e:=i5 hkl hc1_1 (by omega)
       refine⟨rfl,rfl,?_,rfl⟩
       unfold f5
       repeat' split
       all_goals first|rfl|omega|(exfalso;simp_all;done)
     ·have e:=zI (by omega) hc1_1
      refine⟨rfl,rfl,rfl,trivial,yn (¬(1≤m∧m≤(hs.length:Int))) (fun h8=> ?_) fun h8=> ?_⟩
      ·refine⟨rfl,rfl,?_,rfl⟩
       unfold f5
       repeat' split
       all_goals first|rfl|omega|(exfalso;simp_all;done)
      ·refine⟨rfl,rfl,?_,rfl⟩
       unfold f5
       repeat' split
       all_goals first|rfl|omega|(exfalso;simp_all;done)
  ·refine⟨rfl,rfl,?_,rfl⟩
   unfold f5
   repeat' split
   all_goals first|rfl|omega|(exfalso;simp_all;done)
 ·refine⟨rfl,rfl,?_,rfl⟩
  unfold f5
  repeat' split
  all_goals first|rfl|omega|(exfalso;simp_all;done)
def rk:List (Nat×bI):=(33,aS [.v (.cons (.int .i64) (.cons (.int .i64) (.cons (.int .i64) oo)))] qD)::Vr
theorem I2:Known Tryd.prog (En rk tys G6 bi):=aBW.addQ Tryd.func33 Tryd.call33 [.k] fun ds _ _ _ h=>by unfold qD at h;split at h;exact Kh _ _ _ _ _;cases h
def Gz:List V→Option (Prop×V×List Blk)
 |[.agg [.int .i64 b,.int .i64 l,.int .i64 d,.int .i64 m,.sl false (.int .i64) hs]]=>some (hs.length≤2000000,.int .i64 (if f5 b l d m hs=0 then aY b l d else 0), [])
 |_=>none
theorem Zh (b l d m:Int) (hs:List Int):ap (En rk tys G6 bi) Tryd.f29 [.k] Gz [.agg [.int .i64 b,.int .i64 l,.int .i64 d,.int .i64 m,.sl false (.int .i64) hs]]:=by
 intro hp0
 refine⟨rfl,rfl,rfl,rfl,om (hs.length≤2000000),yn ((f5 b l d m hs)≠0) (fun h0=> ?_) fun h0=> ?_⟩
 ·first|(rw [if_neg h0];exact⟨rfl,rfl,rfl,rfl⟩)|(rw [if_pos (nw h0)];exact⟨rfl,rfl,rfl,rfl⟩)
 ·have hc:=sA (nw h0)
  obtain⟨q1,q2,q3,q4,q5,q6,q7,_,_,_,_⟩:=hc
  refine⟨rfl,rfl,rfl,rfl,⟨om (0≤b),om (b≤l),om (l≤1000000),om (1≤d)⟩,?_⟩
  first|(rw [if_neg h0];exact⟨rfl,rfl,rfl,rfl⟩)|(rw [if_pos (nw h0)];exact⟨rfl,rfl,rfl,rfl⟩)
def Lz:List (Nat×bI):=(29,aS [.v (.cons (.int .i64) (.cons (.int .i64) (.cons (.int .i64) oo)))] Gz)::rk
theorem Yg:Known Tryd.prog (En Lz tys G6 bi):=I2.addQ Tryd.func29 Tryd.call29 [.k] fun ds _ _ _ h=>by unfold Gz at h;split at h;exact Zh _ _ _ _ _;cases h
def sSp:List V→Option (Prop×V×List Blk)
 |[.agg [.int .i64 b,.int .i64 l,.int .i64 d,.int .i64 m,.sl false (.int .i64) hs],.int .i64 q]=>some (0≤b∧b≤l∧l≤1000000∧1≤d∧d≤1000000∧0≤q∧q<aY b l d,.tup [.int .i64 (W9 b d q),.int .i64 (vn b l d q)], [])
 |_=>none
theorem bSp (b l d m:Int) (hs:List Int) (q:Int):ap (En Lz tys G6 bi) Tryd.f91 [.k,.k] sSp [.agg [.int .i64 b,.int .i64 l,.int .i64 d,.int .i64 m,.sl false (.int .i64) hs],.int .i64 q]:=by
 rintro⟨hp0,hp1,hp2,hp3,hp4,hp5,hp6⟩
 obtain⟨z1,z2,z3⟩:=Qg hp1 hp3 hp5 hp6
 refine⟨aj (q*d),aj (b+(q*d)),by kernel_rfl,aj ((b+(q*d))+d),aj (((b+(q*d))+d)-1),?_⟩
 exact ao
def CSp:List (Nat×bI):=(91,aS [.v (.cons (.int .i64) (.cons (.int .i64) (.cons (.int .i64) oo))),.v (.int .i64)] sSp)::Lz
theorem kSp:Known Tryd.prog (En CSp tys G6 bi):=Yg.addQ Tryd.func91 Tryd.call91 [.k,.k] fun ds _ _ _ h=>by unfold sSp at h;split at h;exact bSp _ _ _ _ _ _;cases h
def sEx:List V→Option (Prop×V×List Blk)
 |[.agg [.int .i64 b,.int .i64 l,.int .i64 d,.int .i64 m,.sl false (.int .i64) hs],.int .i64 q]=>some (0≤b∧b≤l∧l≤1000000∧1≤d∧d≤1000000∧0≤q∧q<aY b l d,.tup [.int .i64 (zN b d q),.int .i64 (Ob b l d q)], [])
 |_=>none
theorem bEx (b l d m:Int) (hs:List Int) (q:Int):ap (En CSp tys G6 bi) Tryd.f90 [.k,.k] sEx [.agg [.int .i64 b,.int .i64 l,.int .i64 d,.int .i64 m,.sl false (.int .i64) hs],.int .i64 q]:=by
 rintro⟨hp0,hp1,hp2,hp3,hp4,hp5,hp6⟩
 obtain⟨z1,z2,z3⟩:=Qg hp1 hp3 hp5 hp6
 have hz:vn b l d q≤l∧b-1≤vn b l d q:=by unfold vn;omega
 refine⟨aj (q-1),rfl,rfl,rfl,rfl,rfl,⟨om (0≤b),om (b≤l),om (l≤1000000),om (1≤d),om (d≤1000000),om (0≤(max 0 (q-1))),om ((max 0 (q-1))<aY b l d)⟩,rfl,rfl,rfl,rfl,rfl,⟨om (0≤b),om (b≤l),om (l≤1000000),om (1≤d),om (d≤1000000),om (0≤q),om (q<aY b l d)⟩,aj ((vn b l d q)+2),?_⟩
 exact ao
def CEx:List (Nat×bI):=(90,aS [.v (.cons (.int .i64) (.cons (.int .i64) (.cons (.int .i64) oo))),.v (.int .i64)] sEx)::CSp
theorem kEx:Known Tryd.prog (En CEx tys G6 bi):=kSp.addQ Tryd.func90 Tryd.call90 [.k,.k] fun ds _ _ _ h=>by unfold sEx at h;split at h;exact bEx _ _ _ _ _ _;cases h
def aZ (v:Int):List Int→Int→Int
 |[],_=> -1
 |x::t,k=>if v=x then k else aZ v t (k+1)
theorem du (v:Int):∀(l:List Int) (k:Int),0≤k→(0≤aZ v l k↔v∈l)
 |[],k,_=>by simp [aZ]
 | x::t,k,h=>by
  unfold aZ
  split
  ·rename_i e;subst e;simp [h]
  ·rename_i e
   rw [du v t (k+1) (by omega)]
   simp [e]

abbrev Cp:=Int×Int×Unit
def rW (x:Cp):Bool:=decide (0≤x.1∧x.1≤11∧0≤x.2.1∧x.2.1≤1000000)
def xc (l:List Cp):Int:=if 500<l.length then 2 else if l.all rW=true then 0 else 3
theorem aBm {l:List Cp} (h:xc l=0):l.length≤500∧∀x∈l,rW x=true:=by
 unfold xc at h
 split at h
 ·omega
 ·split at h
  ·rename_i h1 h2;exact⟨by omega,by simpa using h2⟩
  ·omega
theorem O4 {x:Cp} (h:rW x=true):0≤x.1∧x.1≤11∧0≤x.2.1∧x.2.1≤1000000:=by simpa [rW] using h

theorem B8 {x:Cp} (h:¬(0≤x.1∧x.1≤11∧0≤x.2.1∧x.2.1≤1000000)):rW x=false:=decide_eq_false h
theorem Kb {x:Cp} (h:0≤x.1∧x.1≤11∧0≤x.2.1∧x.2.1≤1000000):rW x=true:=decide_eq_true h
theorem dz {α:Type} {d:α} {p:α→Bool} {l:List α} {k:Nat} (hk:k<l.length) (hc:(l.drop k).all p=l.all p) (h:p (l.getD k d)=false):l.all p=false:=by
 rw [←hc,bf d l k hk,List.all_cons,h,Bool.false_and]
theorem ie {α:Type} {d:α} {p:α→Bool} {l:List α} {k:Nat} (hk:k<l.length) (hc:(l.drop k).all p=l.all p) (h:p (l.getD k d)=true):(l.drop (k+1)).all p=l.all p:=by
 rw [←hc,bf d l k hk,List.all_cons,h,Bool.true_and]
theorem Pm {α:Type} {p:α→Bool} {l:List α} {k:Nat} (hk:l.length≤k) (hc:(l.drop k).all p=l.all p):l.all p=true:=by
 rw [←hc,List.drop_eq_nil_of_le hk];rfl

def Em (b l d t q:Int):Bool:=decide (zN b d q≤t∧t≤Ob b l d q)
def yC (b l d t:Int):Nat→Int→List Int
 |0,_=> []
 |f+1,q=>if Em b l d t q=true then q::yC b l d t f (q+1) else yC b l d t f (q+1)
def dy (b l d t:Int):List Int:=yC b l d t (aY b l d).toNat 0
theorem mj (b l d t:Int):∀(f:Nat) (q x:Int),x∈yC b l d t f q↔q≤x∧x<q+f∧Em b l d t x=true
 |0,q,x=>by simp [yC];omega
 | f+1,q,x=>by
  unfold yC
  split
  ·rename_i h
   rw [List.mem_cons,mj b l d t f (q+1) x]
   constructor
   ·rintro(rfl|⟨h1,h2,h3⟩)
    ·exact⟨by omega,by omega,h⟩
    ·exact⟨by omega,by omega,h3⟩
   ·rintro⟨h1,h2,h3⟩
    by_cases e:x=q
    ·exact .inl e
    ·exact .inr ⟨by omega,by omega,h3⟩
  ·rename_i h
   rw [mj b l d t f (q+1) x]
   constructor
   ·rintro⟨h1,h2,h3⟩;exact⟨by omega,by omega,h3⟩
   ·rintro⟨h1,h2,h3⟩
    refine⟨?_,by omega,h3⟩
    by_cases e:x=q
    ·subst e;exact absurd h3 h
    ·omega
theorem xg (b l d t:Int):∀(j f:Nat) (q:Int),(∀x,q≤x→x<q+j→Em b l d t x=false)→yC b l d t (f+j) q=yC b l d t f (q+j)
 |0,f,q,_=>by simp
 |j+1,f,q,h=>by
  rw [show f+(j+1)=(f+j)+1 by omega,yC,if_neg (by rw [h q (by omega) (by omega)];simp),xg b l d t j f (q+1) fun x h1 h2=>h x (by omega) (by omega)]
  congr 1;omega
theorem Ca (b l d t:Int) (f:Nat) (q:Int) (h:∀x,q≤x→x<q+f→Em b l d t x=false):yC b l d t f q= []:=by
 cases e:yC b l d t f q with
 |nil=>rfl
 |cons x r=>
  have:=(mj b l d t f q x).1 (by rw [e];simp)
  rw [h x this.1 this.2.1] at this
  simp at this
theorem Ir (a d:Int) (hd:0<d):max 0 (Int.tdiv a d)=if 0≤a then a/d else 0:=by
 split
 ·rename_i h
  rw [Int.tdiv_eq_ediv_of_nonneg h]
  have:=Int.ediv_nonneg h (by omega:0≤d)
  omega
 ·rename_i h
  have:a.tdiv d= -((-a)/d):=by rw [Go.tdiv_eq_if,if_neg (by omega)]
  have:=Int.ediv_nonneg (a:= -a) (b:=d) (by omega) (by omega)
  omega
theorem Kj {b l d t:Int} (hd:1≤d) {x:Int} (h1:x<max 0 (Int.tdiv (t-2-b) d)) (h0:0≤x):Em b l d t x=false:=by
 rw [Ir _ _ (by omega)] at h1
 split at h1
 ·rename_i h2
  have h3:x+1≤(t-2-b)/d:=by omega
  have h4:=Int.mul_le_mul_of_nonneg_right h3 (by omega:0≤d)
  have h5:=Int.ediv_mul_le (t-2-b) (b:=d) (by omega)
  have h6:(x+1)*d=x*d+d:=by rw [Int.add_mul,Int.one_mul]
  apply decide_eq_false
  unfold Ob
  omega
 ·omega
theorem El {b d q x:Int} (hd:1≤d) (h:q≤x):zN b d q≤zN b d x:=by
 unfold zN
 have:=Int.mul_le_mul_of_nonneg_right (by omega:max 0 (q-1)≤max 0 (x-1)) (by omega:0≤d)
 omega
theorem Pa {b l d t q:Int} (hd:1≤d) (h:t<zN b d q) {x:Int} (hx:q≤x):Em b l d t x=false:=by
 have:=El (b:=b) hd hx
 apply decide_eq_false
 omega
theorem Ki {b l d t:Int} (hd:1≤d) (hc:0≤aY b l d):dy b l d t=yC b l d t (aY b l d-max 0 (Int.tdiv (t-2-b) d)).toNat (max 0 (Int.tdiv (t-2-b) d)):=by
 obtain⟨q0,hq⟩:∃q0:Nat,max 0 (Int.tdiv (t-2-b) d)=(q0:Int):=⟨(max 0 (Int.tdiv (t-2-b) d)).toNat,by omega⟩
 have he:∀x:Int,0≤x→x<q0→Em b l d t x=false:=fun x h0 h1=>Kj hd (by omega) h0
 rw [hq]
 unfold dy
 rcases Nat.le_total q0 (aY b l d).toNat with h|h
 ·rw [show(aY b l d).toNat=(aY b l d-q0).toNat+q0 by omega,xg _ _ _ _ q0 _ 0 fun x h1 h2=>he x h1 (by omega)]
  congr 1
  omega
 ·rw [show(aY b l d-(q0:Int)).toNat=0 by omega,Ca _ _ _ _ _ 0 fun x h1 h2=>he x h1 (by omega)]
  rfl

theorem ng {α:Type} {l r:List α} {x d:α} {k:Nat} (h:l.drop k=x::r):k<l.length∧l.getD k d=x∧l.drop (k+1)=r:=by
 have hk:k<l.length:=by
  rcases Nat.lt_or_ge k l.length with g|g
  ·exact g
  ·rw [List.drop_eq_nil_of_le g] at h;cases h
 rw [bf d l k hk] at h
 injection h with h1 h2
 exact⟨hk,h1,h2⟩
theorem mZ {α:Type} {l:List α} {k:Nat} (hk:k≤l.length) (h:l.drop k= []):k=l.length:=by
 have:=List.drop_eq_nil_iff.1 h;omega

theorem getD_mem {α:Type} (d:α) (l:List α) (k:Nat) (h:k<l.length):l.getD k d∈l:=by
 simp [List.getD_eq_getElem?_getD,h]
theorem Us {b l d t:Int} {n:Nat} (hc:0≤aY b l d) (h:n<(dy b l d t).length):0≤(dy b l d t).getD n 0∧(dy b l d t).getD n 0<aY b l d∧Em b l d t ((dy b l d t).getD n 0)=true:=by
 have:=(mj b l d t (aY b l d).toNat 0 _).1 (getD_mem 0 (dy b l d t) n h)
 exact⟨this.1,by have:=this.2.1;omega,this.2.2⟩
theorem nU:∀(l:List Int) (p:Int) (k:Nat),dk p l=true→k<l.length→0≤l.getD k 0∧l.getD k 0≤11
 |[],p,k,_,hk=>by simp at hk
 |h::t,p,0,hh,hk=>by
  simp only [dk,Bool.and_eq_true,decide_eq_true_eq] at hh
  exact⟨hh.1.1,hh.1.2.1⟩
 |h::t,p,k+1,hh,hk=>by
  simp only [dk,Bool.and_eq_true,decide_eq_true_eq] at hh
  have:=nU t h k hh.2 (by simpa using hk)
  simpa using this
theorem Cz {a:Int} (h:0≤a) (n:Nat):0≤a/2^n:=Int.ediv_nonneg h (Int.pow_nonneg (by omega))

def mk (N:Nat) (F:Nat→Nat→Bool):List (List Bool):=(List.range N).map fun q=>(List.range 12).map (F q)
theorem zA (N F):(mk N F).length=N:=by simp [mk]
theorem zB {N:Nat} {F:Nat→Nat→Bool} {q:Nat} (h:q<N) (e:List Bool):(mk N F).getD q e=(List.range 12).map (F q):=by
 simp [mk,List.getD_eq_getElem?_getD,h]
theorem pI {f:Nat→Bool} {h:Nat} (hh:h<12) (e:Bool):((List.range 12).map f).getD h e=f h:=by
 simp [List.getD_eq_getElem?_getD,hh]
theorem ef {N:Nat} {F G:Nat→Nat→Bool} (h:∀q h,q<N→h<12→F q h=G q h):mk N F=mk N G:=by
 apply List.map_congr_left
 intro q hq
 apply List.map_congr_left
 intro k hk
 exact h q k (by simpa using hq) (by simpa using hk)
theorem M1 (f:Nat→Bool) (h:Nat) (v:Bool):((List.range 12).map f).set h v=(List.range 12).map fun x=>if x=h then v else f x:=by
 apply List.ext_getElem (by simp)
 intro i h1 h2
 simp only [List.getElem_set,List.getElem_map,List.getElem_range]
 by_cases e:h=i
 ·subst e;simp
 ·rw [if_neg e,if_neg (fun x=>e x.symm)]
theorem Io {N:Nat} {F:Nat→Nat→Bool} {q:Nat} (hq:q<N) (h:Nat) (v:Bool) (e:List Bool):
  (mk N F).set q (((mk N F).getD q e).set h v)=mk N fun x y=>if x=q∧y=h then v else F x y:=by
 rw [zB hq,M1]
 apply List.ext_getElem (by simp [mk])
 intro i h1 h2
 simp only [mk,List.getElem_set,List.getElem_map,List.getElem_range]
 by_cases e:q=i
 ·subst e
  rw [if_pos rfl]
  apply List.map_congr_left
  intro y hy
  by_cases e2:y=h
  ·simp [e2]
  ·simp [e2]
 ·rw [if_neg e]
  apply List.map_congr_left
  intro y hy
  rw [if_neg (fun x=>e x.1.symm)]
theorem Nx (N:Nat):List.replicate N (List.replicate 12 false)=mk N fun _ _=>false:=by
 apply List.ext_getElem (by simp [mk])
 intro i h1 h2
 simp only [mk,List.getElem_replicate,List.getElem_map,List.getElem_range]
 rfl

def Ke (bad:Int) (h:Nat):Bool:=decide (bad/2^h%2=1)
theorem O7 (x:Int) (h:0≤x):((x.toNat&&&(1:Int).toNat:Nat):Int)=x%2:=by
 have:x.toNat&&&1=x.toNat%2:=Nat.and_one_is_mod _
 rw [show(1:Int).toNat=1 from rfl,this];omega
theorem Et {bad:Int} (h0:0≤bad) (h:Int):(@decide ((((bad/2^h.toNat).toNat&&&(1:Int).toNat:Nat):Int)=1) (Classical.propDecidable _))=Ke bad h.toNat:=by
 have e:=O7 (bad/2^h.toNat) (Int.ediv_nonneg h0 (by exact_mod_cast Nat.zero_le _))
 unfold Ke
 rw [←e]
 congr

def fG (hs:List Int) (bad:Int) (i k:Nat) (q h:Nat):Bool:=(decide (q<i)&&hs.contains (h:Int)||decide (q=i)&&(hs.take k).contains (h:Int))&&Ke bad h
def B7 (b l d:Int) (q h:Nat) (x:Cp):Bool:=decide (x.1=h)&&Em b l d x.2.1 q
def c9 (b l d:Int) (hs:List Int) (bad:Int) (caps:List Cp) (q h:Nat):Bool:=hs.contains (h:Int)&&(Ke bad h||caps.any (B7 b l d q h))

theorem yU (hs bad N):mk N (fG hs bad 0 0)=mk N fun _ _=>false:=ef fun q h _ _=>by simp [fG]
theorem lC (hs:List Int) (k:Nat) (hk:k<hs.length) (x:Int):(hs.take (k+1)).contains x=((hs.take k).contains x||decide (x=hs.getD k 0)):=by
 rw [cZ 0 hs k hk]
 simp [Bool.eq_iff_iff]
theorem yW {hs:List Int} {bad:Int} {N i k:Nat} (hk:k<hs.length) (h0:0≤hs.getD k 0) (h1:hs.getD k 0≤11) (hi:i<N) (e:List Bool):
  (mk N (fG hs bad i k)).set i (((mk N (fG hs bad i k)).getD i e).set ((hs.getD k 0).toNat*1) (Ke bad (hs.getD k 0).toNat))=mk N (fG hs bad i (k+1)):=by
 rw [Nat.mul_one,Io hi]
 refine ef fun q h hq hh=> ?_
 unfold fG
 rw [lC hs k hk]
 by_cases e1:q=i
 ·subst e1
  by_cases e2:h=(hs.getD k 0).toNat
  ·have e3:(h:Int)=hs.getD k 0:=by omega
   have e4:(h:Int)=hs.getD k 0:=e3
   rw [if_pos ⟨rfl,e2⟩,←e2]
   generalize hs.getD k 0=y at e4 ⊢
   simp [e4]
  ·have e3:¬(h:Int)=hs.getD k 0:=by omega
   rw [if_neg (fun x=>e2 x.2)]
   generalize hs.getD k 0=y at e3 ⊢
   simp [e3]
 ·rw [if_neg (fun x=>e1 x.1)]
  simp [e1]
theorem yX (hs bad N i):mk N (fG hs bad i hs.length)=mk N (fG hs bad (i+1) 0):=ef fun q h _ _=>by
 unfold fG
 rw [List.take_length,List.take_zero,Bool.eq_iff_iff]
 simp only [Bool.and_eq_true,Bool.or_eq_true,decide_eq_true_eq]
 constructor
 ·rintro⟨h|h,h2⟩
  ·exact⟨.inl ⟨by omega,h.2⟩,h2⟩
  ·exact⟨.inl ⟨by omega,h.2⟩,h2⟩
 ·rintro⟨h|h,h2⟩
  ·by_cases e:q=i
   ·exact⟨.inr ⟨e,h.2⟩,h2⟩
   ·exact⟨.inl ⟨by omega,h.2⟩,h2⟩
  ·simp at h
theorem C0 (b l d hs bad N):mk N (fG hs bad N 0)=mk N (c9 b l d hs bad []):=ef fun q h hq _=>by
 simp [fG,c9,hq,Nat.ne_of_lt hq]

theorem qC {b l d:Int} {hs:List Int} {bad:Int} {caps:List Cp} {N k:Nat} (hk:k<caps.length) (h:¬(caps.getD k (0,0,())).1∈hs):mk N (c9 b l d hs bad (caps.take k))=mk N (c9 b l d hs bad (caps.take (k+1))):=
 ef fun q x _ _=>by
  rw [cZ (0,0,()) caps k hk]
  unfold c9
  rw [List.any_append]
  by_cases e:(caps.getD k (0,0,())).1=(x:Int)
  ·have:hs.contains (x:Int)=false:=by rw [←e];simpa using h
   rw [this];simp
  ·generalize caps.getD k (0,0,())=y at e ⊢
   simp [B7,e]
def jY (b l d:Int) (hs:List Int) (bad:Int) (caps:List Cp) (x:Cp) (n:Nat) (q h:Nat):Bool:=c9 b l d hs bad caps q h||decide (x.1=h)&&((dy b l d x.2.1).take n).contains (q:Int)
theorem yR (b l d hs bad caps x N):mk N (jY b l d hs bad caps x 0)=mk N (c9 b l d hs bad caps):=ef fun q h _ _=>by simp [jY]
theorem yS {b l d:Int} {hs:List Int} {bad:Int} {caps:List Cp} {x:Cp} {n N:Nat} {v:Bool} (hv:v=true) (hx:x.1∈hs) (h0:0≤x.1) (h1:x.1≤11) (hn:n<(dy b l d x.2.1).length) (hq0:0≤(dy b l d x.2.1).getD n 0) (hq1:((dy b l d x.2.1).getD n 0).toNat<N) (e:List Bool):
  (mk N (jY b l d hs bad caps x n)).set ((dy b l d x.2.1).getD n 0).toNat (((mk N (jY b l d hs bad caps x n)).getD ((dy b l d x.2.1).getD n 0).toNat e).set (x.1.toNat*1) v)=mk N (jY b l d hs bad caps x (n+1)):=by
 subst hv
 rw [Nat.mul_one,Io hq1]
 refine ef fun q h hq hh=> ?_
 unfold jY
 rw [lC _ n hn]
 by_cases e1:q=((dy b l d x.2.1).getD n 0).toNat
 ·have e3:(q:Int)=(dy b l d x.2.1).getD n 0:=by omega
  by_cases e2:h=x.1.toNat
  ·have e4:x.1=(h:Int):=by omega
   rw [if_pos ⟨e1,e2⟩]
   simp [e4,e3]
  ·have e4:¬x.1=(h:Int):=by omega
   rw [if_neg (fun x=>e2 x.2)]
   simp [e4]
 ·have e3:¬(q:Int)=(dy b l d x.2.1).getD n 0:=by omega
  rw [if_neg (fun x=>e1 x.1)]
  simp only [e3,decide_false,Bool.or_false]
theorem sR {b l d:Int} {hs:List Int} {bad:Int} {caps:List Cp} {k N:Nat} (hk:k<caps.length) (hc:aY b l d=N) (hx:(caps.getD k (0,0,())).1∈hs):
  mk N (jY b l d hs bad (caps.take k) (caps.getD k (0,0,())) (dy b l d (caps.getD k (0,0,())).2.1).length)=mk N (c9 b l d hs bad (caps.take (k+1))):=ef fun q h hq _=>by
 rw [cZ (0,0,()) caps k hk]
 unfold jY c9
 rw [List.take_length,List.any_append]
 have e:(dy b l d (caps.getD k (0,0,())).2.1).contains (q:Int)=Em b l d (caps.getD k (0,0,())).2.1 q:=by
  rw [Bool.eq_iff_iff,List.contains_iff_mem]
  unfold dy
  rw [mj]
  constructor
  ·exact fun h=>h.2.2
  ·exact fun h=>⟨by omega,by omega,h⟩
 rw [e]
 generalize caps.getD k (0,0,())=y at hx ⊢
 by_cases e2:y.1=(h:Int)
 ·have:hs.contains (h:Int)=true:=by rw [←e2];simpa using hx
  rw [this];simp [B7,e2,Bool.or_assoc]
 ·simp [B7,e2]

def kt (f:Nat→Bool):Nat→Nat
 |0=>0
 |k+1=>kt f k+(if f k=true then 1 else 0)
theorem rU {f g:Nat→Bool}:∀{k:Nat},(∀i,i<k→f i=g i)→kt f k=kt g k
 |0,_=>rfl
 |k+1,h=>by rw [kt,kt,rU fun i hi=>h i (by omega),h k (by omega)]
theorem B5 (f:Nat→Bool):∀k,kt f k≤k
 |0=>Nat.le_refl _
 |k+1=>by have:=B5 f k;rw [kt];split<;>omega
def F3 (b l d m:Int) (hs:List Int) (bad:Int) (caps:List Cp) (q:Nat):Bool:=decide (m≤(kt (c9 b l d hs bad caps q) 12:Int))
def tY (b l d m:Int) (hs:List Int) (bad:Int) (caps:List Cp) (k:Nat):List Int:=((List.range k).filter (F3 b l d m hs bad caps)).map Int.ofNat
theorem kH (b l d m hs bad caps k):tY b l d m hs bad caps (k+1)=tY b l d m hs bad caps k++(if F3 b l d m hs bad caps k=true then [(k:Int)] else []):=by
 unfold tY
 rw [List.range_succ,List.filter_append,List.map_append]
 split<;>simp_all
theorem F4 (b l d m hs bad caps k):(tY b l d m hs bad caps k).length≤k:=by
 unfold tY
 rw [List.length_map]
 exact Nat.le_trans (List.length_filter_le _ _) (by simp)
def iC (b l d m:Int) (hs:List Int) (bad:Int) (caps:List Cp):Int:=if f5 b l d m hs=0 then(if 0≤bad∧bad≤4095 then xc caps else 1) else f5 b l d m hs
theorem aAu {b l d m:Int} {hs:List Int} {bad:Int} {caps:List Cp} (h:iC b l d m hs bad caps=0):Cal b l d m hs∧0≤bad∧bad≤4095∧caps.length≤500∧∀x∈caps,rW x=true:=by
 unfold iC at h
 split at h
 ·rename_i h1
  split at h
  ·rename_i h2;exact⟨sA h1,h2.1,h2.2,aBm h⟩
  ·omega
 ·contradiction
def gK (b l d m:Int) (hs:List Int) (bad:Int) (caps:List Cp):List Int:=if iC b l d m hs bad caps=0 then tY b l d m hs bad caps (aY b l d).toNat else []
def yZ:List V→Option (Prop×V×List Blk)
 |[.sl false (.int .i64) s,.int .i64 x]=>some (s.length≤2000000,.int .i64 (aZ x s 0), [])
 |_=>none
theorem Uo (s:List Int) (x:Int):ap (En CEx tys G6 bi) Tryd.f47 [.k] yZ [.sl false (.int .i64) s,.int .i64 x]:=by
 intro hp0
 refine⟨0, [(0,.k),(1,.k),(7,.k),(8,.k)],fun nM vs H=>∃(k:Nat),k≤s.length∧aZ x (s.drop k) k=aZ x s 0∧nM=s.length-k∧vs= [.sl false (.int .i64) s,.i x,.i (s.length:Int),.i k]∧H= [],⟨rfl,s.length,0,by omega,rfl,by omega,rfl,rfl⟩,?_⟩
 rintro nM vs H ⟨k,hc1_0,hc1_1,rfl,rfl,rfl⟩
 refine yn ((k:Int)<(s.length:Int)) (fun h0=> ?_) fun h0=> ?_
 ·rw [bf 0 s k (by omega),aZ] at hc1_1
  refine⟨ix k s.length,yn (x=(s.getD k 0)) (fun h1=> ?_) fun h1=> ?_⟩
  ·rw [if_pos h1] at hc1_1
   rw [←hc1_1]
   exact ao
  ·rw [if_neg h1] at hc1_1
   refine⟨aj (k+1),?_⟩
   exact⟨rfl,s.length-(k+1),by omega,k+1,by omega,hc1_1,rfl,rfl,rfl⟩
 ·rw [List.drop_eq_nil_of_le (by omega),aZ] at hc1_1
  rw [←hc1_1]
  exact ao
def zk:List (Nat×bI):=(47,aS [.v (.sl (.int .i64)),.v (.int .i64)] yZ)::CEx
theorem Tf:Known Tryd.prog (En zk tys G6 bi):=kEx.addQ Tryd.func47 Tryd.call47 [.k] fun ds _ _ _ h=>by unfold yZ at h;split at h;exact Uo _ _;cases h
def yb:List V→Option (Prop×V×List Blk)
 |[.sl false (.int .i64) s,.int .i64 x]=>some (s.length≤2000000,.b (x∈s), [])
 |_=>none
theorem Uq (s:List Int) (x:Int):ap (En zk tys G6 bi) Tryd.f74 [.k] yb [.sl false (.int .i64) s,.int .i64 x]:=by
 intro hp0
 refine⟨rfl,om (s.length≤2000000),?_⟩
 exact⟨rfl,rfl,congrArg V.b (propext (du x s 0 (by omega))),rfl⟩
def zl:List (Nat×bI):=(74,aS [.v (.sl (.int .i64)),.v (.int .i64)] yb)::zk
theorem Tg:Known Tryd.prog (En zl tys G6 bi):=Tf.addQ Tryd.func74 Tryd.call74 [.k] fun ds _ _ _ h=>by unfold yb at h;split at h;exact Uq _ _;cases h
def Sm:List V→Option (Prop×V×List Blk)
 |[.sl false (.cons (.int .i64) (.cons (.int .i64) .nil)) a]=>some (a.length≤2000000,.int .i64 (xc a), [])
 |_=>none
theorem aCR (a:List (Int×(Int×Unit))):ap (En zl tys G6 bi) Tryd.f39 [.k] Sm [.sl false (.cons (.int .i64) (.cons (.int .i64) .nil)) a]:=by
 intro hp0
 refine yn (500<(a.length:Int)) (fun h0=> ?_) fun h0=> ?_
 ·refine⟨rfl,rfl,?_,rfl⟩
  unfold xc
  repeat' split
  all_goals first|rfl|omega|(exfalso;simp_all;done)
 ·refine⟨0, [(3,.k),(9,.k),(10,.k),(11,.k)],fun nM vs H=>∃(k:Nat),k≤a.length∧(a.drop k).all rW=a.all rW∧nM=a.length-k∧vs= [.i 0,.sl false (.cons (.int .i64) (.cons (.int .i64) .nil)) a,.i (a.length:Int),.i k]∧H= [],⟨rfl,a.length,0,by omega,rfl,by omega,rfl,rfl⟩,?_⟩
  rintro nM vs H ⟨k,hc1_0,hc1_1,rfl,rfl,rfl⟩
  refine yn ((k:Int)<(a.length:Int)) (fun h1=> ?_) fun h1=> ?_
  ·have hk:k<a.length:=by omega
   refine⟨ix k a.length,cm,rfl,rfl,rfl,trivial,ny (¬(0≤((a.getD k (0,0,())).1)∧((a.getD k (0,0,())).1)≤11)) (fun h2=> ?_) fun h2=> ?_⟩
   ·refine⟨rfl,rfl,rfl,trivial,yn (¬(0≤(((a.getD k (0,0,())).2).1)∧(((a.getD k (0,0,())).2).1)≤1000000)) (fun h3=> ?_) fun h3=> ?_⟩
    ·have e:=dz (d:=(0,0,())) hk hc1_1 (B8 (by omega))
     refine⟨rfl,rfl,?_,rfl⟩
     unfold xc
     repeat' split
     all_goals first|rfl|omega|(exfalso;simp_all;done)
    ·refine⟨aj (k+1),?_⟩
     exact⟨rfl,a.length-(k+1),by omega,k+1,by omega,ie (d:=(0,0,())) hk hc1_1 (Kb (by omega)),rfl,rfl,rfl⟩
   ·have e:=dz (d:=(0,0,())) hk hc1_1 (B8 (by omega))
    refine⟨rfl,rfl,?_,rfl⟩
    unfold xc
    repeat' split
    all_goals first|rfl|omega|(exfalso;simp_all;done)
  ·have e:=Pm (by omega) hc1_1
   refine⟨rfl,rfl,?_,rfl⟩
   unfold xc
   repeat' split
   all_goals first|rfl|omega|(exfalso;simp_all;done)
def Vv:List (Nat×bI):=(39,aS [.v (.sl (.cons (.int .i64) (.cons (.int .i64) .nil)))] Sm)::zl
theorem aBa:Known Tryd.prog (En Vv tys G6 bi):=Tg.addQ Tryd.func39 Tryd.call39 [.k] fun ds _ _ _ h=>by unfold Sm at h;split at h;exact aCR _;cases h
def V2:List V→Option (Prop×Nat×(Nat→List V))
 |[.rp false (.int .i64) t 0,.rp false (.cons (.int .i64) (.cons (.int .i64) (.cons (.int .i64) (.cons (.int .i64) (.cons (.sl (.int .i64)) .nil))))) c 0]=>some (Cal c.1 c.2.1 c.2.2.1 c.2.2.2.1 c.2.2.2.2.1∧0≤t∧t≤1000000,((dy c.1 c.2.1 c.2.2.1 t).length,fun n=> [.int .i64 ((dy c.1 c.2.1 c.2.2.1 t).getD n 0)]))
 |_=>none
theorem bAt (t:Int) (c:(Int×(Int×(Int×(Int×(List Int×Unit)))))) (hp0:Cal c.1 c.2.1 c.2.2.1 c.2.2.2.1 c.2.2.2.2.1) (hp1:0≤t) (hp2:t≤1000000):s9 (En Vv tys G6 bi).inR Tryd.f94 [.rp false (.int .i64) t 0,.rp false (.cons (.int .i64) (.cons (.int .i64) (.cons (.int .i64) oo))) c 0] [.v (.int .i64)] ((dy c.1 c.2.1 c.2.2.1 t).length,fun n=> [.int .i64 ((dy c.1 c.2.1 c.2.2.1 t).getD n 0)]):=by
 obtain⟨q1,q2,q3,q4,q5,q6,q7,q8,q9,q10,q11⟩:=id hp0
 have hst:=Ki (b:=c.1) (l:=c.2.1) (t:=t) q4 (by omega)
 obtain⟨q0,hq0⟩:∃q0:Nat,max 0 (Int.tdiv (t-2-c.1) c.2.2.1)=(q0:Int):=⟨(max 0 (Int.tdiv (t-2-c.1) c.2.2.1)).toNat,by omega⟩
 rw [hq0] at hst
 refine⟨rfl,aj (t-2),aj ((t-2)-c.1),.inr (.inr ⟨om ((0:Int)<c.2.2.1),?_⟩)⟩
 refine⟨0, [(0,.k),(1,.k),(2,.k),(4,.k)],fun nM vs H=>∃(k q:Nat),k≤(dy c.1 c.2.1 c.2.2.1 t).length∧(dy c.1 c.2.1 c.2.2.1 t).drop k=yC c.1 c.2.1 c.2.2.1 t (aY c.1 c.2.1 c.2.2.1-q).toNat q∧nM=(aY c.1 c.2.1 c.2.2.1).toNat-q∧vs= [.yld (some k),.rp false (.int .i64) t 0,.rp false (.cons (.int .i64) (.cons (.int .i64) (.cons (.int .i64) oo))) c 0,.i q]∧H= [],⟨rfl,(aY c.1 c.2.1 c.2.2.1).toNat-q0,0,q0,by omega,hst,by omega,by rw [←hq0];rfl,rfl⟩,?_⟩
 rintro nM vs H ⟨k,q,hc1_0,hc1_1,rfl,rfl,rfl⟩
 refine⟨rfl,rfl,rfl,rfl,⟨om (0≤c.1),om (c.1≤c.2.1),om (c.2.1≤1000000),om (1≤c.2.2.1)⟩,yn ((q:Int)<(aY c.1 c.2.1 c.2.2.1)) (fun h0=> ?_) fun h0=> ?_⟩
 ·obtain⟨f,hf⟩:∃f:Nat,(aY c.1 c.2.1 c.2.2.1-q).toNat=f+1:=⟨(aY c.1 c.2.1 c.2.2.1-q).toNat-1,by omega⟩
  have hf2:(aY c.1 c.2.1 c.2.2.1-((q+1:Nat):Int)).toNat=f:=by omega
  rw [hf] at hc1_1
  refine⟨rfl,rfl,rfl,rfl,rfl,⟨om (0≤c.1),om (c.1≤c.2.1),om (c.2.1≤1000000),om (1≤c.2.2.1),om (c.2.2.1≤1000000),om (0≤(q:Int)),om ((q:Int)<aY c.1 c.2.1 c.2.2.1)⟩,yn (t<(zN c.1 c.2.2.1 (q:Int))) (fun h1=> ?_) fun h1=> ?_⟩
  ·rw [Ca _ _ _ _ _ _ fun x g1 _=>Pa q4 h1 g1] at hc1_1
   have hz:=mZ hc1_0 hc1_1
   show(k:Nat)=(dy c.1 c.2.1 c.2.2.1 t).length
   omega
  ·refine yn (t≤(Ob c.1 c.2.1 c.2.2.1 (q:Int))) (fun h2=> ?_) fun h2=> ?_
   ·have hx:Em c.1 c.2.1 c.2.2.1 t q=true:=decide_eq_true ⟨by omega,h2⟩
    rw [yC,if_pos hx] at hc1_1
    obtain⟨y1,y2,y3⟩:=ng (d:=0) hc1_1
    refine⟨rfl,⟨y1,by show [V.int .i64 (q:Int)]= [V.int .i64 ((dy c.1 c.2.1 c.2.2.1 t).getD k 0)];rw [y2]⟩,?_,?_⟩
    ·refine⟨aj (q+1),?_⟩
     exact⟨rfl,(aY c.1 c.2.1 c.2.2.1).toNat-(q+1),by omega,k+1,q+1,by omega,by rw [y3,hf2];rfl,rfl,rfl,rfl⟩
    ·trivial
   ·have hx:¬Em c.1 c.2.1 c.2.2.1 t q=true:=by unfold Em;rw [decide_eq_true_eq];omega
    rw [yC,if_neg hx] at hc1_1
    refine⟨aj (q+1),?_⟩
    exact⟨rfl,(aY c.1 c.2.1 c.2.2.1).toNat-(q+1),by omega,k,q+1,by omega,by rw [hc1_1,hf2];rfl,rfl,rfl,rfl⟩
 ·rw [show(aY c.1 c.2.1 c.2.2.1-(q:Int)).toNat=0 by omega,yC] at hc1_1
  have hz:=mZ hc1_0 hc1_1
  show(k:Nat)=(dy c.1 c.2.1 c.2.2.1 t).length
  omega
def fE:List (Nat×gU):=(94, [.ref (.int .i64),.ref (.cons (.int .i64) (.cons (.int .i64) (.cons (.int .i64) oo)))],V2)::bi
def Vy:List (Nat×bI):=Vv
theorem kAt:Known Tryd.prog (En Vy tys G6 fE):=aBa.addSeq Tryd.func94 Tryd.call94 [.v (.int .i64)] fun ds p L h hp=>by
 unfold V2 at h
 split at h<;>simp only [Option.some.injEq,Prod.mk.injEq,reduceCtorEq] at h
 obtain⟨rfl,rfl⟩:=h
 exact bAt _ _ hp.1 hp.2.1 hp.2.2
def Sq:List V→Option (Prop×V×List Blk)
 |[.agg [.int .i64 b,.int .i64 l,.int .i64 d,.int .i64 m,.sl false (.int .i64) hs],.int .i64 t]=>some (True,.fn 94 [.ptr 0 1 0 0,.ptr 1 1 0 0], [.cells [.int .i64 (t)],.cells [.int .i64 (b),.int .i64 (l),.int .i64 (d),.int .i64 (m),.sl false (.int .i64) (hs)]])
 |_=>none
theorem aCU (b l d m:Int) (hs:List Int) (t:Int):tA (En Vy tys G6 fE) Tryd.f75 [.c []] Sq [.agg [.int .i64 b,.int .i64 l,.int .i64 d,.int .i64 m,.sl false (.int .i64) hs],.int .i64 t]:=by
 intro _
 exact ao
def Vx:List (Nat×bI):=(75,uO [.v (.cons (.int .i64) (.cons (.int .i64) (.cons (.int .i64) oo))),.v (.int .i64)] Sq)::Vy
theorem aBd:Known Tryd.prog (En Vx tys G6 fE):=kAt.addR Tryd.func75 Tryd.call75 [.c []] fun ds _ _ _ h=>by unfold Sq at h;split at h;exact aCU _ _ _ _ _ _;cases h
def G0:List V→Option (Prop×V×List Blk)
 |[.dat false (.arr 12 .bool) x]=>some (x.length=12,.int .i64 (kt (fun i=>x.getD i false) 12:Int), [])
 |_=>none
theorem Zj (x:List Bool):ap (En Vx tys G6 fE) Tryd.f38 [.k] G0 [.dat false (.arr 12 .bool) x]:=by
 intro hp0
 refine⟨⟨rfl,by first|assumption|rfl|simp⟩,by first|assumption|rfl|simp,1, [(3,.k),(6,.k),(7,.k)],fun nM vs H=>∃(k:Nat),k≤12∧nM=12-k∧vs= [.int .i64 (kt (fun i=>x.getD i false) k:Int),.dat true (.arr 12 .bool) x,.int .i64 (k:Int)]∧H= [.row true .bool x],⟨rfl,12,0,by omega,by omega,rfl,rfl⟩,?_⟩
 rintro nM vs H ⟨k,hc1_0,rfl,rfl,rfl⟩
 have hle:=B5 (fun i=>x.getD i false) k
 have hsu:kt (fun i=>x.getD i false) (k+1)=kt (fun i=>x.getD i false) k+(if x.getD k false=true then 1 else 0):=rfl
 refine yn ((k:Int)<12) (fun h0=> ?_) fun h0=> ?_
 ·refine⟨ix k (12:Int),yn ((x.getD k false)=true) (fun h1=> ?_) fun h1=> ?_⟩
  ·refine⟨aj ((kt (fun i=>x.getD i false) k:Int)+1),aj (k+1),?_⟩
   first|rw [if_pos h1] at hsu|rw [if_neg h1] at hsu
   exact⟨rfl,12-(k+1),by omega,k+1,by omega,rfl,by rw [hsu];rfl,rfl⟩
  ·refine⟨aj (k+1),?_⟩
   first|rw [if_pos h1] at hsu|rw [if_neg h1] at hsu
   exact⟨rfl,12-(k+1),by omega,k+1,by omega,rfl,by rw [hsu];rfl,rfl⟩
 ·obtain rfl:k=12:=by omega
  exact ao
def L0:List (Nat×bI):=(38,aS [.v (.arr 12 .bool)] G0)::Vx
theorem Yh:Known Tryd.prog (En L0 tys G6 fE):=aBd.addQ Tryd.func38 Tryd.call38 [.k] fun ds _ _ _ h=>by unfold G0 at h;split at h;exact Zj _;cases h
def Gw:List V→Option (Prop×V×List Blk)
 |[.agg [.int .i64 b,.int .i64 l,.int .i64 d,.int .i64 m,.sl false (.int .i64) hs],.int .i64 bad,.sl false (.cons (.int .i64) (.cons (.int .i64) .nil)) a]=>some (Cal b l d m hs∧0≤bad∧a.length≤500∧∀x∈a,rW x=true,.own (.arr 12 .bool) 0, [.row true (.arr 12 .bool) (mk (aY b l d).toNat (c9 b l d hs bad a))])
 |_=>none
theorem Zf (b l d m:Int) (hs:List Int) (bad:Int) (a:List (Int×(Int×Unit))):ap (En L0 tys G6 fE) Tryd.f37 [.o (.arr 12 .bool)] Gw [.agg [.int .i64 b,.int .i64 l,.int .i64 d,.int .i64 m,.sl false (.int .i64) hs],.int .i64 bad,.sl false (.cons (.int .i64) (.cons (.int .i64) .nil)) a]:=by
 rintro⟨hp0,hp1,hp2,(hp3:∀x∈a,rW x=true)⟩
 obtain⟨q1,q2,q3,q4,q5,q6,q7,q8,q9,q10,q11⟩:=id hp0
 obtain⟨N,hN⟩:∃N:Nat,aY b l d=(N:Int):=⟨(aY b l d).toNat,by omega⟩
 have hRl:(List.replicate ((aY b l d).toNat) (List.replicate 12 false)).length=N:=by rw [List.length_replicate,hN];rfl
 have hinit:mk N (fG hs bad 0 0)=List.replicate ((aY b l d).toNat) (List.replicate 12 false):=by rw [yU,←Nx,hN];rfl
 refine⟨rfl,rfl,rfl,rfl,⟨om (0≤b),om (b≤l),om (l≤1000000),om (1≤d)⟩,⟨rfl,om ((0:Int)≤aY b l d),om (aY b l d≤(1000000000:Int))⟩,jP,3, [(1,.k),(2,.k),(3,.k),(7,.k),(18,.k),(19,.k)],fun nM vs H=>∃(i:Nat),i≤N∧nM=N-i∧vs= [.int .i64 bad,.sl false (.cons (.int .i64) (.cons (.int .i64) .nil)) a,.ptr 0 1 0 0,.ptr 2 1 0 0,.int .i64 (((List.replicate ((aY b l d).toNat) (List.replicate 12 false)).length:Nat):Int),.int .i64 (i:Int)]∧H= [.cells [.int .i64 b,.int .i64 l,.int .i64 d,.int .i64 m,.sl false (.int .i64) hs],.row true (.arr 12 .bool) (mk N (fG hs bad i 0)),.cells [.own (.arr 12 .bool) 1]],⟨rfl,N,0,by omega,by omega,rfl,by rw [hinit];rfl⟩,?_⟩
 rintro nM vs H ⟨i,hc1_0,rfl,rfl,rfl⟩
 refine yn ((i:Int)<(((List.replicate ((aY b l d).toNat) (List.replicate 12 false)).length:Nat):Int)) (fun h0=> ?_) fun h0=> ?_
 ·refine⟨3, [(1,.k),(2,.k),(3,.k),(7,.k),(8,.k),(18,.k),(19,.k),(23,.k),(24,.k),(25,.k)],fun nM vs H=>∃(k:Nat),k≤hs.length∧nM=hs.length-k∧vs= [.i bad,.sl false (.cons (.int .i64) (.cons (.int .i64) .nil)) a,.p 0,.p 2,.i i,.i (((List.replicate ((aY b l d).toNat) (List.replicate 12 false)).length:Nat):Int),.i i,.sl false (.int .i64) hs,.i (hs.length:Int),.i k]∧H= [.cells [.i b,.i l,.i d,.i m,.sl false (.int .i64) hs],.r (.arr 12 .bool) (mk N (fG hs bad i k)),.cells [.own (.arr 12 .bool) 1]],⟨rfl,hs.length,0,by omega,by omega,rfl,rfl⟩,?_⟩
  rintro nM vs H ⟨k,hc2_0,rfl,rfl,rfl⟩
  refine yn ((k:Int)<(hs.length:Int)) (fun h1=> ?_) fun h1=> ?_
  ·have hkl:k<hs.length:=by omega
   obtain⟨g0,g1⟩:=nU hs _ k q8 hkl
   have g2:=Cz hp1 (hs.getD k 0).toNat
   have hiN:i<N:=by omega
   have hml:=zA N (fG hs bad i k)
   refine⟨ix k hs.length,by kernel_rfl,⟨om ((0:Int)≤hs.getD k 0),om (hs.getD k 0≤(64:Int))⟩,.inl ⟨⟨om ((0:Int)≤(bad/2^((hs.getD k 0).toNat))),om ((0:Int)≤1)⟩,?_⟩⟩
   refine⟨ix i (mk N (fG hs bad i k)).length,ix (hs.getD k 0) (12:Int),fN,aj (k+1),?_⟩
   exact⟨rfl,hs.length-(k+1),by omega,k+1,by omega,rfl,rfl,by rw [←yW hkl g0 g1 hiN (List.replicate 12 false),←Et hp1];rfl⟩
  ·have hk:k=hs.length:=by omega
   refine⟨aj (i+1),?_⟩
   exact⟨rfl,N-(i+1),by omega,i+1,by omega,rfl,rfl,by rw [hk,yX];rfl⟩
 ·have hi:i=N:=by omega
  refine⟨3, [(3,.k),(7,.k),(41,.k),(42,.k),(43,.k)],fun nM vs H=>∃(k:Nat),k≤a.length∧nM=a.length-k∧vs= [.p 0,.p 2,.sl false (.cons (.int .i64) (.cons (.int .i64) .nil)) a,.i (a.length:Int),.i k]∧H= [.cells [.i b,.i l,.i d,.i m,.sl false (.int .i64) hs],.r (.arr 12 .bool) (mk N (c9 b l d hs bad (a.take k))),.cells [.own (.arr 12 .bool) 1]],⟨rfl,a.length,0,by omega,by omega,rfl,by rw [hi,List.take_zero,←C0];rfl⟩,?_⟩
  rintro nM vs H ⟨k,hc3_0,rfl,rfl,rfl⟩
  refine yn ((k:Int)<(a.length:Int)) (fun h2=> ?_) fun h2=> ?_
  ·have hka:k<a.length:=by omega
   have hcb:=O4 (hp3 _ (getD_mem (0,0,()) a k hka))
   refine⟨ix k a.length,cm,rfl,om (hs.length≤2000000),yn (¬(((a.getD k (0,0,())).1)∈hs)) (fun h3=> ?_) fun h3=> ?_⟩
   ·refine⟨aj (k+1),?_⟩
    first
    |exact⟨rfl,a.length-(k+1),by omega,k+1,by omega,rfl,rfl,by rw [←qC hka h3];rfl⟩
    |exact⟨rfl,a.length-(k+1),by omega,k+1,by omega,rfl,rfl,by rw [←sR hka hN hx];rfl⟩
   ·have hx:=nw h3
    have hz:0≤aY b l d:=by omega
    refine⟨rfl,rfl,rfl,rfl,rfl,trivial,rfl,rfl,rfl,rfl,rfl,rfl,⟨⟨by assumption,om (0≤(((a.getD k (0,0,())).2).1)),om ((((a.getD k (0,0,())).2).1)≤1000000)⟩,fun _ _=>rfl⟩,4, [(3,.k),(7,.k),(12,.k),(41,.k),(42,.k),(43,.k)],fun n vs H=>n≤(dy b l d (a.getD k (0,0,())).2.1).length∧vs= [.ptr 0 1 0 0,.ptr 2 1 0 0,.ptr 3 1 0 0,.sl false (.cons (.int .i64) (.cons (.int .i64) .nil)) a,.int .i64 (a.length:Int),.int .i64 (k:Int)]∧H= [.cells [.int .i64 b,.int .i64 l,.int .i64 d,.int .i64 m,.sl false (.int .i64) hs],.row true (.arr 12 .bool) (mk N (jY b l d hs bad (a.take k) (a.getD k (0,0,())) n)),.cells [.own (.arr 12 .bool) 1],.cells [.int .i64 ((a.getD k (0,0,())).1),.int .i64 (((a.getD k (0,0,())).2).1)]],⟨rfl,by omega,rfl,by rw [yR];rfl⟩,?_,?_⟩
    ·rintro n vs H ⟨hc4_0,rfl,rfl⟩ hn4
     replace hn4:n<(dy b l d (((a.getD k (0,0,())).2).1)).length:=hn4
     replace hn4:n<(dy b l d (a.getD k (0,0,())).2.1).length:=hn4
     obtain⟨y1,y2,y3⟩:=Us hz hn4
     have hml:=zA N (jY b l d hs bad (a.take k) (a.getD k (0,0,())) n)
     refine⟨by kernel_rfl,ix ((dy b l d (((a.getD k (0,0,())).2).1)).getD n 0) (mk N (jY b l d hs bad (a.take k) (a.getD k (0,0,())) n)).length,ix (a.getD k (0,0,())).1 (12:Int),fN,?_⟩
     exact⟨rfl,rfl,by omega,rfl,by rw [←yS (v:= @decide (true=true) (Classical.propDecidable _)) (by simp) hx hcb.1 hcb.2.1 hn4 y1 (by omega) (List.replicate 12 false)];rfl⟩
    ·rintro vs H ⟨hc4_0,rfl,rfl⟩
     refine⟨aj (k+1),?_⟩
     first
     |exact⟨rfl,a.length-(k+1),by omega,k+1,by omega,rfl,rfl,by rw [←qC hka h3];rfl⟩
     |exact⟨rfl,a.length-(k+1),by omega,k+1,by omega,rfl,rfl,by rw [←sR hka hN hx];rfl⟩
  ·have e:mk N (c9 b l d hs bad (a.take k))=mk (aY b l d).toNat (c9 b l d hs bad a):=by rw [show k=a.length by omega,List.take_length,hN];rfl
   rw [←e]
   exact ao
def Ly:List (Nat×bI):=(37,aS [.v (.cons (.int .i64) (.cons (.int .i64) (.cons (.int .i64) oo))),.v (.int .i64),.v (.sl (.cons (.int .i64) (.cons (.int .i64) .nil)))] Gw)::L0
theorem Yf:Known Tryd.prog (En Ly tys G6 fE):=Yh.addQ Tryd.func37 Tryd.call37 [.o (.arr 12 .bool)] fun ds _ _ _ h=>by unfold Gw at h;split at h;exact Zf _ _ _ _ _ _ _;cases h
theorem qZ {N:Nat} {F:Nat→Nat→Bool} {q:Nat} (h:q<N) (e:List Bool):((mk N F).getD q e).length=12:=by rw [zB h];simp
theorem y9 {N:Nat} {F:Nat→Nat→Bool} {q:Nat} (h:q<N) (e:List Bool):kt (fun i=>((mk N F).getD q e).getD i false) 12=kt (F q) 12:=rU fun i hi=>by rw [zB h,pI hi]
def Ry:List V→Option (Prop×V×List Blk)
 |[.agg [.int .i64 b,.int .i64 l,.int .i64 d,.int .i64 m,.sl false (.int .i64) hs],.int .i64 bad,.sl false (.cons (.int .i64) (.cons (.int .i64) .nil)) a]=>some (hs.length≤2000000∧a.length≤2000000,.int .i64 (iC b l d m hs bad a), [])
 |_=>none
theorem aBz (b l d m:Int) (hs:List Int) (bad:Int) (a:List (Int×(Int×Unit))):ap (En Ly tys G6 fE) Tryd.f36 [.k] Ry [.agg [.int .i64 b,.int .i64 l,.int .i64 d,.int .i64 m,.sl false (.int .i64) hs],.int .i64 bad,.sl false (.cons (.int .i64) (.cons (.int .i64) .nil)) a]:=by
 rintro⟨hp0,hp1⟩
 refine⟨rfl,rfl,rfl,rfl,om (hs.length≤2000000),yn ((f5 b l d m hs)≠0) (fun h0=> ?_) fun h0=> ?_⟩
 ·refine⟨rfl,rfl,?_,rfl⟩
  unfold iC
  repeat' split
  all_goals first|rfl|omega|(exfalso;simp_all;done)
 ·refine⟨rfl,rfl,rfl,trivial,yn (¬(0≤bad∧bad≤4095)) (fun h1=> ?_) fun h1=> ?_⟩
  ·refine⟨rfl,rfl,?_,rfl⟩
   unfold iC
   repeat' split
   all_goals first|rfl|omega|(exfalso;simp_all;done)
  ·refine⟨om (a.length≤2000000),?_⟩
   refine⟨rfl,rfl,?_,rfl⟩
   unfold iC
   repeat' split
   all_goals first|rfl|omega|(exfalso;simp_all;done)
def U8:List (Nat×bI):=(36,aS [.v (.cons (.int .i64) (.cons (.int .i64) (.cons (.int .i64) oo))),.v (.int .i64),.v (.sl (.cons (.int .i64) (.cons (.int .i64) .nil)))] Ry)::Ly
theorem aBD:Known Tryd.prog (En U8 tys G6 fE):=Yf.addQ Tryd.func36 Tryd.call36 [.k] fun ds _ _ _ h=>by unfold Ry at h;split at h;exact aBz _ _ _ _ _ _ _;cases h
def Rs:List V→Option (Prop×V×List Blk)
 |[.agg [.int .i64 b,.int .i64 l,.int .i64 d,.int .i64 m,.sl false (.int .i64) hs],.int .i64 bad,.sl false (.cons (.int .i64) (.cons (.int .i64) .nil)) a]=>some (hs.length≤2000000∧a.length≤2000000,.tup [.own (.int .i64) 0,.int .i64 (iC b l d m hs bad a)], [.row true (.int .i64) (gK b l d m hs bad a)])
 |_=>none
theorem aBr (b l d m:Int) (hs:List Int) (bad:Int) (a:List (Int×(Int×Unit))):ap (En U8 tys G6 fE) Tryd.f12 [.o (.int .i64),.k] Rs [.agg [.int .i64 b,.int .i64 l,.int .i64 d,.int .i64 m,.sl false (.int .i64) hs],.int .i64 bad,.sl false (.cons (.int .i64) (.cons (.int .i64) .nil)) a]:=by
 rintro⟨hp0,hp1⟩
 refine⟨rfl,rfl,rfl,rfl,rfl,⟨om (hs.length≤2000000),om (a.length≤2000000)⟩,yn ((iC b l d m hs bad a)≠0) (fun h0=> ?_) fun h0=> ?_⟩
 ·rw [show gK b l d m hs bad a= [] from if_neg h0]
  exact ao
 ·obtain⟨hc,hb0,hb1,hca1,hca2⟩:=aAu (nw h0)
  obtain⟨q1,q2,q3,q4,q5,q6,q7,q8,q9,q10,q11⟩:=id hc
  obtain⟨N,hN⟩:∃N:Nat,aY b l d=(N:Int):=⟨(aY b l d).toNat,by omega⟩
  have hml:=zA (aY b l d).toNat (c9 b l d hs bad a)
  refine⟨rfl,rfl,rfl,rfl,rfl,⟨by assumption,om (0≤bad),om (a.length≤500),by first|assumption|simp⟩,2, [(3,.k),(9,.o (.int .i64)),(22,.o (.arr 12 .bool)),(23,.k),(24,.k)],fun nM vs H=>∃(k:Nat),k≤N∧nM=N-k∧vs= [.ptr 0 1 0 0,.own (.int .i64) 2,.own (.arr 12 .bool) 1,.int .i64 (((mk (aY b l d).toNat (c9 b l d hs bad a)).length:Nat):Int),.int .i64 (k:Int)]∧H= [.cells [.int .i64 b,.int .i64 l,.int .i64 d,.int .i64 m,.sl false (.int .i64) hs],.row true (.arr 12 .bool) (mk (aY b l d).toNat (c9 b l d hs bad a)),.row true (.int .i64) (tY b l d m hs bad a k)],⟨rfl,N,0,by omega,by omega,rfl,rfl⟩,?_⟩
  rintro nM vs H ⟨k,hc1_0,rfl,rfl,rfl⟩
  refine yn ((k:Int)<(((mk (aY b l d).toNat (c9 b l d hs bad a)).length:Nat):Int)) (fun h1=> ?_) fun h1=> ?_
  ·have htl:=F4 b l d m hs bad a k
   have hrl:=qZ (F:=c9 b l d hs bad a) (N:=(aY b l d).toNat) (q:=k) (by omega) (List.replicate 12 false)
   have hcnt:=y9 (F:=c9 b l d hs bad a) (N:=(aY b l d).toNat) (q:=k) (by omega) (List.replicate 12 false)
   refine⟨ix k (mk (aY b l d).toNat (c9 b l d hs bad a)).length,⟨rfl,rfl,rfl,by first|assumption|rfl|simp,rfl⟩,by kernel_rfl,by first|assumption|rfl|simp,by exact qZ (N:=(aY b l d).toNat) (by omega) _,yn (m≤(kt (fun i=>((mk (aY b l d).toNat (c9 b l d hs bad a)).getD k (List.replicate 12 false)).getD i false) 12:Int)) (fun h2=> ?_) fun h2=> ?_⟩
   ·rw [hcnt] at h2
    have tp:F3 b l d m hs bad a k=true:=decide_eq_true h2
    refine⟨rfl,fN,l9 (tY b l d m hs bad a k).length,aj (k+1),?_⟩
    first|exact⟨rfl,N-(k+1),by omega,k+1,by omega,rfl,rfl,by rw [kH,if_pos tp];rfl⟩|exact⟨rfl,N-(k+1),by omega,k+1,by omega,rfl,rfl,by rw [kH,if_neg tp,List.append_nil];rfl⟩
   ·rw [hcnt] at h2
    have tp:¬F3 b l d m hs bad a k=true:=by unfold F3;rw [decide_eq_true_eq];exact h2
    refine⟨aj (k+1),?_⟩
    first|exact⟨rfl,N-(k+1),by omega,k+1,by omega,rfl,rfl,by rw [kH,if_pos tp];rfl⟩|exact⟨rfl,N-(k+1),by omega,k+1,by omega,rfl,rfl,by rw [kH,if_neg tp,List.append_nil];rfl⟩
  ·rw [show gK b l d m hs bad a=tY b l d m hs bad a k by rw [gK,if_pos (nw h0),show(aY b l d).toNat=k by omega],(nw h0)]
   exact ao
def U3:List (Nat×bI):=(12,aS [.v (.cons (.int .i64) (.cons (.int .i64) (.cons (.int .i64) oo))),.v (.int .i64),.v (.sl (.cons (.int .i64) (.cons (.int .i64) .nil)))] Rs)::U8
theorem aA7:Known Tryd.prog (En U3 tys G6 fE):=aBD.addQ Tryd.func12 Tryd.call12 [.o (.int .i64),.k] fun ds _ _ _ h=>by unfold Rs at h;split at h;exact aBr _ _ _ _ _ _ _;cases h
open Go Go.Proofs.YtogipicegdbhdaaDoor.Vc Go.Proofs Go.Proofs.YtogipicegdbhdaaDoor.S72
def oq (ns:List UInt8) (n:Nat) (m:Int) (q:Nat):List UInt8:=cB ns (7*(q:Int)).toNat ((((n:Int)*(m-1))*((m-1)+1))/2).toNat
def dS (ns:List UInt8) (n:Nat) (m:Int) (hs:List Int):Nat→List (Int×List UInt8×Unit)
 |0=>jK (cB ns 0 n) m hs (cB ns n ((n:Int)*(m-1)).toNat)
 |q+1=>(dS ns n m hs q).map (Fp (jL m n (oq ns n m (q+1))) (fH m n (oq ns n m (q+1))))
theorem Dk {ns:List UInt8} {n:Nat} {m:Int} {hs:List Int} {q:Nat} (h:1≤q):dS ns n m hs q=(dS ns n m hs (q-1)).map (Fp (jL m n (oq ns n m q)) (fH m n (oq ns n m q))):=by
 obtain⟨k,rfl⟩:∃k,q=k+1:=⟨q-1,by omega⟩
 rfl
def cG (ns:List UInt8) (n:Nat) (m:Int) (hs:List Int) (k:Nat):List (List (Int×List UInt8×Unit)):=(List.range k).map (dS ns n m hs)
theorem Ht (ns:List UInt8) (n:Nat) (m:Int) (hs:List Int) (k:Nat):(cG ns n m hs k).length=k:=by simp [cG]
theorem Dl (ns:List UInt8) (n:Nat) (m:Int) (hs:List Int) (k:Nat):cG ns n m hs (k+1)=cG ns n m hs k++ [dS ns n m hs k]:=by unfold cG;rw [List.range_succ,List.map_append];rfl
theorem wV {ns:List UInt8} {n:Nat} {m:Int} {hs:List Int} {k q:Nat} (h:q<k):(cG ns n m hs k).getD q []=dS ns n m hs q:=by simp [cG,List.getD_eq_getElem?_getD,h]

theorem Qt:∀(l:List Int) (p:Int),-1≤p→dk p l=true→(∀x∈l,p<x∧fJ x)∧l.Pairwise (· <·)
 |[],_,_,_=>⟨fun x hx=>(by cases hx),.nil⟩
 |h::t,p,hp,hh=>by
  simp only [dk,Bool.and_eq_true,decide_eq_true_eq] at hh
  obtain⟨h1,h2⟩:=Qt t h (by omega) hh.2
  refine⟨fun x hx=> ?_,List.pairwise_cons.2 ⟨fun x hx=>(h1 x hx).1,h2⟩⟩
  rcases List.mem_cons.1 hx with e|hx
  ·subst e;exact⟨hh.1.2.2,hh.1.1,by omega⟩
  ·exact⟨by have:=(h1 x hx).1;omega,(h1 x hx).2⟩
theorem Nc {hs:List Int} (h1:∀x∈hs,fJ x) (h2:hs.Pairwise (· <·)):lU hs=true:=by
 refine List.all_eq_true.2 fun k hk=>decide_eq_true ?_
 have hk:=List.mem_range.1 hk
 refine⟨h1 _ (S72.getD_mem 0 hs k hk),?_⟩
 rcases Nat.eq_zero_or_pos k with e|e
 ·exact .inl e
 ·right
  have:=List.pairwise_iff_getElem.1 h2 (k-1) k (by omega) hk (by omega)
  simpa [List.getD_eq_getElem?_getD,hk,show k-1<hs.length by omega] using this
structure Kp (b l d m:Int) (hs:List Int) (n:Nat):Prop where
 cal:Cal b l d m hs
 m2:2≤m
 n1:1≤n
 n8:n≤8
theorem Kp.ok {b l d m:Int} {hs:List Int} {n:Nat} (h:Kp b l d m hs n):lU hs=true:=by
 obtain⟨h1,h2⟩:=Qt hs (-1) (by omega) h.cal.ho
 exact Nc (fun x hx=>(h1 x hx).2) h2
theorem Kp.m12 {b l d m:Int} {hs:List Int} {n:Nat} (h:Kp b l d m hs n):m≤12:=by have:=h.cal.m2;have:=h.cal.h12;omega
theorem Kp.bd {b l d m:Int} {hs:List Int} {n:Nat} (h:Kp b l d m hs n):(0≤(n:Int)*(m-1)∧(n:Int)*(m-1)≤45056)∧(0≤((n:Int)*(m-1))*((m-1)+1)∧((n:Int)*(m-1))*((m-1)+1)≤540672)∧(((n:Int)*(m-1))*((m-1)+1))/2=(n:Int)*(((m-1)*m)/2):=
 Ao h.m2 h.m12 (by omega) (by have:=h.n8;omega)
theorem Kp.spl {b l d m:Int} {hs:List Int} {n:Nat} (h:Kp b l d m hs n) (ns:List UInt8):Spl (cB ns 0 n) m hs (cB ns n ((n:Int)*(m-1)).toNat):=by
 have:=h.n8;have:=h.m2;have:=h.m12;have:=h.cal.m2;have:=h.bd.1
 refine⟨by rw [bb];omega,by omega,by omega,by omega,h.ok,?_⟩
 rw [bb,bb,Int.toNat_of_nonneg (by omega)]
theorem Kp.mke {b l d m:Int} {hs:List Int} {n:Nat} (h:Kp b l d m hs n) (ns:List UInt8) (q:Nat):kp m n (oq ns n m q)=0:=by
 have:=h.n8;have:=h.m2;have:=h.m12;have h2:=h.bd
 unfold kp
 rw [if_neg (by omega),if_pos]
 unfold oq
 rw [bb,h2.2.2,Int.toNat_of_nonneg]
 have:=h2.2.1
 omega
theorem Kp.mkn {b l d m:Int} {hs:List Int} {n:Nat} (h:Kp b l d m hs n) (ns:List UInt8) (q:Nat):jL m n (oq ns n m q)=m:=if_pos (h.mke ns q)
theorem Kp.deal {b l d m:Int} {hs:List Int} {n:Nat} (h:Kp b l d m hs n) (ns:List UInt8) (q:Nat):dE m (fH m n (oq ns n m q))=0∧m6 (fH m n (oq ns n m q))=n:=by
 obtain⟨h1,h2⟩:=mK (h.mke ns q)
 exact⟨h1,h2⟩
theorem Kp.ready {b l d m:Int} {hs:List Int} {n:Nat} (h:Kp b l d m hs n) (ns:List UInt8):∀q,Ready (cB ns 0 n) m hs (dS ns n m hs q)
 |0=>⟨xN (h.spl ns),h.ok,by have:=h.m2;omega,h.m12,by rw [bb];have:=h.n8;omega⟩
 |q+1=>by
  rw [dS,h.mkn]
  exact(h.ready ns q).up (h.deal ns (q+1)).1 (by rw [bb];exact(h.deal ns (q+1)).2)
theorem Kp.mx {b l d m:Int} {hs:List Int} {n:Nat} (h:Kp b l d m hs n) (ns:List UInt8) (q:Nat):(fH m n (oq ns n m q)).length≤1048576∧∀x∈fH m n (oq ns n m q),x.length≤1048576∧∀y∈x,y.length≤1048576:=by
 obtain⟨h1,h2⟩:=h.deal ns q
 have D:=s6 h1
 have n3:=D.len;have n12:=D.n12;have:=D.max
 exact⟨by omega,fun x hx=>⟨by have:=D.rows x hx;omega,fun y hy=>by have:=D.strs x hx y hy;omega⟩⟩
theorem Kp.len {b l d m:Int} {hs:List Int} {n:Nat} (h:Kp b l d m hs n) (ns:List UInt8) (q:Nat):(dS ns n m hs q).length=hs.length:=by
 have e:=congrArg List.length (h.ready ns q).hm
 rwa [List.length_map] at e
theorem Kp.one {b l d m:Int} {hs:List Int} {n:Nat} (h:Kp b l d m hs n) (ns:List UInt8) (q p:Nat) {s:Int×List UInt8×Unit} (hs':s∈dS ns n m hs q):
  nG (jL m n (oq ns n m p)) (fH m n (oq ns n m p)) s.1=0∧fg s.1 s.2.1 [rowL (jL m n (oq ns n m p)) (fH m n (oq ns n m p)) s.1]=0∧(rowL (jL m n (oq ns n m p)) (fH m n (oq ns n m p)) s.1).length≤1048576:=by
 have R:=h.ready ns q
 have K:fJ s.1:=qu R.ok _ (by rw [←R.hm];exact List.mem_map.2 ⟨s,hs',rfl⟩)
 have hl:=R.len s hs'
 rw [bb] at hl
 have U:=Fl (h.deal ns p).1 K (by rw [hl];exact(h.deal ns p).2.symm)
 rw [h.mkn]
 refine⟨U.1,U.2.1,?_⟩
 rw [S72.rowL,if_pos U.1]
 show(List.map _ _).length≤_
 rw [List.length_map];exact(h.mx ns p).1
def Sa:List V→Option (Prop×V×List Blk)
 |[.str s,.int .i64 a,.int .i64 n]=>some (0≤a∧a≤1000000∧0≤n∧n≤1000000∧s.length≤1048576,.str (cB s (Int.toNat a) (Int.toNat n)), [])
 |_=>none
theorem aB6 (s:List UInt8) (a n:Int):ap (En U3 tys G6 fE) Tryd.f17 [.k] Sa [.str s,.int .i64 a,.int .i64 n]:=by
 rintro⟨hp0,hp1,hp2,hp3,hp4⟩
 have hrl:(List.replicate n.toNat (0:UInt8)).length=n.toNat:=List.length_replicate ..
 refine⟨⟨rfl,om ((0:Int)≤n),om (n≤(1000000000:Int))⟩,0, [(0,.k),(1,.k),(7,.o .u8),(12,.k),(13,.k)],fun nM vs H=>∃(k:Nat),k≤n.toNat∧nM=n.toNat-k∧vs= [.str s,.int .i64 a,.own .u8 0,.int .i64 (((List.replicate n.toNat (0:UInt8)).length:Nat):Int),.int .i64 (k:Int)]∧H= [.row true .u8 (ck (Mc s a.toNat) n.toNat k)],⟨rfl,n.toNat,0,by omega,by omega,rfl,by rw [iQ];rfl⟩,?_⟩
 rintro nM vs H ⟨k,hc1_0,rfl,rfl,rfl⟩
 have hfl:=jv (Mc s a.toNat) n.toNat k
 refine yn ((k:Int)<(((List.replicate n.toNat (0:UInt8)).length:Nat):Int)) (fun h0=> ?_) fun h0=> ?_
 ·refine yn (0<(s.length:Int)) (fun h1=> ?_) fun h1=> ?_
  ·have hs:0<s.length:=by omega
   have ea:((a+(k:Int))%(s.length:Int)).toNat=(a.toNat+k)%s.length:=by rw [show a+(k:Int)=((a.toNat+k:Nat):Int) by omega,←Int.natCast_emod,Int.toNat_natCast]
   have em1:=Int.emod_nonneg (a+(k:Int)) (b:=(s.length:Int)) (by omega)
   have em2:=Int.emod_lt_of_pos (a+(k:Int)) (b:=(s.length:Int)) (by omega)
   have es:=Xy (a:=a.toNat) (k:=k) hs
   refine⟨aj (a+k),.inl ⟨⟨om ((0:Int)≤(a+(k:Int))),om ((0:Int)<(s.length:Int))⟩,?_⟩⟩
   refine⟨ix ((a+(k:Int))%(s.length:Int)) s.length,ix k (ck (Mc s a.toNat) n.toNat k).length,fN,aj (k+1),?_⟩
   first
   |exact⟨rfl,n.toNat-(k+1),by omega,k+1,by omega,rfl,rfl,by rw [←iR (Mc s a.toNat) (by omega:k<n.toNat),es,←ea];rfl⟩
   |exact⟨rfl,n.toNat-(k+1),by omega,k+1,by omega,rfl,rfl,by rw [ez];rfl⟩
  ·have ez:=Nu (a:=a.toNat) (n:=n.toNat) (k:=k) (show¬0<s.length by omega)
   refine⟨aj (k+1),?_⟩
   first
   |exact⟨rfl,n.toNat-(k+1),by omega,k+1,by omega,rfl,rfl,by rw [←iR (Mc s a.toNat) (by omega:k<n.toNat),es,←ea];rfl⟩
   |exact⟨rfl,n.toNat-(k+1),by omega,k+1,by omega,rfl,rfl,by rw [ez];rfl⟩
 ·rw [show k=n.toNat by omega,jw]
  exact ao
def Vf:List (Nat×bI):=(17,aS [.v .str,.v (.int .i64),.v (.int .i64)] Sa)::U3
theorem aBJ:Known Tryd.prog (En Vf tys G6 fE):=aA7.addQ Tryd.func17 Tryd.call17 [.k] fun ds _ _ _ h=>by unfold Sa at h;split at h;exact aB6 _ _ _;cases h
def R7:List V→Option (Prop×V×List Blk)
 |[.agg [.str ct,.str ns,.int .i64 b,.int .i64 l,.int .i64 d,.int .i64 m,.sl false (.int .i64) hs]]=>some (f5 b l d m hs=0∧2≤m∧hs.length≤6∧1≤ct.length∧ct.length≤6∧ns.length≤1048576∧aY b l d≤4,.tup [.own (.sl (.cons (.int .i64) (.cons .str .nil))) 0,.str (cB ns 0 ct.length),.b True], [.row true (.sl (.cons (.int .i64) (.cons .str .nil))) (cG ns ct.length m hs (aY b l d).toNat)])
 |_=>none
theorem aB2 (ct ns:List UInt8) (b l d m:Int) (hs:List Int):ap (En Vf tys G6 fE [1000002]) Tryd.f8 [.o (.sl (.cons (.int .i64) (.cons .str .nil))),.k,.k] R7 [.agg [.str ct,.str ns,.int .i64 b,.int .i64 l,.int .i64 d,.int .i64 m,.sl false (.int .i64) hs]]:=by
 rintro⟨hp0,hp1,hp2,hp3,hp4,hp5,hp6⟩
 have hc:=sA hp0
 have hK:Kp b l d m hs ct.length:=⟨hc,hp1,hp3,by omega⟩
 obtain⟨⟨bd1,bd2⟩,⟨bd3,bd4⟩,_⟩:=hK.bd
 have hm2:=hc.m2
 have hc1:=hc.c1
 have hS:=hK.spl ns
 refine⟨cm,rfl,rfl,⟨by omega,by omega,om (0≤(ct.length:Int)),om ((ct.length:Int)≤1000000),om (ns.length≤1048576)⟩,by kernel_rfl,aj (m-1),aj ((ct.length:Int)*(m-1)),rfl,rfl,⟨om (0≤(ct.length:Int)),om ((ct.length:Int)≤1000000),om (0≤((ct.length:Int)*(m-1))),om (((ct.length:Int)*(m-1))≤1000000),om (ns.length≤1048576)⟩,rfl,⟨by show(cB ns (Int.toNat 0) (Int.toNat (ct.length:Int))).length≤1048576;rw [bb];omega,om (hs.length≤1048576),by show(cB ns (Int.toNat (ct.length:Int)) (Int.toNat ((ct.length:Int)*(m-1)))).length≤1048576;rw [bb];omega⟩,yn ((gQ (cB ns (Int.toNat 0) (Int.toNat (ct.length:Int))) m hs (cB ns (Int.toNat (ct.length:Int)) (Int.toNat ((ct.length:Int)*(m-1)))))≠0) (fun h0=> ?_) fun h0=> ?_⟩
 ·exact(h0 hS.e).elim
 ·refine⟨3, [(1,.k),(5,.k),(6,.k),(7,.k),(8,.k),(10,.o (.sl (.cons (.int .i64) (.cons .str .nil)))),(11,.k)],fun nM vs H=>∃(q:Nat),1≤q∧q≤(aY b l d).toNat∧nM=(aY b l d).toNat-q∧vs= [.p 0,.i (ct.length:Int),.p 1,.str (cB ns (Int.toNat 0) (Int.toNat (ct.length:Int))),.sl true (.cons (.int .i64) (.cons .str .nil)) (dS ns ct.length m hs (q-1)),.own (.sl (.cons (.int .i64) (.cons .str .nil))) 3,.i q]∧H= [.cells [.str ct,.str ns,.i b,.i l,.i d,.i m,.sl false (.int .i64) hs],.cells [.i b,.i l,.i d,.i m,.sl false (.int .i64) hs],.dead,.r (.sl (.cons (.int .i64) (.cons .str .nil))) (cG ns ct.length m hs q)],⟨rfl,(aY b l d).toNat-1,1,by omega,by omega,by omega,rfl,rfl⟩,?_⟩
  rintro nM vs H ⟨q,hc1_0,hc1_1,rfl,rfl,rfl⟩
  refine⟨rfl,rfl,rfl,rfl,om (hs.length≤2000000),yn ((q:Int)<(if f5 b l d m hs=0 then aY b l d else 0)) (fun h1=> ?_) fun h1=> ?_⟩
  ·rw [if_pos hp0] at h1
   refine⟨aj (m-1),by kernel_rfl,aj (7*(q:Int)),aj ((ct.length:Int)*(m-1)),aj ((m-1)+1),aj (((ct.length:Int)*(m-1))*((m-1)+1)),.inl ⟨⟨om ((0:Int)≤(((ct.length:Int)*(m-1))*((m-1)+1))),om ((0:Int)<2)⟩,?_⟩⟩
   refine⟨rfl,rfl,⟨om (0≤(7*(q:Int))),om ((7*(q:Int))≤1000000),om (0≤((((ct.length:Int)*(m-1))*((m-1)+1))/2)),om (((((ct.length:Int)*(m-1))*((m-1)+1))/2)≤1000000),om (ns.length≤1048576)⟩,rfl,rfl,om (m≤6),cm,yn ((kp m (ct.length:Int) (cB ns (Int.toNat (7*(q:Int))) (Int.toNat ((((ct.length:Int)*(m-1))*((m-1)+1))/2))))≠0) (fun h2=> ?_) fun h2=> ?_⟩
   ·exact(h2 (hK.mke ns q)).elim
   ·have hmx:=hK.mx ns q
    refine⟨5, [(1,.k),(5,.k),(6,.k),(7,.k),(10,.k),(11,.k),(13,.k),(15,.o (.cons (.int .i64) (.cons .str .nil))),(83,.k),(84,.k),(85,.k)],fun nM vs H=>∃(i:Nat),i≤(dS ns ct.length m hs (q-1)).length∧nM=(dS ns ct.length m hs (q-1)).length-i∧vs= [.p 0,.i (ct.length:Int),.p 1,.str (cB ns (Int.toNat 0) (Int.toNat (ct.length:Int))),.own (.sl (.cons (.int .i64) (.cons .str .nil))) 3,.i q,.p 4,.own (.cons (.int .i64) (.cons .str .nil)) 5,.sl true (.cons (.int .i64) (.cons .str .nil)) (dS ns ct.length m hs (q-1)),.i (((dS ns ct.length m hs (q-1)).length:Nat):Int),.i i]∧H= [.cells [.str ct,.str ns,.i b,.i l,.i d,.i m,.sl false (.int .i64) hs],.cells [.i b,.i l,.i d,.i m,.sl false (.int .i64) hs],.dead,.r (.sl (.cons (.int .i64) (.cons .str .nil))) (cG ns ct.length m hs q),.cells [.i (jL m (ct.length:Int) (cB ns (Int.toNat (7*(q:Int))) (Int.toNat ((((ct.length:Int)*(m-1))*((m-1)+1))/2)))),.sl true (.sl .str) (fH m (ct.length:Int) (cB ns (Int.toNat (7*(q:Int))) (Int.toNat ((((ct.length:Int)*(m-1))*((m-1)+1))/2))))],.r (.cons (.int .i64) (.cons .str .nil)) (((dS ns ct.length m hs (q-1)).take i).map (Fp (jL m (ct.length:Int) (oq ns ct.length m q)) (fH m (ct.length:Int) (oq ns ct.length m q))))],⟨rfl,(dS ns ct.length m hs (q-1)).length,0,by omega,by omega,rfl,rfl⟩,?_⟩
    rintro nM vs H ⟨i,hc2_0,rfl,rfl,rfl⟩
    have hpl:=hK.len ns (q-1)
    have hml:(((dS ns ct.length m hs (q-1)).take i).map (Fp (jL m (ct.length:Int) (oq ns ct.length m q)) (fH m (ct.length:Int) (oq ns ct.length m q)))).length=i:=by rw [List.length_map,List.length_take];omega
    refine yn ((i:Int)<(((dS ns ct.length m hs (q-1)).length:Nat):Int)) (fun h3=> ?_) fun h3=> ?_
    ·have hi:i<(dS ns ct.length m hs (q-1)).length:=by omega
     have hone:=hK.one ns (q-1) q (S72.getD_mem (0, [],()) (dS ns ct.length m hs (q-1)) i hi)
     refine⟨ix i (dS ns ct.length m hs (q-1)).length,cm,rfl,rfl,⟨hmx.1,hmx.2⟩,rfl,⟨os (([rowL (jL m (ct.length:Int) (cB ns (Int.toNat (7*(q:Int))) (Int.toNat ((((ct.length:Int)*(m-1))*((m-1)+1))/2)))) (fH m (ct.length:Int) (cB ns (Int.toNat (7*(q:Int))) (Int.toNat ((((ct.length:Int)*(m-1))*((m-1)+1))/2)))) (((dS ns ct.length m hs (q-1)).getD i (0,([],()))).1)]:List (List (List UInt8))).length≤1048576),(fun x hx=>by rw [List.mem_singleton.1 hx];exact hone.2.2)⟩,cm,ny ((nG (jL m (ct.length:Int) (cB ns (Int.toNat (7*(q:Int))) (Int.toNat ((((ct.length:Int)*(m-1))*((m-1)+1))/2)))) (fH m (ct.length:Int) (cB ns (Int.toNat (7*(q:Int))) (Int.toNat ((((ct.length:Int)*(m-1))*((m-1)+1))/2)))) (((dS ns ct.length m hs (q-1)).getD i (0,([],()))).1))≠0) (fun h4=> ?_) fun h4=> ?_⟩
     ·refine yn ((fg (((dS ns ct.length m hs (q-1)).getD i (0,([],()))).1) ((((dS ns ct.length m hs (q-1)).getD i (0,([],()))).2).1) ([rowL (jL m (ct.length:Int) (cB ns (Int.toNat (7*(q:Int))) (Int.toNat ((((ct.length:Int)*(m-1))*((m-1)+1))/2)))) (fH m (ct.length:Int) (cB ns (Int.toNat (7*(q:Int))) (Int.toNat ((((ct.length:Int)*(m-1))*((m-1)+1))/2)))) (((dS ns ct.length m hs (q-1)).getD i (0,([],()))).1)]:List (List (List UInt8))))≠0) (fun h5=> ?_) fun h5=> ?_
      ·exact(h5 hone.2.1).elim
      ·refine⟨rfl,fN,l9 (((dS ns ct.length m hs (q-1)).take i).map (Fp (jL m (ct.length:Int) (oq ns ct.length m q)) (fH m (ct.length:Int) (oq ns ct.length m q)))).length,aj (i+1),?_⟩
       exact⟨rfl,(dS ns ct.length m hs (q-1)).length-(i+1),by omega,i+1,by omega,rfl,rfl,by rw [ca (0, [],()) _ _ i hi];rfl⟩
     ·exact(h4 hone.1).elim
    ·have hnx:((dS ns ct.length m hs (q-1)).take i).map (Fp (jL m (ct.length:Int) (oq ns ct.length m q)) (fH m (ct.length:Int) (oq ns ct.length m q)))=(dS ns ct.length m hs q):=by rw [List.take_of_length_le (by omega)];exact(Dk hc1_0).symm
     have hal:=Ht ns ct.length m hs q
     refine⟨fN,l9 (cG ns ct.length m hs q).length,aj (q+1),?_⟩
     exact⟨rfl,(aY b l d).toNat-(q+1),by omega,q+1,by omega,by omega,rfl,by rw [hnx];rfl,by rw [hnx,Dl];rfl⟩
  ·rw [if_pos hp0] at h1
   rw [show(aY b l d).toNat=q by omega]
   exact⟨rfl,rfl,congrArg (fun p=>V.tup [_,_,.b p]) (propext ⟨fun _=>trivial,fun _=>rfl⟩),rfl⟩
def Vb:List (Nat×bI):=(8,aS [.v (.cons .str (.cons .str (.cons (.cons (.int .i64) (.cons (.int .i64) (.cons (.int .i64) oo))) .nil)))] R7)::Vf
theorem aBG:Known Tryd.prog (En Vb tys G6 fE):=Known.frz0<|(aBJ.frz [1000002]).addQ Tryd.func8 Tryd.call8 [.o (.sl (.cons (.int .i64) (.cons .str .nil))),.k,.k] fun ds _ _ _ h=>by unfold R7 at h;split at h;exact aB2 _ _ _ _ _ _ _;cases h
theorem xor_back {a b:List UInt8} (h:a.length=b.length):cU (cU a b) b=a:=by
 refine mX (N:=a.length) (by rw [cM,cM];omega) rfl fun k hk=> ?_
 rw [ij (by rw [cM];omega) (by rw [cM];omega),ij h hk,UInt8.xor_assoc,UInt8.xor_self,UInt8.xor_zero]
theorem Q5:Kp 10 24 5 2 [0,1,2] 2:=⟨sA (by decide),by decide,by decide,by decide⟩
theorem vG {k:Nat} (hk:k<3):((cG [1,2,3,4] 2 2 [0,1,2] (aY 10 24 5).toNat).getD k []).length=3:=by
 rw [wV (by rw [show(aY 10 24 5).toNat=3 from by decide];exact hk)]
 exact Q5.len [1,2,3,4] k
theorem xn {k:Nat} (hk:k<3):Mg (((cG [1,2,3,4] 2 2 [0,1,2] (aY 10 24 5).toNat).getD k []).drop 1) 2=0∧Eb (((cG [1,2,3,4] 2 2 [0,1,2] (aY 10 24 5).toNat).getD k []).drop 1) 2 0=cB [1,2,3,4] 0 2:=by
 have hl:=vG hk
 rw [wV (by rw [show(aY 10 24 5).toNat=3 from by decide];exact hk)] at hl ⊢
 exact(Q5.ready [1,2,3,4] k).join (List.drop_sublist _ _) (by rw [List.length_drop,hl];decide)
def Sr:List V→Option (Prop×V×List Blk)
 |[]=>some (True,.b True, [])
 |_=>none
theorem aCW  :ap (En Vb tys G6 fE [1000002]) Tryd.f6 [.k] Sr []:=by
 intro _
 have hpl:(cG ([1,2,3,4]) ([104,105]).length 2 ([0,1,2]:List Int) (aY 10 24 5).toNat).length=3:=by decide+kernel
 refine⟨rfl,rfl,rfl,cm,rfl,rfl,rfl,rfl,⟨oc (f5 10 24 5 2 ([0,1,2]:List Int)=0),oc (2≤2),oc (([0,1,2]:List Int).length≤6),oc (1≤([104,105]).length),oc (([104,105]).length≤6),oc (([1,2,3,4]).length≤1048576),oc (aY 10 24 5≤4)⟩,fun h0=> ?_,fun h0=>absurd h0 (show¬(¬True) by exact fun h=>h trivial)⟩
 refine⟨fun h1=> ?_,dn ((((cG ([1,2,3,4]) ([104,105]).length 2 ([0,1,2]:List Int) (aY 10 24 5).toNat).length:Nat):Int)≠3)⟩
 refine⟨fun h2=> ?_,dn ((cB ([1,2,3,4]) 0 ([104,105]).length)≠([1,2]))⟩
 refine⟨ix 0 (cG ([1,2,3,4]) ([104,105]).length 2 ([0,1,2]:List Int) (aY 10 24 5).toNat).length,fun h3=> ?_,dn (((((cG ([1,2,3,4]) ([104,105]).length 2 ([0,1,2]:List Int) (aY 10 24 5).toNat).getD 0 []).length:Nat):Int)≠3)⟩
 refine⟨ix 0 (cG ([1,2,3,4]) ([104,105]).length 2 ([0,1,2]:List Int) (aY 10 24 5).toNat).length,ix 0 ((cG ([1,2,3,4]) ([104,105]).length 2 ([0,1,2]:List Int) (aY 10 24 5).toNat).getD 0 []).length,fun h4=> ?_,dn ((((((cG ([1,2,3,4]) ([104,105]).length 2 ([0,1,2]:List Int) (aY 10 24 5).toNat).getD 0 []).getD 0 (0,([],()))).2).1)≠([2,6]))⟩
 refine⟨ix 0 (cG ([1,2,3,4]) ([104,105]).length 2 ([0,1,2]:List Int) (aY 10 24 5).toNat).length,ix 1 ((cG ([1,2,3,4]) ([104,105]).length 2 ([0,1,2]:List Int) (aY 10 24 5).toNat).getD 0 []).length,fun h5=> ?_,dn ((((((cG ([1,2,3,4]) ([104,105]).length 2 ([0,1,2]:List Int) (aY 10 24 5).toNat).getD 0 []).getD 1 (0,([],()))).2).1)≠([7,10]))⟩
 refine⟨ix 0 (cG ([1,2,3,4]) ([104,105]).length 2 ([0,1,2]:List Int) (aY 10 24 5).toNat).length,ix 2 ((cG ([1,2,3,4]) ([104,105]).length 2 ([0,1,2]:List Int) (aY 10 24 5).toNat).getD 0 []).length,dn ((((((cG ([1,2,3,4]) ([104,105]).length 2 ([0,1,2]:List Int) (aY 10 24 5).toNat).getD 0 []).getD 2 (0,([],()))).2).1)≠([4,14])),fun h6=> ?_⟩
 refine⟨3, [(1,.k),(2,.k),(3,.k),(65,.k),(66,.k),(67,.k)],fun nM vs H=>∃(k:Nat),k≤3∧nM=3-k∧vs= [.p 1,.own (.sl (.cons (.int .i64) (.cons .str .nil))) 2,.str (cB ([1,2,3,4]) 0 ([104,105]).length),.own (.sl (.cons (.int .i64) (.cons .str .nil))) 2,.i (((cG ([1,2,3,4]) ([104,105]).length 2 ([0,1,2]:List Int) (aY 10 24 5).toNat).length:Nat):Int),.i k]∧H= [.r (.int .i64) ([0,1,2]:List Int),.cells [.i 10,.i 24,.i 5,.i 2,.own (.int .i64) 0],.r (.sl (.cons (.int .i64) (.cons .str .nil))) (cG ([1,2,3,4]) ([104,105]).length 2 ([0,1,2]:List Int) (aY 10 24 5).toNat)],⟨rfl,3,0,by omega,by omega,rfl,rfl⟩,?_⟩
 rintro nM vs H ⟨k,hc1_0,rfl,rfl,rfl⟩
 have hkl:k<3→((cG ([1,2,3,4]) ([104,105]).length 2 ([0,1,2]:List Int) (aY 10 24 5).toNat).getD k []).length=3:=vG
 refine yn ((k:Int)<(((cG ([1,2,3,4]) ([104,105]).length 2 ([0,1,2]:List Int) (aY 10 24 5).toNat).length:Nat):Int)) (fun h7=> ?_) fun h7=> ?_
 ·have hkl:=vG (k:=k) (by omega)
  replace hkl:((cG ([1,2,3,4]) ([104,105]).length 2 ([0,1,2]:List Int) (aY 10 24 5).toNat).getD k []).length=3:=hkl
  refine⟨ix k (cG ([1,2,3,4]) ([104,105]).length 2 ([0,1,2]:List Int) (aY 10 24 5).toNat).length,⟨by decide,om ((1:Int)≤(((cG ([1,2,3,4]) ([104,105]).length 2 ([0,1,2]:List Int) (aY 10 24 5).toNat).getD k []).length:Int))⟩,rfl,by show(((cG ([1,2,3,4]) ([104,105]).length 2 ([0,1,2]:List Int) (aY 10 24 5).toNat).getD k []).drop 1).length≤1048576;rw [List.length_drop];omega,fun h8=> ?_,fun h8=>absurd h8 (show¬((Mg (((cG ([1,2,3,4]) ([104,105]).length 2 ([0,1,2]:List Int) (aY 10 24 5).toNat).getD k []).drop 1) 2)≠0) by exact fun h=>h (xn (by omega)).1)⟩
  refine⟨fun h9=>absurd h9 (show¬((Eb (((cG ([1,2,3,4]) ([104,105]).length 2 ([0,1,2]:List Int) (aY 10 24 5).toNat).getD k []).drop 1) 2 0)≠(cB ([1,2,3,4]) 0 ([104,105]).length)) by exact fun h=>h (xn (by omega)).2),fun h9=> ?_⟩
  refine⟨aj (k+1),?_⟩
  exact⟨rfl,3-(k+1),by omega,k+1,by omega,rfl,rfl,rfl⟩
 ·refine⟨rfl,rfl,rfl,rfl,rfl,rfl,rfl,rfl,rfl,⟨oc (([0,1,2]:List Int).length≤2000000),oc (([(0,12,()),(1,21,())]:List (Int×(Int×Unit))).length≤2000000)⟩,by kernel_rfl,fun h10=> ?_,dp ((iC 10 24 5 2 ([0,1,2]:List Int) 0 ([(0,12,()),(1,21,())]:List (Int×(Int×Unit))))=0)⟩
  refine⟨fun h11=> ?_,dp ((iC 10 24 5 2 ([0,1,2]:List Int) 0 ([(0,12,()),(1,21,())]:List (Int×(Int×Unit))))=0)⟩
  refine⟨fun h12=> ?_,dp ((iC 10 24 5 2 ([0,1,2]:List Int) 0 ([(0,12,()),(1,21,())]:List (Int×(Int×Unit))))=0)⟩
  refine⟨fun h13=> ?_,dp ((iC 10 24 5 2 ([0,1,2]:List Int) 0 ([(0,12,()),(1,21,())]:List (Int×(Int×Unit))))=0)⟩
  refine⟨fun h14=> ?_,dp ((((gK 10 24 5 2 ([0,1,2]:List Int) 0 ([(0,12,()),(1,21,())]:List (Int×(Int×Unit)))).length:Nat):Int)=1)⟩
  refine⟨fun h15=> ?_,dp ((((gK 10 24 5 2 ([0,1,2]:List Int) 0 ([(0,12,()),(1,21,())]:List (Int×(Int×Unit)))).length:Nat):Int)=1)⟩
  refine⟨ix 0 (gK 10 24 5 2 ([0,1,2]:List Int) 0 ([(0,12,()),(1,21,())]:List (Int×(Int×Unit)))).length,fun h16=> ?_,dp ((((gK 10 24 5 2 ([0,1,2]:List Int) 0 ([(0,12,()),(1,21,())]:List (Int×(Int×Unit)))).length:Nat):Int)=1)⟩
  refine⟨fun h17=> ?_,dp ((((gK 10 24 5 2 ([0,1,2]:List Int) 0 ([(0,12,()),(1,21,())]:List (Int×(Int×Unit)))).length:Nat):Int)=1)⟩
  refine⟨fun h18=> ?_,dp ((((gK 10 24 5 2 ([0,1,2]:List Int) 0 ([(0,12,()),(1,21,())]:List (Int×(Int×Unit)))).length:Nat):Int)=1)⟩
  refine⟨fun h19=> ?_,dp (((gK 10 24 5 2 ([0,1,2]:List Int) 0 ([(0,12,()),(1,21,())]:List (Int×(Int×Unit)))).getD 0 0)=1)⟩
  refine⟨fun h20=> ?_,dp (((gK 10 24 5 2 ([0,1,2]:List Int) 0 ([(0,12,()),(1,21,())]:List (Int×(Int×Unit)))).getD 0 0)=1)⟩
  refine⟨ix 1 (cG ([1,2,3,4]) ([104,105]).length 2 ([0,1,2]:List Int) (aY 10 24 5).toNat).length,fun h21=> ?_,dp (((gK 10 24 5 2 ([0,1,2]:List Int) 0 ([(0,12,()),(1,21,())]:List (Int×(Int×Unit)))).getD 0 0)=1)⟩
  refine⟨fun h22=> ?_,dp (((gK 10 24 5 2 ([0,1,2]:List Int) 0 ([(0,12,()),(1,21,())]:List (Int×(Int×Unit)))).getD 0 0)=1)⟩
  refine⟨ix 0 ((cG ([1,2,3,4]) ([104,105]).length 2 ([0,1,2]:List Int) (aY 10 24 5).toNat).getD 1 []).length,fun h23=> ?_,dp (((gK 10 24 5 2 ([0,1,2]:List Int) 0 ([(0,12,()),(1,21,())]:List (Int×(Int×Unit)))).getD 0 0)=1)⟩
  refine⟨fun h24=> ?_,dp (((gK 10 24 5 2 ([0,1,2]:List Int) 0 ([(0,12,()),(1,21,())]:List (Int×(Int×Unit)))).getD 0 0)=1)⟩
  refine⟨fun h25=> ?_,dp (((gK 10 24 5 2 ([0,1,2]:List Int) 0 ([(0,12,()),(1,21,())]:List (Int×(Int×Unit)))).getD 0 0)=1)⟩
  refine⟨ix 0 (cG ([1,2,3,4]) ([104,105]).length 2 ([0,1,2]:List Int) (aY 10 24 5).toNat).length,fun h26=> ?_,dp (((gK 10 24 5 2 ([0,1,2]:List Int) 0 ([(0,12,()),(1,21,())]:List (Int×(Int×Unit)))).getD 0 0)=1)⟩
  refine⟨fun h27=> ?_,dp (((gK 10 24 5 2 ([0,1,2]:List Int) 0 ([(0,12,()),(1,21,())]:List (Int×(Int×Unit)))).getD 0 0)=1)⟩
  refine⟨ix 0 ((cG ([1,2,3,4]) ([104,105]).length 2 ([0,1,2]:List Int) (aY 10 24 5).toNat).getD 0 []).length,fun h28=> ?_,dp (((gK 10 24 5 2 ([0,1,2]:List Int) 0 ([(0,12,()),(1,21,())]:List (Int×(Int×Unit)))).getD 0 0)=1)⟩
  refine⟨fun h29=> ?_,dp (((gK 10 24 5 2 ([0,1,2]:List Int) 0 ([(0,12,()),(1,21,())]:List (Int×(Int×Unit)))).getD 0 0)=1)⟩
  refine⟨fun h30=> ?_,dp (((gK 10 24 5 2 ([0,1,2]:List Int) 0 ([(0,12,()),(1,21,())]:List (Int×(Int×Unit)))).getD 0 0)=1)⟩
  exact⟨rfl,rfl,congrArg V.b (propext ⟨fun _=>trivial,fun _=>by decide+kernel⟩),rfl⟩
def vJ:List (Nat×bI):=(6,aS [] Sr)::Vb
theorem zE:Known Tryd.prog (En vJ tys G6 fE):=Known.frz0<|(aBG.frz [1000002]).addQ Tryd.func6 Tryd.call6 [.k] fun ds _ _ _ h=>by unfold Sr at h;split at h;exact aCW;cases h
end Go.Proofs.YtogipicegdbhdaaDoor.S72c

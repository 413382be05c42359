/- Texts of this claim. -/
import Derived.Test.YtailffhfhekkpaaDoorS2
set_option linter.unusedVariables false
set_option linter.unusedSimpArgs false
namespace Go.Proofs.YtailffhfhekkpaaDoor.S62c
set_option maxHeartbeats 20000000
open Go Go.Proofs.YtailffhfhekkpaaDoor.Vc Go.Proofs Go.Proofs.YtailffhfhekkpaaDoor.S62
set_option maxRecDepth 100000
def jz:Int→List Int→Bool
 |_, []=>true
 |p,h::t=>decide (0≤h∧h≤11∧p<h)&&jz h t
def Ly (hs:List Int) (k:Nat):Int:=if k=0 then -1 else hs.getD (k-1) 0
theorem wB (hs:List Int) {k:Nat} (h:¬0<k):Ly hs k= -1:=if_pos (by omega)
theorem tj (hs:List Int) {k:Nat} (h:0<k):Ly hs k=hs.getD (k-1) 0:=if_neg (by omega)
theorem dd {α:Type} (d:α) (l:List α) (k:Nat) (h:k<l.length):l.drop k=l.getD k d::l.drop (k+1):=by
 rw [List.drop_eq_getElem_cons h]
 simp [List.getD_eq_getElem?_getD,h]
theorem mN {hs:List Int} {k:Nat} (hk:k<hs.length) (hc:jz (Ly hs k) (hs.drop k)=jz (-1) hs) (h:0≤hs.getD k 0∧hs.getD k 0≤11∧Ly hs k<hs.getD k 0):jz (Ly hs (k+1)) (hs.drop (k+1))=jz (-1) hs:=by
 rw [←hc,dd 0 hs k hk,jz,decide_eq_true h,Bool.true_and];rfl
theorem nQ {hs:List Int} {k:Nat} (hk:k<hs.length) (hc:jz (Ly hs k) (hs.drop k)=jz (-1) hs) (h:¬(0≤hs.getD k 0∧hs.getD k 0≤11∧Ly hs k<hs.getD k 0)):jz (-1) hs=false:=by
 rw [←hc,dd 0 hs k hk,jz,decide_eq_false h,Bool.false_and]
theorem Rt {hs:List Int} {k:Nat} (hk:k=hs.length) (hc:jz (Ly hs k) (hs.drop k)=jz (-1) hs):jz (-1) hs=true:=by
 rw [←hc,hk,List.drop_length];rfl
theorem Bd:∀(l:List Int) (p:Int),-1≤p→jz p l=true→p≤11→(List.length l:Int)≤11-p
 |[],p,_,_,hp=>by simp only [List.length_nil];omega
 |h::t,p,h0,hh,hp=>by
  simp only [jz,Bool.and_eq_true,decide_eq_true_eq] at hh
  have:=Bd t h (by omega) hh.2 (by omega)
  simp only [List.length_cons];omega
theorem y0:∀(l:List Int) (p:Int) (k:Nat),jz p l=true→k<l.length→0≤l.getD k 0∧l.getD k 0≤11
 |[],p,k,_,hk=>by simp at hk
 |h::t,p,0,hh,hk=>by
  simp only [jz,Bool.and_eq_true,decide_eq_true_eq] at hh
  exact⟨hh.1.1,hh.1.2.1⟩
 |h::t,p,k+1,hh,hk=>by
  simp only [jz,Bool.and_eq_true,decide_eq_true_eq] at hh
  have:=y0 t h k hh.2 (by simpa using hk)
  simpa using this
def aj (v:Int):List Int→Int→Int
 |[],_=> -1
 |x::t,k=>if v=x then k else aj v t (k+1)
theorem ig (v:Int):∀(l:List Int) (k:Int),0≤k→(0≤aj v l k↔v∈l)
 |[],k,_=>by simp [aj]
 | x::t,k,h=>by
  unfold aj
  split
  ·rename_i e;subst e;simp [h]
  ·rename_i e
   rw [ig v t (k+1) (by omega)]
   simp [e]

def ku (nd wr sz st ph:Int):Prop:=((2≤nd∧nd≤12)∧(0≤wr∧wr≤12)∧(1≤sz∧sz≤4096)∧(0≤st∧st≤1000000)∧(1≤ph∧ph≤1000000))∧st+3*ph≤1000000
instance (nd wr sz st ph:Int):Decidable (ku nd wr sz st ph):=by unfold ku;infer_instance
def fZ (hs:List Int) (nd wr sz st ph:Int):Int:=
 if jz (-1) hs=false then 1 else if ku nd wr sz st ph then(if(hs.length:Int)<nd+wr∨(hs.length:Int)<nd-1+3*wr then 29 else 0) else 3
structure Tk (hs:List Int) (nd wr sz st ph:Int):Prop where
 ho:jz (-1) hs=true
 rg:ku nd wr sz st ph
 q1:nd+wr≤hs.length
 q2:nd-1+3*wr≤hs.length
 l12:hs.length≤12
theorem E7 {hs:List Int} {nd wr sz st ph:Int} (h:fZ hs nd wr sz st ph=0):Tk hs nd wr sz st ph:=by
 unfold fZ at h
 split at h
 ·omega
 ·rename_i h1
  split at h
  ·rename_i h2
   split at h
   ·omega
   ·have h1:jz (-1) hs=true:=by simpa using h1
    have:=Bd hs (-1) (by omega) h1 (by omega)
    exact⟨h1,h2,by omega,by omega,by omega⟩
  ·omega
theorem Tk.e {hs:List Int} {nd wr sz st ph:Int} (h:Tk hs nd wr sz st ph):fZ hs nd wr sz st ph=0:=by
 unfold fZ
 rw [if_neg (by rw [h.ho];simp),if_pos h.rg,if_neg (by have:=h.q1;have:=h.q2;omega)]
theorem Z4 {hs:List Int} {nd wr sz st ph:Int} (e:jz (-1) hs=false):fZ hs nd wr sz st ph=1:=if_pos e
theorem Ul {hs:List Int} {nd wr sz st ph:Int} (e:jz (-1) hs=true) (h:¬ku nd wr sz st ph):fZ hs nd wr sz st ph=3:=by
 unfold fZ;rw [if_neg (by rw [e];simp),if_neg h]
theorem Vd {hs:List Int} {nd wr sz st ph:Int} (e:jz (-1) hs=true) (h:ku nd wr sz st ph) (hq:(hs.length:Int)<nd+wr∨(hs.length:Int)<nd-1+3*wr):fZ hs nd wr sz st ph=29:=by
 unfold fZ;rw [if_neg (by rw [e];simp),if_pos h,if_pos hq]
theorem Z3 {hs:List Int} {nd wr sz st ph:Int} (e:jz (-1) hs=true) (h:ku nd wr sz st ph) (hq:¬((hs.length:Int)<nd+wr∨(hs.length:Int)<nd-1+3*wr)):fZ hs nd wr sz st ph=0:=by
 unfold fZ;rw [if_neg (by rw [e];simp),if_pos h,if_neg hq]
def eI (a x:Int):Prop:=x<0∨¬(((x.toNat^^^(x.toNat&&&a.toNat)):Nat):Int)=0
instance (a x:Int):Decidable (eI a x):=by unfold eI;infer_instance
def vG {α:Type} (p:α→Bool):List α→Nat→Int
 |[],_=> -1
 |a::l,k=>if p a=true then k else vG p l (k+1)
theorem jy {α:Type} {p:α→Bool}:∀{l:List α} {k:Nat},vG p l k<0↔∀a∈l,p a=false
 |[],k=>by simp [vG]
 | a::l,k=>by
  unfold vG
  split
  ·rename_i h
   constructor
   ·intro g;omega
   ·intro g;have:=g a (by simp);rw [h] at this;cases this
  ·rename_i h
   rw [jy]
   constructor
   ·intro g b hb
    rcases List.mem_cons.1 hb with rfl|hb
    ·simpa using h
    ·exact g b hb
   ·intro g b hb;exact g b (by simp [hb])
theorem Ro (p:Int→Bool) {q:Int→Prop} (l:List Int) (h:∀i,p i=true↔q i):0≤vG p l 0↔∃i∈l,q i:=by
 constructor
 ·intro g
  refine Classical.byContradiction fun hn=> ?_
  have:=(jy (p:=p) (l:=l) (k:=0)).2 fun a ha=>by
   cases hp:p a with
   |false=>rfl
   |true=>exact absurd ⟨a,ha,(h a).1 hp⟩ hn
  omega
 ·rintro⟨i,hi,hq⟩
  refine Classical.byContradiction fun hn=> ?_
  have:=(jy (p:=p) (l:=l) (k:=0)).1 (by omega) i hi
  rw [(h i).2 hq] at this;cases this
open Go Go.Proofs.YtailffhfhekkpaaDoor.Vc Go.Proofs
set_option linter.unusedVariables false
open Go.Proofs.YtailffhfhekkpaaDoor.S62
def Z5:List V→Option (Prop×V×List Blk)
 |[.int .i64 x,.int .i64 lo,.int .i64 hi]=>some (True,.b (lo≤x∧x≤hi), [])
 |_=>none
theorem bWi (x lo:Int) (hi:Int):bH (En Kr tys G6 bO) Tryd.f36 [.k] Z5 [.int .i64 x,.int .i64 lo,.int .i64 hi]:=by
 intro _
 refine yn (lo≤x) (fun h0=> ?_) fun h0=> ?_
 ·exact⟨rfl,rfl,congrArg V.b (propext (by constructor<;>intro h<;>first|omega|(exfalso;first|omega|exact Bool.noConfusion h))),rfl⟩
 ·exact⟨rfl,rfl,congrArg V.b (propext (by constructor<;>intro h<;>first|omega|(exfalso;first|omega|exact Bool.noConfusion h))),rfl⟩
def CWi:List (Nat×bW):=(36,aW [.v (.int .i64),.v (.int .i64),.v (.int .i64)] Z5)::Kr
theorem kWi:Known Tryd.prog (En CWi tys G6 bO):=Wb.addQ Tryd.func36 Tryd.call36 [.k] fun ds _ _ _ h=>by unfold Z5 at h;split at h;exact bWi _ _ _;cases h
def yQ:List V→Option (Prop×V×List Blk)
 |[.agg [.sl false (.int .i64) hs,.int .i64 nd,.int .i64 wr,.int .i64 sz,.int .i64 st,.int .i64 ph]]=>some (hs.length≤2000000,.int .i64 (fZ hs nd wr sz st ph), [])
 |_=>none
theorem S1 (hs:List Int) (nd wr sz st ph:Int):bH (En CWi tys G6 bO) Tryd.f13 [.k] yQ [Lc hs nd wr sz st ph]:=by
 intro hp0
 refine⟨1, [(1,.k),(8,.k),(9,.k),(10,.k)],fun nM vs H=>∃(k:Nat),k≤hs.length∧jz (Ly hs k) (hs.drop k)=jz (-1) hs∧nM=hs.length-k∧vs= [.p 0,.sl false (.int .i64) hs,.i (hs.length:Int),.i k]∧H= [D9 hs nd wr sz st ph],⟨rfl,hs.length,0,by omega,rfl,by omega,rfl,rfl⟩,?_⟩
 rintro nM vs H ⟨k,hc1_0,hc1_1,rfl,rfl,rfl⟩
 refine yn ((k:Int)<(hs.length:Int)) (fun h0=> ?_) fun h0=> ?_
 ·have hkl:k<hs.length:=by omega
  have hk1:((k:Int)-1).toNat=k-1:=by omega
  refine⟨ix k hs.length,ny ((hs.getD k 0)<0) (fun h1=> ?_) fun h1=> ?_⟩
  ·refine ny (12≤(hs.getD k 0)) (fun h2=> ?_) fun h2=> ?_
   ·refine yn (0<(k:Int)) (fun h3=> ?_) fun h3=> ?_
    ·refine⟨ap (k-1),ix (k-1) hs.length,yn ((hs.getD k 0)≤(hs.getD (((k:Int)-1).toNat) 0)) (fun h4=> ?_) fun h4=> ?_⟩
     ·rw [hk1] at h4
      have e:=nQ hkl hc1_1 (by rw [tj hs (by omega)];omega)
      rw [Z4 e]
      exact a6
     ·rw [hk1] at h4
      refine⟨ap (k+1),?_⟩
      exact⟨rfl,hs.length-(k+1),by omega,k+1,by omega,mN hkl hc1_1 (by first|(rw [tj hs (by omega)];omega)|(rw [wB hs (by omega)];omega)),rfl,rfl,rfl⟩
    ·refine⟨ap (k+1),?_⟩
     exact⟨rfl,hs.length-(k+1),by omega,k+1,by omega,mN hkl hc1_1 (by first|(rw [tj hs (by omega)];omega)|(rw [wB hs (by omega)];omega)),rfl,rfl,rfl⟩
   ·have e:=nQ hkl hc1_1 (by omega)
    rw [Z4 e]
    exact a6
  ·have e:=nQ hkl hc1_1 (by omega)
   rw [Z4 e]
   exact a6
 ·have e:=Rt (by omega) hc1_1
  refine⟨rfl,rfl,rfl,trivial,ny (¬(2≤nd∧nd≤12)) (fun h5=> ?_) fun h5=> ?_⟩
  ·refine⟨rfl,rfl,rfl,trivial,ny (¬(0≤wr∧wr≤12)) (fun h6=> ?_) fun h6=> ?_⟩
   ·refine⟨rfl,rfl,rfl,trivial,ny (¬(1≤sz∧sz≤4096)) (fun h7=> ?_) fun h7=> ?_⟩
    ·refine⟨rfl,rfl,rfl,trivial,ny (¬(0≤st∧st≤1000000)) (fun h8=> ?_) fun h8=> ?_⟩
     ·refine⟨rfl,rfl,rfl,trivial,ny (¬(1≤ph∧ph≤1000000)) (fun h9=> ?_) fun h9=> ?_⟩
      ·refine⟨ap (3*ph),ap (st+(3*ph)),yn (1000000<(st+(3*ph))) (fun h10=> ?_) fun h10=> ?_⟩
       ·rw [Ul e (fun h=>by unfold ku at h;omega)]
        exact a6
       ·refine⟨ap (nd+wr),ny ((hs.length:Int)<(nd+wr)) (fun h11=> ?_) fun h11=> ?_⟩
        ·refine⟨ap (nd-1),ap (3*wr),ap ((nd-1)+(3*wr)),yn ((hs.length:Int)<((nd-1)+(3*wr))) (fun h12=> ?_) fun h12=> ?_⟩
         ·rw [Vd e (by unfold ku;omega) (by omega)]
          exact a6
         ·rw [Z3 e (by unfold ku;omega) (by omega)]
          exact a6
        ·rw [Vd e (by unfold ku;omega) (by omega)]
         exact a6
      ·rw [Ul e (fun h=>by unfold ku at h;omega)]
       exact a6
     ·rw [Ul e (fun h=>by unfold ku at h;omega)]
      exact a6
    ·rw [Ul e (fun h=>by unfold ku at h;omega)]
     exact a6
   ·rw [Ul e (fun h=>by unfold ku at h;omega)]
    exact a6
  ·rw [Ul e (fun h=>by unfold ku at h;omega)]
   exact a6
def za:List (Nat×bW):=(13,aW [.v yH] yQ)::CWi
theorem Rm:Known Tryd.prog (En za tys G6 bO):=kWi.addQ Tryd.func13 Tryd.call13 [.k] fun ds _ _ _ h=>by unfold yQ at h;split at h;exact S1 _ _ _ _ _ _;cases h
def Qr:List V→Option (Prop×V×List Blk)
 |[.sl false (.int .i64) s,.int .i64 x]=>some (s.length≤2000000,.int .i64 (aj x s 0), [])
 |_=>none
theorem aBW (s:List Int) (x:Int):bH (En za tys G6 bO) Tryd.f38 [.k] Qr [.sl false (.int .i64) s,.int .i64 x]:=by
 intro hp0
 refine⟨0, [(0,.k),(1,.k),(7,.k),(8,.k)],fun nM vs H=>∃(k:Nat),k≤s.length∧aj x (s.drop k) k=aj x s 0∧nM=s.length-k∧vs= [.sl false (.int .i64) s,.i x,.i (s.length:Int),.i k]∧H= [],⟨rfl,s.length,0,by omega,rfl,by omega,rfl,rfl⟩,?_⟩
 rintro nM vs H ⟨k,hc1_0,hc1_1,rfl,rfl,rfl⟩
 refine yn ((k:Int)<(s.length:Int)) (fun h0=> ?_) fun h0=> ?_
 ·rw [dd 0 s k (by omega),aj] at hc1_1
  refine⟨ix k s.length,yn (x=(s.getD k 0)) (fun h1=> ?_) fun h1=> ?_⟩
  ·rw [if_pos h1] at hc1_1
   rw [←hc1_1]
   exact a6
  ·rw [if_neg h1] at hc1_1
   refine⟨ap (k+1),?_⟩
   exact⟨rfl,s.length-(k+1),by omega,k+1,by omega,hc1_1,rfl,rfl,rfl⟩
 ·rw [List.drop_eq_nil_of_le (by omega),aj] at hc1_1
  rw [←hc1_1]
  exact a6
def Tz:List (Nat×bW):=(38,aW [.v (.sl (.int .i64)),.v (.int .i64)] Qr)::za
theorem aAb:Known Tryd.prog (En Tz tys G6 bO):=Rm.addQ Tryd.func38 Tryd.call38 [.k] fun ds _ _ _ h=>by unfold Qr at h;split at h;exact aBW _ _;cases h
def Qx:List V→Option (Prop×V×List Blk)
 |[.sl false (.int .i64) s,.int .i64 x]=>some (s.length≤2000000,.b (x∈s), [])
 |_=>none
theorem aBf (s:List Int) (x:Int):bH (En Tz tys G6 bO) Tryd.f28 [.k] Qx [.sl false (.int .i64) s,.int .i64 x]:=by
 intro hp0
 refine⟨rfl,om (s.length≤2000000),?_⟩
 exact⟨rfl,rfl,congrArg V.b (propext (ig x s 0 (by omega))),rfl⟩
def Ue:List (Nat×bW):=(28,aW [.v (.sl (.int .i64)),.v (.int .i64)] Qx)::Tz
theorem aAk:Known Tryd.prog (En Ue tys G6 bO):=aAb.addQ Tryd.func28 Tryd.call28 [.k] fun ds _ _ _ h=>by unfold Qx at h;split at h;exact aBf _ _;cases h
def P8:List V→Option (Prop×V×List Blk)
 |[.int .i64 x,.rp false (.int .i64) a 0]=>some (0≤a,.b (eI a x), [])
 |_=>none
theorem aAy (x a:Int):bH (En Ue tys G6 bO) Tryd.f27 [.k] P8 [.int .i64 x,.rp false (.int .i64) a 0]:=by
 intro hp0
 refine ny (x<0) (fun h0=> ?_) fun h0=> ?_
 ·refine⟨⟨om ((0:Int)≤x),om ((0:Int)≤a)⟩,?_⟩
  first|exact⟨rfl,rfl,congrArg V.b (propext ⟨fun h=> .inr h,fun h=>h.resolve_left h0⟩),rfl⟩|exact⟨rfl,rfl,congrArg V.b (propext ⟨fun _=> .inl h0,fun _=>trivial⟩),rfl⟩|exact⟨rfl,rfl,congrArg V.b (propext ⟨fun _=> .inl h0,fun _=>rfl⟩),rfl⟩
 ·first|exact⟨rfl,rfl,congrArg V.b (propext ⟨fun h=> .inr h,fun h=>h.resolve_left h0⟩),rfl⟩|exact⟨rfl,rfl,congrArg V.b (propext ⟨fun _=> .inl h0,fun _=>trivial⟩),rfl⟩|exact⟨rfl,rfl,congrArg V.b (propext ⟨fun _=> .inl h0,fun _=>rfl⟩),rfl⟩
def Ta:List (Nat×bW):=(27,aW [.v (.int .i64),.ref (.int .i64)] P8)::Ue
theorem aAF:Known Tryd.prog (En Ta tys G6 bO):=aAk.addQ Tryd.func27 Tryd.call27 [.k] fun ds _ _ _ h=>by unfold P8 at h;split at h;exact aAy _ _;cases h
theorem Xv (s:List Int) (a:Int) (hp0:0≤a) (hp1:s.length≤1048576):bI (En Ta tys G6 bO) Tryd.f47 [.k] [.sl false (.int .i64) s,.fn 27 [.rp false (.int .i64) a 0]] (.int .i64 (vG (fun x=>decide (eI a x)) s 0)) []:=by
 refine⟨0, [(0,.k),(1,.k),(7,.k),(8,.k)],fun nM vs H=>∃(j:Nat),j≤s.length∧vG (fun x=>decide (eI a x)) (s.drop j) j=vG (fun x=>decide (eI a x)) s 0∧nM=s.length-j∧vs= [.sl false (.int .i64) s,.fn 27 [.rp false (.int .i64) a 0],.i (s.length:Int),.i j]∧H= [],⟨rfl,s.length,0,by omega,rfl,by omega,rfl,rfl⟩,?_⟩
 rintro nM vs H ⟨j,hc1_0,hc1_1,rfl,rfl,rfl⟩
 refine yn ((j:Int)<(s.length:Int)) (fun h0=> ?_) fun h0=> ?_
 ·have hj:j<s.length:=by omega
  rw [dd 0 s j hj,vG] at hc1_1
  refine⟨ix j s.length,rfl,om (0≤a),yn (eI a (s.getD j 0)) (fun h1=> ?_) fun h1=> ?_⟩
  ·rw [if_pos (decide_eq_true h1)] at hc1_1
   rw [←hc1_1]
   exact a6
  ·rw [if_neg (by simpa using h1)] at hc1_1
   refine⟨ap (j+1),?_⟩
   exact⟨rfl,s.length-(j+1),by omega,j+1,by omega,hc1_1,rfl,rfl,rfl⟩
 ·rw [List.drop_eq_nil_of_le (by omega),vG] at hc1_1
  rw [←hc1_1]
  exact a6
def Vp:List V→Option (Prop×V×List Blk)
 |[.sl false (.int .i64) s,.fn 27 [.rp false (.int .i64) a 0]]=>some (0≤a∧s.length≤1048576,.int .i64 (vG (fun x=>decide (eI a x)) s 0), [])
 |_=>none
def Tx:List (Nat×bW):=(47,aW [.v (.sl (.int .i64)),.fn [(27, [.ref (.int .i64)])]] Vp)::Ta
theorem aAa:Known Tryd.prog (En Tx tys G6 bO):=aAF.add Tryd.func47 Tryd.call47 [.k] fun ds p v bs h hp=>by
 unfold Vp at h
 split at h<;>simp only [Option.some.injEq,Prod.mk.injEq,reduceCtorEq] at h
 ·obtain⟨rfl,rfl,rfl⟩:=h
  exact Xv _ _ hp.1 hp.2
theorem X4 (s:List Int) (a:Int) (hp0:0≤a) (hp1:s.length≤1048576):bI (En Tx tys G6 bO) Tryd.f26 [.k] [.sl false (.int .i64) s,.fn 27 [.rp false (.int .i64) a 0]] (.b (∃x∈s,eI a x)) []:=by
 refine⟨⟨om (0≤a),om (s.length≤1048576)⟩,?_⟩
 exact⟨rfl,rfl,congrArg V.b (propext (Ro (fun x=>decide (eI a x)) s fun x=>decide_eq_true_iff)),rfl⟩
def Vx:List V→Option (Prop×V×List Blk)
 |[.sl false (.int .i64) s,.fn 27 [.rp false (.int .i64) a 0]]=>some (0≤a∧s.length≤1048576,.b (∃x∈s,eI a x), [])
 |_=>none
def Oh:List (Nat×bW):=(26,aW [.v (.sl (.int .i64)),.fn [(27, [.ref (.int .i64)])]] Vx)::Tx
theorem Wo:Known Tryd.prog (En Oh tys G6 bO):=aAa.add Tryd.func26 Tryd.call26 [.k] fun ds p v bs h hp=>by
 unfold Vx at h
 split at h<;>simp only [Option.some.injEq,Prod.mk.injEq,reduceCtorEq] at h
 ·obtain⟨rfl,rfl,rfl⟩:=h
  exact X4 _ _ hp.1 hp.2
noncomputable def Z6:List V→List Blk→Option (Prop×V)
 |[.int .i64 set,.int .i64 more,.int .i64 fr,.ptr 0 1 0 0,.ptr 1 1 0 0,.ptr 2 1 0 0,.ptr 3 1 0 0], [.cells [.sl false (.int .i64) hs,.int .i64 nd,.int .i64 wr,.int .i64 sz,.int .i64 stt,.int .i64 ph],.cells [.mp (.sl (.int .i64)) 4],.cells [.int .i64 k],.cells [.fn 29 [.ptr 0 1 0 0,.ptr 1 1 0 0,.ptr 2 1 0 0,.ptr 3 1 0 0]],.imap false (.sl (.int .i64)) es]=>some (SrOk hs es k set more fr,.int .i64 (cl es k (hs.drop fr.toNat) set more))
 |_,_=>none
def mSe:List V→List Blk→Nat
 |[.int .i64 set,.int .i64 more,.int .i64 fr,.ptr 0 1 0 0,.ptr 1 1 0 0,.ptr 2 1 0 0,.ptr 3 1 0 0], [.cells [.sl false (.int .i64) hs,.int .i64 nd,.int .i64 wr,.int .i64 sz,.int .i64 stt,.int .i64 ph],.cells [.mp (.sl (.int .i64)) 4],.cells [.int .i64 k],.cells [.fn 29 [.ptr 0 1 0 0,.ptr 1 1 0 0,.ptr 2 1 0 0,.ptr 3 1 0 0]],.imap false (.sl (.int .i64)) es]=>hs.length-fr.toNat
 |_,_=>0

theorem bSe (hs:List Int) (nd wr sz stt ph k:Int) (es:Ps) (set more fr:Int) (hok:SrOk hs es k set more fr):body (En ((29,eX (v7 mSe (hs.length-fr.toNat) Z6))::Oh) tys G6 bO [1000006]).inR Tryd.f29 [.int .i64 set,.int .i64 more,.int .i64 fr,.ptr 0 1 0 0,.ptr 1 1 0 0,.ptr 2 1 0 0,.ptr 3 1 0 0] (jO [.cells [.sl false (.int .i64) hs,.int .i64 nd,.int .i64 wr,.int .i64 sz,.int .i64 stt,.int .i64 ph],.cells [.mp (.sl (.int .i64)) 4],.cells [.int .i64 k],.cells [.fn 29 [.ptr 0 1 0 0,.ptr 1 1 0 0,.ptr 2 1 0 0,.ptr 3 1 0 0]],.imap false (.sl (.int .i64)) es]) (fun v' H'=>(v'.bare=true∧v'= .int .i64 (cl es k (hs.drop fr.toNat) set more))∧∃L,H'=jO [.cells [.sl false (.int .i64) hs,.int .i64 nd,.int .i64 wr,.int .i64 sz,.int .i64 stt,.int .i64 ph],.cells [.mp (.sl (.int .i64)) 4],.cells [.int .i64 k],.cells [.fn 29 [.ptr 0 1 0 0,.ptr 1 1 0 0,.ptr 2 1 0 0,.ptr 3 1 0 0]],.imap false (.sl (.int .i64)) es]++L):=by
 obtain⟨s0,s1,f0,f1,k0,k1,m0,m1,l1,hs1,es1⟩:=id hok
 refine yn (more=0) (fun h0=> ?_) fun h0=> ?_
 ·obtain rfl:more=0:=h0
  exact⟨⟨rfl,congrArg (V.int .i64) ((uq es k set _).symm)⟩,_,rfl⟩
 ·have hm0:¬more=0:=h0
  refine⟨6, [(0,.k),(1,.k),(3,.k),(4,.k),(5,.k),(6,.k),(11,.k)],fun nM vs H=>∃(i:Nat),(i≤hs.length∧fr.toNat≤i)∧cl es k (hs.drop i) set more=cl es k (hs.drop fr.toNat) set more∧nM=hs.length-i∧vs= [.i set,.i more,.p 0,.p 1,.p 2,.p 3,.i i]∧H= [D9 hs nd wr sz stt ph,.cells [.mp (.sl (.int .i64)) 4],.cells [.i k],.cells [.fn 29 [.p 0,.p 1,.p 2,.p 3]],.imap false (.sl (.int .i64)) es,.cells [.tup [],.p 0,.p 1,.p 2,.p 3,.mp (.sl (.int .i64)) 4]],⟨rfl,hs.length-fr.toNat,fr.toNat,⟨by omega,by omega⟩,rfl,rfl,congrArg (fun z:Int=> [V.i set,V.i more,V.p 0,V.p 1,V.p 2,V.p 3,V.i z]) (Int.toNat_of_nonneg f0).symm,rfl⟩,?_⟩
  rintro nM vs H ⟨i,hc1_0,hc1_1,rfl,rfl,rfl⟩
  refine yn ((i:Int)<(hs.length:Int)) (fun h1=> ?_) fun h1=> ?_
  ·have hi:i<hs.length:=by omega
   obtain⟨g0,g1⟩:=hs1 _ (bE 0 hs i hi)
   obtain⟨p0,p1⟩:=tc g0 g1
   obtain⟨n0,n1⟩:=t8 s0 s1 g0 g1
   refine⟨ix i hs.length,⟨om ((0:Int)≤hs.getD i 0),om (hs.getD i 0≤(64:Int))⟩,ap ((1:Int)*2^((hs.getD i 0).toNat)),.inl ⟨⟨om ((0:Int)≤set),om ((0:Int)≤((1:Int)*2^((hs.getD i 0).toNat)))⟩,?_⟩⟩
   refine⟨rfl,fun x2 h2=> ?_,fun h2=> ?_⟩
   ·replace h2:aa es (hs.getD i 0)=some x2:=h2
    obtain⟨_,hxl,hxb⟩:=es1 _ (qW h2)
    replace hxl:x2.length=hs.length:=hxl
    obtain⟨b0,b1⟩:=hxb _ (bE 0 x2 k.toNat (om (k.toNat<x2.length)))
    refine fun p3 hq3=> ?_
    refine ny (p3) (fun h4=> ?_) fun h4=> ?_
    ·refine⟨rfl,fun x5 h5=> ?_,fun h5=>absurd ((show aa es (hs.getD i 0)=some x2 by assumption).symm.trans h5) (fun h=>by cases h)⟩
     obtain rfl:x2=x5:=Option.some.inj ((show aa es (hs.getD i 0)=some x2 by assumption).symm.trans h5)
     refine⟨ix k x2.length,.inl ⟨⟨om ((0:Int)≤(x2.getD k.toNat 0)),om ((0:Int)≤((set.toNat|||(((1:Int)*2^((hs.getD i 0).toNat)).toNat):Nat):Int))⟩,?_⟩⟩
     refine yn (((((x2.getD k.toNat 0).toNat)&&&(set.toNat|||(((1:Int)*2^((hs.getD i 0).toNat)).toNat)):Nat):Int)≠((set.toNat|||(((1:Int)*2^((hs.getD i 0).toNat)).toNat):Nat):Int)) (fun h6=> ?_) fun h6=> ?_
     ·have hsk:=ut hi hm0 (show¬fits es k set (hs.getD i 0) from fun⟨ag,e1,e2,_⟩=>h6 (by rw [h2] at e1;cases e1;exact e2))
      rw [hc1_1] at hsk
      refine⟨ap (i+1),?_⟩
      exact⟨rfl,hs.length-(i+1),by omega,i+1,⟨by omega,by omega⟩,hsk,rfl,rfl,rfl⟩
     ·refine⟨rfl,7, [(0,.k),(1,.k),(3,.k),(4,.k),(5,.k),(6,.k),(11,.k),(12,.k),(13,.k),(54,.k)],fun nM vs H=>∃(s:List Nat) (l:Option Nat),(∀j∈s++l.toList,¬zN (es.getD j (0, [])) k set ((hs.getD i 0)))∧nM=rem es.length (s++l.toList)∧vs= [.int .i64 set,.int .i64 more,.ptr 0 1 0 0,.ptr 1 1 0 0,.ptr 2 1 0 0,.ptr 3 1 0 0,.int .i64 (i:Int),.int .i64 (hs.getD i 0),.int .i64 ((set.toNat|||(((1:Int)*2^((hs.getD i 0).toNat)).toNat):Nat):Int),.ptr 6 1 0 0]∧H= [.cells [.sl false (.int .i64) hs,.int .i64 nd,.int .i64 wr,.int .i64 sz,.int .i64 stt,.int .i64 ph],.cells [.mp (.sl (.int .i64)) 4],.cells [.int .i64 k],.cells [.fn 29 [.ptr 0 1 0 0,.ptr 1 1 0 0,.ptr 2 1 0 0,.ptr 3 1 0 0]],.imap false (.sl (.int .i64)) es,.cells [.tup [],.ptr 0 1 0 0,.ptr 1 1 0 0,.ptr 2 1 0 0,.ptr 3 1 0 0,.mp (.sl (.int .i64)) 4],.mit (some 4) es.length s l],⟨rfl,rem es.length [], [],none,by simp,rfl,rfl,rfl⟩,?_⟩
      rintro nM vs H ⟨s,l,hc2_0,rfl,rfl,rfl⟩
      refine⟨rfl,fun h7=> ?_,fun i7 l7 h7=> ?_⟩
      ·have alt:=0
       have hfit:fits es k set (hs.getD i 0):=⟨x2,h2,nw h6,fun e he hb=>by
        obtain⟨j,hj,rfl⟩:=List.mem_iff_getElem.1 he
        refine hc2_0 j (h7 j hj) ?_
        rw [gD hj];exact hb⟩
       have hSe:SrOk hs es k (jY set (hs.getD i 0)) (more-1) ((i:Int)+1):=⟨n0,n1,by omega,by omega,k0,k1,by omega,by omega,l1,hs1,es1⟩
       have hMe:hs.length-((i:Int)+1).toNat<hs.length-fr.toNat:=by omega
       refine⟨ap (more-1),ap (i+1),fY,⟨hSe,hMe⟩,yn (0≤(cl es k (hs.drop (((i:Int)+1).toNat)) ((set.toNat|||(((1:Int)*2^((hs.getD i 0).toNat)).toNat):Nat):Int) (more-1))) (fun h8=> ?_) fun h8=> ?_⟩
       ·exact⟨⟨rfl,congrArg (V.int .i64) ((Sl hi hm0 hfit h8).trans hc1_1)⟩,_,rfl⟩
       ·have hsk:=W6 hi hm0 h8
        rw [hc1_1] at hsk
        refine⟨ap (i+1),?_⟩
        exact⟨rfl,hs.length-(i+1),by omega,i+1,⟨by omega,by omega⟩,hsk,rfl,rfl,rfl⟩
      ·have alt:=1
       obtain⟨⟨o0,o1⟩,hyl,hyb⟩:=es1 _ (bE (0, []) es i7 l7)
       obtain⟨c0,c1⟩:=hyb _ (bE 0 _ k.toNat (by rw [hyl];omega))
       have d0:0≤set/2^(((es.getD i7 (0, [])).1).toNat):=Int.ediv_nonneg s0 (by have:=tc o0 o1;omega)
       have d1:0≤((es.getD i7 (0, [])).2).getD k.toNat 0/2^((hs.getD i 0).toNat):=Int.ediv_nonneg c0 (by omega)
       refine⟨rfl,⟨om ((0:Int)≤(es.getD i7 (0, [])).1),om ((es.getD i7 (0, [])).1≤(64:Int))⟩,.inl ⟨⟨om ((0:Int)≤(set/2^(((es.getD i7 (0, [])).1).toNat))),om ((0:Int)≤1)⟩,?_⟩⟩
       refine yn (((((set/2^(((es.getD i7 (0, [])).1).toNat)).toNat)&&&1:Nat):Int)=1) (fun h9=> ?_) fun h9=> ?_
       ·refine⟨ix k ((es.getD i7 (0, [])).2).length,⟨om ((0:Int)≤hs.getD i 0),om (hs.getD i 0≤(64:Int))⟩,.inl ⟨⟨om ((0:Int)≤((((es.getD i7 (0, [])).2).getD k.toNat 0)/2^((hs.getD i 0).toNat))),om ((0:Int)≤1)⟩,?_⟩⟩
        refine yn ((((((((es.getD i7 (0, [])).2).getD k.toNat 0)/2^((hs.getD i 0).toNat)).toNat)&&&1:Nat):Int)=0) (fun h10=> ?_) fun h10=> ?_
        ·have hsk:=ut hi hm0 (show¬fits es k set (hs.getD i 0) from fun⟨ag,_,_,e3⟩=>e3 _ (bE (0, []) es i7 l7) ⟨h9,h10⟩)
         rw [hc1_1] at hsk
         refine⟨ap (i+1),?_⟩
         exact⟨rfl,hs.length-(i+1),by omega,i+1,⟨by omega,by omega⟩,hsk,rfl,rfl,rfl⟩
        ·have hnx:∀j∈(s++l.toList)++(some i7).toList,¬zN (es.getD j (0, [])) k set (hs.getD i 0):=fun j hj=>by
          rcases List.mem_append.1 hj with hj|hj
          ·exact hc2_0 j hj
          ·obtain rfl:j=i7:=by simpa using hj
           exact fun hb=>h10 hb.2
         exact⟨rfl,rem es.length ((s++l.toList)++ [i7]),Gd l7 h7,s++l.toList,some i7,hnx,rfl,rfl,rfl⟩
       ·have hnx:∀j∈(s++l.toList)++(some i7).toList,¬zN (es.getD j (0, [])) k set (hs.getD i 0):=fun j hj=>by
         rcases List.mem_append.1 hj with hj|hj
         ·exact hc2_0 j hj
         ·obtain rfl:j=i7:=by simpa using hj
          exact fun hb=>h9 hb.1
        exact⟨rfl,rem es.length ((s++l.toList)++ [i7]),Gd l7 h7,s++l.toList,some i7,hnx,rfl,rfl,rfl⟩
    ·have:=hq3 h4
     subst this
     simp at hxl
     omega
   ·replace h2:aa es (hs.getD i 0)=none:=h2
    have hsk:=ut hi hm0 (show¬fits es k set (hs.getD i 0) from fun⟨ag,e1,_⟩=>by rw [h2] at e1;cases e1)
    rw [hc1_1] at hsk
    refine⟨fun h11=>absurd (show True by trivial) h11,fun h11=> ?_⟩
    refine⟨ap (i+1),?_⟩
    exact⟨rfl,hs.length-(i+1),by omega,i+1,⟨by omega,by omega⟩,hsk,rfl,rfl,rfl⟩
  ·exact⟨⟨rfl,congrArg (V.int .i64) ((Sm (by omega) hm0).symm.trans hc1_1)⟩,_,rfl⟩
noncomputable def CSe:List (Nat×bW):=(29,eX Z6)::Oh
theorem kSe:Known Tryd.prog (En CSe tys G6 bO [1000006]):=(Wo.frz [1000006]).addLook Tryd.func29 Tryd.call29 mSe fun xs H p v hs hp=>by
 unfold Z6 at hs
 split at hs<;>simp only [Option.some.injEq,Prod.mk.injEq,reduceCtorEq] at hs
 obtain⟨rfl,rfl⟩:=hs
 exact bSe _ _ _ _ _ _ _ _ _ _ _ hp
section
abbrev RP:=Int×List Int×Unit
def i5 (l:List Int):Int:=l.foldl jY 0
theorem Ee {hs:List Int} {k:Nat} (h:k<hs.length):i5 (hs.take (k+1))=jY (i5 (hs.take k)) (hs.getD k 0):=by
 unfold i5
 rw [List.take_succ_eq_append_getElem h,List.foldl_append,gD h];rfl
theorem uW:∀(l:List Int) (s:Int),0≤s→s<4096→(∀h∈l,0≤h∧h<12)→0≤l.foldl jY s∧l.foldl jY s<4096
 |[],s,h0,h1,_=>⟨h0,h1⟩
 |h::l,s,h0,h1,hl=>by
  obtain⟨n0,n1⟩:=t8 h0 h1 (hl h (by simp)).1 (hl h (by simp)).2
  exact uW l _ n0 n1 fun x hx=>hl x (by simp [hx])
theorem vB {hs:List Int} (h:∀h∈hs,0≤h∧h<12) (k:Nat):0≤i5 (hs.take k)∧i5 (hs.take k)<4096:=
 uW _ 0 (by omega) (by omega) fun x hx=>h x (List.mem_of_mem_take hx)
theorem Tk.hs12 {hs:List Int} {nd wr sz st ph:Int} (h:Tk hs nd wr sz st ph):∀x∈hs,0≤x∧x<12:=fun x hx=>by
 obtain⟨i,hi,rfl⟩:=List.mem_iff_getElem.1 hx
 have:=y0 hs (-1) i h.ho hi
 rw [gD hi] at this
 omega
open Classical in
noncomputable def fB (hs:List Int) (es:Ps) (p:RP):Ps:=
 if aa es p.1=none∧(¬∃x∈p.2.1,eI (i5 hs) x)∧(p.2.1.length:Int)=(hs.length:Int)∧p.1∈hs then cP es p.1 p.2.1 else es
noncomputable def fU (hs:List Int) (l:List RP):Ps:=l.foldl (fB hs) []
theorem kD {hs:List Int} {l:List RP} {k:Nat} (h:k<l.length):fU hs (l.take (k+1))=fB hs (fU hs (l.take k)) (l.getD k (0,([],()))):=by
 unfold fU
 rw [List.take_succ_eq_append_getElem h,List.foldl_append,gD h];rfl
theorem wT {es:Ps} {n:Int} {x:List Int} {e:Int×List Int}:e∈cP es n x→e∈es∨e=(n,x):=by
 induction es with
 |nil=>intro h;right;simpa [cP] using h
 | cons a es ih=>
  obtain⟨m,y⟩:=a
  intro h
  unfold cP at h
  split at h
  ·rcases List.mem_cons.1 h with h|h
   ·right;simp_all
   ·left;exact List.mem_cons_of_mem _ h
  ·rcases List.mem_cons.1 h with h|h
   ·left;rw [h];exact List.mem_cons_self ..
   ·exact(ih h).imp (List.mem_cons_of_mem _) id
theorem Hl (es:Ps) (n:Int) (x:List Int):(cP es n x).length≤es.length+1:=by
 induction es with
 |nil=>simp [cP]
 |cons a es ih=>
  obtain⟨m,y⟩:=a
  unfold cP
  split<;>simp only [List.length_cons]<;>omega
theorem Bh (hs:List Int):∀(l:List RP) (es:Ps),(l.foldl (fB hs) es).length≤es.length+l.length
 |[],es=>by simp
 | p::l,es=>by
  have h:=Bh hs l (fB hs es p)
  have h2:(fB hs es p).length≤es.length+1:=by
   unfold fB;split
   ·exact Hl _ _ _
   ·omega
  simp only [List.foldl_cons,List.length_cons];omega
theorem Y3 {a b:Nat} (h:a^^^b=0):a=b:=by
 apply Nat.eq_of_testBit_eq
 intro i
 have:=congrArg (fun n=>n.testBit i) h
 simp only [Nat.testBit_xor,Nat.zero_testBit] at this
 revert this
 cases a.testBit i<;>cases b.testBit i<;>simp
theorem Hh {a x:Int} (h:¬eI a x):0≤x∧x.toNat=x.toNat&&&a.toNat:=by
 unfold eI at h
 have h1:¬x<0:=fun g=>h (.inl g)
 have h2:(((x.toNat^^^(x.toNat&&&a.toNat)):Nat):Int)=0:=nw fun g=>h (.inr g)
 exact⟨by omega,Y3 (by omega)⟩
def S7 (hs:List Int) (es:Ps):Prop:=∀e∈es,(0≤e.1∧e.1<12)∧e.2.length=hs.length∧∀x∈e.2,0≤x∧x<4096
theorem zD {hs:List Int} (hh:∀h∈hs,0≤h∧h<12):∀(l:List RP) (es:Ps),S7 hs es→S7 hs (l.foldl (fB hs) es)
 |[],es,h=>h
 | p::l,es,h=>by
  refine zD hh l _ fun e he=> ?_
  unfold fB at he
  split at he
  ·rename_i hc
   rcases wT he with he|rfl
   ·exact h e he
   ·refine⟨hh _ hc.2.2.2,by have:=hc.2.2.1;show p.2.1.length=_;omega,fun x hx=> ?_⟩
    obtain⟨x0,x1⟩:=Hh fun g=>hc.2.1 ⟨x,hx,g⟩
    have ha:=vB hh hs.length
    rw [List.take_length] at ha
    have:x.toNat&&&(i5 hs).toNat≤(i5 hs).toNat:=Nat.and_le_right
    omega
  ·exact h e he
noncomputable def Lk (hs:List Int) (wr:Int) (es:Ps) (k:Nat):List (Int×Int×Unit):=
 if 0≤cl es (k:Int) (hs.drop 0) 0 ((hs.length:Int)-wr) then [(hs.getD k 0,cl es (k:Int) (hs.drop 0) 0 ((hs.length:Int)-wr),())] else []
noncomputable def nv (hs:List Int) (wr:Int) (es:Ps):Nat→List (Int×Int×Unit)
 |0=> []
 |k+1=>nv hs wr es k++Lk hs wr es k
theorem tP (hs:List Int) (wr:Int) (es:Ps):∀k,(nv hs wr es k).length≤k
 |0=>by simp [nv]
 |k+1=>by
  have:=tP hs wr es k
  unfold nv Lk
  split<;>simp<;>omega
noncomputable def aS (hs:List Int) (nd wr sz st ph:Int) (l:List RP):List (Int×Int×Unit):=
 if fZ hs nd wr sz st ph=0 then nv hs wr (fU hs l) hs.length else []
theorem jf:∀(l:List Int) (p:Int) (k:Nat),jz p l=true→k<l.length→p<l.getD k 0∧∀x∈l.take k,x<l.getD k 0
 |[],_,k,_,hk=>by simp at hk
 |a::l,p,0,hh,_=>by
  simp only [jz,Bool.and_eq_true,decide_eq_true_eq] at hh
  exact⟨hh.1.2.2,fun x hx=>by simp at hx⟩
 |a::l,p,k+1,hh,hk=>by
  simp only [jz,Bool.and_eq_true,decide_eq_true_eq] at hh
  obtain⟨h1,h2⟩:=jf l a k hh.2 (by simpa using hk)
  have e:(a::l).getD (k+1) 0=l.getD k 0:=by simp
  rw [e,List.take_succ_cons]
  refine⟨by omega,fun x hx=> ?_⟩
  rcases List.mem_cons.1 hx with rfl|hx
  ·exact h1
  ·exact h2 x hx
end
noncomputable def Vt:List V→Option (Prop×V×List Blk)
 |[.agg [.sl false (.int .i64) hs,.int .i64 nd,.int .i64 wr,.int .i64 sz,.int .i64 st,.int .i64 ph],.sl false (.cons (.int .i64) (.cons (.sl (.int .i64)) .nil)) l]=>some (hs.length≤2000000∧l.length≤20∧∀p∈l,p.2.1.length≤1048576,.tup [.own (.cons (.int .i64) (.cons (.int .i64) .nil)) 0,.int .i64 (fZ hs nd wr sz st ph)], [.row true (.cons (.int .i64) (.cons (.int .i64) .nil)) (aS hs nd wr sz st ph l)])
 |_=>none
theorem Sy (hs:List Int) (nd wr sz st ph:Int) (l:List (Int×(List Int×Unit))) (hp0:hs.length≤2000000) (hp1:l.length≤20) (hp2:∀p∈l,p.2.1.length≤1048576):bI (En CSe tys G6 bO [1000006]) Tryd.f8 [.o (.cons (.int .i64) (.cons (.int .i64) .nil)),.k] [Lc hs nd wr sz st ph,.sl false fN l] (.tup [.own (.cons (.int .i64) (.cons (.int .i64) .nil)) 0,.int .i64 (fZ hs nd wr sz st ph)]) [.row true (.cons (.int .i64) (.cons (.int .i64) .nil)) (aS hs nd wr sz st ph l)]:=by
 refine⟨rfl,rfl,rfl,rfl,rfl,om (hs.length≤2000000),yn ((fZ hs nd wr sz st ph)≠0) (fun h0=> ?_) fun h0=> ?_⟩
 ·rw [show aS hs nd wr sz st ph l= [] from if_neg h0]
  exact a6
 ·have hT:=E7 (nw h0)
  have hsb:∀h∈hs,0≤h∧h<12:=hT.hs12
  have hn12:=hT.l12
  refine⟨gY,2, [(1,.k),(2,.k),(7,.k),(27,.k),(28,.k),(29,.k)],fun nM vs H=>∃(k:Nat),k≤hs.length∧nM=hs.length-k∧vs= [.sl false fN l,.ptr 0 1 0 0,.ptr 1 1 0 0,.sl false (.int .i64) hs,.int .i64 (hs.length:Int),.int .i64 (k:Int)]∧H= [.cells [.sl false (.int .i64) hs,.int .i64 nd,.int .i64 wr,.int .i64 sz,.int .i64 st,.int .i64 ph],.cells [.int .i64 (i5 (hs.take k))]],⟨rfl,hs.length,0,by omega,by omega,rfl,rfl⟩,?_⟩
  rintro nM vs H ⟨k,hc1_0,rfl,rfl,rfl⟩
  refine yn ((k:Int)<(hs.length:Int)) (fun h1=> ?_) fun h1=> ?_
  ·have hkl:k<hs.length:=by omega
   obtain⟨g0,g1⟩:=hsb _ (bE 0 hs k hkl)
   obtain⟨p0,p1⟩:=tc g0 g1
   obtain⟨a0,a1⟩:=vB hsb k
   refine⟨ix k hs.length,by kernel_rfl,⟨om ((0:Int)≤hs.getD k 0),om (hs.getD k 0≤(64:Int))⟩,ap ((1:Int)*2^((hs.getD k 0).toNat)),.inl ⟨⟨om ((0:Int)≤(i5 (hs.take k))),om ((0:Int)≤((1:Int)*2^((hs.getD k 0).toNat)))⟩,?_⟩⟩
   refine⟨gY,ap (k+1),?_⟩
   exact⟨rfl,hs.length-(k+1),by omega,k+1,by omega,rfl,rfl,by rw [Ee hkl];rfl⟩
  ·have hk:hs.take k=hs:=List.take_of_length_le (by omega)
   obtain⟨a0,a1⟩:=vB hsb k
   refine⟨gY,4, [(2,.k),(7,.k),(10,.k),(39,.k),(40,.k),(41,.k)],fun nM vs H=>∃(j:Nat),j≤l.length∧nM=l.length-j∧vs= [.ptr 0 1 0 0,.ptr 1 1 0 0,.ptr 3 1 0 0,.sl false fN l,.int .i64 (l.length:Int),.int .i64 (j:Int)]∧H= [.cells [.sl false (.int .i64) hs,.int .i64 nd,.int .i64 wr,.int .i64 sz,.int .i64 st,.int .i64 ph],.cells [.int .i64 (i5 (hs.take k))],.imap false (.sl (.int .i64)) (fU hs (l.take j)),.cells [.mp (.sl (.int .i64)) 2]],⟨rfl,l.length,0,by omega,by omega,rfl,rfl⟩,?_⟩
   rintro nM vs H ⟨j,hc2_0,rfl,rfl,rfl⟩
   refine yn ((j:Int)<(l.length:Int)) (fun h2=> ?_) fun h2=> ?_
   ·have hjl:j<l.length:=by omega
    have hpl:=hp2 _ (bE (0,([],())) l j hjl)
    have hel:=Bh hs (l.take j) []
    rw [List.length_take,List.length_nil] at hel
    replace hel:(fU hs (l.take j)).length≤0+min j l.length:=hel
    refine⟨ix j l.length,cO,rfl,fun x3 h3=> ?_,fun h3=> ?_⟩
    ·replace h3:aa (fU hs (l.take j)) ((l.getD j (0,([],()))).1)=some x3:=h3
     have hps:fU hs (l.take (j+1))=fU hs (l.take j):=by
      rw [kD hjl,fB,if_neg (fun h=>by
       have h9:=h3.symm.trans h.1
       cases h9)]
     refine⟨rfl,⟨os (0≤(i5 (hs.take k))),os ((((l.getD j (0,([],()))).2).1).length≤1048576)⟩,cn (¬True),fun h4=> ?_⟩
     refine⟨ap (j+1),?_⟩
     exact⟨rfl,l.length-(j+1),by omega,j+1,by omega,rfl,rfl,by rw [hps];rfl⟩
    ·replace h3:aa (fU hs (l.take j)) ((l.getD j (0,([],()))).1)=none:=h3
     refine⟨rfl,⟨os (0≤(i5 (hs.take k))),os ((((l.getD j (0,([],()))).2).1).length≤1048576)⟩,fun h5=> ?_,cp (¬False)⟩
     refine yn (¬(∃x∈(((l.getD j (0,([],()))).2).1),eI (i5 (hs.take k)) x)) (fun h6=> ?_) fun h6=> ?_
     ·refine yn ((((((l.getD j (0,([],()))).2).1).length:Nat):Int)=(hs.length:Int)) (fun h7=> ?_) fun h7=> ?_
      ·refine⟨rfl,om (hs.length≤2000000),yn (((l.getD j (0,([],()))).1)∈hs) (fun h8=> ?_) fun h8=> ?_⟩
       ·have hps:fU hs (l.take (j+1))=cP (fU hs (l.take j)) (l.getD j (0,([],()))).1 (l.getD j (0,([],()))).2.1:=by
         rw [hk] at h6
         rw [kD hjl,fB,if_pos ⟨h3,h6,h7,h8⟩]
        refine⟨⟨rfl,om ((fU hs (l.take j)).length≤1000000000)⟩,ap (j+1),?_⟩
        exact⟨rfl,l.length-(j+1),by omega,j+1,by omega,rfl,rfl,by rw [hps];rfl⟩
       ·have hps:fU hs (l.take (j+1))=fU hs (l.take j):=by
         rw [kD hjl,fB,if_neg (fun h=>h8 h.2.2.2)]
        refine⟨ap (j+1),?_⟩
        exact⟨rfl,l.length-(j+1),by omega,j+1,by omega,rfl,rfl,by rw [hps];rfl⟩
      ·have hps:fU hs (l.take (j+1))=fU hs (l.take j):=by
        rw [kD hjl,fB,if_neg (fun h=>h7 h.2.2.1)]
       refine⟨ap (j+1),?_⟩
       exact⟨rfl,l.length-(j+1),by omega,j+1,by omega,rfl,rfl,by rw [hps];rfl⟩
     ·have hps:fU hs (l.take (j+1))=fU hs (l.take j):=by
       rw [kD hjl,fB,if_neg (fun h=>h6 (by rw [hk];exact h.2.1))]
      refine⟨ap (j+1),?_⟩
      exact⟨rfl,l.length-(j+1),by omega,j+1,by omega,rfl,rfl,by rw [hps];rfl⟩
   ·have hj:l.take j=l:=List.take_of_length_le (by omega)
    have hok:=zD hsb l [] (fun e he=>by cases he)
    refine⟨4, [(2,.k),(10,.k),(16,.o (.cons (.int .i64) (.cons (.int .i64) .nil))),(85,.k),(86,.k),(87,.k)],fun nM vs H=>∃(m:Nat),m≤hs.length∧nM=hs.length-m∧vs= [.p 0,.p 3,.own (.cons (.int .i64) (.cons (.int .i64) .nil)) 4,.sl false (.int .i64) hs,.i (hs.length:Int),.i m]∧H= [D9 hs nd wr sz st ph,.cells [.i (i5 (hs.take k))],.imap false (.sl (.int .i64)) (fU hs (l.take j)),.cells [.mp (.sl (.int .i64)) 2],.r (.cons (.int .i64) (.cons (.int .i64) .nil)) (nv hs wr (fU hs l) m)],⟨rfl,hs.length,0,by omega,by omega,rfl,rfl⟩,?_⟩
    rintro nM vs H ⟨m,hc3_0,rfl,rfl,rfl⟩
    refine yn ((m:Int)<(hs.length:Int)) (fun h9=> ?_) fun h9=> ?_
    ·have hm:m<hs.length:=by omega
     have hv:=tP hs wr (fU hs l) m
     have hq:=hT.q1
     have r1:=hT.rg.1.1.1
     obtain⟨r2,r3⟩:=hT.rg.1.2.1
     obtain⟨g0,g1⟩:=hsb _ (bE 0 hs m hm)
     have hSr:SrOk hs (fU hs (l.take j)) (m:Int) 0 ((hs.length:Int)-wr) 0:=⟨by omega,by omega,by omega,by omega,by omega,by omega,by omega,by omega,by omega,hsb,by rw [hj];exact hok⟩
     refine⟨ix m hs.length,gY,gY,ap (hs.length-wr),fY,hSr,yn (0≤(cl (fU hs (l.take j)) (m:Int) (hs.drop 0) 0 ((hs.length:Int)-wr))) (fun h10=> ?_) fun h10=> ?_⟩
     ·have hvd:nv hs wr (fU hs l) (m+1)=nv hs wr (fU hs l) m++ [(hs.getD m 0,(cl (fU hs (l.take j)) (m:Int) (hs.drop 0) 0 ((hs.length:Int)-wr),()))]:=by
       rw [hj] at h10
       rw [nv,Lk,if_pos h10,hj]
      refine⟨rfl,rfl,fY,l9 (nv hs wr (fU hs l) m).length,ap (m+1),?_⟩
      exact⟨rfl,hs.length-(m+1),by omega,m+1,by omega,rfl,rfl,by rw [hvd];rfl⟩
     ·have hvd:nv hs wr (fU hs l) (m+1)=nv hs wr (fU hs l) m:=by
       rw [hj] at h10
       rw [nv,Lk,if_neg h10,List.append_nil]
      refine⟨ap (m+1),?_⟩
      exact⟨rfl,hs.length-(m+1),by omega,m+1,by omega,rfl,rfl,by rw [hvd];rfl⟩
    ·rw [show aS hs nd wr sz st ph l=nv hs wr (fU hs l) m by rw [aS,if_pos (nw h0),show m=hs.length by omega],nw h0]
     exact a6
noncomputable def Ub:List (Nat×bW):=(8,aW [.v yH,.v (.sl fN)] Vt)::Oh
theorem aAh:Known Tryd.prog (En Ub tys G6 bO):=Wo.addT kSe Tryd.func8 Tryd.call8 [.o (.cons (.int .i64) (.cons (.int .i64) .nil)),.k] fun ds p v bs h hp=>by
 unfold Vt at h
 split at h<;>simp only [Option.some.injEq,Prod.mk.injEq,reduceCtorEq] at h
 obtain⟨rfl,rfl,rfl⟩:=h
 exact Sy _ _ _ _ _ _ _ hp.1 hp.2.1 hp.2.2
theorem wj (x:Int):∀(l:List Int) (k:Nat),x∈l→∃i:Nat,i<l.length∧aj x l k=(k:Int)+i∧l.getD i 0=x
 |[],_,h=>by cases h
 | a::l,k,h=>by
  unfold aj
  by_cases e:x=a
  ·exact⟨0,by simp,by rw [if_pos e];simp,by simp [e]⟩
  ·rw [if_neg e]
   obtain⟨i,h1,h2,h3⟩:=wj x l (k+1) ((List.mem_cons.1 h).resolve_left e)
   refine⟨i+1,by simp;omega,?_,by simpa using h3⟩
   rw [show((k:Int)+1)=((k+1:Nat):Int) by omega,h2];omega
theorem eO {hs:List Int} {p:Int} (h:p∈hs):0≤aj p hs 0∧(aj p hs 0).toNat<hs.length∧hs.getD (aj p hs 0).toNat 0=p:=by
 obtain⟨i,h1,h2,h3⟩:=wj p hs 0 h
 have h2:aj p hs 0=(0:Int)+i:=h2
 have e:(aj p hs 0).toNat=i:=by omega
 exact⟨by omega,by omega,by rw [e];exact h3⟩
theorem jw {hs:List Int} (hh:jz (-1) hs=true) {i j:Nat} (hi:i<hs.length) (hj:j<hs.length) (e:hs.getD i 0=hs.getD j 0):i=j:=by
 have key:∀a b:Nat,a<b→b<hs.length→hs.getD a 0<hs.getD b 0:=fun a b hab hb=>by
  refine(jf hs (-1) b hh hb).2 _ ?_
  rw [gD (show a<hs.length by omega)]
  exact List.mem_take_iff_getElem.2 ⟨a,by omega,rfl⟩
 rcases Nat.lt_trichotomy i j with h|h|h
 ·have:=key i j h hj;omega
 ·exact h
 ·have:=key j i h hi;omega
theorem ib (n m:Int) (x:List Int):∀es:Ps,aa (cP es n x) m=if n=m then some x else aa es m
 |[]=>by simp [cP,aa]
 | (a,y)::es=>by
  have ih:=ib n m x es
  unfold cP
  by_cases e:a=n
  ·rw [if_pos e]
   subst e
   simp only [aa]
   split<;>rfl
  ·rw [if_neg e]
   simp only [aa]
   rw [ih]
   by_cases e2:a=m
   ·rw [if_pos e2,if_pos e2,if_neg (by omega)]
   ·rw [if_neg e2,if_neg e2]
section
open Classical in
section
variable {hs ag:List Int} {set more:Int} {k i:Nat}
open Classical in
end
end
theorem N4 {a n:Nat}:a&&&2^n=2^n↔a.testBit n=true:=by
 constructor
 ·intro h
  have h1:=congrArg (fun x=>x.testBit n) h
  simp only [Nat.testBit_and,Nat.testBit_two_pow_self,Bool.and_true] at h1
  exact h1
 ·intro h
  apply Nat.eq_of_testBit_eq
  intro i
  rw [Nat.testBit_and,Nat.testBit_two_pow]
  by_cases e:n=i
  ·subst e;rw [h];rfl
  ·rw [decide_eq_false e,Bool.and_false]
theorem S4 {a s t:Nat}:a&&&(s|||t)=s|||t↔a&&&s=s∧a&&&t=t:=by
 constructor
 ·intro h
  have key:∀i,(a.testBit i&&(s.testBit i||t.testBit i))=(s.testBit i||t.testBit i):=fun i=>by
   have:=congrArg (fun x=>x.testBit i) h
   simpa only [Nat.testBit_and,Nat.testBit_or] using this
  refine⟨Nat.eq_of_testBit_eq fun i=> ?_,Nat.eq_of_testBit_eq fun i=> ?_⟩<;>rw [Nat.testBit_and]<;>have:=key i<;>revert this<;>cases a.testBit i<;>cases s.testBit i<;>cases t.testBit i<;>simp
 ·rintro⟨h1,h2⟩
  rw [Nat.and_or_distrib_left,h1,h2]
theorem mD (n:Nat):((2:Int)^n).toNat=2^n:=by
 rw [show(2:Int)^n=((2^n:Nat):Int) by rw [Int.natCast_pow];rfl,Int.toNat_natCast]
theorem pV {x:Int} (h:0≤x) (n:Nat):(x/2^n)%2=1↔x.toNat.testBit n=true:=by
 obtain⟨m,rfl⟩:=Int.eq_ofNat_of_zero_le h
 rw [Int.toNat_natCast,Nat.testBit_eq_decide_div_mod_eq,decide_eq_true_eq,show(2:Int)^n=((2^n:Nat):Int) by rw [Int.natCast_pow];rfl]
 omega
theorem mY {x:Int} (h:0≤x) (n:Nat):((x/2^n).toNat&&&1)=(x.toNat.testBit n).toNat:=by
 obtain⟨m,rfl⟩:=Int.eq_ofNat_of_zero_le h
 have e:((m:Int)/2^n).toNat=m/2^n:=by
  rw [show(2:Int)^n=((2^n:Nat):Int) by rw [Int.natCast_pow];rfl]
  rw [show(m:Int)/((2^n:Nat):Int)=((m/2^n:Nat):Int) from rfl,Int.toNat_natCast]
 rw [e,Int.toNat_natCast,Nat.and_one_is_mod,Nat.testBit_eq_decide_div_mod_eq]
 have:=Nat.mod_two_eq_zero_or_one (m/2^n)
 rcases this with h|h<;>rw [h]<;>rfl
def xo (es:Ps):Prop:=∀e∈es,aa es e.1=some e.2
theorem Dj {es:Ps} {e:Int×List Int} (h:e∈es):aa es e.1≠none:=by
 induction es with
 |nil=>cases h
 | cons a es ih=>
  obtain⟨m,y⟩:=a
  unfold aa
  split
  ·simp
  ·rename_i hne
   rcases List.mem_cons.1 h with rfl|h
   ·exact absurd rfl hne
   ·exact ih h
theorem Bi (hs:List Int):∀(l:List RP) (es:Ps),xo es→xo (l.foldl (fB hs) es)
 |[],_,h=>h
 | p::l,es,h=>by
  refine Bi hs l _ fun e he=> ?_
  unfold fB at he ⊢
  split at he
  ·rename_i hc
   rw [if_pos hc,ib]
   rcases wT he with he|rfl
   ·rw [if_neg fun hn=>Dj he (by rw [←hn];exact hc.1)]
    exact h e he
   ·rw [if_pos rfl]
  ·rename_i hc
   rw [if_neg hc]
   exact h e he
theorem Hg {a s h:Int}:(((a.toNat&&&(jY s h).toNat:Nat):Int)=jY s h)↔a.toNat.testBit h.toNat=true∧a.toNat&&&s.toNat=s.toNat:=by
 have e:jY s h=((s.toNat|||2^h.toNat:Nat):Int):=by unfold jY;rw [Int.one_mul,mD]
 rw [e,Int.toNat_natCast,←N4,and_comm,←S4]
 exact Int.ofNat_inj
theorem iO {α:Type} {d:α} {a b:List α} {k:Nat} (ha:k<a.length) (hb:k<b.length) (h:a.take k=b.take k) (he:a.getD k d=b.getD k d):a.take (k+1)=b.take (k+1):=by
 rw [List.take_succ_eq_append_getElem ha,List.take_succ_eq_append_getElem hb,h,←gD (d:=d) ha,←gD (d:=d) hb,he]
theorem iP {α:Type} {a b:List α} {k:Nat} (hl:a.length=b.length) (hk:a.length≤k) (h:a.take k=b.take k):a=b:=by
 rw [List.take_of_length_le hk,List.take_of_length_le (by omega)] at h;exact h
theorem Mx {α:Type} (p:α→Bool) {q:α→Prop} (l:List α) (h:∀i,p i=true↔q i):0≤vG p l 0↔∃i∈l,q i:=by
 constructor
 ·intro g
  refine Classical.byContradiction fun hn=> ?_
  have:=(jy (p:=p) (l:=l) (k:=0)).2 fun a ha=>by
   cases hp:p a with
   |false=>rfl
   |true=>exact absurd ⟨a,ha,(h a).1 hp⟩ hn
  omega
 ·rintro⟨i,hi,hq⟩
  refine Classical.byContradiction fun hn=> ?_
  have:=(jy (p:=p) (l:=l) (k:=0)).1 (by omega) i hi
  rw [(h i).2 hq] at this;cases this
noncomputable def Qf:List V→Option (Prop×V×List Blk)
 |[.sl false .str a,.sl false .str b]=>some (a.length≤1048576∧b.length≤1048576,.b (a=b), [])
 |_=>none
theorem aA7 (a b:List (List UInt8)):bH (En Ub tys G6 bO) Tryd.f18 [.k] Qf [.sl false .str a,.sl false .str b]:=by
 rintro⟨hp0,hp1⟩
 refine yn ((a.length:Int)≠(b.length:Int)) (fun h0=> ?_) fun h0=> ?_
 ·exact⟨rfl,rfl,congrArg V.b (propext ⟨fun h=>Bool.noConfusion h,fun h=>False.elim (h0 (by rw [h]))⟩),rfl⟩
 ·refine⟨0, [(0,.k),(1,.k),(5,.k)],fun nM vs H=>∃(k:Nat),k≤a.length∧a.take k=b.take k∧nM=a.length-k∧vs= [.sl false .str a,.sl false .str b,.i k]∧H= [],⟨rfl,a.length,0,by omega,rfl,by omega,rfl,rfl⟩,?_⟩
  rintro nM vs H ⟨k,hc1_0,hc1_1,rfl,rfl,rfl⟩
  refine yn ((k:Int)<(a.length:Int)) (fun h1=> ?_) fun h1=> ?_
  ·refine⟨by kernel_rfl,ix k a.length,ix k b.length,yn ((a.getD k [])≠(b.getD k [])) (fun h2=> ?_) fun h2=> ?_⟩
   ·exact⟨rfl,rfl,congrArg V.b (propext ⟨fun h=>Bool.noConfusion h,fun h=>False.elim (h2 (by rw [h]))⟩),rfl⟩
   ·have hnx:=iO (d:= []) (show k<a.length by omega) (show k<b.length by omega) hc1_1 (nw h2)
    refine⟨ap (k+1),?_⟩
    exact⟨rfl,a.length-(k+1),by omega,k+1,by omega,hnx,rfl,rfl,rfl⟩
  ·exact⟨rfl,rfl,congrArg V.b (propext ⟨fun _=>iP (by omega) (by omega) hc1_1,fun _=>rfl⟩),rfl⟩
noncomputable def Ti:List (Nat×bW):=(18,aW [.v (.sl .str),.v (.sl .str)] Qf)::Ub
theorem aAM:Known Tryd.prog (En Ti tys G6 bO):=aAh.addQ Tryd.func18 Tryd.call18 [.k] fun ds _ _ _ h=>by unfold Qf at h;split at h;exact aA7 _ _;cases h
noncomputable def Qh:List V→Option (Prop×V×List Blk)
 |[.sl false (.cons (.int .i64) (.cons (.int .i64) (.cons (.int .i64) (.cons (.int .i64) (.cons (.sl .str) .nil))))) a,.sl false (.cons (.int .i64) (.cons (.int .i64) (.cons (.int .i64) (.cons (.int .i64) (.cons (.sl .str) .nil))))) b]=>some (a.length≤1048576∧b.length≤1048576∧(∀m∈a,m.2.2.2.2.1.length≤1048576)∧(∀m∈b,m.2.2.2.2.1.length≤1048576),.b (a=b), [])
 |_=>none
theorem aA9 (a:List (Int×(Int×(Int×(Int×(List (List UInt8)×Unit)))))) (b:List (Int×(Int×(Int×(Int×(List (List UInt8)×Unit)))))):bH (En Ti tys G6 bO) Tryd.f16 [.k] Qh [.sl false dY a,.sl false dY b]:=by
 rintro⟨hp0,hp1,(hp2:(∀m∈a,m.2.2.2.2.1.length≤1048576)),(hp3:(∀m∈b,m.2.2.2.2.1.length≤1048576))⟩
 refine yn ((a.length:Int)≠(b.length:Int)) (fun h0=> ?_) fun h0=> ?_
 ·exact⟨rfl,rfl,congrArg V.b (propext ⟨fun h=>Bool.noConfusion h,fun h=>False.elim (h0 (by rw [h]))⟩),rfl⟩
 ·refine⟨0, [(0,.k),(1,.k),(5,.k)],fun nM vs H=>∃(k:Nat),k≤a.length∧a.take k=b.take k∧nM=a.length-k∧vs= [.sl false dY a,.sl false dY b,.i k]∧H= [],⟨rfl,a.length,0,by omega,rfl,by omega,rfl,rfl⟩,?_⟩
  rintro nM vs H ⟨k,hc1_0,hc1_1,rfl,rfl,rfl⟩
  refine yn ((k:Int)<(a.length:Int)) (fun h1=> ?_) fun h1=> ?_
  ·have hka:k<a.length:=by omega
   have hkb:k<b.length:=by omega
   have la:=hp2 _ (bE (0,0,0,0, [],()) a k hka)
   have lb:=hp3 _ (bE (0,0,0,0, [],()) b k hkb)
   refine⟨by kernel_rfl,ix k a.length,ix k b.length,⟨os (((((((a.getD k (0,0,0,0, [],())).2).2).2).2).1).length≤1048576),os (((((((b.getD k (0,0,0,0, [],())).2).2).2).2).1).length≤1048576)⟩,by kernel_rfl,ny (¬(((((((a.getD k (0,0,0,0, [],())).2).2).2).2).1)=((((((b.getD k (0,0,0,0, [],())).2).2).2).2).1))) (fun h2=> ?_) fun h2=> ?_⟩
   ·refine⟨fun h3=> ?_,cn (¬(((((((a.getD k (0,0,0,0, [],())).2).2).2).2).1)=((((((b.getD k (0,0,0,0, [],())).2).2).2).2).1)))⟩
    refine⟨fun h4=> ?_,cn (¬(((((((a.getD k (0,0,0,0, [],())).2).2).2).2).1)=((((((b.getD k (0,0,0,0, [],())).2).2).2).2).1)))⟩
    refine⟨ix k a.length,fun h5=> ?_,cn (¬(((((((a.getD k (0,0,0,0, [],())).2).2).2).2).1)=((((((b.getD k (0,0,0,0, [],())).2).2).2).2).1)))⟩
    refine⟨fun h6=> ?_,cn (¬(((((((a.getD k (0,0,0,0, [],())).2).2).2).2).1)=((((((b.getD k (0,0,0,0, [],())).2).2).2).2).1)))⟩
    refine⟨fun h7=> ?_,cn (¬(((((((a.getD k (0,0,0,0, [],())).2).2).2).2).1)=((((((b.getD k (0,0,0,0, [],())).2).2).2).2).1)))⟩
    refine⟨fun h8=> ?_,cn (¬(((((((a.getD k (0,0,0,0, [],())).2).2).2).2).1)=((((((b.getD k (0,0,0,0, [],())).2).2).2).2).1)))⟩
    refine⟨fun h9=> ?_,cn (¬(((((((a.getD k (0,0,0,0, [],())).2).2).2).2).1)=((((((b.getD k (0,0,0,0, [],())).2).2).2).2).1)))⟩
    refine⟨ix k b.length,fun h10=> ?_,cn (¬(((((((a.getD k (0,0,0,0, [],())).2).2).2).2).1)=((((((b.getD k (0,0,0,0, [],())).2).2).2).2).1)))⟩
    refine⟨fun h11=> ?_,cn (¬(((((((a.getD k (0,0,0,0, [],())).2).2).2).2).1)=((((((b.getD k (0,0,0,0, [],())).2).2).2).2).1)))⟩
    refine⟨fun h12=> ?_,cn (¬(((((((a.getD k (0,0,0,0, [],())).2).2).2).2).1)=((((((b.getD k (0,0,0,0, [],())).2).2).2).2).1)))⟩
    refine⟨cn (¬(((((((a.getD k (0,0,0,0, [],())).2).2).2).2).1)=((((((b.getD k (0,0,0,0, [],())).2).2).2).2).1))),fun h13=> ?_⟩
    refine ny (((a.getD k (0,0,0,0, [],())).1)≠((b.getD k (0,0,0,0, [],())).1)) (fun h14=> ?_) fun h14=> ?_
    ·refine⟨fun h15=> ?_,cn (((a.getD k (0,0,0,0, [],())).1)≠((b.getD k (0,0,0,0, [],())).1))⟩
     refine⟨fun h16=> ?_,cn (((a.getD k (0,0,0,0, [],())).1)≠((b.getD k (0,0,0,0, [],())).1))⟩
     refine⟨ix k a.length,fun h17=> ?_,cn (((a.getD k (0,0,0,0, [],())).1)≠((b.getD k (0,0,0,0, [],())).1))⟩
     refine⟨fun h18=> ?_,cn (((a.getD k (0,0,0,0, [],())).1)≠((b.getD k (0,0,0,0, [],())).1))⟩
     refine⟨fun h19=> ?_,cn (((a.getD k (0,0,0,0, [],())).1)≠((b.getD k (0,0,0,0, [],())).1))⟩
     refine⟨fun h20=> ?_,cn (((a.getD k (0,0,0,0, [],())).1)≠((b.getD k (0,0,0,0, [],())).1))⟩
     refine⟨fun h21=> ?_,cn (((a.getD k (0,0,0,0, [],())).1)≠((b.getD k (0,0,0,0, [],())).1))⟩
     refine⟨ix k b.length,fun h22=> ?_,cn (((a.getD k (0,0,0,0, [],())).1)≠((b.getD k (0,0,0,0, [],())).1))⟩
     refine⟨fun h23=> ?_,cn (((a.getD k (0,0,0,0, [],())).1)≠((b.getD k (0,0,0,0, [],())).1))⟩
     refine⟨fun h24=> ?_,cn (((a.getD k (0,0,0,0, [],())).1)≠((b.getD k (0,0,0,0, [],())).1))⟩
     refine⟨cn (((a.getD k (0,0,0,0, [],())).1)≠((b.getD k (0,0,0,0, [],())).1)),fun h25=> ?_⟩
     refine ny ((((a.getD k (0,0,0,0, [],())).2).1)≠(((b.getD k (0,0,0,0, [],())).2).1)) (fun h26=> ?_) fun h26=> ?_
     ·refine⟨fun h27=> ?_,cn ((((a.getD k (0,0,0,0, [],())).2).1)≠(((b.getD k (0,0,0,0, [],())).2).1))⟩
      refine⟨fun h28=> ?_,cn ((((a.getD k (0,0,0,0, [],())).2).1)≠(((b.getD k (0,0,0,0, [],())).2).1))⟩
      refine⟨ix k a.length,fun h29=> ?_,cn ((((a.getD k (0,0,0,0, [],())).2).1)≠(((b.getD k (0,0,0,0, [],())).2).1))⟩
      refine⟨fun h30=> ?_,cn ((((a.getD k (0,0,0,0, [],())).2).1)≠(((b.getD k (0,0,0,0, [],())).2).1))⟩
      refine⟨fun h31=> ?_,cn ((((a.getD k (0,0,0,0, [],())).2).1)≠(((b.getD k (0,0,0,0, [],())).2).1))⟩
      refine⟨fun h32=> ?_,cn ((((a.getD k (0,0,0,0, [],())).2).1)≠(((b.getD k (0,0,0,0, [],())).2).1))⟩
      refine⟨fun h33=> ?_,cn ((((a.getD k (0,0,0,0, [],())).2).1)≠(((b.getD k (0,0,0,0, [],())).2).1))⟩
      refine⟨ix k b.length,fun h34=> ?_,cn ((((a.getD k (0,0,0,0, [],())).2).1)≠(((b.getD k (0,0,0,0, [],())).2).1))⟩
      refine⟨fun h35=> ?_,cn ((((a.getD k (0,0,0,0, [],())).2).1)≠(((b.getD k (0,0,0,0, [],())).2).1))⟩
      refine⟨fun h36=> ?_,cn ((((a.getD k (0,0,0,0, [],())).2).1)≠(((b.getD k (0,0,0,0, [],())).2).1))⟩
      refine⟨cn ((((a.getD k (0,0,0,0, [],())).2).1)≠(((b.getD k (0,0,0,0, [],())).2).1)),fun h37=> ?_⟩
      refine ny (((((a.getD k (0,0,0,0, [],())).2).2).1)≠((((b.getD k (0,0,0,0, [],())).2).2).1)) (fun h38=> ?_) fun h38=> ?_
      ·refine⟨fun h39=> ?_,cn (((((a.getD k (0,0,0,0, [],())).2).2).1)≠((((b.getD k (0,0,0,0, [],())).2).2).1))⟩
       refine⟨fun h40=> ?_,cn (((((a.getD k (0,0,0,0, [],())).2).2).1)≠((((b.getD k (0,0,0,0, [],())).2).2).1))⟩
       refine⟨ix k a.length,fun h41=> ?_,cn (((((a.getD k (0,0,0,0, [],())).2).2).1)≠((((b.getD k (0,0,0,0, [],())).2).2).1))⟩
       refine⟨fun h42=> ?_,cn (((((a.getD k (0,0,0,0, [],())).2).2).1)≠((((b.getD k (0,0,0,0, [],())).2).2).1))⟩
       refine⟨fun h43=> ?_,cn (((((a.getD k (0,0,0,0, [],())).2).2).1)≠((((b.getD k (0,0,0,0, [],())).2).2).1))⟩
       refine⟨fun h44=> ?_,cn (((((a.getD k (0,0,0,0, [],())).2).2).1)≠((((b.getD k (0,0,0,0, [],())).2).2).1))⟩
       refine⟨fun h45=> ?_,cn (((((a.getD k (0,0,0,0, [],())).2).2).1)≠((((b.getD k (0,0,0,0, [],())).2).2).1))⟩
       refine⟨ix k b.length,fun h46=> ?_,cn (((((a.getD k (0,0,0,0, [],())).2).2).1)≠((((b.getD k (0,0,0,0, [],())).2).2).1))⟩
       refine⟨fun h47=> ?_,cn (((((a.getD k (0,0,0,0, [],())).2).2).1)≠((((b.getD k (0,0,0,0, [],())).2).2).1))⟩
       refine⟨fun h48=> ?_,cn (((((a.getD k (0,0,0,0, [],())).2).2).1)≠((((b.getD k (0,0,0,0, [],())).2).2).1))⟩
       refine⟨cn (((((a.getD k (0,0,0,0, [],())).2).2).1)≠((((b.getD k (0,0,0,0, [],())).2).2).1)),fun h49=> ?_⟩
       refine yn ((((((a.getD k (0,0,0,0, [],())).2).2).2).1)≠(((((b.getD k (0,0,0,0, [],())).2).2).2).1)) (fun h50=> ?_) fun h50=> ?_
       ·exact⟨rfl,rfl,congrArg V.b (propext ⟨fun h=>Bool.noConfusion h,fun h=>False.elim (h50 (by rw [h]))⟩),rfl⟩
       ·have hnx:=iO (d:=(0,0,0,0, [],())) hka hkb hc1_1 (Prod.ext (nw h14) (Prod.ext (nw h26) (Prod.ext (nw h38) (Prod.ext (nw h50) (Prod.ext (nw h2) rfl)))))
        refine⟨ap (k+1),?_⟩
        exact⟨rfl,a.length-(k+1),by omega,k+1,by omega,hnx,rfl,rfl,rfl⟩
      ·refine⟨cp (((((a.getD k (0,0,0,0, [],())).2).2).1)≠((((b.getD k (0,0,0,0, [],())).2).2).1)),fun h51=> ?_⟩
       refine⟨cp (((((a.getD k (0,0,0,0, [],())).2).2).1)≠((((b.getD k (0,0,0,0, [],())).2).2).1)),fun h52=> ?_⟩
       refine⟨cp (((((a.getD k (0,0,0,0, [],())).2).2).1)≠((((b.getD k (0,0,0,0, [],())).2).2).1)),fun h53=> ?_⟩
       refine⟨cp (((((a.getD k (0,0,0,0, [],())).2).2).1)≠((((b.getD k (0,0,0,0, [],())).2).2).1)),fun h54=> ?_⟩
       refine⟨cp (((((a.getD k (0,0,0,0, [],())).2).2).1)≠((((b.getD k (0,0,0,0, [],())).2).2).1)),fun h55=> ?_⟩
       refine⟨cp (((((a.getD k (0,0,0,0, [],())).2).2).1)≠((((b.getD k (0,0,0,0, [],())).2).2).1)),fun h56=> ?_⟩
       refine⟨cp (((((a.getD k (0,0,0,0, [],())).2).2).1)≠((((b.getD k (0,0,0,0, [],())).2).2).1)),fun h57=> ?_⟩
       refine⟨cp (((((a.getD k (0,0,0,0, [],())).2).2).1)≠((((b.getD k (0,0,0,0, [],())).2).2).1)),fun h58=> ?_⟩
       refine⟨cp (((((a.getD k (0,0,0,0, [],())).2).2).1)≠((((b.getD k (0,0,0,0, [],())).2).2).1)),fun h59=> ?_⟩
       refine⟨cp (((((a.getD k (0,0,0,0, [],())).2).2).1)≠((((b.getD k (0,0,0,0, [],())).2).2).1)),fun h60=> ?_⟩
       refine⟨fun h61=> ?_,cp (((((a.getD k (0,0,0,0, [],())).2).2).1)≠((((b.getD k (0,0,0,0, [],())).2).2).1))⟩
       exact⟨rfl,rfl,congrArg V.b (propext ⟨fun h=>Bool.noConfusion h,fun h=>False.elim (h38 (by rw [h]))⟩),rfl⟩
     ·refine⟨cp ((((a.getD k (0,0,0,0, [],())).2).1)≠(((b.getD k (0,0,0,0, [],())).2).1)),fun h62=> ?_⟩
      refine⟨cp ((((a.getD k (0,0,0,0, [],())).2).1)≠(((b.getD k (0,0,0,0, [],())).2).1)),fun h63=> ?_⟩
      refine⟨cp ((((a.getD k (0,0,0,0, [],())).2).1)≠(((b.getD k (0,0,0,0, [],())).2).1)),fun h64=> ?_⟩
      refine⟨cp ((((a.getD k (0,0,0,0, [],())).2).1)≠(((b.getD k (0,0,0,0, [],())).2).1)),fun h65=> ?_⟩
      refine⟨cp ((((a.getD k (0,0,0,0, [],())).2).1)≠(((b.getD k (0,0,0,0, [],())).2).1)),fun h66=> ?_⟩
      refine⟨cp ((((a.getD k (0,0,0,0, [],())).2).1)≠(((b.getD k (0,0,0,0, [],())).2).1)),fun h67=> ?_⟩
      refine⟨cp ((((a.getD k (0,0,0,0, [],())).2).1)≠(((b.getD k (0,0,0,0, [],())).2).1)),fun h68=> ?_⟩
      refine⟨cp ((((a.getD k (0,0,0,0, [],())).2).1)≠(((b.getD k (0,0,0,0, [],())).2).1)),fun h69=> ?_⟩
      refine⟨cp ((((a.getD k (0,0,0,0, [],())).2).1)≠(((b.getD k (0,0,0,0, [],())).2).1)),fun h70=> ?_⟩
      refine⟨cp ((((a.getD k (0,0,0,0, [],())).2).1)≠(((b.getD k (0,0,0,0, [],())).2).1)),fun h71=> ?_⟩
      refine⟨fun h72=> ?_,cp ((((a.getD k (0,0,0,0, [],())).2).1)≠(((b.getD k (0,0,0,0, [],())).2).1))⟩
      exact⟨rfl,rfl,congrArg V.b (propext ⟨fun h=>Bool.noConfusion h,fun h=>False.elim (h26 (by rw [h]))⟩),rfl⟩
    ·refine⟨cp (((a.getD k (0,0,0,0, [],())).1)≠((b.getD k (0,0,0,0, [],())).1)),fun h73=> ?_⟩
     refine⟨cp (((a.getD k (0,0,0,0, [],())).1)≠((b.getD k (0,0,0,0, [],())).1)),fun h74=> ?_⟩
     refine⟨cp (((a.getD k (0,0,0,0, [],())).1)≠((b.getD k (0,0,0,0, [],())).1)),fun h75=> ?_⟩
     refine⟨cp (((a.getD k (0,0,0,0, [],())).1)≠((b.getD k (0,0,0,0, [],())).1)),fun h76=> ?_⟩
     refine⟨cp (((a.getD k (0,0,0,0, [],())).1)≠((b.getD k (0,0,0,0, [],())).1)),fun h77=> ?_⟩
     refine⟨cp (((a.getD k (0,0,0,0, [],())).1)≠((b.getD k (0,0,0,0, [],())).1)),fun h78=> ?_⟩
     refine⟨cp (((a.getD k (0,0,0,0, [],())).1)≠((b.getD k (0,0,0,0, [],())).1)),fun h79=> ?_⟩
     refine⟨cp (((a.getD k (0,0,0,0, [],())).1)≠((b.getD k (0,0,0,0, [],())).1)),fun h80=> ?_⟩
     refine⟨cp (((a.getD k (0,0,0,0, [],())).1)≠((b.getD k (0,0,0,0, [],())).1)),fun h81=> ?_⟩
     refine⟨cp (((a.getD k (0,0,0,0, [],())).1)≠((b.getD k (0,0,0,0, [],())).1)),fun h82=> ?_⟩
     refine⟨fun h83=> ?_,cp (((a.getD k (0,0,0,0, [],())).1)≠((b.getD k (0,0,0,0, [],())).1))⟩
     exact⟨rfl,rfl,congrArg V.b (propext ⟨fun h=>Bool.noConfusion h,fun h=>False.elim (h14 (by rw [h]))⟩),rfl⟩
   ·refine⟨cp (¬(((((((a.getD k (0,0,0,0, [],())).2).2).2).2).1)=((((((b.getD k (0,0,0,0, [],())).2).2).2).2).1))),fun h84=> ?_⟩
    refine⟨cp (¬(((((((a.getD k (0,0,0,0, [],())).2).2).2).2).1)=((((((b.getD k (0,0,0,0, [],())).2).2).2).2).1))),fun h85=> ?_⟩
    refine⟨cp (¬(((((((a.getD k (0,0,0,0, [],())).2).2).2).2).1)=((((((b.getD k (0,0,0,0, [],())).2).2).2).2).1))),fun h86=> ?_⟩
    refine⟨cp (¬(((((((a.getD k (0,0,0,0, [],())).2).2).2).2).1)=((((((b.getD k (0,0,0,0, [],())).2).2).2).2).1))),fun h87=> ?_⟩
    refine⟨cp (¬(((((((a.getD k (0,0,0,0, [],())).2).2).2).2).1)=((((((b.getD k (0,0,0,0, [],())).2).2).2).2).1))),fun h88=> ?_⟩
    refine⟨cp (¬(((((((a.getD k (0,0,0,0, [],())).2).2).2).2).1)=((((((b.getD k (0,0,0,0, [],())).2).2).2).2).1))),fun h89=> ?_⟩
    refine⟨cp (¬(((((((a.getD k (0,0,0,0, [],())).2).2).2).2).1)=((((((b.getD k (0,0,0,0, [],())).2).2).2).2).1))),fun h90=> ?_⟩
    refine⟨cp (¬(((((((a.getD k (0,0,0,0, [],())).2).2).2).2).1)=((((((b.getD k (0,0,0,0, [],())).2).2).2).2).1))),fun h91=> ?_⟩
    refine⟨cp (¬(((((((a.getD k (0,0,0,0, [],())).2).2).2).2).1)=((((((b.getD k (0,0,0,0, [],())).2).2).2).2).1))),fun h92=> ?_⟩
    refine⟨cp (¬(((((((a.getD k (0,0,0,0, [],())).2).2).2).2).1)=((((((b.getD k (0,0,0,0, [],())).2).2).2).2).1))),fun h93=> ?_⟩
    refine⟨fun h94=> ?_,cp (¬(((((((a.getD k (0,0,0,0, [],())).2).2).2).2).1)=((((((b.getD k (0,0,0,0, [],())).2).2).2).2).1)))⟩
    exact⟨rfl,rfl,congrArg V.b (propext ⟨fun h=>Bool.noConfusion h,fun h=>False.elim (h2 (by rw [h]))⟩),rfl⟩
  ·exact⟨rfl,rfl,congrArg V.b (propext ⟨fun _=>iP (by omega) (by omega) hc1_1,fun _=>rfl⟩),rfl⟩
noncomputable def Tl:List (Nat×bW):=(16,aW [.v (.sl dY),.v (.sl dY)] Qh)::Ti
theorem aAO:Known Tryd.prog (En Tl tys G6 bO):=aAM.addQ Tryd.func16 Tryd.call16 [.k] fun ds _ _ _ h=>by unfold Qh at h;split at h;exact aA9 _ _;cases h
noncomputable def Qg:List V→Option (Prop×V×List Blk)
 |[.agg [.int .i64 ah,.str sa,.sl false (.sl .str) ar,.sl false (.sl (.sl .str)) av],.agg [.int .i64 bh,.str sb,.sl false (.sl .str) br,.sl false (.sl (.sl .str)) bv]]=>some (ar.length≤1048576∧br.length≤1048576∧av.length≤1048576∧bv.length≤1048576∧(∀x∈ar,x.length≤1048576)∧(∀x∈br,x.length≤1048576)∧(∀x∈av,x.length≤1048576∧∀y∈x,y.length≤1048576)∧(∀x∈bv,x.length≤1048576∧∀y∈x,y.length≤1048576),.b (ah=bh∧sa=sb∧ar=br∧av=bv), [])
 |_=>none
theorem aA8 (ah:Int) (sa:List UInt8) (ar:List (List (List UInt8))) (av:List (List (List (List UInt8)))) (bh:Int) (sb:List UInt8) (br:List (List (List UInt8))) (bv:List (List (List (List UInt8)))):bH (En Tl tys G6 bO) Tryd.f19 [.k] Qg [Pt ah sa ar av,Pt bh sb br bv]:=by
 rintro⟨hp0,hp1,hp2,hp3,(hp4:(∀x∈ar,x.length≤1048576)),(hp5:(∀x∈br,x.length≤1048576)),(hp6:(∀x∈av,x.length≤1048576∧∀y∈x,y.length≤1048576)),(hp7:(∀x∈bv,x.length≤1048576∧∀y∈x,y.length≤1048576))⟩
 refine ny (ah≠bh) (fun h0=> ?_) fun h0=> ?_
 ·refine ny (sa≠sb) (fun h1=> ?_) fun h1=> ?_
  ·refine ny ((ar.length:Int)≠(br.length:Int)) (fun h2=> ?_) fun h2=> ?_
   ·refine yn ((av.length:Int)≠(bv.length:Int)) (fun h3=> ?_) fun h3=> ?_
    ·exact⟨rfl,rfl,congrArg V.b (propext ⟨fun h=>Bool.noConfusion h,fun h=>False.elim (h3 (by rw [h.2.2.2]))⟩),rfl⟩
    ·refine⟨2, [(2,.k),(3,.k),(5,.k)],fun nM vs H=>∃(k:Nat),k≤ar.length∧ar.take k=br.take k∧nM=ar.length-k∧vs= [.p 0,.p 1,.i k]∧H= [Jn ah sa ar av,Jn bh sb br bv],⟨rfl,ar.length,0,by omega,rfl,by omega,rfl,rfl⟩,?_⟩
     rintro nM vs H ⟨k,hc1_0,hc1_1,rfl,rfl,rfl⟩
     refine yn ((k:Int)<(ar.length:Int)) (fun h4=> ?_) fun h4=> ?_
     ·have hka:k<ar.length:=by omega
      have hkb:k<br.length:=by omega
      have la:=hp4 _ (bE [] ar k hka)
      have lb:=hp5 _ (bE [] br k hkb)
      refine⟨by kernel_rfl,ix k ar.length,ix k br.length,⟨os ((ar.getD k []).length≤1048576),os ((br.getD k []).length≤1048576)⟩,yn (¬((ar.getD k [])=(br.getD k []))) (fun h5=> ?_) fun h5=> ?_⟩
      ·exact⟨rfl,rfl,congrArg V.b (propext ⟨fun h=>Bool.noConfusion h,fun h=>False.elim (h5 (by rw [h.2.2.1]))⟩),rfl⟩
      ·have hnx:=iO (d:= []) hka hkb hc1_1 (nw h5)
       refine⟨ap (k+1),?_⟩
       exact⟨rfl,ar.length-(k+1),by omega,k+1,by omega,hnx,rfl,rfl,rfl⟩
     ·have hr:ar=br:=iP (by omega) (by omega) hc1_1
      refine⟨2, [(2,.k),(3,.k),(7,.k)],fun nM vs H=>∃(j:Nat),j≤av.length∧av.take j=bv.take j∧nM=av.length-j∧vs= [.p 0,.p 1,.i j]∧H= [Jn ah sa ar av,Jn bh sb br bv],⟨rfl,av.length,0,by omega,rfl,by omega,rfl,rfl⟩,?_⟩
      rintro nM vs H ⟨j,hc2_0,hc2_1,rfl,rfl,rfl⟩
      refine yn ((j:Int)<(av.length:Int)) (fun h6=> ?_) fun h6=> ?_
      ·have hja:j<av.length:=by omega
       have hjb:j<bv.length:=by omega
       obtain⟨lc,lc2⟩:=hp6 _ (bE [] av j hja)
       obtain⟨ld,ld2⟩:=hp7 _ (bE [] bv j hjb)
       refine⟨by kernel_rfl,ix j av.length,ix j bv.length,yn ((((av.getD j []).length:Nat):Int)≠(((bv.getD j []).length:Nat):Int)) (fun h7=> ?_) fun h7=> ?_⟩
       ·exact⟨rfl,rfl,congrArg V.b (propext ⟨fun h=>Bool.noConfusion h,fun h=>False.elim (h7 (by rw [h.2.2.2]))⟩),rfl⟩
       ·refine⟨2, [(2,.k),(3,.k),(7,.k),(8,.k)],fun nM vs H=>∃(i:Nat),i≤(av.getD j []).length∧(av.getD j []).take i=(bv.getD j []).take i∧nM=(av.getD j []).length-i∧vs= [.p 0,.p 1,.i j,.i i]∧H= [Jn ah sa ar av,Jn bh sb br bv],⟨rfl,(av.getD j []).length,0,by omega,rfl,by omega,rfl,rfl⟩,?_⟩
        rintro nM vs H ⟨i,hc3_0,hc3_1,rfl,rfl,rfl⟩
        refine⟨ix j av.length,yn ((i:Int)<(((av.getD j []).length:Nat):Int)) (fun h8=> ?_) fun h8=> ?_⟩
        ·have hia:i<(av.getD j []).length:=by omega
         have hib:i<(bv.getD j []).length:=by omega
         have le_:=lc2 _ (bE [] _ i hia)
         have lf_:=ld2 _ (bE [] _ i hib)
         refine⟨by kernel_rfl,ix j av.length,ix i (av.getD j []).length,ix j bv.length,ix i (bv.getD j []).length,⟨os (((av.getD j []).getD i []).length≤1048576),os (((bv.getD j []).getD i []).length≤1048576)⟩,yn (¬(((av.getD j []).getD i [])=((bv.getD j []).getD i []))) (fun h9=> ?_) fun h9=> ?_⟩
         ·exact⟨rfl,rfl,congrArg V.b (propext ⟨fun h=>Bool.noConfusion h,fun h=>False.elim (h9 (by rw [h.2.2.2]))⟩),rfl⟩
         ·have hny:=iO (d:= []) hia hib hc3_1 (nw h9)
          refine⟨ap (i+1),?_⟩
          exact⟨rfl,(av.getD j []).length-(i+1),by omega,i+1,by omega,hny,rfl,rfl,rfl⟩
        ·have hnz:=iO (d:= []) hja hjb hc2_1 (iP (by omega) (by omega) hc3_1)
         refine⟨ap (j+1),?_⟩
         exact⟨rfl,av.length-(j+1),by omega,j+1,by omega,hnz,rfl,rfl,rfl⟩
      ·exact⟨rfl,rfl,congrArg V.b (propext ⟨fun _=>⟨nw h0,nw h1,hr,iP (by omega) (by omega) hc2_1⟩,fun _=>rfl⟩),rfl⟩
   ·exact⟨rfl,rfl,congrArg V.b (propext ⟨fun h=>Bool.noConfusion h,fun h=>False.elim (h2 (by rw [h.2.2.1]))⟩),rfl⟩
  ·exact⟨rfl,rfl,congrArg V.b (propext ⟨fun h=>Bool.noConfusion h,fun h=>False.elim (h1 h.2.1)⟩),rfl⟩
 ·exact⟨rfl,rfl,congrArg V.b (propext ⟨fun h=>Bool.noConfusion h,fun h=>False.elim (h0 h.1)⟩),rfl⟩
noncomputable def Tj:List (Nat×bW):=(19,aW [.v kr,.v kr] Qg)::Tl
theorem aAN:Known Tryd.prog (En Tj tys G6 bO):=aAO.addQ Tryd.func19 Tryd.call19 [.k] fun ds _ _ _ h=>by unfold Qg at h;split at h;exact aA8 _ _ _ _ _ _ _ _;cases h
noncomputable def Qc:List V→Option (Prop×V×List Blk)
 |[.str s,.rp false (.int .i64) z 0]=>some (True,.b ((s.length:Int)≠z), [])
 |_=>none
theorem aA2 (s:List UInt8) (z:Int):bH (En Tj tys G6 bO) Tryd.f62 [.k] Qc [.str s,.rp false (.int .i64) z 0]:=by
 intro _
 exact a6
noncomputable def Td:List (Nat×bW):=(62,aW [.v .str,.ref (.int .i64)] Qc)::Tj
theorem aAJ:Known Tryd.prog (En Td tys G6 bO):=aAN.addQ Tryd.func62 Tryd.call62 [.k] fun ds _ _ _ h=>by unfold Qc at h;split at h;exact aA2 _ _;cases h
theorem Xu (s:List (List UInt8)) (z:Int) (hp0:s.length≤1048576):bI (En Td tys G6 bO) Tryd.f75 [.k] [.sl false .str s,.fn 62 [.rp false (.int .i64) z 0]] (.int .i64 (vG (fun x:List UInt8=>decide ((x.length:Int)≠z)) s 0)) []:=by
 refine⟨0, [(0,.k),(1,.k),(7,.k),(8,.k)],fun nM vs H=>∃(j:Nat),j≤s.length∧vG (fun x:List UInt8=>decide ((x.length:Int)≠z)) (s.drop j) j=vG (fun x:List UInt8=>decide ((x.length:Int)≠z)) s 0∧nM=s.length-j∧vs= [.sl false .str s,.fn 62 [.rp false (.int .i64) z 0],.i (s.length:Int),.i j]∧H= [],⟨rfl,s.length,0,by omega,rfl,by omega,rfl,rfl⟩,?_⟩
 rintro nM vs H ⟨j,hc1_0,hc1_1,rfl,rfl,rfl⟩
 refine yn ((j:Int)<(s.length:Int)) (fun h0=> ?_) fun h0=> ?_
 ·have hj:j<s.length:=by omega
  rw [dd [] s j hj,vG] at hc1_1
  refine⟨ix j s.length,trivial,yn (((s.getD j []).length:Int)≠z) (fun h1=> ?_) fun h1=> ?_⟩
  ·rw [if_pos (decide_eq_true h1)] at hc1_1
   rw [←hc1_1]
   exact a6
  ·rw [if_neg (by simpa using h1)] at hc1_1
   refine⟨ap (j+1),?_⟩
   exact⟨rfl,s.length-(j+1),by omega,j+1,by omega,hc1_1,rfl,rfl,rfl⟩
 ·rw [List.drop_eq_nil_of_le (by omega),vG] at hc1_1
  rw [←hc1_1]
  exact a6
noncomputable def Vo:List V→Option (Prop×V×List Blk)
 |[.sl false .str s,.fn 62 [.rp false (.int .i64) z 0]]=>some (s.length≤1048576,.int .i64 (vG (fun x:List UInt8=>decide ((x.length:Int)≠z)) s 0), [])
 |_=>none
noncomputable def Tw:List (Nat×bW):=(75,aW [.v (.sl .str),.fn [(62, [.ref (.int .i64)])]] Vo)::Td
theorem aAZ:Known Tryd.prog (En Tw tys G6 bO):=aAJ.add Tryd.func75 Tryd.call75 [.k] fun ds p v bs h hp=>by
 unfold Vo at h
 split at h<;>simp only [Option.some.injEq,Prod.mk.injEq,reduceCtorEq] at h
 ·obtain⟨rfl,rfl,rfl⟩:=h
  exact Xu _ _ hp
theorem X3 (s:List (List UInt8)) (z:Int) (hp0:s.length≤1048576):bI (En Tw tys G6 bO) Tryd.f61 [.k] [.sl false .str s,.fn 62 [.rp false (.int .i64) z 0]] (.b (∃x∈s,(x.length:Int)≠z)) []:=by
 refine⟨om (s.length≤1048576),?_⟩
 exact⟨rfl,rfl,congrArg V.b (propext (Mx (fun x:List UInt8=>decide ((x.length:Int)≠z)) s fun x=>decide_eq_true_iff)),rfl⟩
noncomputable def Vw:List V→Option (Prop×V×List Blk)
 |[.sl false .str s,.fn 62 [.rp false (.int .i64) z 0]]=>some (s.length≤1048576,.b (∃x∈s,(x.length:Int)≠z), [])
 |_=>none
noncomputable def Ui:List (Nat×bW):=(61,aW [.v (.sl .str),.fn [(62, [.ref (.int .i64)])]] Vw)::Tw
theorem aAo:Known Tryd.prog (En Ui tys G6 bO):=aAZ.add Tryd.func61 Tryd.call61 [.k] fun ds p v bs h hp=>by
 unfold Vw at h
 split at h<;>simp only [Option.some.injEq,Prod.mk.injEq,reduceCtorEq] at h
 ·obtain⟨rfl,rfl,rfl⟩:=h
  exact X3 _ _ hp
noncomputable def Qb:List V→Option (Prop×V×List Blk)
 |[.sl false .str l,.int .i64 n,.int .i64 z]=>some (l.length≤1048576,.b ((l.length:Int)=n∧¬∃x∈l,(x.length:Int)≠z), [])
 |_=>none
theorem aA1 (l:List (List UInt8)) (n z:Int):bH (En Ui tys G6 bO) Tryd.f42 [.k] Qb [.sl false .str l,.int .i64 n,.int .i64 z]:=by
 intro hp0
 refine yn ((l.length:Int)=n) (fun h0=> ?_) fun h0=> ?_
 ·refine⟨rfl,om (l.length≤1048576),?_⟩
  first|exact⟨rfl,rfl,congrArg V.b (propext ⟨fun h=>⟨h0,h⟩,fun h=>h.2⟩),rfl⟩|exact⟨rfl,rfl,congrArg V.b (propext ⟨fun h=>Bool.noConfusion h,fun h=>absurd h.1 h0⟩),rfl⟩
 ·first|exact⟨rfl,rfl,congrArg V.b (propext ⟨fun h=>⟨h0,h⟩,fun h=>h.2⟩),rfl⟩|exact⟨rfl,rfl,congrArg V.b (propext ⟨fun h=>Bool.noConfusion h,fun h=>absurd h.1 h0⟩),rfl⟩
noncomputable def Tc:List (Nat×bW):=(42,aW [.v (.sl .str),.v (.int .i64),.v (.int .i64)] Qb)::Ui
theorem aAI:Known Tryd.prog (En Tc tys G6 bO):=aAo.addQ Tryd.func42 Tryd.call42 [.k] fun ds _ _ _ h=>by unfold Qb at h;split at h;exact aA1 _ _ _;cases h
def a5 (x:Int):Nat→List Int→List (Int×Int)
 |_, []=> []
 |k,h::l=>if h=x then a5 x (k+1) l else((k:Int),h)::a5 x (k+1) l
theorem kX (x:Int):∀(l:List Int) (k:Nat),(a5 x k l).length≤l.length
 |[],k=>by simp [a5]
 |h::l,k=>by
  rw [a5]
  have:=kX x l (k+1)
  split<;>simp<;>omega
theorem fb {x:Int} {p:Int×Int}:∀(l:List Int) (k:Nat),p∈a5 x k l→∃i:Nat,i<l.length∧p.1=((k+i:Nat):Int)∧p.2=l.getD i 0∧p.2≠x
 |[],k,h=>by simp [a5] at h
 | a::l,k,h=>by
  rw [a5] at h
  split at h
  ·obtain⟨i,h1,h2,h3,h4⟩:=fb l (k+1) h
   exact⟨i+1,by simpa using h1,by rw [h2,show k+1+i=k+(i+1) by omega],by rw [h3];rfl,h4⟩
  ·rename_i hne
   rcases List.mem_cons.1 h with rfl|h
   ·exact⟨0,by simp,rfl,rfl,hne⟩
   ·obtain⟨i,h1,h2,h3,h4⟩:=fb l (k+1) h
    exact⟨i+1,by simpa using h1,by rw [h2,show k+1+i=k+(i+1) by omega],by rw [h3];rfl,h4⟩
abbrev Ml:=Int×(Int×(Int×(Int×(List (List UInt8)×Unit))))
def lY (hs:List Int) (me:Int) (r:List (List UInt8)) (d:Int) (k:Nat):List Ml:=((a5 me 0 hs).take k).map fun p=>(2,(me,(p.2,(d,([dK r p.2],())))))
theorem D8 {hs:List Int} {me:Int} {r:List (List UInt8)} {d:Int} {k:Nat} (h:k<(a5 me 0 hs).length):lY hs me r d (k+1)=lY hs me r d k++ [(2,(me,(((a5 me 0 hs).getD k (0,0)).2,(d,([dK r ((a5 me 0 hs).getD k (0,0)).2],())))))]:=by
 unfold lY
 rw [cL (0,0) _ _ k h]
theorem Jh {A:List Ml} {hs:List Int} {me:Int} {r:List (List UInt8)} {d:Int} {k:Nat} (h:k<(a5 me 0 hs).length):A++lY hs me r d (k+1)=A++lY hs me r d k++ [(2,(me,(((a5 me 0 hs).getD k (0,0)).2,(d,([dK r ((a5 me 0 hs).getD k (0,0)).2],())))))]:=by
 rw [D8 h,List.append_assoc]
theorem xQ (hs:List Int) (me:Int) (r:List (List UInt8)) (d:Int) (k:Nat):(lY hs me r d k).length≤hs.length:=by
 unfold lY
 rw [List.length_map,List.length_take]
 have:=kX me hs 0
 omega
def eR (hs:List Int) (me:Int) (rows:List (List (List UInt8))):Nat→List Ml
 |0=> []
 |k+1=>eR hs me rows k++(if(rows.getD k []).length=0 then [] else lY hs me (rows.getD k []) (hs.getD k 0) (a5 me 0 hs).length)
theorem mV (hs:List Int) (me:Int) (rows:List (List (List UInt8))):∀k,(eR hs me rows k).length≤k*hs.length
 |0=>by simp [eR]
 | k+1=>by
  rw [eR,List.length_append,Nat.succ_mul]
  have:=mV hs me rows k
  split
  ·simp;omega
  ·have:=xQ hs me (rows.getD k []) (hs.getD k 0) (a5 me 0 hs).length
   omega
def od (vals:List (List (List UInt8))) (r:List (List UInt8)) (l:List (Int×Int)) (a:Int):Int:=
 l.foldl (fun a p=>if 0<(vals.getD p.1.toNat []).length∧(vals.getD p.1.toNat []).getD 0 []=dK r p.2 then jY a p.2 else a) a
theorem J7 (vals:List (List (List UInt8))) (r:List (List UInt8)) {l:List (Int×Int)} (a:Int) {k:Nat} (h:k<l.length):od vals r (l.take (k+1)) a=
  (if 0<(vals.getD (l.getD k (0,0)).1.toNat []).length∧(vals.getD (l.getD k (0,0)).1.toNat []).getD 0 []=dK r (l.getD k (0,0)).2 then jY (od vals r (l.take k) a) (l.getD k (0,0)).2 else od vals r (l.take k) a):=by
 unfold od
 rw [oC (0,0) l k h,List.foldl_append]
 rfl
theorem vD (vals:List (List (List UInt8))) (r:List (List UInt8)):∀(l:List (Int×Int)) (a:Int),0≤a→a<4096→(∀p∈l,0≤p.2∧p.2<12)→0≤od vals r l a∧od vals r l a<4096
 |[],a,h0,h1,_=>⟨h0,h1⟩
 | p::l,a,h0,h1,hl=>by
  have hp:=hl p (by simp)
  rw [od,List.foldl_cons]
  split
  ·have:=t8 h0 h1 hp.1 hp.2
   exact vD vals r l _ this.1 this.2 fun q hq=>hl q (by simp [hq])
  ·exact vD vals r l _ h0 h1 fun q hq=>hl q (by simp [hq])
def da (hs:List Int) (me:Int) (rows:List (List (List UInt8))) (vals:List (List (List (List UInt8)))) (k:Nat):Int:=
 if(rows.getD k []).length=0 then 0 else od (vals.getD k []) (rows.getD k []) (a5 me 0 hs) (1*2^me.toNat)
def ip {α:Type} (d:α) (f:Nat→α) (n k:Nat):List α:=(List.range n).map fun i=>if i<k then f i else d
theorem mR {α:Type} (d:α) (f:Nat→α) (n k:Nat):(ip d f n k).length=n:=by rw [ip,List.length_map,List.length_range]
theorem uY {α:Type} {d:α} {f:Nat→α} {n k:Nat} (h:k<n):(ip d f n k).set k (f k)=ip d f n (k+1):=by
 apply List.ext_getElem
 ·rw [List.length_set,mR,mR]
 ·intro i h1 h2
  simp only [ip,List.getElem_set,List.getElem_map,List.getElem_range]
  by_cases e:k=i
  ·subst e;rw [if_pos rfl,if_pos (by omega)]
  ·rw [if_neg e]
   by_cases g:i<k
   ·rw [if_pos g,if_pos (by omega)]
   ·rw [if_neg g,if_neg (by omega)]
theorem rF {α:Type} (d:α) (f:Nat→α) (n:Nat):ip d f n 0=List.replicate n d:=by
 rw [ip,show(fun i=>if i<0 then f i else d)=fun _=>d from rfl,List.map_const',List.length_range]
theorem uZ {α:Type} (d:α) (f:Nat→α) (n:Nat):ip d f n n=(List.range n).map f:=by
 unfold ip
 exact List.map_congr_left fun i hi=>if_pos (List.mem_range.1 hi)
theorem Iw {α:Type} {d:α} {f:Nat→α} {n k:Nat} (h:f k=d):ip d f n (k+1)=ip d f n k:=by
 unfold ip
 refine List.map_congr_left fun i _=> ?_
 by_cases g:i<k
 ·rw [if_pos g,if_pos (by omega)]
 ·rw [if_neg g]
  by_cases e:i=k
  ·subst e;rw [if_pos (by omega),h]
  ·rw [if_neg (by omega)]
def eN (hs:List Int) (me:Int) (rows:List (List (List UInt8))) (vals:List (List (List (List UInt8)))):List Int:=(List.range hs.length).map (da hs me rows vals)
def c6 (hs:List Int) (st me f t d tick:Int):Prop:=t≠me∨f=me∨aj f hs 0<0∨aj d hs 0<0∨tick<st
instance (hs:List Int) (st me f t d tick:Int):Decidable (c6 hs st me f t d tick):=by unfold c6;infer_instance
def yI (l:List (List UInt8)) (n z:Int):Prop:=(l.length:Int)=n∧¬∃x∈l,(x.length:Int)≠z
instance (l:List (List UInt8)) (n z:Int):Decidable (yI l n z):=by unfold yI;infer_instance
def Gh (hs:List Int) (nd sz st ph me:Int) (rows:List (List (List UInt8))) (mk f t d:Int) (ss:List (List UInt8)) (tick:Int):Prop:=
 ¬c6 hs st me f t d tick∧mk=1∧f=d∧(rows.getD (aj d hs 0).toNat []).length=0∧yI ss (nd-1) sz∧tick<st+ph
instance (hs:List Int) (nd sz st ph me:Int) (rows:List (List (List UInt8))) (mk f t d:Int) (ss:List (List UInt8)) (tick:Int):Decidable (Gh hs nd sz st ph me rows mk f t d ss tick):=by unfold Gh;infer_instance
def cZ (hs:List Int) (nd sz st ph me:Int) (rows:List (List (List UInt8))) (mk f t d:Int) (ss:List (List UInt8)) (tick:Int):List (List (List UInt8)):=
 if Gh hs nd sz st ph me rows mk f t d ss tick then rows.set (aj d hs 0).toNat ss else rows
def Gg (hs:List Int) (sz st ph me:Int) (vals:List (List (List (List UInt8)))) (mk f t d:Int) (ss:List (List UInt8)) (tick:Int):Prop:=
 ¬c6 hs st me f t d tick∧mk=2∧((vals.getD (aj d hs 0).toNat []).getD (aj f hs 0).toNat []).length=0∧yI ss 1 sz∧tick<st+2*ph
instance (hs:List Int) (sz st ph me:Int) (vals:List (List (List (List UInt8)))) (mk f t d:Int) (ss:List (List UInt8)) (tick:Int):Decidable (Gg hs sz st ph me vals mk f t d ss tick):=by unfold Gg;infer_instance
def cq (hs:List Int) (sz st ph me:Int) (vals:List (List (List (List UInt8)))) (mk f t d:Int) (ss:List (List UInt8)) (tick:Int):List (List (List (List UInt8))):=
 if Gg hs sz st ph me vals mk f t d ss tick then vals.set (aj d hs 0).toNat ((vals.getD (aj d hs 0).toNat []).set (aj f hs 0).toNat ss) else vals
theorem uN {hs:List Int} {x:Int} (h:¬aj x hs 0<0):(aj x hs 0).toNat<hs.length:=by
 have hm:=(ig x hs 0 (by omega)).1 (by omega)
 exact(eO hm).2.1
def dP (hs:List Int) (nd wr sz st ph me:Int) (sh nz:List UInt8):Int:=
 if fZ hs nd wr sz st ph=0 then(if aj me hs 0<0 then 8 else if oM nd sz nz=0∧(sh.length:Int)=sz then 0 else 1) else fZ hs nd wr sz st ph
def xZ (hs:List Int) (nd wr sz st ph me:Int) (sh nz:List UInt8):Int:=if dP hs nd wr sz st ph me sh nz=0 then me else 0
def uy (hs:List Int) (nd wr sz st ph me:Int) (sh nz:List UInt8):List UInt8:=if dP hs nd wr sz st ph me sh nz=0 then sh else []
def mb (hs:List Int) (nd wr sz st ph me:Int) (sh nz:List UInt8):List (List (List UInt8)):=
 if dP hs nd wr sz st ph me sh nz=0 then(List.replicate hs.length []).set (aj me hs 0).toNat (dZ (oj nd sz nz) (kz nd sz nz) me) else []
def oo (hs:List Int) (nd wr sz st ph me:Int) (sh nz:List UInt8):List (List (List (List UInt8))):=
 if dP hs nd wr sz st ph me sh nz=0 then List.replicate hs.length (List.replicate hs.length []) else []
def rW (hs:List Int) (nd sz me:Int) (nz:List UInt8) (k:Nat):List Ml:=((a5 me 0 hs).take k).map fun p=>(1,(me,(p.2,(me,(dZ (oj nd sz nz) (kz nd sz nz) p.2,())))))
theorem Eb {hs:List Int} {nd sz me:Int} {nz:List UInt8} {k:Nat} (h:k<(a5 me 0 hs).length):rW hs nd sz me nz (k+1)=rW hs nd sz me nz k++ [(1,(me,(((a5 me 0 hs).getD k (0,0)).2,(me,(dZ (oj nd sz nz) (kz nd sz nz) ((a5 me 0 hs).getD k (0,0)).2,())))))]:=by
 unfold rW
 rw [cL (0,0) _ _ k h]
theorem rV (hs:List Int) (nd sz me:Int) (nz:List UInt8) (k:Nat):(rW hs nd sz me nz k).length≤hs.length:=by
 unfold rW
 rw [List.length_map,List.length_take]
 have:=kX me hs 0
 omega
def uz (hs:List Int) (nd wr sz st ph me:Int) (sh nz:List UInt8):List Ml:=
 if dP hs nd wr sz st ph me sh nz=0 then rW hs nd sz me nz (a5 me 0 hs).length else []
theorem D5 {α:Type} (d x:α) (n:Nat):ip d (fun _=>x) n n=List.replicate n x:=by rw [uZ,List.map_const',List.length_range]
theorem ma {hs:List Int} {nd wr sz st ph me:Int} {sh nz:List UInt8} (h:dP hs nd wr sz st ph me sh nz≠0):
  xZ hs nd wr sz st ph me sh nz=0∧uy hs nd wr sz st ph me sh nz= []∧mb hs nd wr sz st ph me sh nz= []∧oo hs nd wr sz st ph me sh nz= []∧uz hs nd wr sz st ph me sh nz= []:=
 ⟨if_neg h,if_neg h,if_neg h,if_neg h,if_neg h⟩
theorem ng {hs:List Int} {nd wr sz st ph me:Int} {sh nz:List UInt8} (h:dP hs nd wr sz st ph me sh nz=0):
  xZ hs nd wr sz st ph me sh nz=me∧uy hs nd wr sz st ph me sh nz=sh∧mb hs nd wr sz st ph me sh nz=(List.replicate hs.length []).set (aj me hs 0).toNat (dZ (oj nd sz nz) (kz nd sz nz) me)∧oo hs nd wr sz st ph me sh nz=List.replicate hs.length (List.replicate hs.length [])∧uz hs nd wr sz st ph me sh nz=rW hs nd sz me nz (a5 me 0 hs).length:=
 ⟨if_pos h,if_pos h,if_pos h,if_pos h,if_pos h⟩
theorem Hm (nd sz:Int) {nz:List UInt8} (h:nz.length≤1048576):(kz nd sz nz).length≤1048576∧∀l∈kz nd sz nz,l.length≤1048576∧∀x∈l,x.length≤1048576:=by
 unfold kz
 split
 ·rename_i h0
  have hn:¬(nd<2∨12<nd∨sz<0∨4096<sz):=fun g=>by unfold oM at h0;rw [if_pos g] at h0;cases h0
  unfold mr
  refine⟨by rw [List.length_map,List.length_range];omega,fun l hl=> ?_⟩
  obtain⟨a,_,rfl⟩:=List.mem_map.1 hl
  refine⟨by rw [List.length_map,List.length_range];omega,fun x hx=> ?_⟩
  obtain⟨b,_,rfl⟩:=List.mem_map.1 hx
  rw [List.length_take,zG];omega
 ·exact⟨Nat.zero_le _,fun l hl=>by cases hl⟩
noncomputable def Vk:List V→Option (Prop×Nat×(Nat→List V))
 |[.rp false (.cons (.sl (.int .i64)) (.cons (.int .i64) (.cons (.int .i64) (.cons (.int .i64) (.cons (.int .i64) (.cons (.int .i64) .nil)))))) t 0,.rp false (.int .i64) x 0]=>some (t.1.length≤2000000,((a5 x 0 t.1).length,fun n=> [.int .i64 (((a5 x 0 t.1).getD n (0,0)).1),.int .i64 (((a5 x 0 t.1).getD n (0,0)).2)]))
 |_=>none
theorem aBI (t:(List Int×(Int×(Int×(Int×(Int×(Int×Unit))))))) (x:Int) (hp0:t.1.length≤2000000):xX (En Tc tys G6 bO).inR Tryd.f60 [.rp false yH t 0,.rp false (.int .i64) x 0] [.v (.int .i64),.v (.int .i64)] ((a5 x 0 t.1).length,fun n=> [.int .i64 (((a5 x 0 t.1).getD n (0,0)).1),.int .i64 (((a5 x 0 t.1).getD n (0,0)).2)]):=by
 refine⟨rfl,0, [(0,.k),(2,.k),(7,.k),(8,.k),(9,.k)],fun nM vs H=>∃(k q:Nat),k≤(a5 x 0 t.1).length∧(a5 x 0 t.1).drop k=a5 x q (t.1.drop q)∧nM=t.1.length-q∧vs= [.yld (some k),.rp false (.int .i64) x 0,.sl false (.int .i64) t.1,.int .i64 (t.1.length:Int),.int .i64 (q:Int)]∧H= [],⟨rfl,t.1.length,0,0,by omega,rfl,by omega,rfl,rfl⟩,?_⟩
 rintro nM vs H ⟨k,q,hc1_0,hc1_1,rfl,rfl,rfl⟩
 refine yn ((q:Int)<(t.1.length:Int)) (fun h0=> ?_) fun h0=> ?_
 ·have hq:q<t.1.length:=by omega
  rw [dd 0 t.1 q hq,a5] at hc1_1
  refine⟨ix q (t.1.length:Int),yn ((t.1.getD q 0)≠x) (fun h1=> ?_) fun h1=> ?_⟩
  ·rw [if_neg h1] at hc1_1
   obtain⟨y1,y2,y3⟩:=D6 (d:=(0,0)) hc1_1
   refine⟨rfl,rfl,⟨y1,by show [V.int .i64 (q:Int),V.int .i64 (t.1.getD q 0)]= [V.int .i64 ((a5 x 0 t.1).getD k (0,0)).1,V.int .i64 ((a5 x 0 t.1).getD k (0,0)).2];rw [y2]⟩,?_,?_⟩
   ·refine⟨ap (q+1),?_⟩
    exact⟨rfl,t.1.length-(q+1),by omega,k+1,q+1,by omega,y3,rfl,rfl,rfl⟩
   ·trivial
  ·rw [if_pos (nw h1)] at hc1_1
   have y3:=hc1_1
   refine⟨ap (q+1),?_⟩
   exact⟨rfl,t.1.length-(q+1),by omega,k,q+1,by omega,y3,rfl,rfl,rfl⟩
 ·rw [show t.1.drop q= [] from List.drop_eq_nil_of_le (by omega),show a5 x q []= [] from rfl] at hc1_1
  have hz:=I2 hc1_0 hc1_1
  show(k:Nat)=(a5 x 0 t.1).length
  omega
noncomputable def ct:List (Nat×iH):=(60, [.ref yH,.ref (.int .i64)],Vk)::bO
noncomputable def Tt:List (Nat×bW):=Tc
theorem aAV:Known Tryd.prog (En Tt tys G6 ct):=aAI.addSeq Tryd.func60 Tryd.call60 [.v (.int .i64),.v (.int .i64)] fun ds p L h hp=>by
 unfold Vk at h
 split at h<;>simp only [Option.some.injEq,Prod.mk.injEq,reduceCtorEq] at h
 obtain⟨rfl,rfl⟩:=h
 exact aBI _ _ hp
noncomputable def Qo:List V→Option (Prop×V×List Blk)
 |[.agg [.sl false (.int .i64) hs,.int .i64 nd,.int .i64 wr,.int .i64 sz,.int .i64 st,.int .i64 ph],.int .i64 x]=>some (True,.fn 60 [.ptr 0 1 0 0,.ptr 1 1 0 0], [.cells [.sl false (.int .i64) (hs),.int .i64 (nd),.int .i64 (wr),.int .i64 (sz),.int .i64 (st),.int .i64 (ph)],.cells [.int .i64 (x)]])
 |_=>none
theorem aBH (hs:List Int) (nd wr sz st ph x:Int):xY (En Tt tys G6 ct) Tryd.f41 [.c []] Qo [Lc hs nd wr sz st ph,.int .i64 x]:=by
 intro _
 exact a6
noncomputable def Ts:List (Nat×bW):=(41,uM [.v yH,.v (.int .i64)] Qo)::Tt
theorem aAU:Known Tryd.prog (En Ts tys G6 ct):=aAV.addR Tryd.func41 Tryd.call41 [.c []] fun ds _ _ _ h=>by unfold Qo at h;split at h;exact aBH _ _ _ _ _ _ _;cases h
noncomputable def Qz:List V→Option (Prop×V×List Blk)
 |[.sl false .str s]=>some (s.length≤1048576,.own .str 0, [.row true .str (s)])
 |_=>none
theorem aBh (s:List (List UInt8)):bH (En Ts tys G6 ct) Tryd.f43 [.o .str] Qz [.sl false .str s]:=by
 intro hp0
 refine fun p0 hq0=> ?_
 refine yn (p0) (fun h1=> ?_) fun h1=> ?_
 ·have e:=hq0 h1
  subst e
  exact a6
 ·refine⟨fY,l0 s.length,?_⟩
  exact a6
noncomputable def Uh:List (Nat×bW):=(43,aW [.v (.sl .str)] Qz)::Ts
theorem aAn:Known Tryd.prog (En Uh tys G6 ct):=aAU.addQ Tryd.func43 Tryd.call43 [.o .str] fun ds _ _ _ h=>by unfold Qz at h;split at h;exact aBh _;cases h
noncomputable def Qy:List V→Option (Prop×V×List Blk)
 |[.agg [.sl false (.int .i64) hs,.int .i64 nd,.int .i64 wr,.int .i64 sz,.int .i64 st,.int .i64 ph],.agg [.int .i64 me,.str sh,.sl false (.sl .str) rows,.sl false (.sl (.sl .str)) vals]]=>some (hs.length≤1000∧rows.length=hs.length∧(∀x∈rows,x.length≤1048576),.own (.cons (.int .i64) (.cons (.int .i64) (.cons (.int .i64) (.cons (.int .i64) (.cons (.sl .str) .nil))))) 0, [.row true (.cons (.int .i64) (.cons (.int .i64) (.cons (.int .i64) (.cons (.int .i64) (.cons (.sl .str) .nil))))) (eR hs me rows hs.length)])
 |_=>none
theorem aBg (hs:List Int) (nd wr sz st ph me:Int) (sh:List UInt8) (rows:List (List (List UInt8))) (vals:List (List (List (List UInt8)))):bH (En Uh tys G6 ct [1000002,8000064,8000065]) Tryd.f21 [.o dY] Qy [Lc hs nd wr sz st ph,Pt me sh rows vals]:=by
 rintro⟨hp0,hp1,(hp2:(∀x∈rows,x.length≤1048576))⟩
 refine⟨4, [(2,.k),(3,.k),(5,.c [(0,dY)]),(13,.k),(14,.k),(15,.k)],fun nM vs H=>∃(k:Nat),k≤hs.length∧nM=hs.length-k∧vs= [.p 0,.p 1,.p 2,.sl false (.int .i64) hs,.i (hs.length:Int),.i k]∧H= [D9 hs nd wr sz st ph,Jn me sh rows vals,.cells [.own dY 3],.r dY (eR hs me rows k)],⟨rfl,hs.length,0,by omega,by omega,rfl,rfl⟩,?_⟩
 rintro nM vs H ⟨k,hc1_0,rfl,rfl,rfl⟩
 refine yn ((k:Int)<(hs.length:Int)) (fun h0=> ?_) fun h0=> ?_
 ·have hkl:k<hs.length:=by omega
  have hkm:=hp2 _ (bE [] rows k (by omega))
  have hcl:=mV hs me rows k
  have hcl2:k*hs.length≤1000000:=Nat.le_trans (Nat.mul_le_mul (show k≤1000 by omega) hp0) (by omega)
  refine⟨ix k hs.length,gY,gY,ix k rows.length,yn ((((rows.getD k []).length:Nat):Int)=0) (fun h1=> ?_) fun h1=> ?_⟩
  ·have hst:eR hs me rows (k+1)=eR hs me rows k:=by rw [eR,if_pos (by omega),List.append_nil]
   refine⟨ap (k+1),?_⟩
   exact⟨rfl,hs.length-(k+1),by omega,k+1,by omega,rfl,rfl,by rw [hst];rfl⟩
  ·have hst:eR hs me rows (k+1)=eR hs me rows k++lY hs me (rows.getD k []) (hs.getD k 0) (a5 me 0 hs).length:=by rw [eR,if_neg (by omega)]
   refine⟨rfl,rfl,rfl,rfl,rfl,rfl,trivial,rfl,rfl,rfl,rfl,rfl,rfl,rfl,⟨om (hs.length≤2000000),fun _ _=>rfl⟩,6, [(2,.k),(3,.k),(5,.c [(0,dY)]),(6,.k),(7,.k),(13,.k),(14,.k),(15,.k)],fun n vs H=>n≤(a5 me 0 hs).length∧vs= [.ptr 0 1 0 0,.ptr 1 1 0 0,.ptr 2 1 0 0,.ptr 4 1 0 0,.ptr 5 1 0 0,.sl false (.int .i64) hs,.int .i64 (hs.length:Int),.int .i64 (k:Int)]∧H= [.cells [.sl false (.int .i64) hs,.int .i64 nd,.int .i64 wr,.int .i64 sz,.int .i64 st,.int .i64 ph],.cells [.int .i64 me,.str sh,.sl false (.sl .str) rows,.sl false (.sl (.sl .str)) vals],.cells [.own dY 3],.row true dY (eR hs me rows k++lY hs me (rows.getD k []) (hs.getD k 0) n),.cells [.int .i64 (k:Int)],.cells [.int .i64 (hs.getD k 0)]],⟨rfl,by omega,rfl,by rw [show lY hs me (rows.getD k []) (hs.getD k 0) 0= [] from rfl,List.append_nil];rfl⟩,?_,?_⟩
   ·rintro n vs H ⟨hc2_0,rfl,rfl⟩ hn2
    replace hn2:n<(a5 me 0 hs).length:=hn2
    have hl1:=xQ hs me (rows.getD k []) (hs.getD k 0) n
    have hl2:(eR hs me rows k++lY hs me (rows.getD k []) (hs.getD k 0) n).length≤1001000:=by rw [List.length_append];omega
    refine⟨ix k rows.length,rfl,os ((rows.getD k []).length≤1048576),rfl,rfl,rfl,rfl,fY,l9 (eR hs me rows k++lY hs me (rows.getD k []) (hs.getD k 0) n).length,gY,?_⟩
    exact⟨rfl,rfl,by omega,rfl,by rw [Jh hn2];rfl⟩
   ·rintro vs H ⟨hc2_0,rfl,rfl⟩
    refine⟨ap (k+1),?_⟩
    exact⟨rfl,hs.length-(k+1),by omega,k+1,by omega,rfl,rfl,by rw [hst];rfl⟩
 ·rw [show eR hs me rows hs.length=eR hs me rows k by rw [show k=hs.length by omega]]
  exact a6
noncomputable def Ug:List (Nat×bW):=(21,aW [.v yH,.v kr] Qy)::Uh
theorem aAm:Known Tryd.prog (En Ug tys G6 ct):=Known.frz0<|(aAn.frz [1000002,8000064,8000065]).addQ Tryd.func21 Tryd.call21 [.o dY] fun ds _ _ _ h=>by unfold Qy at h;split at h;exact aBg _ _ _ _ _ _ _ _ _ _;cases h
end Go.Proofs.YtailffhfhekkpaaDoor.S62c

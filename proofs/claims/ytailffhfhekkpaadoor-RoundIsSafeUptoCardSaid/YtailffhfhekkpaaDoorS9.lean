/- Texts of this claim. -/
import Derived.Test.YtailffhfhekkpaaDoorS7
import Derived.Test.YtailffhfhekkpaaDoorS8
set_option linter.unusedVariables false
set_option linter.unusedSimpArgs false
set_option linter.unusedSectionVars false
namespace Go.Proofs.YtailffhfhekkpaaDoor.S62c
set_option maxHeartbeats 20000000
open Go Go.Proofs.YtailffhfhekkpaaDoor.Vc Go.Proofs Go.Proofs.YtailffhfhekkpaaDoor.S62
set_option maxRecDepth 100000
section
abbrev fV:=Ml×(Int×Unit)
abbrev yB:=Int×(List UInt8×Unit)
def lP (hs:List Int) (lb wr:Int):Nat→List Int
 |0=> []
 |k+1=>if(lb/2^(hs.getD k 0).toNat)%2=1∧((lP hs lb wr k).length:Int)<wr then lP hs lb wr k++ [hs.getD k 0] else lP hs lb wr k
theorem A2 (hs:List Int) (lb wr:Int):∀k,(lP hs lb wr k).length≤k
 |0=>Nat.le_refl _
 |k+1=>by
  have:=A2 hs lb wr k
  rw [lP]
  split
  ·rw [List.length_append,List.length_cons,List.length_nil];omega
  ·omega
theorem Hy (hs:List Int) (lb:Int) {wr:Int} (h:0≤wr):∀k,((lP hs lb wr k).length:Int)≤wr
 |0=>h
 | k+1=>by
  have:=Hy hs lb h k
  rw [lP]
  split
  ·rename_i g
   rw [List.length_append,List.length_cons,List.length_nil];omega
  ·exact this
theorem mK {hs:List Int} {lb wr a:Int}:∀k,k≤hs.length→a∈lP hs lb wr k→a∈hs
 |0,_,h=>by cases h
 | k+1,hk,h=>by
  rw [lP] at h
  split at h
  ·rcases List.mem_append.1 h with h|h
   ·exact mK k (by omega) h
   ·rw [List.mem_singleton.1 h];exact bE 0 hs k (by omega)
  ·exact mK k (by omega) h
def cU (hs:List Int) (lb wr:Int):Int:=bits (lP hs lb wr hs.length)
theorem Bv {A:List Int} (h:∀a∈A,0≤a∧a<12):0≤bits A∧bits A<4096:=uW A 0 (by omega) (by omega) h
theorem Su {hs:List Int} (hb:∀x∈hs,0≤x∧x<12) (lb wr:Int):0≤cU hs lb wr∧cU hs lb wr<4096:=Bv fun a ha=>hb a (mK _ (Nat.le_refl _) ha)
theorem W9 {hs:List Int} (hb:∀x∈hs,0≤x∧x<12) (lb wr:Int) {h:Int} (hh:0≤h):(cU hs lb wr/2^h.toNat)%2=1↔h∈lP hs lb wr hs.length:=by
 unfold cU
 rw [pV (gQ _),fL]
 constructor
 ·rintro⟨a,a1,a2⟩
  have h1:=hb a (mK _ (Nat.le_refl _) a1)
  have:a=h:=by omega
  rw [←this];exact a1
 ·intro h;exact⟨_,h,rfl⟩
def wn (hs:List Int) (bd:Int):Nat→List Int
 |0=> []
 |k+1=>if(bd/2^(hs.getD k 0).toNat)%2=1 then wn hs bd k else wn hs bd k++ [hs.getD k 0]
theorem uR (hs:List Int) (bd:Int):∀k,(wn hs bd k).length≤k
 |0=>Nat.le_refl _
 |k+1=>by
  have:=uR hs bd k
  rw [wn]
  split
  ·omega
  ·rw [List.length_append,List.length_cons,List.length_nil];omega
theorem wm {hs:List Int} {bd:Int}:∀k,k≤hs.length→wn hs bd k=(hs.take k).filter fun h=>decide (¬(bd/2^h.toNat)%2=1)
 |0,_=>by simp [wn]
 | k+1,hk=>by
  have e:hs.take (k+1)=hs.take k++ [hs.getD k 0]:=by rw [List.take_succ_eq_append_getElem (by omega),gD (by omega)]
  rw [wn,wm k (by omega),e,List.filter_append]
  split
  ·rename_i g
   rw [List.filter_cons_of_neg (by simpa using g),List.filter_nil,List.append_nil]
  ·rename_i g
   rw [List.filter_cons_of_pos (by simpa using g),List.filter_nil]
theorem Be (hs:List Int) (bd:Int):wn hs bd hs.length=hs.filter fun h=>decide (¬(bd/2^h.toNat)%2=1):=by rw [wm _ (Nat.le_refl _),List.take_length]
section
variable (hs:List Int) (nd wr sz st ph:Int) (sec nz:List UInt8) (bd:Int)
def dU:List yB:=kt sec nd hs (xu nz (Int.toNat 1) (Int.toNat (sz*(nd-1))))
def Fi (k:Nat):List UInt8:=((dU hs nd sz sec nz).getD k (0,([],()))).2.1
def xw (k:Nat):List UInt8:=xu nz (Int.toNat (5*(k:Int))) (Int.toNat (sz*(nd-1)*(nd-1+1)/2))
def Vf (k:Nat):gX:=(xZ hs nd wr sz st ph (hs.getD k 0) (Fi hs nd sz sec nz k) (xw nd sz nz k),uy hs nd wr sz st ph (hs.getD k 0) (Fi hs nd sz sec nz k) (xw nd sz nz k),
 mb hs nd wr sz st ph (hs.getD k 0) (Fi hs nd sz sec nz k) (xw nd sz nz k),oo hs nd wr sz st ph (hs.getD k 0) (Fi hs nd sz sec nz k) (xw nd sz nz k),())
def Mp (k:Nat):List Ml:=uz hs nd wr sz st ph (hs.getD k 0) (Fi hs nd sz sec nz k) (xw nd sz nz k)
def xz:Nat→List (Int×gX)
 |0=> []
 |k+1=>if(bd/2^(hs.getD k 0).toNat)%2=1 then xz k else cP (xz k) (hs.getD k 0) (Vf hs nd wr sz st ph sec nz k)
def xr:Nat→List (List Ml)
 |0=> []
 |k+1=>if(bd/2^(hs.getD k 0).toNat)%2=1 then xr k else xr k++ [Mp hs nd wr sz st ph sec nz k]
end
def lO (lo:List Bool) (c:Int):Prop:=0<(lo.length:Int)∧lo.getD (c%(lo.length:Int)).toNat false=true
instance (lo:List Bool) (c:Int):Decidable (lO lo c):=by unfold lO;infer_instance
def fE (lo:List Bool):Int→List Ml→List Ml
 |_, []=> []
 |c,m::l=>if lO lo c then fE lo (c+1) l else m::fE lo (c+1) l
def bc (lo:List Bool) (c tick:Int) (l:List Ml):List (Ml×Int):=(fE lo c l).map fun m=>(m,tick)
theorem wd (lo:List Bool):∀(l1 l2:List Ml) (c:Int),fE lo c (l1++l2)=fE lo c l1++fE lo (c+(l1.length:Int)) l2
 |[],l2,c=>by
  show fE lo c l2=fE lo (c+((0:Nat):Int)) l2
  rw [show c+((0:Nat):Int)=c by omega]
 |m::l1,l2,c=>by
  rw [List.cons_append,fE,fE,wd lo l1 l2,List.length_cons,show c+1+(l1.length:Int)=c+((l1.length+1:Nat):Int) by omega]
  split<;>rfl
theorem py (lo:List Bool) (c tick:Int) (l1 l2:List Ml):bc lo c tick (l1++l2)=bc lo c tick l1++bc lo (c+(l1.length:Int)) tick l2:=by
 unfold bc
 rw [wd,List.map_append]
theorem Dq (c:Int):∀l:List Ml,fE [] c l=l:=fun l=>by
 induction l generalizing c with
 |nil=>rfl
 |cons m l ih=>rw [fE,if_neg (fun h=>by have:=h.1;simp at this),ih]
theorem qg (lo:List Bool):∀(l:List Ml) (c:Int),∀m∈fE lo c l,m∈l
 |[],_,_,h=>h
 | x::l,c,m,h=>by
  rw [fE] at h
  split at h
  ·exact List.mem_cons_of_mem _ (qg lo l _ m h)
  ·rcases List.mem_cons.1 h with h|h
   ·exact h▸List.mem_cons_self
   ·exact List.mem_cons_of_mem _ (qg lo l _ m h)
def wa (bd a b:Int) (x:fV):Prop:=a≤x.2.1∧x.2.1<b∧0≤x.1.2.1∧x.1.2.1<12∧(bd/2^x.1.2.1.toNat)%2=1
instance (bd a b:Int) (x:fV):Decidable (wa bd a b x):=by unfold wa;infer_instance
def cC (bd a b:Int) (ml:List fV):List (Ml×Int):=(ml.filter fun x=>decide (wa bd a b x)).map fun x=>(x.1,x.2.1)
theorem b7 {α:Type} {l:List α} {i:Nat} (d:α) (h:i<l.length):l.take (i+1)=l.take i++ [l.getD i d]:=by rw [List.take_succ_eq_append_getElem h,gD h]
theorem dJ (hs:List Int) (nd sz st ph:Int) (es:List (Int×gX)) (A B:List (Ml×Int)):aM hs nd sz st ph es (A++B)=aM hs nd sz st ph (aM hs nd sz st ph es A) B:=List.foldl_append ..
section
variable {hs:List Int} {nd sz st ph:Int} {es:List (Int×gX)}
theorem Au {α:Type} (n:Int) (x:α):∀es:List (Int×α),(cP es n x).length≤es.length+1
 |[]=>by simp [cP]
 |(m,y)::es=>by
  have:=Au n x es
  unfold cP
  split
  ·simp
  ·simp only [List.length_cons];omega
theorem wS {α:Type} {n:Int} {x:α}:∀{es:List (Int×α)},(aa es n).isSome=true→(cP es n x).length=es.length
 |[],h=>by simp [aa] at h
 | (m,y)::es,h=>by
  unfold cP
  split
  ·rfl
  ·rename_i g
   rw [aa,if_neg g] at h
   rw [List.length_cons,List.length_cons,wS h]
theorem Ck (x:Ml×Int):(iT hs nd sz st ph es x).length=es.length:=by
 unfold iT
 split
 ·rename_i s h
  exact wS (by rw [h];rfl)
 ·rfl
theorem dI:∀(D:List (Ml×Int)) (es:List (Int×gX)),(aM hs nd sz st ph es D).length=es.length
 |[],_=>rfl
 |x::D,es=>(dI D (iT hs nd sz st ph es x)).trans (Ck x)
theorem gv {es:List (Int×gX)} {m:Ml} {t:Int}:aM hs nd sz st ph es [(m,t)]=iT hs nd sz st ph es (m,t):=rfl
theorem yM {lo:List Bool} {c t:Int} {l:List Ml} {i:Nat} (hi:i<l.length) (h:lO lo (c+(i:Int))∨aa (aM hs nd sz st ph es (bc lo c t (l.take i))) (l.getD i (0,0,0,0, [],())).2.2.1=none):
  aM hs nd sz st ph es (bc lo c t (l.take (i+1)))=aM hs nd sz st ph es (bc lo c t (l.take i)):=by
 rw [b7 (0,0,0,0, [],()) hi,py,dJ,List.length_take,Nat.min_eq_left (by omega)]
 unfold bc
 rw [fE]
 split
 ·rfl
 ·rename_i g
  rw [fE,List.map_cons,List.map_nil,gv]
  unfold iT
  have h:=h.resolve_left g
  unfold bc at h
  split
  ·rename_i s e
   rw [h] at e;cases e
  ·rfl
theorem l5 {lo:List Bool} {c t:Int} {l:List Ml} {i:Nat} (hi:i<l.length) (h:¬lO lo (c+(i:Int))) {s:gX} (hs':aa (aM hs nd sz st ph es (bc lo c t (l.take i))) (l.getD i (0,0,0,0, [],())).2.2.1=some s):
  aM hs nd sz st ph es (bc lo c t (l.take (i+1)))=cP (aM hs nd sz st ph es (bc lo c t (l.take i))) (l.getD i (0,0,0,0, [],())).2.2.1 (jo hs nd sz st ph s (l.getD i (0,0,0,0, [],()),t)):=by
 rw [b7 (0,0,0,0, [],()) hi,py,dJ,List.length_take,Nat.min_eq_left (by omega)]
 have e:bc lo (c+(i:Int)) t [l.getD i (0,0,0,0, [],())]= [(l.getD i (0,0,0,0, [],()),t)]:=by
  unfold bc
  rw [fE,if_neg h];rfl
 rw [e,gv]
 unfold iT
 rw [hs']
theorem kZ {bd a b:Int} {ml:List fV} {i:Nat} (hi:i<ml.length) (h:¬wa bd a b (ml.getD i ((0,0,0,0, [],()),0,()))∨aa (aM hs nd sz st ph es (cC bd a b (ml.take i))) (ml.getD i ((0,0,0,0, [],()),0,())).1.2.2.1=none):
  aM hs nd sz st ph es (cC bd a b (ml.take (i+1)))=aM hs nd sz st ph es (cC bd a b (ml.take i)):=by
 have e:cC bd a b (ml.take (i+1))=cC bd a b (ml.take i)++cC bd a b [ml.getD i ((0,0,0,0, [],()),0,())]:=by
  unfold cC
  rw [b7 ((0,0,0,0, [],()),0,()) hi,List.filter_append,List.map_append]
 rw [e,dJ]
 by_cases g:wa bd a b (ml.getD i ((0,0,0,0, [],()),0,()))
 ·have e2:cC bd a b [ml.getD i ((0,0,0,0, [],()),0,())]= [((ml.getD i ((0,0,0,0, [],()),0,())).1,(ml.getD i ((0,0,0,0, [],()),0,())).2.1)]:=by
   unfold cC
   rw [List.filter_cons_of_pos (by exact decide_eq_true g)];rfl
  rw [e2,gv]
  unfold iT
  rw [h.resolve_left fun f=>f g]
 ·have e2:cC bd a b [ml.getD i ((0,0,0,0, [],()),0,())]= []:=by
   unfold cC
   rw [List.filter_cons_of_neg (by simpa using g)];rfl
  rw [e2];rfl
theorem gC {bd a b:Int} {ml:List fV} {i:Nat} (hi:i<ml.length) (h:wa bd a b (ml.getD i ((0,0,0,0, [],()),0,()))) {s:gX} (hs':aa (aM hs nd sz st ph es (cC bd a b (ml.take i))) (ml.getD i ((0,0,0,0, [],()),0,())).1.2.2.1=some s):
  aM hs nd sz st ph es (cC bd a b (ml.take (i+1)))=cP (aM hs nd sz st ph es (cC bd a b (ml.take i))) (ml.getD i ((0,0,0,0, [],()),0,())).1.2.2.1 (jo hs nd sz st ph s ((ml.getD i ((0,0,0,0, [],()),0,())).1,(ml.getD i ((0,0,0,0, [],()),0,())).2.1)):=by
 have e:cC bd a b (ml.take (i+1))=cC bd a b (ml.take i)++ [((ml.getD i ((0,0,0,0, [],()),0,())).1,(ml.getD i ((0,0,0,0, [],()),0,())).2.1)]:=by
  unfold cC
  rw [b7 ((0,0,0,0, [],()),0,()) hi,List.filter_append,List.map_append,List.filter_cons_of_pos (by exact decide_eq_true h)];rfl
 rw [e,dJ,gv]
 unfold iT
 rw [hs']
def gd (hs:List Int) (nd sz:Int) (es:List (Int×gX)):Prop:=∀h s,aa es h=some s→s.1=h∧h∈hs∧SOk hs nd sz s.2.2.1 s.2.2.2.1∧(s.2.1.length:Int)=sz
theorem gd.step (h:gd hs nd sz es) (x:Ml×Int):gd hs nd sz (iT hs nd sz st ph es x):=by
 unfold iT
 split
 ·rename_i s e
  obtain⟨h1,h2,h3,h4⟩:=h _ _ e
  intro a b hb
  rw [fz] at hb
  split at hb
  ·rename_i g
   cases hb
   exact⟨h1.trans g,g▸h2,h3.rcv,h4⟩
  ·exact h a b hb
 ·exact h
theorem gd.dlv:∀(D:List (Ml×Int)) {es:List (Int×gX)},gd hs nd sz es→gd hs nd sz (aM hs nd sz st ph es D)
 |[],_,h=>h
 |x::D,_,h=>gd.dlv D (h.step x)
theorem rP (D:List (Ml×Int)) (es:List (Int×gX)) (h:Int):(aa (aM hs nd sz st ph es D) h).isSome=(aa es h).isSome:=by
 rw [gw]
 cases aa es h<;>rfl
end
def cA (es:List (Int×gX)) (h:Int):gX:=(aa es h).getD (0,([],([],([],()))))
theorem fp {es:List (Int×gX)} {h:Int} (e:(aa es h).isSome=true):aa es h=some (cA es h):=by
 unfold cA
 cases g:aa es h with
 |none=>rw [g] at e;cases e
 |some s=>rfl
theorem uA {α:Type} {o:Option α} (h:¬o.isSome=true):o=none:=by
 cases o with
 |none=>rfl
 |some x=>exact absurd rfl h
def xm (hs:List Int) (nd wr sz st ph:Int) (es:List (Int×gX)) (tn:Int) (l:List Ml):Prop:=
 fZ hs nd wr sz st ph=0∧gd hs nd sz es∧0≤tn∧tn≤1000000∧l.length≤1000000∧(∀m∈l,m.2.2.2.2.1.length≤1048576)∧es.length≤1000
def B8 (hs:List Int) (nd wr sz st ph:Int) (es:List (Int×gX)) (bd:Int) (ml:List fV):Prop:=
 fZ hs nd wr sz st ph=0∧gd hs nd sz es∧0≤bd∧bd<4096∧ml.length≤1000000∧(∀m∈ml,m.1.2.2.2.2.1.length≤1048576)∧es.length≤1000
end
open Go Go.Proofs.YtailffhfhekkpaaDoor.Vc Go.Proofs
set_option linter.unusedVariables false
open Go.Proofs.YtailffhfhekkpaaDoor.S62
noncomputable def Qw:List V→Option (Prop×V×List Blk)
 |[.str s,.int .i64 a,.int .i64 n]=>some (0≤a∧a≤1000000∧0≤n∧n≤1000000∧s.length≤1048576,.str (xu s (Int.toNat a) (Int.toNat n)), [])
 |_=>none
theorem aBe (s:List UInt8) (a n:Int):bH (En Tg tys G6 ct) Tryd.f12 [.k] Qw [.str s,.int .i64 a,.int .i64 n]:=by
 rintro⟨hp0,hp1,hp2,hp3,hp4⟩
 have hrl:(List.replicate n.toNat (0:UInt8)).length=n.toNat:=List.length_replicate ..
 refine⟨⟨rfl,om ((0:Int)≤n),om (n≤(1000000000:Int))⟩,0, [(0,.k),(1,.k),(7,.o .u8),(12,.k),(13,.k)],fun nM vs H=>∃(k:Nat),k≤n.toNat∧nM=n.toNat-k∧vs= [.str s,.int .i64 a,.own .u8 0,.int .i64 (((List.replicate n.toNat (0:UInt8)).length:Nat):Int),.int .i64 (k:Int)]∧H= [.row true .u8 (dA (K6 s a.toNat) n.toNat k)],⟨rfl,n.toNat,0,by omega,by omega,rfl,by rw [il];rfl⟩,?_⟩
 rintro nM vs H ⟨k,hc1_0,rfl,rfl,rfl⟩
 have hfl:=kA (K6 s a.toNat) n.toNat k
 refine yn ((k:Int)<(((List.replicate n.toNat (0:UInt8)).length:Nat):Int)) (fun h0=> ?_) fun h0=> ?_
 ·refine yn (0<(s.length:Int)) (fun h1=> ?_) fun h1=> ?_
  ·have hs:0<s.length:=by omega
   have ea:((a+(k:Int))%(s.length:Int)).toNat=(a.toNat+k)%s.length:=by rw [show a+(k:Int)=((a.toNat+k:Nat):Int) by omega,←Int.natCast_emod,Int.toNat_natCast]
   have em1:=Int.emod_nonneg (a+(k:Int)) (b:=(s.length:Int)) (by omega)
   have em2:=Int.emod_lt_of_pos (a+(k:Int)) (b:=(s.length:Int)) (by omega)
   have es:=V1 (a:=a.toNat) (k:=k) hs
   refine⟨ap (a+k),.inl ⟨⟨om ((0:Int)≤(a+(k:Int))),om ((0:Int)<(s.length:Int))⟩,?_⟩⟩
   refine⟨ix ((a+(k:Int))%(s.length:Int)) s.length,ix k (dA (K6 s a.toNat) n.toNat k).length,fY,ap (k+1),?_⟩
   first
   |exact⟨rfl,n.toNat-(k+1),by omega,k+1,by omega,rfl,rfl,by rw [←io (K6 s a.toNat) (by omega:k<n.toNat),es,←ea];rfl⟩
   |exact⟨rfl,n.toNat-(k+1),by omega,k+1,by omega,rfl,rfl,by rw [ez];rfl⟩
  ·have ez:=Mm (a:=a.toNat) (n:=n.toNat) (k:=k) (show¬0<s.length by omega)
   refine⟨ap (k+1),?_⟩
   first
   |exact⟨rfl,n.toNat-(k+1),by omega,k+1,by omega,rfl,rfl,by rw [←io (K6 s a.toNat) (by omega:k<n.toNat),es,←ea];rfl⟩
   |exact⟨rfl,n.toNat-(k+1),by omega,k+1,by omega,rfl,rfl,by rw [ez];rfl⟩
 ·rw [show k=n.toNat by omega,kB]
  exact a6
noncomputable def Ud:List (Nat×bW):=(12,aW [.v .str,.v (.int .i64),.v (.int .i64)] Qw)::Tg
theorem aAj:Known Tryd.prog (En Ud tys G6 ct):=aAL.addQ Tryd.func12 Tryd.call12 [.k] fun ds _ _ _ h=>by unfold Qw at h;split at h;exact aBe _ _ _;cases h
noncomputable def Qp:List V→Option (Prop×V×List Blk)
 |[.agg [.sl false (.int .i64) hs,.int .i64 nd,.int .i64 wr,.int .i64 sz,.int .i64 st,.int .i64 ph,.str sec,.str nz,.int .u16 lb,.sl false (.cons (.cons (.int .i64) (.cons (.int .i64) (.cons (.int .i64) (.cons (.int .i64) (.cons (.sl .str) .nil))))) (.cons (.int .i64) .nil)) ml,.sl false (.cons (.int .i64) (.cons (.sl (.int .i64)) .nil)) po,.sl false .bool lo]]=>some (hs.length≤12∧(∀x∈hs,0≤x∧x<12)∧0≤lb∧lb≤65535,.int .i64 (cU hs lb wr), [])
 |_=>none
theorem aBT (hs:List Int) (nd wr sz st ph:Int) (sec nz:List UInt8) (lb:Int) (ml:List ((Int×(Int×(Int×(Int×(List (List UInt8)×Unit)))))×(Int×Unit))) (po:List (Int×(List Int×Unit))) (lo:List Bool):bH (En Ud tys G6 ct) Tryd.f23 [.k] Qp [.agg [.sl false (.int .i64) hs,.int .i64 nd,.int .i64 wr,.int .i64 sz,.int .i64 st,.int .i64 ph,.str sec,.str nz,.int .u16 lb,.sl false (.cons dY (.cons (.int .i64) .nil)) ml,.sl false fN po,.sl false .bool lo]]:=by
 rintro⟨hp0,(hp1:(∀x∈hs,0≤x∧x<12)),hp2,hp3⟩
 refine⟨1, [(1,.k),(3,.k),(4,.k),(9,.k),(10,.k),(11,.k)],fun nM vs H=>∃(k:Nat),k≤hs.length∧nM=hs.length-k∧vs= [.p 0,.i (bits (lP hs lb wr k)),.i (((lP hs lb wr k).length:Nat):Int),.sl false (.int .i64) hs,.i (hs.length:Int),.i k]∧H= [.cells [.sl false (.int .i64) hs,.i nd,.i wr,.i sz,.i st,.i ph,.str sec,.str nz,.int .u16 lb,.sl false (.cons dY (.cons (.int .i64) .nil)) ml,.sl false fN po,.sl false .bool lo]],⟨rfl,hs.length,0,by omega,by omega,rfl,rfl⟩,?_⟩
 rintro nM vs H ⟨k,hc1_0,rfl,rfl,rfl⟩
 refine yn ((k:Int)<(hs.length:Int)) (fun h0=> ?_) fun h0=> ?_
 ·have hkl:k<hs.length:=by omega
  obtain⟨g0,g1⟩:=hp1 _ (bE 0 hs k hkl)
  obtain⟨p0,p1⟩:=tc g0 g1
  obtain⟨a0,a1⟩:=Bv fun a ha=>hp1 a (mK k (by omega) ha)
  have hll:=A2 hs lb wr k
  have sh0:0≤lb/2^(hs.getD k 0).toNat:=Int.ediv_nonneg hp2 (by omega)
  refine⟨ix k hs.length,⟨om ((0:Int)≤hs.getD k 0),om (hs.getD k 0≤(16:Int))⟩,.inr ⟨rfl,?_⟩⟩
  refine yn (((lb/2^((hs.getD k 0).toNat))%2)=1) (fun h1=> ?_) fun h1=> ?_
  ·refine yn ((((lP hs lb wr k).length:Nat):Int)<wr) (fun h2=> ?_) fun h2=> ?_
   ·have hS:lP hs lb wr (k+1)=lP hs lb wr k++ [hs.getD k 0]:=by rw [lP,if_pos ⟨h1,h2⟩]
    have hB:bits (lP hs lb wr (k+1))=jY (bits (lP hs lb wr k)) (hs.getD k 0):=by rw [hS,nc]
    have hL:((lP hs lb wr (k+1)).length:Int)=((lP hs lb wr k).length:Int)+1:=by rw [hS,List.length_append];rfl
    refine⟨⟨om ((0:Int)≤hs.getD k 0),om (hs.getD k 0≤(64:Int))⟩,ap ((1:Int)*2^((hs.getD k 0).toNat)),.inl ⟨⟨om ((0:Int)≤(bits (lP hs lb wr k))),om ((0:Int)≤((1:Int)*2^((hs.getD k 0).toNat)))⟩,?_⟩⟩
    refine⟨ap ((((lP hs lb wr k).length:Nat):Int)+1),ap (k+1),?_⟩
    first
    |exact⟨rfl,hs.length-(k+1),by omega,k+1,by omega,rfl,by rw [hB,hL];rfl,rfl⟩
    |exact⟨rfl,hs.length-(k+1),by omega,k+1,by omega,rfl,by rw [hS];rfl,rfl⟩
   ·have hS:lP hs lb wr (k+1)=lP hs lb wr k:=by rw [lP,if_neg fun g=>h2 g.2]
    refine⟨ap (k+1),?_⟩
    first
    |exact⟨rfl,hs.length-(k+1),by omega,k+1,by omega,rfl,by rw [hB,hL];rfl,rfl⟩
    |exact⟨rfl,hs.length-(k+1),by omega,k+1,by omega,rfl,by rw [hS];rfl,rfl⟩
  ·have hS:lP hs lb wr (k+1)=lP hs lb wr k:=by rw [lP,if_neg fun g=>h1 g.1]
   refine⟨ap (k+1),?_⟩
   first
   |exact⟨rfl,hs.length-(k+1),by omega,k+1,by omega,rfl,by rw [hB,hL];rfl,rfl⟩
   |exact⟨rfl,hs.length-(k+1),by omega,k+1,by omega,rfl,by rw [hS];rfl,rfl⟩
 ·rw [show cU hs lb wr=bits (lP hs lb wr k) by rw [cU,show k=hs.length by omega]]
  exact a6
noncomputable def Oe:List (Nat×bW):=(23,aW [.v (.cons yH (.cons .str (.cons .str (.cons (.int .u16) (.cons (.sl (.cons dY (.cons (.int .i64) .nil))) (.cons (.sl fN) (.cons (.sl .bool) .nil)))))))] Qp)::Ud
theorem Wk:Known Tryd.prog (En Oe tys G6 ct):=aAj.addQ Tryd.func23 Tryd.call23 [.k] fun ds _ _ _ h=>by unfold Qp at h;split at h;exact aBT _ _ _ _ _ _ _ _ _ _ _ _;cases h
noncomputable def Vh:List V→List Blk→Option (Prop×V×List Blk)
 |[.sl fr (.cons (.int .i64) (.cons (.int .i64) (.cons (.int .i64) (.cons (.int .i64) (.cons (.sl .str) .nil))))) l,.int .i64 tick,.ptr 0 1 0 0,.ptr 1 1 0 0,.ptr 2 1 0 0,.ptr 3 1 0 0], [.cells [.mp (.cons (.int .i64) (.cons .str (.cons (.sl (.sl .str)) (.cons (.sl (.sl (.sl .str))) .nil)))) 4],.cells [.sl false (.int .i64) hs0,.int .i64 nd0,.int .i64 wr0,.int .i64 sz0,.int .i64 Cl,.int .i64 ph0,.str sec,.str nz,.int .u16 lb,.sl false (.cons (.cons (.int .i64) (.cons (.int .i64) (.cons (.int .i64) (.cons (.int .i64) (.cons (.sl .str) .nil))))) (.cons (.int .i64) .nil)) ml,.sl false (.cons (.int .i64) (.cons (.sl (.int .i64)) .nil)) po,.sl false .bool lo],.cells [.int .i64 tn],.cells [.sl false (.int .i64) hs,.int .i64 nd,.int .i64 wr,.int .i64 sz,.int .i64 st,.int .i64 ph],.imap false (.cons (.int .i64) (.cons .str (.cons (.sl (.sl .str)) (.cons (.sl (.sl (.sl .str))) .nil)))) es]=>some (xm hs nd wr sz st ph es tn l,.tup [], [.cells [.mp (.cons (.int .i64) (.cons .str (.cons (.sl (.sl .str)) (.cons (.sl (.sl (.sl .str))) .nil)))) 4],.cells [.sl false (.int .i64) hs0,.int .i64 nd0,.int .i64 wr0,.int .i64 sz0,.int .i64 Cl,.int .i64 ph0,.str sec,.str nz,.int .u16 lb,.sl false (.cons (.cons (.int .i64) (.cons (.int .i64) (.cons (.int .i64) (.cons (.int .i64) (.cons (.sl .str) .nil))))) (.cons (.int .i64) .nil)) ml,.sl false (.cons (.int .i64) (.cons (.sl (.int .i64)) .nil)) po,.sl false .bool lo],.cells [.int .i64 (tn+(l.length:Int))],.cells [.sl false (.int .i64) hs,.int .i64 nd,.int .i64 wr,.int .i64 sz,.int .i64 st,.int .i64 ph],.imap false (.cons (.int .i64) (.cons .str (.cons (.sl (.sl .str)) (.cons (.sl (.sl (.sl .str))) .nil)))) (aM hs nd sz st ph es (bc lo tn tick l))])
 |_,_=>none
theorem aA4 (fr:Bool) (l:List Ml) (tick:Int) (hs0:List Int) (nd0 wr0 sz0 Cl ph0:Int) (sec nz:List UInt8) (lb:Int) (ml:List fV) (po:List RP) (lo:List Bool) (tn:Int) (hs:List Int) (nd wr sz st ph:Int) (es:List (Int×gX)) (hok:xm hs nd wr sz st ph es tn l):body (En Oe tys G6 ct [1000010,1000002,12000160]).inR Tryd.f24 [.sl fr dY l,.int .i64 tick,.ptr 0 1 0 0,.ptr 1 1 0 0,.ptr 2 1 0 0,.ptr 3 1 0 0] (jO [.cells [.mp kr 4],.cells [.sl false (.int .i64) hs0,.int .i64 nd0,.int .i64 wr0,.int .i64 sz0,.int .i64 Cl,.int .i64 ph0,.str sec,.str nz,.int .u16 lb,.sl false (.cons dY (.cons (.int .i64) .nil)) ml,.sl false fN po,.sl false .bool lo],.cells [.int .i64 tn],.cells [.sl false (.int .i64) hs,.int .i64 nd,.int .i64 wr,.int .i64 sz,.int .i64 st,.int .i64 ph],.imap false kr es]) (fun v' H'=>(v'.bare=true∧v'= .tup [])∧∃L,H'=jO [.cells [.mp kr 4],.cells [.sl false (.int .i64) hs0,.int .i64 nd0,.int .i64 wr0,.int .i64 sz0,.int .i64 Cl,.int .i64 ph0,.str sec,.str nz,.int .u16 lb,.sl false (.cons dY (.cons (.int .i64) .nil)) ml,.sl false fN po,.sl false .bool lo],.cells [.int .i64 (tn+(l.length:Int))],.cells [.sl false (.int .i64) hs,.int .i64 nd,.int .i64 wr,.int .i64 sz,.int .i64 st,.int .i64 ph],.imap false kr (aM hs nd sz st ph es (bc lo tn tick l))]++L):=by
 obtain⟨htk,hes,t0,t1,l1,lx,e1⟩:=id hok
 have hn12:=(E7 htk).rg.1.1
 refine⟨6, [(1,.k),(2,.k),(3,.k),(4,.k),(5,.k),(13,.k),(14,.k),(15,.k)],fun nM vs H=>∃(i:Nat),i≤l.length∧nM=l.length-i∧vs= [.i tick,.p 0,.p 1,.p 2,.p 3,.sl fr dY l,.i (l.length:Int),.i i]∧H= [.cells [.mp kr 4],.cells [.sl false (.int .i64) hs0,.i nd0,.i wr0,.i sz0,.i Cl,.i ph0,.str sec,.str nz,.int .u16 lb,.sl false (.cons dY (.cons (.int .i64) .nil)) ml,.sl false fN po,.sl false .bool lo],.cells [.i (tn+(i:Int))],D9 hs nd wr sz st ph,.imap false kr (aM hs nd sz st ph es (bc lo tn tick (l.take i))),.cells [.tup [],.p 0,.p 1,.p 2,.p 3,.mp kr 4]],⟨rfl,l.length,0,by omega,by omega,rfl,by rw [show tn+((0:Nat):Int)=tn by omega];rfl⟩,?_⟩
 rintro nM vs H ⟨i,hc1_0,rfl,rfl,rfl⟩
 refine yn ((i:Int)<(l.length:Int)) (fun h0=> ?_) fun h0=> ?_
 ·have hil:i<l.length:=by omega
  have hxm:=lx _ (bE (0,0,0,0, [],()) l i hil)
  have hE:=gd.dlv (st:=st) (ph:=ph) (bc lo tn tick (l.take i)) hes
  have hel:(aM hs nd sz st ph es (bc lo tn tick (l.take i))).length≤1000:=by rw [dI];exact e1
  have ht:tn+((i+1:Nat):Int)=tn+(i:Int)+1:=by omega
  refine⟨ix i l.length,cO,rfl,cO,by kernel_rfl,yn (0<(lo.length:Int)) (fun h1=> ?_) fun h1=> ?_⟩
  ·have em1:=Int.emod_nonneg (tn+(i:Int)) (b:=(lo.length:Int)) (by omega)
   have em2:=Int.emod_lt_of_pos (tn+(i:Int)) (b:=(lo.length:Int)) (by omega)
   refine⟨fun h2=> ?_,cp (0<(lo.length:Int))⟩
   refine⟨fun h3=> ?_,cp (0<(lo.length:Int))⟩
   refine⟨fun h4=> ?_,cp (0<(lo.length:Int))⟩
   refine⟨fun h5=> ?_,cp (0<(lo.length:Int))⟩
   refine⟨fun h6=> ?_,cp (0<(lo.length:Int))⟩
   refine⟨fun h7=> ?_,cp (0<(lo.length:Int))⟩
   refine .inl ⟨⟨om ((0:Int)≤(tn+(i:Int))),om ((0:Int)<(lo.length:Int))⟩,?_⟩
   refine⟨fun h8=> ?_,cp (0<(lo.length:Int))⟩
   refine⟨ix ((tn+(i:Int))%(lo.length:Int)) lo.length,fun h9=> ?_,cp (0<(lo.length:Int))⟩
   refine⟨fun h10=> ?_,cp (0<(lo.length:Int))⟩
   refine⟨ap ((tn+(i:Int))+1),gY,yn ((aa (aM hs nd sz st ph es (bc lo tn tick (l.take i))) ((((l.getD i (0,0,0,0, [],())).2).2).1)).isSome=true) (fun h11=> ?_) fun h11=> ?_⟩
   ·have hsm:=fp h11
    obtain⟨_,_,hso,_⟩:=hE _ _ hsm
    refine yn (¬(lo.getD (((tn+(i:Int))%(lo.length:Int)).toNat) false=true)) (fun h12=> ?_) fun h12=> ?_
    ·have hnl:¬lO lo (tn+(i:Int)):=fun g=>h12 g.2
     refine⟨by kernel_rfl,rfl,rfl,rfl,rfl,rfl,rfl,rfl,rfl,rfl,rfl,rfl,⟨htk,hso.rl,hso.vl,hso.vv,hso.mxR (by omega),hxm⟩,rfl,⟨rfl,om ((aM hs nd sz st ph es (bc lo tn tick (l.take i))).length≤1000000000)⟩,ap (i+1),?_⟩
     first
     |exact⟨rfl,l.length-(i+1),by omega,i+1,by omega,rfl,rfl,by rw [ht,l5 hil hnl hsm];rfl⟩
     |exact⟨rfl,l.length-(i+1),by omega,i+1,by omega,rfl,rfl,by rw [ht,hno];rfl⟩
    ·have hno:=yM (t:=tick) (es:=es) (hs:=hs) (nd:=nd) (sz:=sz) (st:=st) (ph:=ph) hil (.inl ⟨h1,nw h12⟩)
     refine⟨ap (i+1),?_⟩
     first
     |exact⟨rfl,l.length-(i+1),by omega,i+1,by omega,rfl,rfl,by rw [ht,l5 hil hnl hsm];rfl⟩
     |exact⟨rfl,l.length-(i+1),by omega,i+1,by omega,rfl,rfl,by rw [ht,hno];rfl⟩
   ·have hno:=yM hil (.inr (uA h11))
    refine⟨ap (i+1),?_⟩
    first
    |exact⟨rfl,l.length-(i+1),by omega,i+1,by omega,rfl,rfl,by rw [ht,l5 hil hnl hsm];rfl⟩
    |exact⟨rfl,l.length-(i+1),by omega,i+1,by omega,rfl,rfl,by rw [ht,hno];rfl⟩
  ·have hnl:¬lO lo (tn+(i:Int)):=fun g=>h1 g.1
   refine⟨cn (0<(lo.length:Int)),fun h13=> ?_⟩
   refine⟨cn (0<(lo.length:Int)),fun h14=> ?_⟩
   refine⟨cn (0<(lo.length:Int)),fun h15=> ?_⟩
   refine⟨cn (0<(lo.length:Int)),fun h16=> ?_⟩
   refine⟨cn (0<(lo.length:Int)),fun h17=> ?_⟩
   refine⟨cn (0<(lo.length:Int)),fun h18=> ?_⟩
   refine⟨cn (0<(lo.length:Int)),fun h19=> ?_⟩
   refine⟨cn (0<(lo.length:Int)),fun h20=> ?_⟩
   refine⟨cn (0<(lo.length:Int)),fun h21=> ?_⟩
   refine⟨ap ((tn+(i:Int))+1),gY,yn ((aa (aM hs nd sz st ph es (bc lo tn tick (l.take i))) ((((l.getD i (0,0,0,0, [],())).2).2).1)).isSome=true) (fun h22=> ?_) fun h22=> ?_⟩
   ·have hsm:=fp h22
    obtain⟨_,_,hso,_⟩:=hE _ _ hsm
    refine⟨by kernel_rfl,rfl,rfl,rfl,rfl,rfl,rfl,rfl,rfl,rfl,rfl,rfl,⟨htk,hso.rl,hso.vl,hso.vv,hso.mxR (by omega),hxm⟩,rfl,⟨rfl,om ((aM hs nd sz st ph es (bc lo tn tick (l.take i))).length≤1000000000)⟩,ap (i+1),?_⟩
    first
    |exact⟨rfl,l.length-(i+1),by omega,i+1,by omega,rfl,rfl,by rw [ht,l5 hil hnl hsm];rfl⟩
    |exact⟨rfl,l.length-(i+1),by omega,i+1,by omega,rfl,rfl,by rw [ht,hno];rfl⟩
   ·have hno:=yM hil (.inr (uA h22))
    refine⟨ap (i+1),?_⟩
    first
    |exact⟨rfl,l.length-(i+1),by omega,i+1,by omega,rfl,rfl,by rw [ht,l5 hil hnl hsm];rfl⟩
    |exact⟨rfl,l.length-(i+1),by omega,i+1,by omega,rfl,rfl,by rw [ht,hno];rfl⟩
 ·rw [show l.take i=l from List.take_of_length_le (by omega),show tn+(i:Int)=tn+(l.length:Int) by omega]
  exact⟨⟨rfl,rfl⟩,_,rfl⟩
noncomputable def Te:List (Nat×bW):=(24,Bj Vh)::Oe
theorem aAK:Known Tryd.prog (En Te tys G6 ct [6100024,1000010,1000002,12000160]):=(Wk.frz [1000010,1000002,12000160]).addEdit Tryd.func24 Tryd.call24 rfl fun xs H p v H1 hs hp=>by
 unfold Vh at hs
 split at hs<;>simp only [Option.some.injEq,Prod.mk.injEq,reduceCtorEq] at hs
 obtain⟨rfl,rfl,rfl⟩:=hs
 exact aA4 _ _ _ _ _ _ _ _ _ _ _ _ _ _ _ _ _ _ _ _ _ _ _ hp
noncomputable def Vm:List V→List Blk→Option (Prop×V×List Blk)
 |[.int .i64 a,.int .i64 b,.ptr 0 1 0 0,.ptr 1 1 0 0,.ptr 2 1 0 0,.ptr 3 1 0 0], [.cells [.sl false (.int .i64) hs0,.int .i64 nd0,.int .i64 wr0,.int .i64 sz0,.int .i64 Cl,.int .i64 ph0,.str sec,.str nz,.int .u16 lb,.sl false (.cons (.cons (.int .i64) (.cons (.int .i64) (.cons (.int .i64) (.cons (.int .i64) (.cons (.sl .str) .nil))))) (.cons (.int .i64) .nil)) ml,.sl false (.cons (.int .i64) (.cons (.sl (.int .i64)) .nil)) po,.sl false .bool lo],.cells [.mp (.cons (.int .i64) (.cons .str (.cons (.sl (.sl .str)) (.cons (.sl (.sl (.sl .str))) .nil)))) 4],.cells [.int .i64 bd],.cells [.sl false (.int .i64) hs,.int .i64 nd,.int .i64 wr,.int .i64 sz,.int .i64 st,.int .i64 ph],.imap false (.cons (.int .i64) (.cons .str (.cons (.sl (.sl .str)) (.cons (.sl (.sl (.sl .str))) .nil)))) es]=>some (B8 hs nd wr sz st ph es bd ml,.tup [], [.cells [.sl false (.int .i64) hs0,.int .i64 nd0,.int .i64 wr0,.int .i64 sz0,.int .i64 Cl,.int .i64 ph0,.str sec,.str nz,.int .u16 lb,.sl false (.cons (.cons (.int .i64) (.cons (.int .i64) (.cons (.int .i64) (.cons (.int .i64) (.cons (.sl .str) .nil))))) (.cons (.int .i64) .nil)) ml,.sl false (.cons (.int .i64) (.cons (.sl (.int .i64)) .nil)) po,.sl false .bool lo],.cells [.mp (.cons (.int .i64) (.cons .str (.cons (.sl (.sl .str)) (.cons (.sl (.sl (.sl .str))) .nil)))) 4],.cells [.int .i64 bd],.cells [.sl false (.int .i64) hs,.int .i64 nd,.int .i64 wr,.int .i64 sz,.int .i64 st,.int .i64 ph],.imap false (.cons (.int .i64) (.cons .str (.cons (.sl (.sl .str)) (.cons (.sl (.sl (.sl .str))) .nil)))) (aM hs nd sz st ph es (cC bd a b ml))])
 |_,_=>none
theorem aBS (a b bd:Int) (hs0:List Int) (nd0 wr0 sz0 Cl ph0:Int) (sec nz:List UInt8) (lb:Int) (ml:List fV) (po:List RP) (lo:List Bool) (hs:List Int) (nd wr sz st ph:Int) (es:List (Int×gX)) (hok:B8 hs nd wr sz st ph es bd ml):body (En Te tys G6 ct [6100024,1000010,1000002,12000160]).inR Tryd.f25 [.int .i64 a,.int .i64 b,.ptr 0 1 0 0,.ptr 1 1 0 0,.ptr 2 1 0 0,.ptr 3 1 0 0] (jO [.cells [.sl false (.int .i64) hs0,.int .i64 nd0,.int .i64 wr0,.int .i64 sz0,.int .i64 Cl,.int .i64 ph0,.str sec,.str nz,.int .u16 lb,.sl false (.cons dY (.cons (.int .i64) .nil)) ml,.sl false fN po,.sl false .bool lo],.cells [.mp kr 4],.cells [.int .i64 bd],.cells [.sl false (.int .i64) hs,.int .i64 nd,.int .i64 wr,.int .i64 sz,.int .i64 st,.int .i64 ph],.imap false kr es]) (fun v' H'=>(v'.bare=true∧v'= .tup [])∧∃L,H'=jO [.cells [.sl false (.int .i64) hs0,.int .i64 nd0,.int .i64 wr0,.int .i64 sz0,.int .i64 Cl,.int .i64 ph0,.str sec,.str nz,.int .u16 lb,.sl false (.cons dY (.cons (.int .i64) .nil)) ml,.sl false fN po,.sl false .bool lo],.cells [.mp kr 4],.cells [.int .i64 bd],.cells [.sl false (.int .i64) hs,.int .i64 nd,.int .i64 wr,.int .i64 sz,.int .i64 st,.int .i64 ph],.imap false kr (aM hs nd sz st ph es (cC bd a b ml))]++L):=by
 obtain⟨htk,hes,t0,t1,l1,lx,e1⟩:=id hok
 have hn12:=(E7 htk).rg.1.1
 refine⟨6, [(0,.k),(1,.k),(3,.k),(4,.k),(5,.k),(13,.k),(14,.k),(15,.k)],fun nM vs H=>∃(i:Nat),i≤ml.length∧nM=ml.length-i∧vs= [.i a,.i b,.p 1,.p 2,.p 3,.sl false (.cons dY (.cons (.int .i64) .nil)) ml,.i (ml.length:Int),.i i]∧H= [.cells [.sl false (.int .i64) hs0,.i nd0,.i wr0,.i sz0,.i Cl,.i ph0,.str sec,.str nz,.int .u16 lb,.sl false (.cons dY (.cons (.int .i64) .nil)) ml,.sl false fN po,.sl false .bool lo],.cells [.mp kr 4],.cells [.i bd],D9 hs nd wr sz st ph,.imap false kr (aM hs nd sz st ph es (cC bd a b (ml.take i))),.cells [.tup [],.p 0,.p 1,.p 2,.p 3,.mp kr 4]],⟨rfl,ml.length,0,by omega,by omega,rfl,rfl⟩,?_⟩
 rintro nM vs H ⟨i,hc1_0,rfl,rfl,rfl⟩
 refine yn ((i:Int)<(ml.length:Int)) (fun h0=> ?_) fun h0=> ?_
 ·have hil:i<ml.length:=by omega
  have hxm:=lx _ (bE ((0,0,0,0, [],()),0,()) ml i hil)
  have hE:=gd.dlv (st:=st) (ph:=ph) (cC bd a b (ml.take i)) hes
  have hel:(aM hs nd sz st ph es (cC bd a b (ml.take i))).length≤1000:=by rw [dI];exact e1
  refine⟨ix i ml.length,cO,rfl,cO,yn (a≤(((ml.getD i ((0,0,0,0, [],()),(0,()))).2).1)) (fun h1=> ?_) fun h1=> ?_⟩
  ·refine yn ((((ml.getD i ((0,0,0,0, [],()),(0,()))).2).1)<b) (fun h2=> ?_) fun h2=> ?_
   ·refine yn ((aa (aM hs nd sz st ph es (cC bd a b (ml.take i))) (((((ml.getD i ((0,0,0,0, [],()),(0,()))).1).2).2).1)).isSome=true) (fun h3=> ?_) fun h3=> ?_
    ·have hsm:=fp h3
     obtain⟨_,_,hso,_⟩:=hE _ _ hsm
     refine yn (0≤((((ml.getD i ((0,0,0,0, [],()),(0,()))).1).2).1)) (fun h4=> ?_) fun h4=> ?_
     ·refine yn (((((ml.getD i ((0,0,0,0, [],()),(0,()))).1).2).1)<12) (fun h5=> ?_) fun h5=> ?_
      ·refine⟨⟨om ((0:Int)≤(((ml.getD i ((0,0,0,0, [],()),(0,()))).1).2).1),om ((((ml.getD i ((0,0,0,0, [],()),(0,()))).1).2).1≤(64:Int))⟩,.inr ⟨rfl,?_⟩⟩
       refine yn (((bd/2^(((((ml.getD i ((0,0,0,0, [],()),(0,()))).1).2).1).toNat))%2)=1) (fun h6=> ?_) fun h6=> ?_
       ·have hlp:wa bd a b (ml.getD i ((0,0,0,0, [],()),0,())):=⟨h1,h2,h4,h5,h6⟩
        refine⟨by kernel_rfl,rfl,rfl,rfl,rfl,rfl,rfl,rfl,rfl,rfl,rfl,rfl,⟨htk,hso.rl,hso.vl,hso.vv,hso.mxR (by omega),hxm⟩,rfl,⟨rfl,om ((aM hs nd sz st ph es (cC bd a b (ml.take i))).length≤1000000000)⟩,ap (i+1),?_⟩
        first
        |exact⟨rfl,ml.length-(i+1),by omega,i+1,by omega,rfl,rfl,by rw [gC hil hlp hsm];rfl⟩
        |exact⟨rfl,ml.length-(i+1),by omega,i+1,by omega,rfl,rfl,by rw [hno];rfl⟩
       ·have hno:=kZ (bd:=bd) (a:=a) (b:=b) (es:=es) (hs:=hs) (nd:=nd) (sz:=sz) (st:=st) (ph:=ph) hil (.inl fun g=>h6 g.2.2.2.2)
        refine⟨ap (i+1),?_⟩
        first
        |exact⟨rfl,ml.length-(i+1),by omega,i+1,by omega,rfl,rfl,by rw [gC hil hlp hsm];rfl⟩
        |exact⟨rfl,ml.length-(i+1),by omega,i+1,by omega,rfl,rfl,by rw [hno];rfl⟩
      ·have hno:=kZ (bd:=bd) (a:=a) (b:=b) (es:=es) (hs:=hs) (nd:=nd) (sz:=sz) (st:=st) (ph:=ph) hil (.inl fun g=>h5 g.2.2.2.1)
       refine⟨ap (i+1),?_⟩
       first
       |exact⟨rfl,ml.length-(i+1),by omega,i+1,by omega,rfl,rfl,by rw [gC hil hlp hsm];rfl⟩
       |exact⟨rfl,ml.length-(i+1),by omega,i+1,by omega,rfl,rfl,by rw [hno];rfl⟩
     ·have hno:=kZ (bd:=bd) (a:=a) (b:=b) (es:=es) (hs:=hs) (nd:=nd) (sz:=sz) (st:=st) (ph:=ph) hil (.inl fun g=>h4 g.2.2.1)
      refine⟨ap (i+1),?_⟩
      first
      |exact⟨rfl,ml.length-(i+1),by omega,i+1,by omega,rfl,rfl,by rw [gC hil hlp hsm];rfl⟩
      |exact⟨rfl,ml.length-(i+1),by omega,i+1,by omega,rfl,rfl,by rw [hno];rfl⟩
    ·have hno:=kZ hil (.inr (uA h3))
     refine⟨ap (i+1),?_⟩
     first
     |exact⟨rfl,ml.length-(i+1),by omega,i+1,by omega,rfl,rfl,by rw [gC hil hlp hsm];rfl⟩
     |exact⟨rfl,ml.length-(i+1),by omega,i+1,by omega,rfl,rfl,by rw [hno];rfl⟩
   ·have hno:=kZ (bd:=bd) (a:=a) (b:=b) (es:=es) (hs:=hs) (nd:=nd) (sz:=sz) (st:=st) (ph:=ph) hil (.inl fun g=>h2 g.2.1)
    refine⟨ap (i+1),?_⟩
    first
    |exact⟨rfl,ml.length-(i+1),by omega,i+1,by omega,rfl,rfl,by rw [gC hil hlp hsm];rfl⟩
    |exact⟨rfl,ml.length-(i+1),by omega,i+1,by omega,rfl,rfl,by rw [hno];rfl⟩
  ·have hno:=kZ (bd:=bd) (a:=a) (b:=b) (es:=es) (hs:=hs) (nd:=nd) (sz:=sz) (st:=st) (ph:=ph) hil (.inl fun g=>h1 g.1)
   refine⟨ap (i+1),?_⟩
   first
   |exact⟨rfl,ml.length-(i+1),by omega,i+1,by omega,rfl,rfl,by rw [gC hil hlp hsm];rfl⟩
   |exact⟨rfl,ml.length-(i+1),by omega,i+1,by omega,rfl,rfl,by rw [hno];rfl⟩
 ·rw [show ml.take i=ml from List.take_of_length_le (by omega)]
  exact⟨⟨rfl,rfl⟩,_,rfl⟩
noncomputable def Ye:List (Nat×bW):=(25,Bj Vm)::Te
theorem aAW:Known Tryd.prog (En Ye tys G6 ct [6100025,6100024,1000010,1000002,12000160]):=aAK.addEdit Tryd.func25 Tryd.call25 rfl fun xs H p v H1 hs hp=>by
 unfold Vm at hs
 split at hs<;>simp only [Option.some.injEq,Prod.mk.injEq,reduceCtorEq] at hs
 obtain⟨rfl,rfl,rfl⟩:=hs
 exact aBS _ _ _ _ _ _ _ _ _ _ _ _ _ _ _ _ _ _ _ _ _ _ hp
section
section
variable (hs:List Int) (nd wr sz st ph:Int) (sec nz:List UInt8) (lb:Int) (ml:List fV) (po:List RP) (lo:List Bool)
def ac:List Int:=wn hs (cU hs lb wr) hs.length
def iW:List (List Ml):=xr hs nd wr sz st ph sec nz (cU hs lb wr) hs.length
def og:List (Int×gX):=xz hs nd wr sz st ph sec nz (cU hs lb wr) hs.length
def Q8:List (Ml×Int):=bc lo 0 st (iW hs nd wr sz st ph sec nz lb).flatten++cC (cU hs lb wr) 0 (st+ph) ml
def bj:List (Int×gX):=aM hs nd sz st ph (og hs nd wr sz st ph sec nz lb) (Q8 hs nd wr sz st ph sec nz lb ml lo)
def sD (es:List (Int×gX)) (L:List Int):List Ml:=(L.map fun h=>eR hs (cA es h).1 (cA es h).2.2.1 hs.length).flatten
def Uo:List Ml:=sD hs (bj hs nd wr sz st ph sec nz lb ml lo) (ac hs wr lb)
def Q7:List (Ml×Int):=bc lo ((iW hs nd wr sz st ph sec nz lb).flatten.length:Int) (st+ph) (Uo hs nd wr sz st ph sec nz lb ml lo)++cC (cU hs lb wr) (st+ph) 1000000 ml
def bT:List (Int×gX):=aM hs nd sz st ph (bj hs nd wr sz st ph sec nz lb ml lo) (Q7 hs nd wr sz st ph sec nz lb ml lo)
def Un (bd:Int) (p:RP):Prop:=0≤p.1∧p.1<12∧(bd/2^p.1.toNat)%2=1
instance (bd:Int) (p:RP):Decidable (Un bd p):=by unfold Un;infer_instance
def ll (bd:Int) (l:List RP):List RP:=l.filter fun p=>decide (Un bd p)
def Gq (es:List (Int×gX)) (h:Int):RP:=((cA es h).1,(eN hs (cA es h).1 (cA es h).2.2.1 (cA es h).2.2.2.1,()))
def dR:List RP:=ll (cU hs lb wr) po++(ac hs wr lb).map (Gq hs (bT hs nd wr sz st ph sec nz lb ml lo))
noncomputable def Lb (es:List (Int×gX)) (l:List RP) (h:Int):yB:=(M6 hs nd wr sz st ph (cA es h).1 (cA es h).2.1 (cA es h).2.2.1 (cA es h).2.2.2.1 l,(xy hs nd wr sz st ph (cA es h).1 (cA es h).2.1 (cA es h).2.2.1 (cA es h).2.2.2.1 l,()))
noncomputable def xC (es:List (Int×gX)) (l:List RP) (h:Int):Int:=j8 hs nd wr sz st ph (cA es h).1 (cA es h).2.1 (cA es h).2.2.1 (cA es h).2.2.2.1 l
noncomputable def di:List yB:=(ac hs wr lb).map (Lb hs nd wr sz st ph (bT hs nd wr sz st ph sec nz lb ml lo) (dR hs nd wr sz st ph sec nz lb ml po lo))
noncomputable def cH:List Int:=(ac hs wr lb).map (xC hs nd wr sz st ph (bT hs nd wr sz st ph sec nz lb ml lo) (dR hs nd wr sz st ph sec nz lb ml po lo))
end
theorem Ot {hs:List Int} {nd wr sz st ph:Int} (T:Tk hs nd wr sz st ph):nR hs=true:=by
 refine List.all_eq_true.2 fun k hk=>decide_eq_true ?_
 have hk:=List.mem_range.1 hk
 obtain⟨h1,h2⟩:=y0 hs (-1) k T.ho hk
 refine⟨⟨h1,by omega⟩,?_⟩
 rcases Nat.eq_zero_or_pos k with e|e
 ·exact .inl e
 ·refine .inr ((jf hs (-1) k T.ho hk).2 _ ?_)
  rw [show hs.getD (k-1) 0=(hs.take k).getD (k-1) 0 by
   rw [gD (by omega),gD (by rw [List.length_take];omega),List.getElem_take]]
  exact bE 0 _ _ (by rw [List.length_take];omega)
theorem Mn {nd sz:Int} (h:2≤nd∧nd≤12):sz*(nd-1)*(nd-1+1)/2=sz*(((nd-1)*nd)/2):=by
 have:nd=2∨nd=3∨nd=4∨nd=5∨nd=6∨nd=7∨nd=8∨nd=9∨nd=10∨nd=11∨nd=12:=by omega
 rcases this with rfl|rfl|rfl|rfl|rfl|rfl|rfl|rfl|rfl|rfl|rfl<;>omega
theorem Ak {nd sz:Int} (h:2≤nd∧nd≤12) (hz:1≤sz∧sz≤4):(0≤sz*(nd-1)∧sz*(nd-1)≤48)∧0≤sz*(nd-1)*(nd-1+1)∧sz*(nd-1)*(nd-1+1)≤1000:=by
 have:nd=2∨nd=3∨nd=4∨nd=5∨nd=6∨nd=7∨nd=8∨nd=9∨nd=10∨nd=11∨nd=12:=by omega
 rcases this with rfl|rfl|rfl|rfl|rfl|rfl|rfl|rfl|rfl|rfl|rfl<;>omega
section
variable {hs:List Int} {nd wr sz st ph:Int} {sec nz:List UInt8} {bd:Int} (T:Tk hs nd wr sz st ph) (hsec:(sec.length:Int)=sz)
include T
theorem mk0 (k:Nat):oM nd sz (xw nd sz nz k)=0:=by
 have h1:=T.rg.1.1
 have h2:=T.rg.1.2.2.1
 have hm:0≤sz*(((nd-1)*nd)/2):=Int.mul_nonneg (by omega) (Int.ediv_nonneg (Int.mul_nonneg (by omega) (by omega)) (by omega))
 unfold oM
 rw [if_neg (by omega),if_pos]
 unfold xw
 rw [mE,Mn h1]
 omega
include hsec
theorem jD:Spl sec nd hs (xu nz (Int.toNat 1) (Int.toNat (sz*(nd-1)))):=by
 have h1:=T.rg.1.1
 have h2:=T.rg.1.2.2.1
 have h3:=T.q1
 have h4:=T.rg.1.2.1.1
 have hm:0≤sz*(nd-1):=Int.mul_nonneg (by omega) (by omega)
 exact⟨by omega,by omega,h1.2,by omega,Ot T,by rw [mE,hsec];omega⟩
theorem Mi {k:Nat} (hk:k<hs.length):(dU hs nd sz sec nz).getD k (0,([],()))=Ov sec nd (xu nz (Int.toNat 1) (Int.toNat (sz*(nd-1)))) (hs.getD k 0):=by
 unfold dU
 have S:=jD (nz:=nz) T hsec
 rw [S.l,gD (by rw [List.length_map];exact hk),List.getElem_map,gD hk]
theorem pD:(dU hs nd sz sec nz).length=hs.length:=(jD (nz:=nz) T hsec).llen
theorem ov {k:Nat} (hk:k<hs.length):((Fi hs nd sz sec nz k).length:Int)=sz:=by
 have S:=jD (nz:=nz) T hsec
 have hm:=bE (0,([],())) (dU hs nd sz sec nz) k (by rw [pD T hsec];exact hk)
 have:=(S.mem hm).2.1
 unfold Fi
 omega
theorem Jp {k:Nat} (hk:k<hs.length):dP hs nd wr sz st ph (hs.getD k 0) (Fi hs nd sz sec nz k) (xw nd sz nz k)=0:=by
 obtain⟨h1,h2,h3⟩:=eO (bE 0 hs k hk)
 unfold dP
 rw [if_pos T.e,if_neg (by omega),if_pos ⟨mk0 T k,ov T hsec hk⟩]
theorem Pi:∀k,k≤hs.length→gd hs nd sz (xz hs nd wr sz st ph sec nz bd k)
 |0,_=>fun h s e=>by cases e
 | k+1,hk=>by
  have ih:=Pi k (by omega)
  rw [xz]
  split
  ·exact ih
  ·intro a s e
   rw [fz] at e
   split at e
   ·rename_i g
    cases e
    have hb:=Jp (nz:=nz) T hsec (show k<hs.length by omega)
    obtain⟨e1,e2,_⟩:=ng hb
    refine⟨e1.trans g,g▸bE 0 hs k (by omega),SOk.beg hb,?_⟩
    show((uy hs nd wr sz st ph _ _ _).length:Int)=sz
    rw [e2]
    exact ov T hsec (by omega)
   ·exact ih a s e
end
section
variable {hs:List Int} {nd wr sz st ph:Int} {sec nz:List UInt8} {bd:Int}
theorem zB:∀k,(xz hs nd wr sz st ph sec nz bd k).length≤k
 |0=>Nat.le_refl _
 | k+1=>by
  have:=zB k
  rw [xz]
  split
  ·omega
  ·have:=Au (hs.getD k 0) (Vf hs nd wr sz st ph sec nz k) (xz hs nd wr sz st ph sec nz bd k)
   omega
theorem uQ {h:Int}:∀k,k≤hs.length→(h∈wn hs bd k↔∃i:Nat,i<k∧hs.getD i 0=h∧¬(bd/2^h.toNat)%2=1)
 |0,_=>⟨fun h=>(by cases h),fun⟨i,h,_⟩=>absurd h (Nat.not_lt_zero i)⟩
 | k+1,hk=>by
  have ih:=uQ k (by omega) (h:=h)
  rw [wn]
  split
  ·rename_i g
   rw [ih]
   constructor
   ·rintro⟨i,h1,h2,h3⟩;exact⟨i,by omega,h2,h3⟩
   ·rintro⟨i,h1,h2,h3⟩
    by_cases e:i=k
    ·subst e;rw [h2] at g;exact absurd g h3
    ·exact⟨i,by omega,h2,h3⟩
  ·rename_i g
   rw [List.mem_append,ih]
   constructor
   ·rintro(⟨i,h1,h2,h3⟩|h1)
    ·exact⟨i,by omega,h2,h3⟩
    ·rw [List.mem_singleton.1 h1];exact⟨k,by omega,rfl,g⟩
   ·rintro⟨i,h1,h2,h3⟩
    by_cases e:i=k
    ·subst e;right;rw [h2];exact List.mem_singleton.2 rfl
    ·left;exact⟨i,by omega,h2,h3⟩
theorem zC (ho:jz (-1) hs=true) {i:Nat}:∀k,k≤hs.length→i<k→¬(bd/2^(hs.getD i 0).toNat)%2=1→aa (xz hs nd wr sz st ph sec nz bd k) (hs.getD i 0)=some (Vf hs nd wr sz st ph sec nz i)
 |0,_,h,_=>absurd h (Nat.not_lt_zero i)
 | k+1,hk,hi,hb=>by
  rw [xz]
  by_cases e:i=k
  ·subst e
   rw [if_neg hb,fz,if_pos rfl]
  ·have ih:=zC ho k (by omega) (by omega) hb
   split
   ·exact ih
   ·rw [fz,if_neg (fun g=>e (jw ho (by omega) (by omega) g).symm)]
    exact ih
theorem yR:∀k,(xr hs nd wr sz st ph sec nz bd k).length≤k
 |0=>Nat.le_refl _
 |k+1=>by
  have:=yR k
  rw [xr]
  split
  ·omega
  ·rw [List.length_append,List.length_cons,List.length_nil];omega
theorem tX {l:List Ml}:∀k,l∈xr hs nd wr sz st ph sec nz bd k↔∃i:Nat,i<k∧l=Mp hs nd wr sz st ph sec nz i∧¬(bd/2^(hs.getD i 0).toNat)%2=1
 |0=>⟨fun h=>(by cases h),fun⟨i,h,_⟩=>absurd h (Nat.not_lt_zero i)⟩
 | k+1=>by
  have ih:=tX k (l:=l)
  rw [xr]
  split
  ·rename_i g
   rw [ih]
   constructor
   ·rintro⟨i,h1,h2,h3⟩;exact⟨i,by omega,h2,h3⟩
   ·rintro⟨i,h1,h2,h3⟩
    by_cases e:i=k
    ·subst e;exact absurd g h3
    ·exact⟨i,by omega,h2,h3⟩
  ·rename_i g
   rw [List.mem_append,ih]
   constructor
   ·rintro(⟨i,h1,h2,h3⟩|h1)
    ·exact⟨i,by omega,h2,h3⟩
    ·rw [List.mem_singleton.1 h1];exact⟨k,by omega,rfl,g⟩
   ·rintro⟨i,h1,h2,h3⟩
    by_cases e:i=k
    ·subst e;right;rw [h2];exact List.mem_singleton.2 rfl
    ·left;exact⟨i,by omega,h2,h3⟩
theorem V2 {i:Nat} (hh:hs.length≤1048576) (hz:(xw nd sz nz i).length≤1048576):(Mp hs nd wr sz st ph sec nz i).length≤hs.length∧∀m∈Mp hs nd wr sz st ph sec nz i,m.2.2.2.2.1.length≤1048576:=by
 refine⟨?_,(Sq hh hz).ms⟩
 unfold Mp uz
 split
 ·exact rV ..
 ·exact Nat.zero_le _
theorem Al {k:Nat} (h:2≤nd∧nd≤12) (hz:1≤sz∧sz≤4):(xw nd sz nz k).length≤1048576:=by
 have:=(Ak h hz).2
 unfold xw
 rw [mE]
 omega
end
theorem j9 {α:Type} {R:List (List α)} {i:Nat} (h:i<R.length):(R.take (i+1)).flatten=(R.take i).flatten++R.getD i []:=by
 rw [b7 [] h,List.flatten_append];simp
theorem rE {α:Type} {n:Nat}:∀(R:List (List α)),(∀l∈R,l.length≤n)→R.flatten.length≤R.length*n
 |[],_=>by simp
 |l::R,h=>by
  have:=rE R fun x hx=>h x (List.mem_cons_of_mem _ hx)
  have:=h l List.mem_cons_self
  rw [List.flatten_cons,List.length_append,List.length_cons,Nat.succ_mul];omega
theorem D4 {α:Type} {n:Nat} {R:List (List α)} (h:∀l∈R,l.length≤n) (i:Nat):(R.take i).flatten.length≤i*n:=
 Nat.le_trans (rE _ fun l hl=>h l (List.mem_of_mem_take hl)) (Nat.mul_le_mul_right n (by rw [List.length_take];omega))
theorem Fg {hs:List Int} {nd sz st ph:Int} {es:List (Int×gX)} {lo:List Bool} {t:Int} {R:List (List Ml)} {i:Nat} (h:i<R.length):
  aM hs nd sz st ph (aM hs nd sz st ph es (bc lo 0 t (R.take i).flatten)) (bc lo ((R.take i).flatten.length:Int) t (R.getD i []))=aM hs nd sz st ph es (bc lo 0 t (R.take (i+1)).flatten):=by
 rw [j9 h,py,dJ,Int.zero_add]
theorem Py {hs:List Int} {es:List (Int×gX)} {L:List Int} {i:Nat} (h:i<L.length):sD hs es (L.take (i+1))=sD hs es (L.take i)++eR hs (cA es (L.getD i 0)).1 (cA es (L.getD i 0)).2.2.1 hs.length:=by
 unfold sD
 rw [b7 0 h,List.map_append,List.flatten_append];simp
theorem Pz {hs:List Int} (es:List (Int×gX)) (L:List Int) (i:Nat):(sD hs es (L.take i)).length≤i*(hs.length*hs.length):=by
 unfold sD
 refine Nat.le_trans (rE (n:=hs.length*hs.length) _ fun l hl=> ?_) (Nat.mul_le_mul_right _ (by rw [List.length_map,List.length_take];omega))
 obtain⟨h,_,rfl⟩:=List.mem_map.1 hl
 exact mV ..
theorem Uv {hs:List Int} {es:List (Int×gX)} {L:List Int}:∀m∈sD hs es L,m.2.2.2.2.1.length≤1048576:=fun m hm=>by
 unfold sD at hm
 obtain⟨l,hl,hm⟩:=List.mem_flatten.1 hm
 obtain⟨h,_,rfl⟩:=List.mem_map.1 hl
 exact Bt _ _ _ _ m hm
theorem Q6 {bd:Int} {l:List RP} {i:Nat} (hi:i<l.length) (h:Un bd (l.getD i (0, [],()))):ll bd (l.take (i+1))=ll bd (l.take i)++ [l.getD i (0, [],())]:=by
 unfold ll
 rw [b7 (0, [],()) hi,List.filter_append,List.filter_cons_of_pos (by exact decide_eq_true h)];rfl
theorem Gw {bd:Int} {l:List RP} {i:Nat} (hi:i<l.length) (h:¬Un bd (l.getD i (0, [],()))):ll bd (l.take (i+1))=ll bd (l.take i):=by
 unfold ll
 rw [b7 (0, [],()) hi,List.filter_append,List.filter_cons_of_neg (by simpa using h)];simp
theorem yg (bd:Int) (l:List RP):(ll bd l).length≤l.length:=List.length_filter_le _ _
theorem Gv {bd:Int} {l:List RP} {p:RP} (h:p∈ll bd l):p∈l∧Un bd p:=by
 obtain⟨h1,h2⟩:=List.mem_filter.1 h
 exact⟨h1,of_decide_eq_true h2⟩
theorem gd.at {hs:List Int} {nd sz:Int} {es:List (Int×gX)} (H:gd hs nd sz es) {h:Int} (e:(aa es h).isSome=true):(cA es h).1=h∧h∈hs∧SOk hs nd sz (cA es h).2.2.1 (cA es h).2.2.2.1∧((cA es h).2.1.length:Int)=sz:=H _ _ (fp e)
structure Gm (hs:List Int) (nd wr sz st ph:Int) (sec nz:List UInt8) (ml:List fV) (po:List RP):Prop where
 tk:Tk hs nd wr sz st ph
 l7:hs.length≤7
 z4:sz≤4
 sec:(sec.length:Int)=sz
 m60:ml.length≤60
 p10:po.length≤10
 nz:nz.length≤1048576
 mx:∀m∈ml,m.1.2.2.2.2.1.length≤1048576
 px:∀p∈po,p.2.1.length≤1048576
section
variable {hs:List Int} {nd wr sz st ph:Int} {sec nz:List UInt8} {lb:Int} {ml:List fV} {po:List RP} {lo:List Bool} (G:Gm hs nd wr sz st ph sec nz ml po)
include G
theorem Gm.R:(iW hs nd wr sz st ph sec nz lb).length≤7∧∀l∈iW hs nd wr sz st ph sec nz lb,l.length≤7∧∀m∈l,m.2.2.2.2.1.length≤1048576:=by
 have h7:=G.l7
 have h1:=G.tk.rg.1.1
 have h2:=G.tk.rg.1.2.2.1
 have h4:=G.z4
 refine⟨Nat.le_trans (yR _) h7,fun l hl=> ?_⟩
 obtain⟨i,_,rfl,_⟩:=(tX _).1 hl
 obtain⟨a,b⟩:=V2 (hs:=hs) (nd:=nd) (wr:=wr) (sz:=sz) (st:=st) (ph:=ph) (sec:=sec) (nz:=nz) (i:=i) (by omega) (Al h1 ⟨h2.1,h4⟩)
 exact⟨by omega,b⟩
theorem Gm.flat (i:Nat) (hi:i≤7):((iW hs nd wr sz st ph sec nz lb).take i).flatten.length≤49:=by
 have:=D4 (fun l hl=>(G.R (lb:=lb).2 l hl).1) i
 omega
theorem Gm.all:(iW hs nd wr sz st ph sec nz lb).flatten.length≤49:=by
 have h:=G.flat (lb:=lb) 7 (Nat.le_refl _)
 rwa [List.take_of_length_le G.R.1] at h
theorem Gm.e0:gd hs nd sz (og hs nd wr sz st ph sec nz lb):=Pi G.tk G.sec _ (Nat.le_refl _)
theorem Gm.len0:(og hs nd wr sz st ph sec nz lb).length≤7:=Nat.le_trans (zB _) G.l7
theorem Gm.has0 {h:Int} (hh:h∈ac hs wr lb):(aa (og hs nd wr sz st ph sec nz lb) h).isSome=true:=by
 obtain⟨i,h1,h2,h3⟩:=(uQ _ (Nat.le_refl _)).1 hh
 have:=zC (nd:=nd) (wr:=wr) (sz:=sz) (st:=st) (ph:=ph) (sec:=sec) (nz:=nz) (bd:=cU hs lb wr) G.tk.ho hs.length (Nat.le_refl _) h1 (by rw [h2];exact h3)
 rw [h2] at this
 unfold og
 rw [this];rfl
theorem Gm.e1:gd hs nd sz (bj hs nd wr sz st ph sec nz lb ml lo):=gd.dlv _ G.e0
theorem Gm.e2:gd hs nd sz (bT hs nd wr sz st ph sec nz lb ml lo):=gd.dlv _ G.e1
theorem Gm.len1:(bj hs nd wr sz st ph sec nz lb ml lo).length≤7:=by unfold bj;rw [dI];exact G.len0
theorem Gm.has1 {h:Int} (hh:h∈ac hs wr lb):(aa (bj hs nd wr sz st ph sec nz lb ml lo) h).isSome=true:=by unfold bj;rw [rP];exact G.has0 hh
theorem Gm.has2 {h:Int} (hh:h∈ac hs wr lb):(aa (bT hs nd wr sz st ph sec nz lb ml lo) h).isSome=true:=by unfold bT;rw [rP];exact G.has1 hh
theorem Gm.ho:(ac hs wr lb).length≤7:=Nat.le_trans (uR _ _ _) G.l7
theorem Gm.va (i:Nat) (hi:i≤7) (es:List (Int×gX)) (L:List Int):(sD hs es (L.take i)).length≤343:=by
 have h1:=Pz (hs:=hs) es L i
 have h2:i*(hs.length*hs.length)≤7*(7*7):=Nat.mul_le_mul hi (Nat.mul_le_mul G.l7 G.l7)
 omega
theorem Gm.bd:0≤cU hs lb wr∧cU hs lb wr<4096:=Su G.tk.hs12 lb wr
theorem Gm.snd1 {i:Nat} (hi:i<(iW hs nd wr sz st ph sec nz lb).length):xm hs nd wr sz st ph (aM hs nd sz st ph (og hs nd wr sz st ph sec nz lb) (bc lo 0 st ((iW hs nd wr sz st ph sec nz lb).take i).flatten))
  (((iW hs nd wr sz st ph sec nz lb).take i).flatten.length:Int) ((iW hs nd wr sz st ph sec nz lb).getD i []):=by
 have hr:=G.R (lb:=lb)
 have hf:=G.flat (lb:=lb) i (by omega)
 obtain⟨h1,h2⟩:=hr.2 _ (bE [] _ i hi)
 exact⟨G.tk.e,gd.dlv _ G.e0,by omega,by omega,by omega,h2,by rw [dI];have:=G.len0 (lb:=lb);omega⟩
theorem Gm.lie1 (D:List (Ml×Int)):B8 hs nd wr sz st ph (aM hs nd sz st ph (og hs nd wr sz st ph sec nz lb) D) (cU hs lb wr) ml:=by
 have hm:=G.m60
 exact⟨G.tk.e,gd.dlv _ G.e0,G.bd.1,G.bd.2,by omega,G.mx,by rw [dI];have:=G.len0 (lb:=lb);omega⟩
theorem Gm.snd2:xm hs nd wr sz st ph (bj hs nd wr sz st ph sec nz lb ml lo) ((iW hs nd wr sz st ph sec nz lb).flatten.length:Int) (Uo hs nd wr sz st ph sec nz lb ml lo):=by
 have hv:=G.va (ac hs wr lb).length G.ho (bj hs nd wr sz st ph sec nz lb ml lo) (ac hs wr lb)
 rw [List.take_length] at hv
 have:=G.all (lb:=lb)
 exact⟨G.tk.e,G.e1,by omega,by omega,by unfold Uo;omega,Uv,by have:=G.len1 (lb:=lb) (lo:=lo);omega⟩
theorem Gm.lie2 (D:List (Ml×Int)):B8 hs nd wr sz st ph (aM hs nd sz st ph (bj hs nd wr sz st ph sec nz lb ml lo) D) (cU hs lb wr) ml:=by
 have hm:=G.m60
 exact⟨G.tk.e,gd.dlv _ G.e1,G.bd.1,G.bd.2,by omega,G.mx,by rw [dI];have:=G.len1 (lb:=lb) (lo:=lo);omega⟩
theorem Gm.at1 {h:Int} (hh:h∈ac hs wr lb):(cA (bj hs nd wr sz st ph sec nz lb ml lo) h).1=h∧h∈hs∧SOk hs nd sz (cA (bj hs nd wr sz st ph sec nz lb ml lo) h).2.2.1 (cA (bj hs nd wr sz st ph sec nz lb ml lo) h).2.2.2.1∧((cA (bj hs nd wr sz st ph sec nz lb ml lo) h).2.1.length:Int)=sz:=G.e1.at (G.has1 (lo:=lo) hh)
theorem Gm.at2 {h:Int} (hh:h∈ac hs wr lb):(cA (bT hs nd wr sz st ph sec nz lb ml lo) h).1=h∧h∈hs∧SOk hs nd sz (cA (bT hs nd wr sz st ph sec nz lb ml lo) h).2.2.1 (cA (bT hs nd wr sz st ph sec nz lb ml lo) h).2.2.2.1∧((cA (bT hs nd wr sz st ph sec nz lb ml lo) h).2.1.length:Int)=sz:=G.e2.at (G.has2 (lo:=lo) hh)
theorem Gm.post:(dR hs nd wr sz st ph sec nz lb ml po lo).length≤17∧∀p∈dR hs nd wr sz st ph sec nz lb ml po lo,p.2.1.length≤1048576:=by
 have h1:=yg (cU hs lb wr) po
 have h2:=G.p10
 have h3:=G.ho (lb:=lb)
 have h7:=G.l7
 refine⟨by unfold dR;rw [List.length_append,List.length_map];omega,fun p hp=> ?_⟩
 rcases List.mem_append.1 hp with h|h
 ·exact G.px p (Gv h).1
 ·obtain⟨a,_,rfl⟩:=List.mem_map.1 h
  show(eN _ _ _ _).length≤1048576
  unfold eN
  rw [List.length_map,List.length_range];omega
end
end
noncomputable def Qn:List V→Option (Prop×V×List Blk)
 |[.agg [.sl false (.int .i64) hs,.int .i64 nd,.int .i64 wr,.int .i64 sz,.int .i64 st,.int .i64 ph,.str sec,.str nz,.int .u16 lb,.sl false (.cons (.cons (.int .i64) (.cons (.int .i64) (.cons (.int .i64) (.cons (.int .i64) (.cons (.sl .str) .nil))))) (.cons (.int .i64) .nil)) ml,.sl false (.cons (.int .i64) (.cons (.sl (.int .i64)) .nil)) po,.sl false .bool lo]]=>some (fZ hs nd wr sz st ph=0∧hs.length≤7∧sz≤4∧(sec.length:Int)=sz∧ml.length≤60∧po.length≤10∧nz.length≤1048576∧(∀m∈ml,m.1.2.2.2.2.1.length≤1048576)∧(∀p∈po,p.2.1.length≤1048576)∧0≤lb∧lb≤65535,.tup [.agg [.sl true (.int .i64) (ac hs wr lb),.sl true (.cons (.int .i64) (.cons .str .nil)) (di hs nd wr sz st ph sec nz lb ml po lo),.sl true (.int .i64) (cH hs nd wr sz st ph sec nz lb ml po lo),.sl false (.cons (.int .i64) (.cons (.sl (.int .i64)) .nil)) (dR hs nd wr sz st ph sec nz lb ml po lo)],.b True], [])
 |_=>none
theorem aBG (hs:List Int) (nd wr sz st ph:Int) (sec nz:List UInt8) (lb:Int) (ml:List ((Int×(Int×(Int×(Int×(List (List UInt8)×Unit)))))×(Int×Unit))) (po:List (Int×(List Int×Unit))) (lo:List Bool) (hp0:fZ hs nd wr sz st ph=0) (hp1:hs.length≤7) (hp2:sz≤4) (hp3:(sec.length:Int)=sz) (hp4:ml.length≤60) (hp5:po.length≤10) (hp6:nz.length≤1048576) (hp7:(∀m∈ml,m.1.2.2.2.2.1.length≤1048576)) (hp8:(∀p∈po,p.2.1.length≤1048576)) (hp9:0≤lb) (hp10:lb≤65535):Bu (En Ye tys G6 ct [6100025,6100024,1000010,1000002,12000160]) Tryd.f7 [.e [(0,(.int .i64)),(1,(.cons (.int .i64) (.cons .str .nil))),(2,(.int .i64)),(3,fN)],.k] [.agg [.sl false (.int .i64) hs,.int .i64 nd,.int .i64 wr,.int .i64 sz,.int .i64 st,.int .i64 ph,.str sec,.str nz,.int .u16 lb,.sl false (.cons dY (.cons (.int .i64) .nil)) ml,.sl false fN po,.sl false .bool lo]] (.tup [.agg [.sl true (.int .i64) (ac hs wr lb),.sl true (.cons (.int .i64) (.cons .str .nil)) (di hs nd wr sz st ph sec nz lb ml po lo),.sl true (.int .i64) (cH hs nd wr sz st ph sec nz lb ml po lo),.sl false fN (dR hs nd wr sz st ph sec nz lb ml po lo)],.b True]) []:=by
 have G:Gm hs nd wr sz st ph sec nz ml po:=⟨E7 hp0,hp1,hp2,hp3,hp4,hp5,hp6,hp7,hp8⟩
 have hn:=G.tk.rg.1.1
 have hz:=G.tk.rg.1.2.2.1
 obtain⟨hst0,hph0⟩:=G.tk.rg.1.2.2.2
 have hrt:=G.tk.rg.2
 have hnd7:nd≤7:=by have:=G.tk.q1;have:=G.tk.rg.1.2.1.1;omega
 obtain⟨nb1,nb2⟩:=Ak hn ⟨hz.1,hp2⟩
 have hol:=pD (nz:=nz) G.tk G.sec
 have hb12:=G.tk.hs12
 obtain⟨hbd0,hbd1⟩:=G.bd (lb:=lb)
 refine⟨cO,ap (nd-1),rfl,rfl,rfl,rfl,rfl,rfl,⟨om (hs.length≤12),G.tk.hs12,om (0≤lb),om (lb≤65535)⟩,gY,by kernel_rfl,ap (sz*(nd-1)),rfl,rfl,⟨by omega,by omega,om (0≤(sz*(nd-1))),om ((sz*(nd-1))≤1000000),om (nz.length≤1048576)⟩,rfl,⟨om (sec.length≤1048576),om (hs.length≤1048576),by show(xu nz (Int.toNat 1) (Int.toNat (sz*(nd-1)))).length≤1048576;rw [mE];omega⟩,ny ((gb sec nd hs (xu nz (Int.toNat 1) (Int.toNat (sz*(nd-1)))))≠0) (fun h0=> ?_) fun h0=> ?_⟩
 ·refine yn ((((kt sec nd hs (xu nz (Int.toNat 1) (Int.toNat (sz*(nd-1))))).length:Nat):Int)≠(hs.length:Int)) (fun h1=> ?_) fun h1=> ?_
  ·exact absurd (show((kt sec nd hs (xu nz (Int.toNat 1) (Int.toNat (sz*(nd-1))))).length:Int)=(hs.length:Int) by rw [(jD G.tk G.sec).llen]) h1
  ·refine⟨gY,gY,10, [(1,.k),(2,.k),(4,.k),(5,.k),(6,.k),(7,.c [(0,(.int .i64))]),(8,.k),(10,.k),(12,.k),(13,.k),(14,.o (.sl dY)),(72,.k),(73,.k),(74,.k)],fun nM vs H=>∃(k:Nat),k≤hs.length∧nM=hs.length-k∧vs= [.ptr 0 1 0 0,.ptr 1 1 0 0,.ptr 2 1 0 0,.int .i64 (nd-1),.ptr 3 1 0 0,.ptr 4 1 0 0,.own (.cons (.int .i64) (.cons .str .nil)) 5,.ptr 7 1 0 0,.fn 24 [.ptr 7 1 0 0,.ptr 0 1 0 0,.ptr 8 1 0 0,.ptr 2 1 0 0],.fn 25 [.ptr 0 1 0 0,.ptr 7 1 0 0,.ptr 3 1 0 0,.ptr 2 1 0 0],.own (.sl dY) 10,.sl false (.int .i64) hs,.int .i64 (hs.length:Int),.int .i64 (k:Int)]∧H= [.cells [.sl false (.int .i64) hs,.int .i64 nd,.int .i64 wr,.int .i64 sz,.int .i64 st,.int .i64 ph,.str sec,.str nz,.int .u16 lb,.sl false (.cons dY (.cons (.int .i64) .nil)) ml,.sl false fN po,.sl false .bool lo],.cells [.nils,.nils,.nils,.nils],.cells [.sl false (.int .i64) hs,.int .i64 nd,.int .i64 wr,.int .i64 sz,.int .i64 st,.int .i64 ph],.cells [.int .i64 (cU hs lb wr)],.cells [.own (.int .i64) 9,.nils,.nils,.nils],.row true (.cons (.int .i64) (.cons .str .nil)) (dU hs nd sz sec nz),.imap false kr (xz hs nd wr sz st ph sec nz (cU hs lb wr) k),.cells [.mp kr 6],.cells [.int .i64 0],.row true (.int .i64) (wn hs (cU hs lb wr) k),.row true (.sl dY) (xr hs nd wr sz st ph sec nz (cU hs lb wr) k)],⟨rfl,hs.length,0,by omega,by omega,rfl,rfl⟩,?_⟩
   rintro nM vs H ⟨k,hc1_0,rfl,rfl,rfl⟩
   refine yn ((k:Int)<(hs.length:Int)) (fun h2=> ?_) fun h2=> ?_
   ·have hkl:k<hs.length:=by omega
    obtain⟨g0,g1⟩:=hb12 _ (bE 0 hs k hkl)
    have hb0:=Jp (wr:=wr) (st:=st) (ph:=ph) (nz:=nz) G.tk G.sec hkl
    have hsl:=ov (nz:=nz) G.tk G.sec hkl
    have hzl:=Al (nd:=nd) (sz:=sz) (nz:=nz) (k:=k) hn ⟨hz.1,hp2⟩
    have hel:=zB (hs:=hs) (nd:=nd) (wr:=wr) (sz:=sz) (st:=st) (ph:=ph) (sec:=sec) (nz:=nz) (bd:=(cU hs lb wr)) k
    have hrl:=yR (hs:=hs) (nd:=nd) (wr:=wr) (sz:=sz) (st:=st) (ph:=ph) (sec:=sec) (nz:=nz) (bd:=(cU hs lb wr)) k
    have hhl:=uR hs (cU hs lb wr) k
    refine⟨ix k hs.length,⟨om ((0:Int)≤hs.getD k 0),om (hs.getD k 0≤(64:Int))⟩,.inr ⟨rfl,?_⟩⟩
    refine yn ((((cU hs lb wr)/2^((hs.getD k 0).toNat))%2)=1) (fun h3=> ?_) fun h3=> ?_
    ·have hE:xz hs nd wr sz st ph sec nz (cU hs lb wr) (k+1)=xz hs nd wr sz st ph sec nz (cU hs lb wr) k:=if_pos h3
     have hH:wn hs (cU hs lb wr) (k+1)=wn hs (cU hs lb wr) k:=if_pos h3
     have hR:xr hs nd wr sz st ph sec nz (cU hs lb wr) (k+1)=xr hs nd wr sz st ph sec nz (cU hs lb wr) k:=if_pos h3
     refine⟨ap (k+1),?_⟩
     first
     |exact⟨rfl,hs.length-(k+1),by omega,k+1,by omega,rfl,rfl,by rw [hE,hH,hR];rfl⟩
    ·have hE:xz hs nd wr sz st ph sec nz (cU hs lb wr) (k+1)=cP (xz hs nd wr sz st ph sec nz (cU hs lb wr) k) (hs.getD k 0) (Vf hs nd wr sz st ph sec nz k):=if_neg h3
     have hH:wn hs (cU hs lb wr) (k+1)=wn hs (cU hs lb wr) k++ [hs.getD k 0]:=if_neg h3
     have hR:xr hs nd wr sz st ph sec nz (cU hs lb wr) (k+1)=xr hs nd wr sz st ph sec nz (cU hs lb wr) k++ [Mp hs nd wr sz st ph sec nz k]:=if_neg h3
     refine⟨by kernel_rfl,ix k (dU hs nd sz sec nz).length,ap (5*(k:Int)),ap (sz*(nd-1)),ap ((nd-1)+1),ap ((sz*(nd-1))*((nd-1)+1)),.inl ⟨⟨om ((0:Int)≤((sz*(nd-1))*((nd-1)+1))),om ((0:Int)<2)⟩,?_⟩⟩
     refine⟨rfl,rfl,⟨om (0≤(5*(k:Int))),om ((5*(k:Int))≤1000000),om (0≤(((sz*(nd-1))*((nd-1)+1))/2)),om ((((sz*(nd-1))*((nd-1)+1))/2)≤1000000),om (nz.length≤1048576)⟩,rfl,rfl,rfl,rfl,rfl,rfl,⟨om (hs.length≤1000),(fun _=>hnd7),om ((Fi hs nd sz sec nz k).length≤1048576),hzl⟩,cO,yn ((dP hs nd wr sz st ph (hs.getD k 0) ((((dU hs nd sz sec nz).getD k (0,([],()))).2).1) (xu nz (Int.toNat (5*(k:Int))) (Int.toNat (((sz*(nd-1))*((nd-1)+1))/2))))≠0) (fun h4=> ?_) fun h4=> ?_⟩
     ·exact absurd hb0 h4
     ·refine⟨rfl,⟨rfl,om ((xz hs nd wr sz st ph sec nz (cU hs lb wr) k).length≤1000000000)⟩,rfl,fY,l9 (wn hs (cU hs lb wr) k).length,gY,fY,l9 (xr hs nd wr sz st ph sec nz (cU hs lb wr) k).length,ap (k+1),?_⟩
      first
      |exact⟨rfl,hs.length-(k+1),by omega,k+1,by omega,rfl,rfl,by rw [hE,hH,hR];rfl⟩
   ·have hk:k=hs.length:=by omega
    have hRk:xr hs nd wr sz st ph sec nz (cU hs lb wr) k=(iW hs nd wr sz st ph sec nz lb):=by rw [hk];rfl
    refine⟨11, [(1,.k),(2,.k),(4,.k),(6,.k),(7,.k),(10,.k),(12,.k),(13,.k),(126,.k),(127,.k),(128,.k)],fun nM vs H=>∃(i:Nat),i≤(iW hs nd wr sz st ph sec nz lb).length∧nM=(iW hs nd wr sz st ph sec nz lb).length-i∧vs= [.p 0,.p 1,.p 2,.p 3,.p 4,.p 7,.fn 24 [.p 7,.p 0,.p 8,.p 2],.fn 25 [.p 0,.p 7,.p 3,.p 2],.own (.sl dY) 10,.i (((xr hs nd wr sz st ph sec nz (cU hs lb wr) k).length:Nat):Int),.i i]∧H= [.cells [.sl false (.int .i64) hs,.i nd,.i wr,.i sz,.i st,.i ph,.str sec,.str nz,.int .u16 lb,.sl false (.cons dY (.cons (.int .i64) .nil)) ml,.sl false fN po,.sl false .bool lo],.cells [.nils,.nils,.nils,.nils],D9 hs nd wr sz st ph,.cells [.i (cU hs lb wr)],.cells [.own (.int .i64) 9,.nils,.nils,.nils],.r (.cons (.int .i64) (.cons .str .nil)) (dU hs nd sz sec nz),.imap false kr (aM hs nd sz st ph (og hs nd wr sz st ph sec nz lb) (bc lo 0 st (((iW hs nd wr sz st ph sec nz lb).take i).flatten))),.cells [.mp kr 6],.cells [.i ((((iW hs nd wr sz st ph sec nz lb).take i).flatten).length:Int)],.r (.int .i64) (ac hs wr lb),.r (.sl dY) (iW hs nd wr sz st ph sec nz lb)],⟨rfl,(iW hs nd wr sz st ph sec nz lb).length,0,by omega,by omega,rfl,by rw [hk];rfl⟩,?_⟩
    rintro nM vs H ⟨i,hc2_0,rfl,rfl,rfl⟩
    refine yn ((i:Int)<(((xr hs nd wr sz st ph sec nz (cU hs lb wr) k).length:Nat):Int)) (fun h5=> ?_) fun h5=> ?_
    ·rw [hRk] at h5
     have hil:i<(iW hs nd wr sz st ph sec nz lb).length:=by omega
     have hE:=(Fg (hs:=hs) (nd:=nd) (sz:=sz) (st:=st) (ph:=ph) (es:=(og hs nd wr sz st ph sec nz lb)) (lo:=lo) (t:=st) hil).symm
     have hT:((((iW hs nd wr sz st ph sec nz lb).take (i+1)).flatten.length:Nat):Int)=((((iW hs nd wr sz st ph sec nz lb).take i).flatten).length:Int)+(((iW hs nd wr sz st ph sec nz lb).getD i []).length:Int):=by rw [j9 hil,List.length_append,Int.natCast_add]
     have hR7:=(G.R (lb:=lb)).1
     refine⟨ix i (iW hs nd wr sz st ph sec nz lb).length,fY,(G.snd1 hil),gY,ap (i+1),?_⟩
     exact⟨rfl,(iW hs nd wr sz st ph sec nz lb).length-(i+1),by omega,i+1,by omega,rfl,rfl,by rw [hE,hT];rfl⟩
    ·rw [hRk] at h5
     have hRt:(iW hs nd wr sz st ph sec nz lb).take i=(iW hs nd wr sz st ph sec nz lb):=List.take_of_length_le (by omega)
     have hE1:aM hs nd sz st ph (aM hs nd sz st ph (og hs nd wr sz st ph sec nz lb) (bc lo 0 st (((iW hs nd wr sz st ph sec nz lb).take i).flatten))) (cC (cU hs lb wr) 0 (st+ph) ml)=(bj hs nd wr sz st ph sec nz lb ml lo):=by rw [hRt,bj,Q8,dJ]
     have hT1:((((iW hs nd wr sz st ph sec nz lb).take i).flatten).length:Int)=(((iW hs nd wr sz st ph sec nz lb).flatten).length:Int):=by rw [hRt]
     have hH7:=G.ho (lb:=lb)
     refine⟨ap (st+ph),fY,(G.lie1 _),gY,11, [(1,.k),(2,.k),(4,.k),(6,.k),(7,.k),(10,.k),(12,.k),(13,.k),(22,.o dY),(146,.k),(147,.k),(148,.k)],fun nM vs H=>∃(j:Nat),j≤(ac hs wr lb).length∧nM=(ac hs wr lb).length-j∧vs= [.ptr 0 1 0 0,.ptr 1 1 0 0,.ptr 2 1 0 0,.ptr 3 1 0 0,.ptr 4 1 0 0,.ptr 7 1 0 0,.fn 24 [.ptr 7 1 0 0,.ptr 0 1 0 0,.ptr 8 1 0 0,.ptr 2 1 0 0],.fn 25 [.ptr 0 1 0 0,.ptr 7 1 0 0,.ptr 3 1 0 0,.ptr 2 1 0 0],.own dY 11,.own (.int .i64) 9,.int .i64 (((ac hs wr lb).length:Nat):Int),.int .i64 (j:Int)]∧H= [.cells [.sl false (.int .i64) hs,.int .i64 nd,.int .i64 wr,.int .i64 sz,.int .i64 st,.int .i64 ph,.str sec,.str nz,.int .u16 lb,.sl false (.cons dY (.cons (.int .i64) .nil)) ml,.sl false fN po,.sl false .bool lo],.cells [.nils,.nils,.nils,.nils],.cells [.sl false (.int .i64) hs,.int .i64 nd,.int .i64 wr,.int .i64 sz,.int .i64 st,.int .i64 ph],.cells [.int .i64 (cU hs lb wr)],.cells [.own (.int .i64) 9,.nils,.nils,.nils],.row true (.cons (.int .i64) (.cons .str .nil)) (dU hs nd sz sec nz),.imap false kr (bj hs nd wr sz st ph sec nz lb ml lo),.cells [.mp kr 6],.cells [.int .i64 (((iW hs nd wr sz st ph sec nz lb).flatten).length:Int)],.row true (.int .i64) (ac hs wr lb),.row true (.sl dY) (iW hs nd wr sz st ph sec nz lb),.row true dY (sD hs (bj hs nd wr sz st ph sec nz lb ml lo) ((ac hs wr lb).take j))],⟨rfl,(ac hs wr lb).length,0,by omega,by omega,rfl,by rw [hE1,hT1];rfl⟩,?_⟩
     rintro nM vs H ⟨j,hc3_0,rfl,rfl,rfl⟩
     refine yn ((j:Int)<(((ac hs wr lb).length:Nat):Int)) (fun h6=> ?_) fun h6=> ?_
     ·have hjl:j<(ac hs wr lb).length:=by omega
      have hhm:=bE 0 (ac hs wr lb) j hjl
      obtain⟨hs1,hs2,hso,hs4⟩:=G.at1 (lo:=lo) hhm
      have hV:sD hs (bj hs nd wr sz st ph sec nz lb ml lo) ((ac hs wr lb).take (j+1))=sD hs (bj hs nd wr sz st ph sec nz lb ml lo) ((ac hs wr lb).take j)++eR hs ((aa (bj hs nd wr sz st ph sec nz lb ml lo) ((ac hs wr lb).getD j 0)).getD (0,([],([],([],()))))).1 ((aa (bj hs nd wr sz st ph sec nz lb ml lo) ((ac hs wr lb).getD j 0)).getD (0,([],([],([],()))))).2.2.1 hs.length:=Py hjl
      have hvl:=G.va j (by omega) (bj hs nd wr sz st ph sec nz lb ml lo) (ac hs wr lb)
      have hck:(eR hs ((aa (bj hs nd wr sz st ph sec nz lb ml lo) ((ac hs wr lb).getD j 0)).getD (0,([],([],([],()))))).1 ((aa (bj hs nd wr sz st ph sec nz lb ml lo) ((ac hs wr lb).getD j 0)).getD (0,([],([],([],()))))).2.2.1 hs.length).length≤49:=Nat.le_trans (mV ..) (Nat.mul_le_mul hp1 hp1)
      refine⟨ix j (ac hs wr lb).length,rfl,rfl,rfl,rfl,rfl,rfl,rfl,⟨om (hs.length≤1000),hso.rl,hso.mxR (by omega)⟩,fY,om ((sD hs (bj hs nd wr sz st ph sec nz lb ml lo) ((ac hs wr lb).take j)).length+(eR hs (((aa (bj hs nd wr sz st ph sec nz lb ml lo) ((ac hs wr lb).getD j 0)).getD (0,([],([],([],()))))).1) (((((aa (bj hs nd wr sz st ph sec nz lb ml lo) ((ac hs wr lb).getD j 0)).getD (0,([],([],([],()))))).2).2).1) hs.length).length≤1000000000),ap (j+1),?_⟩
      exact⟨rfl,(ac hs wr lb).length-(j+1),by omega,j+1,by omega,rfl,rfl,by rw [hV];rfl⟩
     ·have hHt:(ac hs wr lb).take j=(ac hs wr lb):=List.take_of_length_le (by omega)
      have hVa:sD hs (bj hs nd wr sz st ph sec nz lb ml lo) ((ac hs wr lb).take j)=(Uo hs nd wr sz st ph sec nz lb ml lo):=by rw [hHt];rfl
      have hE2:aM hs nd sz st ph (aM hs nd sz st ph (bj hs nd wr sz st ph sec nz lb ml lo) (bc lo (((iW hs nd wr sz st ph sec nz lb).flatten).length:Int) (st+ph) (sD hs (bj hs nd wr sz st ph sec nz lb ml lo) ((ac hs wr lb).take j)))) (cC (cU hs lb wr) (st+ph) 1000000 ml)=(bT hs nd wr sz st ph sec nz lb ml lo):=by rw [hVa,bT,Q7,dJ]
      refine⟨ap (st+ph),fY,(by show xm _ _ _ _ _ _ _ _ _;rw [hVa];exact G.snd2),gY,ap (st+ph),fY,(G.lie2 _),gY,13, [(2,.k),(4,.k),(6,.k),(7,.c [(1003,fN)]),(10,.k),(176,.k),(177,.k),(178,.k)],fun nM vs H=>∃(a:Nat),a≤po.length∧nM=po.length-a∧vs= [.ptr 1 1 0 0,.ptr 2 1 0 0,.ptr 3 1 0 0,.ptr 4 1 0 0,.ptr 7 1 0 0,.sl false fN po,.int .i64 (po.length:Int),.int .i64 (a:Int)]∧H= [.cells [.sl false (.int .i64) hs,.int .i64 nd,.int .i64 wr,.int .i64 sz,.int .i64 st,.int .i64 ph,.str sec,.str nz,.int .u16 lb,.sl false (.cons dY (.cons (.int .i64) .nil)) ml,.sl false fN po,.sl false .bool lo],.cells [.nils,.nils,.nils,.nils],.cells [.sl false (.int .i64) hs,.int .i64 nd,.int .i64 wr,.int .i64 sz,.int .i64 st,.int .i64 ph],.cells [.int .i64 (cU hs lb wr)],.cells [.own (.int .i64) 9,.nils,.nils,.own fN 12],.row true (.cons (.int .i64) (.cons .str .nil)) (dU hs nd sz sec nz),.imap false kr (bT hs nd wr sz st ph sec nz lb ml lo),.cells [.mp kr 6],.cells [.int .i64 ((((iW hs nd wr sz st ph sec nz lb).flatten).length:Int)+((sD hs (bj hs nd wr sz st ph sec nz lb ml lo) ((ac hs wr lb).take j)).length:Int))],.row true (.int .i64) (ac hs wr lb),.row true (.sl dY) (iW hs nd wr sz st ph sec nz lb),.dead,.row false fN (ll (cU hs lb wr) (po.take a))],⟨rfl,po.length,0,by omega,by omega,rfl,by rw [hE2];rfl⟩,?_⟩
      rintro nM vs H ⟨a,hc4_0,rfl,rfl,rfl⟩
      refine yn ((a:Int)<(po.length:Int)) (fun h7=> ?_) fun h7=> ?_
      ·have hal:a<po.length:=by omega
       have hpl:=yg (cU hs lb wr) (po.take a)
       rw [List.length_take] at hpl
       refine⟨ix a po.length,cO,yn (0≤((po.getD a (0,([],()))).1)) (fun h8=> ?_) fun h8=> ?_⟩
       ·refine yn (((po.getD a (0,([],()))).1)<12) (fun h9=> ?_) fun h9=> ?_
        ·refine⟨⟨om ((0:Int)≤(po.getD a (0,([],()))).1),om ((po.getD a (0,([],()))).1≤(64:Int))⟩,.inr ⟨rfl,?_⟩⟩
         refine yn ((((cU hs lb wr)/2^(((po.getD a (0,([],()))).1).toNat))%2)=1) (fun h10=> ?_) fun h10=> ?_
         ·have hP:ll (cU hs lb wr) (po.take (a+1))=ll (cU hs lb wr) (po.take a)++ [po.getD a (0, [],())]:=Q6 hal ⟨h8,h9,h10⟩
          refine⟨rfl,fY,l9 (ll (cU hs lb wr) (po.take a)).length,gY,ap (a+1),?_⟩
          first
          |exact⟨rfl,po.length-(a+1),by omega,a+1,by omega,rfl,rfl,by rw [hP];rfl⟩
         ·have hP:ll (cU hs lb wr) (po.take (a+1))=ll (cU hs lb wr) (po.take a):=Gw hal fun g=>h10 g.2.2
          refine⟨ap (a+1),?_⟩
          first
          |exact⟨rfl,po.length-(a+1),by omega,a+1,by omega,rfl,rfl,by rw [hP];rfl⟩
        ·have hP:ll (cU hs lb wr) (po.take (a+1))=ll (cU hs lb wr) (po.take a):=Gw hal fun g=>h9 g.2.1
         refine⟨ap (a+1),?_⟩
         first
         |exact⟨rfl,po.length-(a+1),by omega,a+1,by omega,rfl,rfl,by rw [hP];rfl⟩
       ·have hP:ll (cU hs lb wr) (po.take (a+1))=ll (cU hs lb wr) (po.take a):=Gw hal fun g=>h8 g.1
        refine⟨ap (a+1),?_⟩
        first
        |exact⟨rfl,po.length-(a+1),by omega,a+1,by omega,rfl,rfl,by rw [hP];rfl⟩
      ·have hPo:ll (cU hs lb wr) (po.take a)=ll (cU hs lb wr) po:=by rw [List.take_of_length_le (by omega)]
       have hpl:=yg (cU hs lb wr) po
       refine⟨13, [(2,.k),(4,.k),(7,.k),(10,.k),(206,.k),(207,.k),(208,.k)],fun nM vs H=>∃(b:Nat),b≤(ac hs wr lb).length∧nM=(ac hs wr lb).length-b∧vs= [.p 1,.p 2,.p 4,.p 7,.own (.int .i64) 9,.i (((ac hs wr lb).length:Nat):Int),.i b]∧H= [.cells [.sl false (.int .i64) hs,.i nd,.i wr,.i sz,.i st,.i ph,.str sec,.str nz,.int .u16 lb,.sl false (.cons dY (.cons (.int .i64) .nil)) ml,.sl false fN po,.sl false .bool lo],.cells [.nils,.nils,.nils,.nils],D9 hs nd wr sz st ph,.cells [.i (cU hs lb wr)],.cells [.own (.int .i64) 9,.nils,.nils,.own fN 12],.r (.cons (.int .i64) (.cons .str .nil)) (dU hs nd sz sec nz),.imap false kr (bT hs nd wr sz st ph sec nz lb ml lo),.cells [.mp kr 6],.cells [.i ((((iW hs nd wr sz st ph sec nz lb).flatten).length:Int)+((sD hs (bj hs nd wr sz st ph sec nz lb ml lo) ((ac hs wr lb).take j)).length:Int))],.r (.int .i64) (ac hs wr lb),.r (.sl dY) (iW hs nd wr sz st ph sec nz lb),.dead,.row false fN (ll (cU hs lb wr) po++((ac hs wr lb).take b).map (Gq hs (bT hs nd wr sz st ph sec nz lb ml lo)))],⟨rfl,(ac hs wr lb).length,0,by omega,by omega,rfl,by rw [hPo,show ll (cU hs lb wr) po++((ac hs wr lb).take 0).map (Gq hs (bT hs nd wr sz st ph sec nz lb ml lo))=ll (cU hs lb wr) po from List.append_nil _];rfl⟩,?_⟩
       rintro nM vs H ⟨b,hc5_0,rfl,rfl,rfl⟩
       refine yn ((b:Int)<(((ac hs wr lb).length:Nat):Int)) (fun h11=> ?_) fun h11=> ?_
       ·have hbl:b<(ac hs wr lb).length:=by omega
        have hhm:=bE 0 (ac hs wr lb) b hbl
        obtain⟨hs1,hs2,hso,hs4⟩:=G.at2 (lo:=lo) hhm
        have hP:ll (cU hs lb wr) po++((ac hs wr lb).take (b+1)).map (Gq hs (bT hs nd wr sz st ph sec nz lb ml lo))=(ll (cU hs lb wr) po++((ac hs wr lb).take b).map (Gq hs (bT hs nd wr sz st ph sec nz lb ml lo)))++ [(Gq hs (bT hs nd wr sz st ph sec nz lb ml lo)) ((ac hs wr lb).getD b 0)]:=by rw [cL 0 _ _ b hbl,List.append_assoc]
        have hql:(ll (cU hs lb wr) po++((ac hs wr lb).take b).map (Gq hs (bT hs nd wr sz st ph sec nz lb ml lo))).length≤17:=by rw [List.length_append,List.length_map,List.length_take];omega
        obtain⟨hm0,hm1⟩:0≤((aa (bT hs nd wr sz st ph sec nz lb ml lo) ((ac hs wr lb).getD b 0)).getD (0,([],([],([],()))))).1∧((aa (bT hs nd wr sz st ph sec nz lb ml lo) ((ac hs wr lb).getD b 0)).getD (0,([],([],([],()))))).1<12:=by
         have:=hb12 _ hs2
         rw [←hs1] at this
         exact this
        refine⟨ix b (ac hs wr lb).length,by kernel_rfl,rfl,rfl,rfl,rfl,rfl,rfl,rfl,⟨om (hs.length≤1000),hso.rl,hso.vl,hso.vv,hso.mxR (by omega),G.tk.hs12,hm0,hm1⟩,rfl,fY,l9 (ll (cU hs lb wr) po++((ac hs wr lb).take b).map (Gq hs (bT hs nd wr sz st ph sec nz lb ml lo))).length,gY,ap (b+1),?_⟩
        exact⟨rfl,(ac hs wr lb).length-(b+1),by omega,b+1,by omega,rfl,rfl,by rw [hP];rfl⟩
       ·have hPl:ll (cU hs lb wr) po++((ac hs wr lb).take b).map (Gq hs (bT hs nd wr sz st ph sec nz lb ml lo))=(dR hs nd wr sz st ph sec nz lb ml po lo):=by rw [List.take_of_length_le (by omega)];rfl
        refine⟨15, [(2,.k),(4,.k),(7,.c [(1,(.cons (.int .i64) (.cons .str .nil))),(2,(.int .i64))]),(10,.k),(224,.k),(225,.k),(226,.k)],fun nM vs H=>∃(c:Nat),c≤(ac hs wr lb).length∧nM=(ac hs wr lb).length-c∧vs= [.p 1,.p 2,.p 4,.p 7,.own (.int .i64) 9,.i (((ac hs wr lb).length:Nat):Int),.i c]∧H= [.cells [.sl false (.int .i64) hs,.i nd,.i wr,.i sz,.i st,.i ph,.str sec,.str nz,.int .u16 lb,.sl false (.cons dY (.cons (.int .i64) .nil)) ml,.sl false fN po,.sl false .bool lo],.cells [.nils,.nils,.nils,.nils],D9 hs nd wr sz st ph,.cells [.i (cU hs lb wr)],.cells [.own (.int .i64) 9,.own (.cons (.int .i64) (.cons .str .nil)) 13,.own (.int .i64) 14,.own fN 12],.r (.cons (.int .i64) (.cons .str .nil)) (dU hs nd sz sec nz),.imap false kr (bT hs nd wr sz st ph sec nz lb ml lo),.cells [.mp kr 6],.cells [.i ((((iW hs nd wr sz st ph sec nz lb).flatten).length:Int)+((sD hs (bj hs nd wr sz st ph sec nz lb ml lo) ((ac hs wr lb).take j)).length:Int))],.r (.int .i64) (ac hs wr lb),.r (.sl dY) (iW hs nd wr sz st ph sec nz lb),.dead,.row false fN (dR hs nd wr sz st ph sec nz lb ml po lo),.r (.cons (.int .i64) (.cons .str .nil)) (((ac hs wr lb).take c).map (Lb hs nd wr sz st ph (bT hs nd wr sz st ph sec nz lb ml lo) (dR hs nd wr sz st ph sec nz lb ml po lo))),.r (.int .i64) (((ac hs wr lb).take c).map (xC hs nd wr sz st ph (bT hs nd wr sz st ph sec nz lb ml lo) (dR hs nd wr sz st ph sec nz lb ml po lo)))],⟨rfl,(ac hs wr lb).length,0,by omega,by omega,rfl,by rw [hPl];rfl⟩,?_⟩
        rintro nM vs H ⟨c,hc6_0,rfl,rfl,rfl⟩
        refine yn ((c:Int)<(((ac hs wr lb).length:Nat):Int)) (fun h12=> ?_) fun h12=> ?_
        ·have hcl:c<(ac hs wr lb).length:=by omega
         have hhm:=bE 0 (ac hs wr lb) c hcl
         obtain⟨hs1,hs2,hso,hs4⟩:=G.at2 (lo:=lo) hhm
         have hO:((ac hs wr lb).take (c+1)).map (Lb hs nd wr sz st ph (bT hs nd wr sz st ph sec nz lb ml lo) (dR hs nd wr sz st ph sec nz lb ml po lo))=((ac hs wr lb).take c).map (Lb hs nd wr sz st ph (bT hs nd wr sz st ph sec nz lb ml lo) (dR hs nd wr sz st ph sec nz lb ml po lo))++ [(Lb hs nd wr sz st ph (bT hs nd wr sz st ph sec nz lb ml lo) (dR hs nd wr sz st ph sec nz lb ml po lo)) ((ac hs wr lb).getD c 0)]:=cL 0 _ _ c hcl
         have hC:((ac hs wr lb).take (c+1)).map (xC hs nd wr sz st ph (bT hs nd wr sz st ph sec nz lb ml lo) (dR hs nd wr sz st ph sec nz lb ml po lo))=((ac hs wr lb).take c).map (xC hs nd wr sz st ph (bT hs nd wr sz st ph sec nz lb ml lo) (dR hs nd wr sz st ph sec nz lb ml po lo))++ [(xC hs nd wr sz st ph (bT hs nd wr sz st ph sec nz lb ml lo) (dR hs nd wr sz st ph sec nz lb ml po lo)) ((ac hs wr lb).getD c 0)]:=cL 0 _ _ c hcl
         have ho1:(((ac hs wr lb).take c).map (Lb hs nd wr sz st ph (bT hs nd wr sz st ph sec nz lb ml lo) (dR hs nd wr sz st ph sec nz lb ml po lo))).length≤7:=by rw [List.length_map,List.length_take];omega
         have ho2:(((ac hs wr lb).take c).map (xC hs nd wr sz st ph (bT hs nd wr sz st ph sec nz lb ml lo) (dR hs nd wr sz st ph sec nz lb ml po lo))).length≤7:=by rw [List.length_map,List.length_take];omega
         obtain⟨hm0,hm1⟩:0≤((aa (bT hs nd wr sz st ph sec nz lb ml lo) ((ac hs wr lb).getD c 0)).getD (0,([],([],([],()))))).1∧((aa (bT hs nd wr sz st ph sec nz lb ml lo) ((ac hs wr lb).getD c 0)).getD (0,([],([],([],()))))).1<12:=by
          have:=hb12 _ hs2
          rw [←hs1] at this
          exact this
         refine⟨ix c (ac hs wr lb).length,rfl,rfl,rfl,rfl,rfl,rfl,rfl,⟨om (hs.length≤2000000),by show(dR hs nd wr sz st ph sec nz lb ml po lo).length≤20;have:=(G.post (lb:=lb) (lo:=lo)).1;omega,G.post.2,hso.rl,hso.vl,hso.vv,hso.szd,hso.ro,hm0,hm1,om (nd≤7)⟩,cO,by kernel_rfl,rfl,fY,l9 (((ac hs wr lb).take c).map (Lb hs nd wr sz st ph (bT hs nd wr sz st ph sec nz lb ml lo) (dR hs nd wr sz st ph sec nz lb ml po lo))).length,rfl,fY,l9 (((ac hs wr lb).take c).map (xC hs nd wr sz st ph (bT hs nd wr sz st ph sec nz lb ml lo) (dR hs nd wr sz st ph sec nz lb ml po lo))).length,gY,gY,ap (c+1),?_⟩
         exact⟨rfl,(ac hs wr lb).length-(c+1),by omega,c+1,by omega,rfl,rfl,by rw [hO,hC];rfl⟩
        ·have hct:(ac hs wr lb).take c=(ac hs wr lb):=List.take_of_length_le (by omega)
         refine⟨cO,?_⟩
         rw [show di hs nd wr sz st ph sec nz lb ml po lo=((ac hs wr lb).take c).map (Lb hs nd wr sz st ph (bT hs nd wr sz st ph sec nz lb ml lo) (dR hs nd wr sz st ph sec nz lb ml po lo)) by rw [hct];rfl,show cH hs nd wr sz st ph sec nz lb ml po lo=((ac hs wr lb).take c).map (xC hs nd wr sz st ph (bT hs nd wr sz st ph sec nz lb ml lo) (dR hs nd wr sz st ph sec nz lb ml po lo)) by rw [hct];rfl]
         exact⟨rfl,rfl,congrArg (fun p=>V.tup [_,.b p]) (propext ⟨fun _=>trivial,fun _=>rfl⟩),rfl⟩
 ·exact absurd (jD G.tk G.sec).e h0
noncomputable def Tr:List (Nat×bW):=(7,uM [.v (.cons yH (.cons .str (.cons .str (.cons (.int .u16) (.cons (.sl (.cons dY (.cons (.int .i64) .nil))) (.cons (.sl fN) (.cons (.sl .bool) .nil)))))))] Qn)::Oe
theorem aAT:Known Tryd.prog (En Tr tys G6 ct):=Wk.cons (sn aAW rfl Tryd.func7 Tryd.call7 (ks:= [.v (.cons yH (.cons .str (.cons .str (.cons (.int .u16) (.cons (.sl (.cons dY (.cons (.int .i64) .nil))) (.cons (.sl fN) (.cons (.sl .bool) .nil)))))))]) (spec:=Qn) [.e [(0,(.int .i64)),(1,(.cons (.int .i64) (.cons .str .nil))),(2,(.int .i64)),(3,fN)],.k] fun ds p v bs h hp=>by
 unfold Qn at h
 split at h<;>simp only [Option.some.injEq,Prod.mk.injEq,reduceCtorEq] at h
 obtain⟨rfl,rfl,rfl⟩:=h
 exact aBG _ _ _ _ _ _ _ _ _ _ _ _ hp.1 hp.2.1 hp.2.2.1 hp.2.2.2.1 hp.2.2.2.2.1 hp.2.2.2.2.2.1 hp.2.2.2.2.2.2.1 hp.2.2.2.2.2.2.2.1 hp.2.2.2.2.2.2.2.2.1 hp.2.2.2.2.2.2.2.2.2.1 hp.2.2.2.2.2.2.2.2.2.2) (.imm _ _)
section
def jX (hs:List Int) (nd sz:Int) (sec nz:List UInt8) (h:Int):List UInt8:=Fi hs nd sz sec nz (aj h hs 0).toNat
def Rf (hs:List Int) (nd sz:Int) (nz:List UInt8) (h:Int):List UInt8:=xw nd sz nz (aj h hs 0).toNat
theorem Hx {bd a b:Int} {ml:List fV} {x:Ml×Int} (h:x∈cC bd a b ml):∃y∈ml,wa bd a b y∧x=(y.1,y.2.1):=by
 obtain⟨y,hy,rfl⟩:=List.mem_map.1 h
 obtain⟨h1,h2⟩:=List.mem_filter.1 hy
 exact⟨y,h1,of_decide_eq_true h2,rfl⟩
theorem vZ {lo:List Bool} {c t:Int} {l:List Ml} {x:Ml×Int} (h:x∈bc lo c t l):∃m∈l,x=(m,t):=by
 obtain⟨m,hm,rfl⟩:=List.mem_map.1 h
 exact⟨m,qg lo l c m hm,rfl⟩
theorem vb {c t:Int} {l:List Ml} {m:Ml} (h:m∈l):(m,t)∈bc [] c t l:=by
 unfold bc
 rw [Dq]
 exact List.mem_map.2 ⟨m,h,rfl⟩
theorem uo {hs:List Int} {me:Int} {rows:List e7} {m:Ml}:∀k,m∈eR hs me rows k↔∃i:Nat,i<k∧(rows.getD i []).length≠0∧∃p∈a5 me 0 hs,m=(2,(me,(p.2,(hs.getD i 0,([dK (rows.getD i []) p.2],())))))
 |0=>⟨fun h=>(by cases h),fun⟨i,h,_⟩=>absurd h (Nat.not_lt_zero i)⟩
 | k+1=>by
  have ih:=uo (hs:=hs) (me:=me) k (m:=m) (rows:=rows)
  rw [eR,List.mem_append,ih]
  constructor
  ·rintro(⟨i,h1,h2⟩|h)
   ·exact⟨i,by omega,h2⟩
   ·split at h
    ·cases h
    ·rename_i g
     unfold lY at h
     rw [List.take_length] at h
     obtain⟨p,hp,rfl⟩:=List.mem_map.1 h
     exact⟨k,by omega,g,p,hp,rfl⟩
  ·rintro⟨i,h1,h2,p,hp,rfl⟩
   by_cases e:i=k
   ·subst e
    right
    rw [if_neg h2]
    unfold lY
    rw [List.take_length]
    exact List.mem_map.2 ⟨p,hp,rfl⟩
   ·exact .inl ⟨i,by omega,h2,p,hp,rfl⟩
theorem Eu {hs:List Int} {es:List (Int×gX)} {L:List Int} {m:Ml}:m∈sD hs es L↔∃h∈L,m∈eR hs (cA es h).1 (cA es h).2.2.1 hs.length:=by
 unfold sD
 rw [List.mem_flatten]
 constructor
 ·rintro⟨l,hl,hm⟩
  obtain⟨h,hh,rfl⟩:=List.mem_map.1 hl
  exact⟨h,hh,hm⟩
 ·rintro⟨h,hh,hm⟩
  exact⟨_,List.mem_map.2 ⟨h,hh,rfl⟩,hm⟩
section
variable {hs:List Int} {nd wr sz st ph:Int} {sec nz:List UInt8} {lb:Int} {ml:List fV} {po:List RP} {lo:List Bool} (G:Gm hs nd wr sz st ph sec nz ml po)
include G
theorem Gm.idx {h:Int} (hh:h∈ac hs wr lb):∃i:Nat,i<hs.length∧hs.getD i 0=h∧(aj h hs 0).toNat=i∧¬(cU hs lb wr/2^h.toNat)%2=1:=by
 obtain⟨i,h1,h2,h3⟩:=(uQ _ (Nat.le_refl _)).1 hh
 exact⟨i,h1,h2,by rw [←h2];exact jJ G.tk.ho h1,h3⟩
theorem Gm.sub:(ac hs wr lb).Sublist hs:=by
 unfold ac
 rw [Be]
 exact List.filter_sublist
theorem Gm.many:(hs.length:Int)≤(ac hs wr lb).length+wr:=by
 have h1:=fD (fun h=>decide (¬(cU hs lb wr/2^h.toNat)%2=1)) hs
 have h2:=Hy hs lb G.tk.rg.1.2.1.1 hs.length
 have h3:=nI (hs.filter fun x=> !decide (¬(cU hs lb wr/2^x.toNat)%2=1)) (lP hs lb wr hs.length) (G.tk.nodup.sublist List.filter_sublist) fun a ha=>by
  obtain⟨a1,a2⟩:=List.mem_filter.1 ha
  refine(W9 G.tk.hs12 lb wr (G.tk.hs12 a a1).1).1 ?_
  simpa using a2
 unfold ac
 rw [Be]
 omega
theorem Gm.in12 {h:Int} (hh:h∈ac hs wr lb):0≤h∧h<12:=G.tk.hs12 h (G.sub.subset hh)
theorem Gm.beg {h:Int} (hh:h∈ac hs wr lb):dP hs nd wr sz st ph h (jX hs nd sz sec nz h) (Rf hs nd sz nz h)=0:=by
 obtain⟨i,h1,h2,h3,_⟩:=G.idx hh
 have:=Jp (nz:=nz) G.tk G.sec h1
 rw [h2] at this
 unfold jX Rf
 rw [h3]
 exact this
theorem Gm.row {x:Ml×Int} (hx:x∈bc lo 0 st (iW hs nd wr sz st ph sec nz lb).flatten):x.2=st∧x.1.2.1∈ac hs wr lb∧Ca hs (ac hs wr lb) (lH hs nd sz (Rf hs nd sz nz)) x:=by
 obtain⟨m,hm,rfl⟩:=vZ hx
 obtain⟨l,hl,hm⟩:=List.mem_flatten.1 hm
 obtain⟨i,h1,rfl,h3⟩:=(tX _).1 hl
 have hb:=Jp (nz:=nz) G.tk G.sec h1
 unfold Mp uz at hm
 rw [if_pos hb] at hm
 unfold rW at hm
 rw [List.take_length] at hm
 obtain⟨p,hp,rfl⟩:=List.mem_map.1 hm
 have hi:=jJ G.tk.ho h1
 refine⟨rfl,(uQ _ (Nat.le_refl _)).2 ⟨i,h1,rfl,h3⟩,rfl,rfl,i,h1,rfl,?_⟩
 show dZ _ _ _=lH _ _ _ _ _ _
 unfold lH Rf
 rw [hi]
theorem Gm.lied {a b:Int} {x:Ml×Int} (hx:x∈cC (cU hs lb wr) a b ml):a≤x.2∧x.1.2.1∉ac hs wr lb:=by
 obtain⟨y,_,h2,rfl⟩:=Hx hx
 refine⟨h2.1,fun hh=> ?_⟩
 obtain⟨_,_,_,_,g⟩:=G.idx hh
 exact g h2.2.2.2.2
theorem Gm.rAt {h:Int} (hh:h∈ac hs wr lb):bL (bj hs nd wr sz st ph sec nz lb ml lo) h=(cA (bj hs nd wr sz st ph sec nz lb ml lo) h).2.2.1:=by
 unfold bL
 rw [fp (G.has1 hh)]
theorem Gm.value {x:Ml×Int} {c:Int} (hx:x∈bc lo c (st+ph) (Uo hs nd wr sz st ph sec nz lb ml lo)):x.2=st+ph∧B9 hs (ac hs wr lb) (bL (bj hs nd wr sz st ph sec nz lb ml lo)) x:=by
 obtain⟨m,hm,rfl⟩:=vZ hx
 obtain⟨h,hh,hm⟩:=Eu.1 hm
 obtain⟨i,h1,h2,p,hp,rfl⟩:=(uo _).1 hm
 obtain⟨e1,_⟩:=G.at1 (lo:=lo) hh
 have er:=G.rAt (lo:=lo) hh
 refine⟨rfl,rfl,by show(cA _ h).1∈_;rw [e1];exact hh,i,h1,rfl,?_,?_⟩
 ·show((bL _ (cA _ h).1).getD i []).length≠0
  rw [e1,er];exact h2
 ·show [dK _ p.2]= [dK ((bL _ (cA _ h).1).getD i []) p.2]
  rw [e1,er]
theorem Gm.run:Run hs nd wr sz st ph (ac hs wr lb) (Rf hs nd sz nz) (jX hs nd sz sec nz) (og hs nd wr sz st ph sec nz lb) (Q8 hs nd wr sz st ph sec nz lb ml lo) (Q7 hs nd wr sz st ph sec nz lb ml lo) where
 tk:=G.tk
 sub:=G.sub
 many:=G.many
 beg h hh:=G.beg hh
 start h hh:=by
  obtain⟨i,h1,h2,h3,h4⟩:=G.idx hh
  have:=zC (nd:=nd) (wr:=wr) (sz:=sz) (st:=st) (ph:=ph) (sec:=sec) (nz:=nz) (bd:=cU hs lb wr) G.tk.ho hs.length (Nat.le_refl _) h1 (by rw [h2];exact h4)
  unfold Vf at this
  rw [h2] at this
  unfold og jX Rf
  rw [h3]
  exact this
 one x hx:=by
  rcases List.mem_append.1 hx with h|h
  ·exact .inr (G.row h).2.2
  ·exact .inl (G.lied h).2
 two x hx:=by
  rcases List.mem_append.1 hx with h|h
  ·obtain⟨h1,h2⟩:=G.value h
   exact⟨by omega,.inr h2⟩
  ·obtain⟨h1,h2⟩:=G.lied h
   exact⟨h1,.inl h2⟩
theorem Gm.fin {h:Int} (hh:h∈ac hs wr lb):(cA (bT hs nd wr sz st ph sec nz lb ml lo) h).1=h∧(cA (bT hs nd wr sz st ph sec nz lb ml lo) h).2.1=jX hs nd sz sec nz h∧
  (cA (bT hs nd wr sz st ph sec nz lb ml lo) h).2.2.1=bL (bj hs nd wr sz st ph sec nz lb ml lo) h∧(cA (bT hs nd wr sz st ph sec nz lb ml lo) h).2.2.2.1=cz (bT hs nd wr sz st ph sec nz lb ml lo) h:=by
 obtain⟨s0,s,_,e2,_,_,g⟩:=(G.run (lo:=lo)).fin hh
 have e2:aa (bT hs nd wr sz st ph sec nz lb ml lo) h=some s:=e2
 have e3:=fp (G.has2 (lo:=lo) hh)
 rw [e2] at e3
 cases e3
 exact⟨g.me,g.shr,g.rows,by unfold cz;rw [e2]⟩
theorem Gm.ps {h:Int} (hh:h∈ac hs wr lb):Gq hs (bT hs nd wr sz st ph sec nz lb ml lo) h=(h,eN hs h (bL (bj hs nd wr sz st ph sec nz lb ml lo) h) (cz (bT hs nd wr sz st ph sec nz lb ml lo) h),()):=by
 obtain⟨h1,h2,h3,h4⟩:=G.fin (lo:=lo) hh
 unfold Gq
 rw [h1,h3,h4]
theorem Gm.played:Played hs nd wr sz st ph (ac hs wr lb) (bL (bj hs nd wr sz st ph sec nz lb ml lo)) (cz (bT hs nd wr sz st ph sec nz lb ml lo)) (dR hs nd wr sz st ph sec nz lb ml po lo):=by
 refine(G.run (lo:=lo)).played fun h hh=> ?_
 have e:dR hs nd wr sz st ph sec nz lb ml po lo=ll (cU hs lb wr) po++(ac hs wr lb).map fun a=>(a,eN hs a (bL (bj hs nd wr sz st ph sec nz lb ml lo) a) (cz (bT hs nd wr sz st ph sec nz lb ml lo) a),()):=by
  unfold dR
  rw [List.map_congr_left fun a ha=>G.ps (lo:=lo) ha]
 rw [e]
 exact Cu G.tk.hs12 (G.tk.nodup.sublist G.sub) (fun a ha=>G.sub.subset ha) (fun p hp hh=>by
  obtain⟨_,_,_,_,g⟩:=G.idx hh
  exact g (Gv hp).2.2.2) hh
theorem Gm.fC {l:List RP} {h:Int} (hh:h∈ac hs wr lb):xC hs nd wr sz st ph (bT hs nd wr sz st ph sec nz lb ml lo) l h=j8 hs nd wr sz st ph h (jX hs nd sz sec nz h) (bL (bj hs nd wr sz st ph sec nz lb ml lo) h) (cz (bT hs nd wr sz st ph sec nz lb ml lo) h) l:=by
 obtain⟨h1,h2,h3,h4⟩:=G.fin (lo:=lo) hh
 unfold xC
 rw [h1,h2,h3,h4]
theorem Gm.fO {l:List RP} {h:Int} (hh:h∈ac hs wr lb) (e:xC hs nd wr sz st ph (bT hs nd wr sz st ph sec nz lb ml lo) l h=0):Lb hs nd wr sz st ph (bT hs nd wr sz st ph sec nz lb ml lo) l h=(h,xy hs nd wr sz st ph h (jX hs nd sz sec nz h) (bL (bj hs nd wr sz st ph sec nz lb ml lo) h) (cz (bT hs nd wr sz st ph sec nz lb ml lo) h) l,()):=by
 rw [G.fC hh] at e
 obtain⟨h1,h2,h3,h4⟩:=G.fin (lo:=lo) hh
 unfold Lb
 rw [h1,h2,h3,h4]
 unfold M6
 rw [if_pos e]
theorem Gm.shl {h:Int} (hh:h∈ac hs wr lb):((jX hs nd sz sec nz h).length:Int)=sz:=by
 obtain⟨i,h1,h2,h3,_⟩:=G.idx hh
 unfold jX
 rw [h3]
 exact ov G.tk G.sec h1
theorem Gm.old {h:Int} (hh:h∈ac hs wr lb):(h,jX hs nd sz sec nz h,())∈dU hs nd sz sec nz∧∀b,b<sec.length→(jX hs nd sz sec nz h).getD b 0=aB (pt h) (yf sec (xu nz (Int.toNat 1) (Int.toNat (sz*(nd-1)))) nd b):=by
 obtain⟨i,h1,h2,h3,_⟩:=G.idx hh
 have S:=jD (nz:=nz) G.tk G.sec
 have e:=Mi (nz:=nz) G.tk G.sec h1
 have hm:=bE (0,([],())) (dU hs nd sz sec nz) i (by rw [pD G.tk G.sec];exact h1)
 have e1:((dU hs nd sz sec nz).getD i (0,([],()))).1=h:=by rw [e,h2];rfl
 have e2:(dU hs nd sz sec nz).getD i (0,([],()))=(h,jX hs nd sz sec nz h,()):=by
  unfold jX Fi
  rw [h3]
  exact Prod.ext e1 rfl
 rw [e2] at hm
 exact⟨hm,(S.mem hm).2.2⟩
theorem Gm.ends {h:Int} (hh:h∈ac hs wr lb):xC hs nd wr sz st ph (bT hs nd wr sz st ph sec nz lb ml lo) (dR hs nd wr sz st ph sec nz lb ml po lo) h=0∨xC hs nd wr sz st ph (bT hs nd wr sz st ph sec nz lb ml lo) (dR hs nd wr sz st ph sec nz lb ml po lo) h=17:=by
 rw [G.fC hh,(G.played (lo:=lo)).ends hh (G.shl hh)]
 split
 ·exact .inl rfl
 ·exact .inr rfl
end
theorem Du {hs l:List Int} (h:nR hs=true) (hl:l.Sublist hs):nR l=true:=by
 have hp:=(uO h).sublist hl
 refine List.all_eq_true.2 fun k hk=>decide_eq_true ?_
 have hk:=List.mem_range.1 hk
 refine⟨uP h _ (hl.subset (bE 0 l k hk)),?_⟩
 rcases Nat.eq_zero_or_pos k with e|e
 ·exact .inl e
 ·refine .inr ?_
  rw [gD (by omega),gD hk]
  exact List.pairwise_iff_getElem.1 hp (k-1) k (by omega) hk (by omega)
def iI (S:List yB) (F:List Int):Nat→List yB
 |0=> []
 |k+1=>if F.getD k 0=0 then iI S F k++ [S.getD k (0,([],()))] else iI S F k
theorem pE {H:List Int} {f:Int→yB} {g:Int→Int}:∀k,k≤H.length→iI (H.map f) (H.map g) k=((H.take k).filter fun h=>decide (g h=0)).map f
 |0,_=>by simp [iI]
 | k+1,hk=>by
  have e1:(H.map g).getD k 0=g (H.getD k 0):=by rw [gD (by rw [List.length_map];omega),List.getElem_map,gD (by omega)]
  have e2:(H.map f).getD k (0,([],()))=f (H.getD k 0):=by rw [gD (by rw [List.length_map];omega),List.getElem_map,gD (by omega)]
  rw [iI,pE k (by omega),e1,e2,b7 0 (by omega),List.filter_append,List.map_append]
  split
  ·rename_i h
   rw [List.filter_cons_of_pos (by exact decide_eq_true h)];rfl
  ·rename_i h
   rw [List.filter_cons_of_neg (by simpa using h)];simp
theorem pF (S:List yB) (F:List Int):∀k,(iI S F k).length≤k
 |0=>Nat.le_refl _
 |k+1=>by
  have:=pF S F k
  rw [iI]
  split
  ·rw [List.length_append,List.length_cons,List.length_nil];omega
  ·omega
theorem yX {key:List UInt8} {nd:Int} {hs:List Int} {l:List yB} (R:Ready key nd hs l):xB l nd key:=by
 by_cases h:nd≤(l.length:Int)
 ·exact((R.many (List.Sublist.refl _) h rfl).1).2 rfl
 ·exact(R.few (List.Sublist.refl _) h rfl).1
section
variable {hs:List Int} {nd wr sz st ph:Int} {sec nz:List UInt8} {lb:Int} {ml:List fV} {po:List RP} {lo:List Bool} (G:Gm hs nd wr sz st ph sec nz ml po)
include G
theorem Gm.well:∃K:List Int,K.Sublist (ac hs wr lb)∧(∀h,h∈K↔h∈ac hs wr lb∧xC hs nd wr sz st ph (bT hs nd wr sz st ph sec nz lb ml lo) (dR hs nd wr sz st ph sec nz lb ml po lo) h=0)∧
  iI (di hs nd wr sz st ph sec nz lb ml po lo) (cH hs nd wr sz st ph sec nz lb ml po lo) (ac hs wr lb).length=K.map (fun h=>(h,xy hs nd wr sz st ph h (jX hs nd sz sec nz h) (bL (bj hs nd wr sz st ph sec nz lb ml lo) h) (cz (bT hs nd wr sz st ph sec nz lb ml lo) h) (dR hs nd wr sz st ph sec nz lb ml po lo),())):=by
 refine⟨(ac hs wr lb).filter fun h=>decide (xC hs nd wr sz st ph (bT hs nd wr sz st ph sec nz lb ml lo) (dR hs nd wr sz st ph sec nz lb ml po lo) h=0),List.filter_sublist,fun h=>by simp,?_⟩
 unfold di cH
 rw [pE _ (Nat.le_refl _),List.take_length]
 refine List.map_congr_left fun h hh=> ?_
 obtain⟨h1,h2⟩:=List.mem_filter.1 hh
 exact G.fO h1 (of_decide_eq_true h2)
theorem Gm.ready:∃K:List Int,(∀h,h∈K↔h∈ac hs wr lb∧xC hs nd wr sz st ph (bT hs nd wr sz st ph sec nz lb ml lo) (dR hs nd wr sz st ph sec nz lb ml po lo) h=0)∧
  Ready sec nd K (iI (di hs nd wr sz st ph sec nz lb ml po lo) (cH hs nd wr sz st ph sec nz lb ml po lo) (ac hs wr lb).length):=by
 obtain⟨K,k1,k2,k3⟩:=G.well (lb:=lb) (lo:=lo)
 refine⟨K,k2,?_⟩
 rw [k3]
 have P:=G.played (lb:=lb) (lo:=lo)
 have hn:=G.tk.rg.1.1
 have hz:=G.tk.rg.1.2.2.1
 have S:=P.shares (key:=sec) G.sec (sh:=jX hs nd sz sec nz) (fun h hh=>G.shl hh) fun b hb=>
  ⟨yf sec (xu nz (Int.toNat 1) (Int.toNat (sz*(nd-1)))) nd b,L0 _ _ (by omega) b,wl _ _,fun h hh=>(G.old hh).2 b hb⟩
 have ok:∀h∈K,h∈ac hs wr lb∧j8 hs nd wr sz st ph h (jX hs nd sz sec nz h) (bL (bj hs nd wr sz st ph sec nz lb ml lo) h) (cz (bT hs nd wr sz st ph sec nz lb ml lo) h) (dR hs nd wr sz st ph sec nz lb ml po lo)=0:=fun h hh=>by
  obtain⟨h1,h2⟩:=(k2 h).1 hh
  rw [G.fC h1] at h2
  exact⟨h1,h2⟩
 refine⟨⟨?_,fun s hs'=> ?_,fun b hb=> ?_⟩,Du (Ot G.tk) (k1.trans G.sub),by omega,by omega,by have:=G.sec;have:=G.z4;omega⟩
 ·rw [List.map_map]
  exact List.map_id _
 ·obtain⟨h,hh,rfl⟩:=List.mem_map.1 hs'
  obtain⟨h1,h2⟩:=ok h hh
  exact S.1 h h1 h2
 ·obtain⟨p,p1,p2,p3⟩:=S.2 b hb
  refine⟨aF p,p1,by rw [ao,p2],fun s hs'=> ?_⟩
  obtain⟨h,hh,rfl⟩:=List.mem_map.1 hs'
  obtain⟨h1,h2⟩:=ok h hh
  rw [ao]
  exact p3 h h1 h2
theorem Gm.none (hd:(aS hs nd wr sz st ph (dR hs nd wr sz st ph sec nz lb ml po lo)).length=0):iI (di hs nd wr sz st ph sec nz lb ml po lo) (cH hs nd wr sz st ph sec nz lb ml po lo) (ac hs wr lb).length=(ac hs wr lb).map (fun h=>(h,jX hs nd sz sec nz h,())):=by
 have hd:=List.length_eq_zero_iff.1 hd
 have P:=G.played (lb:=lb) (lo:=lo)
 have e:∀h∈ac hs wr lb,j8 hs nd wr sz st ph h (jX hs nd sz sec nz h) (bL (bj hs nd wr sz st ph sec nz lb ml lo) h) (cz (bT hs nd wr sz st ph sec nz lb ml lo) h) (dR hs nd wr sz st ph sec nz lb ml po lo)=0:=fun h hh=>by
  rw [P.ends hh (G.shl hh)]
  unfold rr
  rw [hd];rfl
 unfold di cH
 rw [pE _ (Nat.le_refl _),List.take_length,List.filter_eq_self.2 fun h hh=>by rw [G.fC hh];exact decide_eq_true (e h hh)]
 refine List.map_congr_left fun h hh=> ?_
 rw [G.fO hh (by rw [G.fC hh];exact e h hh)]
 unfold xy rr
 rw [if_pos (e h hh),hd];rfl
end
end
section
section
variable {hs:List Int} {nd wr sz st ph:Int} {sec nz:List UInt8} {lb:Int} {ml:List fV} {po:List RP} (G:Gm hs nd wr sz st ph sec nz ml po)
include G
theorem Gm.row1 {h:Int} (hh:h∈ac hs wr lb) {k:Nat} (hk:k<hs.length) (hd:hs.getD k 0∈ac hs wr lb):
  (bL (bj hs nd wr sz st ph sec nz lb ml []) h).getD k []=lH hs nd sz (Rf hs nd sz nz) k h∧((bL (bj hs nd wr sz st ph sec nz lb ml []) h).getD k []).length≠0:=by
 refine(G.run (lo:= [])).gotRow hh hk hd fun hne=> ?_
 obtain⟨_,_,_,_,hb⟩:=G.idx hd
 obtain⟨i,h1,h2⟩:∃i:Nat,i<hs.length∧hs.getD i 0=h:=⟨_,(eO (G.sub.subset hh)).2⟩
 have hbe:=Jp (nz:=nz) G.tk G.sec hk
 have hm:((1,hs.getD k 0,h,hs.getD k 0,dZ (oj nd sz (xw nd sz nz k)) (kz nd sz (xw nd sz nz k)) h,()):Ml)∈Mp hs nd wr sz st ph sec nz k:=by
  unfold Mp uz
  rw [if_pos hbe]
  unfold rW
  rw [List.take_length]
  exact List.mem_map.2 ⟨(((0+i:Nat):Int),h),by rw [←h2];exact qM hs 0 i h1 (by rw [h2];exact fun e=>hne e.symm),rfl⟩
 have hx:(((1,hs.getD k 0,h,hs.getD k 0,dZ (oj nd sz (xw nd sz nz k)) (kz nd sz (xw nd sz nz k)) h,()):Ml),st)∈bc [] 0 st (iW hs nd wr sz st ph sec nz lb).flatten:=
  vb (List.mem_flatten.2 ⟨_,(tX _).2 ⟨k,hk,rfl,hb⟩,hm⟩)
 exact⟨_,List.mem_append_left _ hx,(G.row hx).2.2,rfl,rfl,rfl⟩
theorem Gm.val1 {h:Int} (hh:h∈ac hs wr lb) {k j:Nat} (hk:k<hs.length) (hj:j<hs.length) (hd:hs.getD j 0∈ac hs wr lb) (hne:hs.getD j 0≠h)
  (hr:((bL (bj hs nd wr sz st ph sec nz lb ml []) (hs.getD j 0)).getD k []).length≠0):0<(((cz (bT hs nd wr sz st ph sec nz lb ml []) h).getD k []).getD j []).length:=by
 refine(G.run (lo:= [])).gotVal hh hk hj hd hne ?_
 obtain⟨e1,_⟩:=G.at1 (lo:= []) hd
 have er:=G.rAt (lo:= []) hd
 rw [er] at hr
 obtain⟨i,h1,h2⟩:∃i:Nat,i<hs.length∧hs.getD i 0=h:=⟨_,(eO (G.sub.subset hh)).2⟩
 have hm:((2,(cA (bj hs nd wr sz st ph sec nz lb ml []) (hs.getD j 0)).1,h,hs.getD k 0, [dK ((cA (bj hs nd wr sz st ph sec nz lb ml []) (hs.getD j 0)).2.2.1.getD k []) h],()):Ml)∈Uo hs nd wr sz st ph sec nz lb ml []:=
  Eu.2 ⟨_,hd,(uo _).2 ⟨k,hk,hr,(((0+i:Nat):Int),h),by rw [e1,←h2];exact qM hs 0 i h1 (by rw [h2];exact fun e=>hne e.symm),rfl⟩⟩
 have hx:=vb (c:=((iW hs nd wr sz st ph sec nz lb).flatten.length:Int)) (t:=st+ph) hm
 exact⟨_,List.mem_append_left _ hx,(G.value hx).2,rfl,e1,rfl,rfl⟩
theorem Gm.counts {h:Int} (hh:h∈ac hs wr lb):∃v∈aS hs nd wr sz st ph (dR hs nd wr sz st ph sec nz lb ml po []),v.1=h:=by
 obtain⟨k,hk,e,_⟩:=G.idx hh
 have hd:hs.getD k 0∈ac hs wr lb:=by rw [e];exact hh
 obtain⟨v,h1,h2⟩:=(G.played (lo:= [])).counts hk (fun a ha=>(G.row1 ha hk hd).2) (fun a ha b hb=>by
  rw [(G.row1 ha hk hd).1,(G.row1 hb hk hd).1]
  exact Hq (mZ (G.beg hd)).2.2.1 G.tk.rg.1.1 G.tk.rg.1.2.2.1 (G.in12 ha) (G.in12 hb)) fun a ha j hj hjd hne=>G.val1 ha hk hj hjd hne (G.row1 hjd hk hd).2
 exact⟨v,h1,h2.trans e⟩
theorem Gm.fine {h:Int} (hh:h∈ac hs wr lb):xC hs nd wr sz st ph (bT hs nd wr sz st ph sec nz lb ml []) (dR hs nd wr sz st ph sec nz lb ml po []) h=0:=by
 rw [G.fC hh,(G.played (lo:= [])).ends hh (G.shl hh),if_pos]
 refine List.all_eq_true.2 fun r hr=>decide_eq_true ?_
 obtain⟨v,hv,rfl⟩:=List.mem_map.1 hr
 exact(G.played (lo:= [])).found (fun a ha k j hk hj hjd hne hr=>G.val1 ha hk hj hjd hne hr) hv hh
theorem Gm.agree:(∀k:Nat,k<(ac hs wr lb).length→(cH hs nd wr sz st ph sec nz lb ml po []).getD k 0=0∧((di hs nd wr sz st ph sec nz lb ml po []).getD k (0,([],()))).1=(ac hs wr lb).getD k 0)∧
  Rn (di hs nd wr sz st ph sec nz lb ml po []) nd=0∧Up (di hs nd wr sz st ph sec nz lb ml po []) nd 0=sec:=by
 have hf:∀k:Nat,k<(ac hs wr lb).length→(cH hs nd wr sz st ph sec nz lb ml po []).getD k 0=0:=fun k hk=>by
  unfold cH
  rw [gD (by rw [List.length_map];exact hk),List.getElem_map,←gD (d:=0)]
  exact G.fine (bE 0 _ k hk)
 refine⟨fun k hk=>⟨hf k hk,?_⟩,?_⟩
 ·unfold di
  rw [gD (by rw [List.length_map];exact hk),List.getElem_map,←gD (d:=0),G.fO (bE 0 _ k hk) (G.fine (bE 0 _ k hk))]
 ·obtain⟨K,k1,R⟩:=G.ready (lb:=lb) (lo:= [])
  have e:iI (di hs nd wr sz st ph sec nz lb ml po []) (cH hs nd wr sz st ph sec nz lb ml po []) (ac hs wr lb).length=di hs nd wr sz st ph sec nz lb ml po []:=by
   unfold di cH
   rw [pE _ (Nat.le_refl _),List.take_length,List.filter_eq_self.2 fun h hh=>decide_eq_true (G.fine hh)]
  rw [e] at R
  refine R.join (List.Sublist.refl _) ?_
  have h1:=G.many (lb:=lb)
  have h2:=G.tk.q1
  unfold di
  rw [List.length_map]
  omega
end
section
variable {hs:List Int} {nd wr sz st ph:Int} {sec nz:List UInt8} {lb:Int} {ml:List fV} {po:List RP} {lo:List Bool} (G:Gm hs nd wr sz st ph sec nz ml po)
include G
theorem Gm.lens:(di hs nd wr sz st ph sec nz lb ml po lo).length=(ac hs wr lb).length∧(cH hs nd wr sz st ph sec nz lb ml po lo).length=(ac hs wr lb).length:=⟨List.length_map ..,List.length_map ..⟩
theorem Gm.err {k:Nat} (hk:k<(ac hs wr lb).length):(cH hs nd wr sz st ph sec nz lb ml po lo).getD k 0=0∨(cH hs nd wr sz st ph sec nz lb ml po lo).getD k 0=17:=by
 unfold cH
 rw [gD (by rw [List.length_map];exact hk),List.getElem_map,←gD (d:=0)]
 exact G.ends (bE 0 _ k hk)
theorem Gm.fits:xB (iI (di hs nd wr sz st ph sec nz lb ml po lo) (cH hs nd wr sz st ph sec nz lb ml po lo) (ac hs wr lb).length) nd sec:=by
 obtain⟨K,_,R⟩:=G.ready (lb:=lb) (lo:=lo)
 exact yX R
theorem Gm.stay (hd:(aS hs nd wr sz st ph (dR hs nd wr sz st ph sec nz lb ml po lo)).length=0):
  (iI (di hs nd wr sz st ph sec nz lb ml po lo) (cH hs nd wr sz st ph sec nz lb ml po lo) (ac hs wr lb).length).length=(ac hs wr lb).length∧
  ∀x∈iI (di hs nd wr sz st ph sec nz lb ml po lo) (cH hs nd wr sz st ph sec nz lb ml po lo) (ac hs wr lb).length,x∈dU hs nd sz sec nz:=by
 rw [G.none hd]
 refine⟨List.length_map ..,fun x hx=> ?_⟩
 obtain⟨h,hh,rfl⟩:=List.mem_map.1 hx
 exact(G.old hh).1
end
def rq (D:List (Int×Int×Unit)) (h:Int) (m:Nat):Prop:=∃v∈D.take m,v.1=h
theorem Dx (D:List (Int×Int×Unit)) (h:Int):(false=true)=rq D h 0:=propext ⟨fun h=>Bool.noConfusion h,fun⟨_,h,_⟩=>by simp at h⟩
theorem wo {D:List (Int×Int×Unit)} {h:Int} {m:Nat} (hm:m<D.length) (g:rq D h m):(true=true)=rq D h (m+1):=propext ⟨fun _=>by
 obtain⟨v,h1,h2⟩:=g
 exact⟨v,by rw [b7 (0,0,()) hm];exact List.mem_append_left _ h1,h2⟩,fun _=>rfl⟩
theorem wq {D:List (Int×Int×Unit)} {h:Int} {m:Nat} (hm:m<D.length) (g:¬rq D h m):((D.getD m (0,0,())).1=h)=rq D h (m+1):=propext ⟨fun e=>⟨_,by rw [b7 (0,0,()) hm];exact List.mem_append_right _ (List.mem_singleton.2 rfl),e⟩,fun⟨v,h1,h2⟩=>by
 rw [b7 (0,0,()) hm] at h1
 rcases List.mem_append.1 h1 with h1|h1
 ·exact absurd ⟨v,h1,h2⟩ g
 ·rw [←List.mem_singleton.1 h1];exact h2⟩
theorem Io {D:List (Int×Int×Unit)} {h:Int} {m:Nat} (hm:D.length≤m) (g:∃v∈D,v.1=h):rq D h m:=by
 unfold rq
 rw [List.take_of_length_le hm];exact g
theorem Mz {x:yB} {L:List yB} {m:Nat} (hm:L.length≤m) (g:x∈L):x∈L.take m:=by rw [List.take_of_length_le hm];exact g
theorem Ii (x:yB) (L:List yB):(false=true)=(x∈L.take 0):=propext ⟨fun h=>Bool.noConfusion h,fun h=>by simp at h⟩
theorem A8 {x:yB} {L:List yB} {m:Nat} (hm:m<L.length) (g:x∈L.take m):(true=true)=(x∈L.take (m+1)):=propext ⟨fun _=>by rw [b7 (0, [],()) hm];exact List.mem_append_left _ g,fun _=>rfl⟩
theorem A9 {x:yB} {L:List yB} {m:Nat} (hm:m<L.length) (g:¬x∈L.take m):(x.1=(L.getD m (0, [],())).1∧x.2.1=(L.getD m (0, [],())).2.1∧True)=(x∈L.take (m+1)):=propext ⟨fun⟨e1,e2,_⟩=>by
 rw [b7 (0, [],()) hm]
 exact List.mem_append_right _ (List.mem_singleton.2 (Prod.ext e1 (Prod.ext e2 rfl))),fun h1=>by
 rw [b7 (0, [],()) hm] at h1
 rcases List.mem_append.1 h1 with h1|h1
 ·exact absurd h1 g
 ·have e:=List.mem_singleton.1 h1
  rw [←e];exact⟨rfl,rfl,trivial⟩⟩
end
noncomputable def Qd:List V→Option (Prop×V×List Blk)
 |[.agg [.sl false (.int .i64) hs,.int .i64 nd,.int .i64 wr,.int .i64 sz,.int .i64 st,.int .i64 ph,.str sec,.str nz,.int .u16 lb,.sl false (.cons (.cons (.int .i64) (.cons (.int .i64) (.cons (.int .i64) (.cons (.int .i64) (.cons (.sl .str) .nil))))) (.cons (.int .i64) .nil)) ml,.sl false (.cons (.int .i64) (.cons (.sl (.int .i64)) .nil)) po,.sl false .bool lo]]=>some (hs.length≤1048576,.b (fZ hs nd wr sz st ph=0∧hs.length≤7∧sz≤4∧(sec.length:Int)=sz∧ml.length≤60∧po.length≤10), [])
 |_=>none
theorem aA5 (hs:List Int) (nd wr sz st ph:Int) (sec nz:List UInt8) (lb:Int) (ml:List ((Int×(Int×(Int×(Int×(List (List UInt8)×Unit)))))×(Int×Unit))) (po:List (Int×(List Int×Unit))) (lo:List Bool):bH (En Tr tys G6 ct) Tryd.f5 [.k] Qd [.agg [.sl false (.int .i64) hs,.int .i64 nd,.int .i64 wr,.int .i64 sz,.int .i64 st,.int .i64 ph,.str sec,.str nz,.int .u16 lb,.sl false (.cons dY (.cons (.int .i64) .nil)) ml,.sl false fN po,.sl false .bool lo]]:=by
 intro hp0
 refine⟨rfl,rfl,rfl,rfl,rfl,om (hs.length≤2000000),yn ((fZ hs nd wr sz st ph)=0) (fun h0=> ?_) fun h0=> ?_⟩
 ·refine yn ((hs.length:Int)≤7) (fun h1=> ?_) fun h1=> ?_
  ·refine yn (sz≤4) (fun h2=> ?_) fun h2=> ?_
   ·refine yn ((sec.length:Int)=sz) (fun h3=> ?_) fun h3=> ?_
    ·refine yn ((ml.length:Int)≤60) (fun h4=> ?_) fun h4=> ?_
     ·exact⟨rfl,rfl,congrArg V.b (propext (by constructor<;>intro h<;>first|omega|(exfalso;first|omega|exact Bool.noConfusion h))),rfl⟩
     ·exact⟨rfl,rfl,congrArg V.b (propext (by constructor<;>intro h<;>first|omega|(exfalso;first|omega|exact Bool.noConfusion h))),rfl⟩
    ·exact⟨rfl,rfl,congrArg V.b (propext (by constructor<;>intro h<;>first|omega|(exfalso;first|omega|exact Bool.noConfusion h))),rfl⟩
   ·exact⟨rfl,rfl,congrArg V.b (propext (by constructor<;>intro h<;>first|omega|(exfalso;first|omega|exact Bool.noConfusion h))),rfl⟩
  ·exact⟨rfl,rfl,congrArg V.b (propext (by constructor<;>intro h<;>first|omega|(exfalso;first|omega|exact Bool.noConfusion h))),rfl⟩
 ·exact⟨rfl,rfl,congrArg V.b (propext (by constructor<;>intro h<;>first|omega|(exfalso;first|omega|exact Bool.noConfusion h))),rfl⟩
noncomputable def Tf:List (Nat×bW):=(5,aW [.v (.cons yH (.cons .str (.cons .str (.cons (.int .u16) (.cons (.sl (.cons dY (.cons (.int .i64) .nil))) (.cons (.sl fN) (.cons (.sl .bool) .nil)))))))] Qd)::Tr
theorem Wj:Known Tryd.prog (En Tf tys G6 ct):=aAT.addQ Tryd.func5 Tryd.call5 [.k] fun ds _ _ _ h=>by unfold Qd at h;split at h;exact aA5 _ _ _ _ _ _ _ _ _ _ _ _;cases h
end Go.Proofs.YtailffhfhekkpaaDoor.S62c

/- Texts of this claim. -/
import Derived.Test.YtogipicegdbhdaaDoorS8
import Derived.Test.YtogipicegdbhdaaDoorS7
import Derived.Test.YtogipicegdbhdaaDoorVc11
import Derived.Test.YtogipicegdbhdaaDoorCards
import Derived.Test.YtogipicegdbhdaaDoorTie
import Derived.WalkKit
import Derived.ProofKit
import Derived.OpenShut
import Derived.Deep.DeepHandedRow
import Derived.Lib.LaidTab
set_option linter.unusedVariables false
set_option linter.unusedSimpArgs false
set_option linter.unusedSectionVars false
namespace Go.Proofs.YtogipicegdbhdaaDoor.S72d
set_option maxHeartbeats 20000000
open Go Go.Proofs.YtogipicegdbhdaaDoor.Vc Go.Proofs Go.Proofs.YtogipicegdbhdaaDoor.S72
set_option maxRecDepth 100000
section
abbrev lD:=Ml×(Int×Unit)
abbrev gf:=Int×(List UInt8×Unit)
section
variable (hs:List Int) (nd wr sz st ph:Int) (sec nz:List UInt8) (bd:Int)
def t8:List gf:=jK sec nd hs (cB nz (Int.toNat 1) (Int.toNat (sz*(nd-1))))
def L9 (k:Nat):List UInt8:=((t8 hs nd sz sec nz).getD k (0,([],()))).2.1
end
def lP (lo:List Bool) (c:Int):Prop:=0<(lo.length:Int)∧lo.getD (c%(lo.length:Int)).toNat false=true
instance (lo:List Bool) (c:Int):Decidable (lP lo c):=by unfold lP;infer_instance
def fu (lo:List Bool):Int→List Ml→List Ml
 |_, []=> []
 |c,m::l=>if lP lo c then fu lo (c+1) l else m::fu lo (c+1) l
def bT (lo:List Bool) (c tick:Int) (l:List Ml):List (Ml×Int):=(fu lo c l).map fun m=>(m,tick)
theorem wu (lo:List Bool):∀(l1 l2:List Ml) (c:Int),fu lo c (l1++l2)=fu lo c l1++fu lo (c+(l1.length:Int)) l2
 |[],l2,c=>by
  show fu lo c l2=fu lo (c+((0:Nat):Int)) l2
  rw [show c+((0:Nat):Int)=c by omega]
 |m::l1,l2,c=>by
  rw [List.cons_append,fu,fu,wu lo l1 l2,List.length_cons,show c+1+(l1.length:Int)=c+((l1.length+1:Nat):Int) by omega]
  split<;>rfl
theorem vz (lo:List Bool) (c tick:Int) (l1 l2:List Ml):bT lo c tick (l1++l2)=bT lo c tick l1++bT lo (c+(l1.length:Int)) tick l2:=by
 unfold bT
 rw [wu,List.map_append]
theorem qk (lo:List Bool):∀(l:List Ml) (c:Int),∀m∈fu lo c l,m∈l
 |[],_,_,h=>h
 | x::l,c,m,h=>by
  rw [fu] at h
  split at h
  ·exact List.mem_cons_of_mem _ (qk lo l _ m h)
  ·rcases List.mem_cons.1 h with h|h
   ·exact h▸List.mem_cons_self
   ·exact List.mem_cons_of_mem _ (qk lo l _ m h)
def Tb (bd a b:Int) (x:lD):Prop:=a≤x.2.1∧x.2.1<b∧0≤x.1.2.1∧x.1.2.1<12∧(bd/2^x.1.2.1.toNat)%2=1
instance (bd a b:Int) (x:lD):Decidable (Tb bd a b x):=by unfold Tb;infer_instance
theorem fj {α:Type} {l:List α} {i:Nat} (d:α) (h:i<l.length):l.take (i+1)=l.take i++ [l.getD i d]:=by rw [List.take_succ_eq_append_getElem h,gD h]
theorem j8 (hs:List Int) (nd sz st ph:Int) (es:List (Int×ew)) (A B:List (Ml×Int)):aQ hs nd sz st ph es (A++B)=aQ hs nd sz st ph (aQ hs nd sz st ph es A) B:=List.foldl_append ..
section
variable {hs:List Int} {nd sz st ph:Int} {es:List (Int×ew)}
theorem A7 {α:Type} (n:Int) (x:α):∀es:List (Int×α),(cJ es n x).length≤es.length+1
 |[]=>by simp [cJ]
 |(m,y)::es=>by
  have:=A7 n x es
  unfold cJ
  split
  ·simp
  ·simp only [List.length_cons];omega
theorem wd {α:Type} {n:Int} {x:α}:∀{es:List (Int×α)},(aW es n).isSome=true→(cJ es n x).length=es.length
 |[],h=>by simp [aW] at h
 | (m,y)::es,h=>by
  unfold cJ
  split
  ·rfl
  ·rename_i g
   rw [aW,if_neg g] at h
   rw [List.length_cons,List.length_cons,wd h]
theorem Ct (x:Ml×Int):(jV hs nd sz st ph es x).length=es.length:=by
 unfold jV
 split
 ·rename_i s h
  exact wd (by rw [h];rfl)
 ·rfl
theorem j7:∀(D:List (Ml×Int)) (es:List (Int×ew)),(aQ hs nd sz st ph es D).length=es.length
 |[],_=>rfl
 |x::D,es=>(j7 D (jV hs nd sz st ph es x)).trans (Ct x)
theorem od {es:List (Int×ew)} {m:Ml} {t:Int}:aQ hs nd sz st ph es [(m,t)]=jV hs nd sz st ph es (m,t):=rfl
theorem yN {lo:List Bool} {c t:Int} {l:List Ml} {i:Nat} (hi:i<l.length) (h:lP lo (c+(i:Int))∨aW (aQ hs nd sz st ph es (bT lo c t (l.take i))) (l.getD i (0,0,0,0, [],())).2.2.1=none):
  aQ hs nd sz st ph es (bT lo c t (l.take (i+1)))=aQ hs nd sz st ph es (bT lo c t (l.take i)):=by
 rw [fj (0,0,0,0, [],()) hi,vz,j8,List.length_take,Nat.min_eq_left (by omega)]
 unfold bT
 rw [fu]
 split
 ·rfl
 ·rename_i g
  rw [fu,List.map_cons,List.map_nil,od]
  unfold jV
  have h:=h.resolve_left g
  unfold bT at h
  split
  ·rename_i s e
   rw [h] at e;cases e
  ·rfl
theorem mA {lo:List Bool} {c t:Int} {l:List Ml} {i:Nat} (hi:i<l.length) (h:¬lP lo (c+(i:Int))) {s:ew} (hs':aW (aQ hs nd sz st ph es (bT lo c t (l.take i))) (l.getD i (0,0,0,0, [],())).2.2.1=some s):
  aQ hs nd sz st ph es (bT lo c t (l.take (i+1)))=cJ (aQ hs nd sz st ph es (bT lo c t (l.take i))) (l.getD i (0,0,0,0, [],())).2.2.1 (mE hs nd sz st ph s (l.getD i (0,0,0,0, [],()),t)):=by
 rw [fj (0,0,0,0, [],()) hi,vz,j8,List.length_take,Nat.min_eq_left (by omega)]
 have e:bT lo (c+(i:Int)) t [l.getD i (0,0,0,0, [],())]= [(l.getD i (0,0,0,0, [],()),t)]:=by
  unfold bT
  rw [fu,if_neg h];rfl
 rw [e,od]
 unfold jV
 rw [hs']
def gJ (hs:List Int) (nd sz:Int) (es:List (Int×ew)):Prop:=∀h s,aW es h=some s→s.1=h∧h∈hs∧SOk hs nd sz s.2.2.1 s.2.2.2.1∧(s.2.1.length:Int)=sz
theorem gJ.step (h:gJ hs nd sz es) (x:Ml×Int):gJ hs nd sz (jV hs nd sz st ph es x):=by
 unfold jV
 split
 ·rename_i s e
  obtain⟨h1,h2,h3,h4⟩:=h _ _ e
  intro a b hb
  rw [dJ] at hb
  split at hb
  ·rename_i g
   cases hb
   exact⟨h1.trans g,g▸h2,h3.rcv,h4⟩
  ·exact h a b hb
 ·exact h
theorem gJ.dlv:∀(D:List (Ml×Int)) {es:List (Int×ew)},gJ hs nd sz es→gJ hs nd sz (aQ hs nd sz st ph es D)
 |[],_,h=>h
 |x::D,_,h=>gJ.dlv D (h.step x)
theorem jD (D:List (Ml×Int)) (es:List (Int×ew)) (h:Int):(aW (aQ hs nd sz st ph es D) h).isSome=(aW es h).isSome:=by
 rw [eo]
 cases aW es h<;>rfl
end
def bZ (es:List (Int×ew)) (h:Int):ew:=(aW es h).getD (0,([],([],([],()))))
theorem eK {es:List (Int×ew)} {h:Int} (e:(aW es h).isSome=true):aW es h=some (bZ es h):=by
 unfold bZ
 cases g:aW es h with
 |none=>rw [g] at e;cases e
 |some s=>rfl
theorem A2 {α:Type} {o:Option α} (h:¬o.isSome=true):o=none:=by
 cases o with
 |none=>rfl
 |some x=>exact absurd rfl h
def tJ (hs:List Int) (nd wr sz st ph:Int) (es:List (Int×ew)) (tn:Int) (l:List Ml):Prop:=
 ly hs nd wr sz st ph=0∧gJ hs nd sz es∧0≤tn∧tn≤1000000∧l.length≤1000000∧(∀m∈l,m.2.2.2.2.1.length≤1048576)∧es.length≤1000
end
open Go Go.Proofs.YtogipicegdbhdaaDoor.Vc Go.Proofs
set_option linter.unusedVariables false
open Go.Proofs.YtogipicegdbhdaaDoor.S72
open Go.Proofs.YtogipicegdbhdaaDoor.S72c (vJ zE fE)
noncomputable def Xb:List V→List Blk→Option (Prop×V×List Blk)
 |[.mp (.cons (.int .i64) (.cons .str (.cons (.sl (.sl .str)) (.cons (.sl (.sl (.sl .str))) .nil)))) 3,.sl fr (.cons (.int .i64) (.cons (.int .i64) (.cons (.int .i64) (.cons (.int .i64) (.cons (.sl .str) .nil))))) l,.int .i64 tick,.ptr 0 1 0 0,.ptr 1 1 0 0,.ptr 2 1 0 0], [.cells [.sl false .bool lo],.cells [.int .i64 tn],.cells [.sl false (.int .i64) hs,.int .i64 nd,.int .i64 wr,.int .i64 sz,.int .i64 st,.int .i64 ph],.imap false (.cons (.int .i64) (.cons .str (.cons (.sl (.sl .str)) (.cons (.sl (.sl (.sl .str))) .nil)))) es]=>some (tJ hs nd wr sz st ph es tn l,.tup [], [.cells [.sl false .bool lo],.cells [.int .i64 (tn+(l.length:Int))],.cells [.sl false (.int .i64) hs,.int .i64 nd,.int .i64 wr,.int .i64 sz,.int .i64 st,.int .i64 ph],.imap false (.cons (.int .i64) (.cons .str (.cons (.sl (.sl .str)) (.cons (.sl (.sl (.sl .str))) .nil)))) (aQ hs nd sz st ph es (bT lo tn tick l))])
 |_,_=>none
theorem aBv (fr:Bool) (l:List Ml) (tick:Int) (lo:List Bool) (tn:Int) (hs:List Int) (nd wr sz st ph:Int) (es:List (Int×ew)) (hok:tJ hs nd wr sz st ph es tn l):body (En Vm tys G6 gI [1000010,1000002,12000181,12000202]).inR Tryd.f19 [.mp sK 3,.sl fr pC l,.int .i64 tick,.ptr 0 1 0 0,.ptr 1 1 0 0,.ptr 2 1 0 0] (jx [.cells [.sl false .bool lo],.cells [.int .i64 tn],.cells [.sl false (.int .i64) hs,.int .i64 nd,.int .i64 wr,.int .i64 sz,.int .i64 st,.int .i64 ph],.imap false sK es]) (fun v' H'=>(v'.bare=true∧v'= .tup [])∧∃L,H'=jx [.cells [.sl false .bool lo],.cells [.int .i64 (tn+(l.length:Int))],.cells [.sl false (.int .i64) hs,.int .i64 nd,.int .i64 wr,.int .i64 sz,.int .i64 st,.int .i64 ph],.imap false sK (aQ hs nd sz st ph es (bT lo tn tick l))]++L):=by
 obtain⟨htk,hes,t0,t1,l1,lx,e1⟩:=id hok
 have hn12:=(P5 htk).rg.1.1
 refine⟨5, [(0,.k),(2,.k),(3,.k),(4,.k),(5,.k),(14,.k),(15,.k),(16,.k)],fun nM vs H=>∃(i:Nat),i≤l.length∧nM=l.length-i∧vs= [.mp sK 3,.i tick,.p 0,.p 1,.p 2,.sl fr pC l,.i (l.length:Int),.i i]∧H= [.cells [.sl false .bool lo],.cells [.i (tn+(i:Int))],Mm hs nd wr sz st ph,.imap false sK (aQ hs nd sz st ph es (bT lo tn tick (l.take i))),.cells [.tup [],.p 0,.p 1,.p 2,.mp sK 3]],⟨rfl,l.length,0,by omega,by omega,rfl,by rw [show tn+((0:Nat):Int)=tn by omega];rfl⟩,?_⟩
 rintro nM vs H ⟨i,hc1_0,rfl,rfl,rfl⟩
 refine yn ((i:Int)<(l.length:Int)) (fun h0=> ?_) fun h0=> ?_
 ·have hil:i<l.length:=by omega
  have hxm:=lx _ (bc (0,0,0,0, [],()) l i hil)
  have hE:=gJ.dlv (st:=st) (ph:=ph) (bT lo tn tick (l.take i)) hes
  have hel:(aQ hs nd sz st ph es (bT lo tn tick (l.take i))).length≤1000:=by rw [j7];exact e1
  have ht:tn+((i+1:Nat):Int)=tn+(i:Int)+1:=by omega
  refine⟨ix i l.length,cm,rfl,cm,by kernel_rfl,yn (0<(lo.length:Int)) (fun h1=> ?_) fun h1=> ?_⟩
  ·have em1:=Int.emod_nonneg (tn+(i:Int)) (b:=(lo.length:Int)) (by omega)
   have em2:=Int.emod_lt_of_pos (tn+(i:Int)) (b:=(lo.length:Int)) (by omega)
   refine⟨fun h2=> ?_,cp (0<(lo.length:Int))⟩
   refine⟨fun h3=> ?_,cp (0<(lo.length:Int))⟩
   refine⟨fun h4=> ?_,cp (0<(lo.length:Int))⟩
   refine⟨fun h5=> ?_,cp (0<(lo.length:Int))⟩
   refine .inl ⟨⟨om ((0:Int)≤(tn+(i:Int))),om ((0:Int)<(lo.length:Int))⟩,?_⟩
   refine⟨fun h6=> ?_,cp (0<(lo.length:Int))⟩
   refine⟨ix ((tn+(i:Int))%(lo.length:Int)) lo.length,fun h7=> ?_,cp (0<(lo.length:Int))⟩
   refine⟨fun h8=> ?_,cp (0<(lo.length:Int))⟩
   refine⟨aj ((tn+(i:Int))+1),jP,yn ((aW (aQ hs nd sz st ph es (bT lo tn tick (l.take i))) ((((l.getD i (0,0,0,0, [],())).2).2).1)).isSome=true) (fun h9=> ?_) fun h9=> ?_⟩
   ·have hsm:=eK h9
    obtain⟨_,_,hso,_⟩:=hE _ _ hsm
    refine yn (¬(lo.getD (((tn+(i:Int))%(lo.length:Int)).toNat) false=true)) (fun h10=> ?_) fun h10=> ?_
    ·have hnl:¬lP lo (tn+(i:Int)):=fun g=>h10 g.2
     refine⟨by kernel_rfl,rfl,rfl,rfl,rfl,rfl,rfl,rfl,rfl,rfl,rfl,rfl,⟨htk,hso.rl,hso.vl,hso.vv,hso.mxR (by omega),hxm⟩,rfl,⟨rfl,om ((aQ hs nd sz st ph es (bT lo tn tick (l.take i))).length≤1000000000)⟩,aj (i+1),?_⟩
     first
     |exact⟨rfl,l.length-(i+1),by omega,i+1,by omega,rfl,rfl,by rw [ht,mA hil hnl hsm];rfl⟩
     |exact⟨rfl,l.length-(i+1),by omega,i+1,by omega,rfl,rfl,by rw [ht,hno];rfl⟩
    ·have hno:=yN (t:=tick) (es:=es) (hs:=hs) (nd:=nd) (sz:=sz) (st:=st) (ph:=ph) hil (.inl ⟨h1,nw h10⟩)
     refine⟨aj (i+1),?_⟩
     first
     |exact⟨rfl,l.length-(i+1),by omega,i+1,by omega,rfl,rfl,by rw [ht,mA hil hnl hsm];rfl⟩
     |exact⟨rfl,l.length-(i+1),by omega,i+1,by omega,rfl,rfl,by rw [ht,hno];rfl⟩
   ·have hno:=yN hil (.inr (A2 h9))
    refine⟨aj (i+1),?_⟩
    first
    |exact⟨rfl,l.length-(i+1),by omega,i+1,by omega,rfl,rfl,by rw [ht,mA hil hnl hsm];rfl⟩
    |exact⟨rfl,l.length-(i+1),by omega,i+1,by omega,rfl,rfl,by rw [ht,hno];rfl⟩
  ·have hnl:¬lP lo (tn+(i:Int)):=fun g=>h1 g.1
   refine⟨cn (0<(lo.length:Int)),fun h11=> ?_⟩
   refine⟨cn (0<(lo.length:Int)),fun h12=> ?_⟩
   refine⟨cn (0<(lo.length:Int)),fun h13=> ?_⟩
   refine⟨cn (0<(lo.length:Int)),fun h14=> ?_⟩
   refine⟨cn (0<(lo.length:Int)),fun h15=> ?_⟩
   refine⟨cn (0<(lo.length:Int)),fun h16=> ?_⟩
   refine⟨cn (0<(lo.length:Int)),fun h17=> ?_⟩
   refine⟨aj ((tn+(i:Int))+1),jP,yn ((aW (aQ hs nd sz st ph es (bT lo tn tick (l.take i))) ((((l.getD i (0,0,0,0, [],())).2).2).1)).isSome=true) (fun h18=> ?_) fun h18=> ?_⟩
   ·have hsm:=eK h18
    obtain⟨_,_,hso,_⟩:=hE _ _ hsm
    refine⟨by kernel_rfl,rfl,rfl,rfl,rfl,rfl,rfl,rfl,rfl,rfl,rfl,rfl,⟨htk,hso.rl,hso.vl,hso.vv,hso.mxR (by omega),hxm⟩,rfl,⟨rfl,om ((aQ hs nd sz st ph es (bT lo tn tick (l.take i))).length≤1000000000)⟩,aj (i+1),?_⟩
    first
    |exact⟨rfl,l.length-(i+1),by omega,i+1,by omega,rfl,rfl,by rw [ht,mA hil hnl hsm];rfl⟩
    |exact⟨rfl,l.length-(i+1),by omega,i+1,by omega,rfl,rfl,by rw [ht,hno];rfl⟩
   ·have hno:=yN hil (.inr (A2 h18))
    refine⟨aj (i+1),?_⟩
    first
    |exact⟨rfl,l.length-(i+1),by omega,i+1,by omega,rfl,rfl,by rw [ht,mA hil hnl hsm];rfl⟩
    |exact⟨rfl,l.length-(i+1),by omega,i+1,by omega,rfl,rfl,by rw [ht,hno];rfl⟩
 ·rw [show l.take i=l from List.take_of_length_le (by omega),show tn+(i:Int)=tn+(l.length:Int) by omega]
  exact⟨⟨rfl,rfl⟩,_,rfl⟩
noncomputable def Z7:List (Nat×bI):=(19,Jq Xb)::Vm
theorem aBA:Known Tryd.prog (En Z7 tys G6 gI [6100019,1000010,1000002,12000181,12000202]):=(aBR.frz [1000010,1000002,12000181,12000202]).addEdit Tryd.func19 Tryd.call19 rfl fun xs H p v H1 hs hp=>by
 unfold Xb at hs
 split at hs<;>simp only [Option.some.injEq,Prod.mk.injEq,reduceCtorEq] at hs
 obtain⟨rfl,rfl,rfl⟩:=hs
 exact aBv _ _ _ _ _ _ _ _ _ _ _ _ hp
section
section
variable (hs:List Int) (nd wr sz st ph:Int) (sec nz:List UInt8) (lb:Int) (ml:List lD) (po:List RP) (lo:List Bool)
def pg (es:List (Int×ew)) (L:List Int):List Ml:=(L.map fun h=>dx hs (bZ es h).1 (bZ es h).2.2.1 hs.length).flatten
def poP (bd:Int) (p:RP):Prop:=0≤p.1∧p.1<12∧(bd/2^p.1.toNat)%2=1
instance (bd:Int) (p:RP):Decidable (poP bd p):=by unfold poP;infer_instance
def wN (es:List (Int×ew)) (h:Int):RP:=((bZ es h).1,(fA hs (bZ es h).1 (bZ es h).2.2.1 (bZ es h).2.2.2.1,()))
noncomputable def E7 (es:List (Int×ew)) (l:List RP) (h:Int):gf:=(Tv hs nd wr sz st ph (bZ es h).1 (bZ es h).2.1 (bZ es h).2.2.1 (bZ es h).2.2.2.1 l,(Bq hs nd wr sz st ph (bZ es h).1 (bZ es h).2.1 (bZ es h).2.2.1 (bZ es h).2.2.2.1 l,()))
noncomputable def vN (es:List (Int×ew)) (l:List RP) (h:Int):Int:=jM hs nd wr sz st ph (bZ es h).1 (bZ es h).2.1 (bZ es h).2.2.1 (bZ es h).2.2.2.1 l
end
theorem Fy {hs:List Int} {nd wr sz st ph:Int} (T:Tk hs nd wr sz st ph):lU hs=true:=by
 refine List.all_eq_true.2 fun k hk=>decide_eq_true ?_
 have hk:=List.mem_range.1 hk
 obtain⟨h1,h2⟩:=nU hs (-1) k T.ho hk
 refine⟨⟨h1,by omega⟩,?_⟩
 rcases Nat.eq_zero_or_pos k with e|e
 ·exact .inl e
 ·refine .inr ((jW hs (-1) k T.ho hk).2 _ ?_)
  rw [show hs.getD (k-1) 0=(hs.take k).getD (k-1) 0 by
   rw [gD (by omega),gD (by rw [List.length_take];omega),List.getElem_take]]
  exact bc 0 _ _ (by rw [List.length_take];omega)
theorem Ax {nd sz:Int} (h:2≤nd∧nd≤12):sz*(nd-1)*(nd-1+1)/2=sz*(((nd-1)*nd)/2):=by
 have:nd=2∨nd=3∨nd=4∨nd=5∨nd=6∨nd=7∨nd=8∨nd=9∨nd=10∨nd=11∨nd=12:=by omega
 rcases this with rfl|rfl|rfl|rfl|rfl|rfl|rfl|rfl|rfl|rfl|rfl<;>omega
theorem Ig {nd sz:Int} (h:2≤nd∧nd≤12) (hz:1≤sz∧sz≤4):(0≤sz*(nd-1)∧sz*(nd-1)≤48)∧0≤sz*(nd-1)*(nd-1+1)∧sz*(nd-1)*(nd-1+1)≤1000:=by
 have:nd=2∨nd=3∨nd=4∨nd=5∨nd=6∨nd=7∨nd=8∨nd=9∨nd=10∨nd=11∨nd=12:=by omega
 rcases this with rfl|rfl|rfl|rfl|rfl|rfl|rfl|rfl|rfl|rfl|rfl<;>omega
section
variable {hs:List Int} {nd wr sz st ph:Int} {sec nz:List UInt8} {bd:Int} (T:Tk hs nd wr sz st ph) (hsec:(sec.length:Int)=sz)
include T
end
section
variable {hs:List Int} {nd wr sz st ph:Int} {sec nz:List UInt8} {bd:Int}
end
theorem rI {α:Type} {R:List (List α)} {i:Nat} (h:i<R.length):(R.take (i+1)).flatten=(R.take i).flatten++R.getD i []:=by
 rw [fj [] h,List.flatten_append];simp
theorem xK {α:Type} {n:Nat}:∀(R:List (List α)),(∀l∈R,l.length≤n)→R.flatten.length≤R.length*n
 |[],_=>by simp
 |l::R,h=>by
  have:=xK R fun x hx=>h x (List.mem_cons_of_mem _ hx)
  have:=h l List.mem_cons_self
  rw [List.flatten_cons,List.length_append,List.length_cons,Nat.succ_mul];omega
theorem Rb {hs:List Int} {es:List (Int×ew)} {L:List Int} {i:Nat} (h:i<L.length):pg hs es (L.take (i+1))=pg hs es (L.take i)++dx hs (bZ es (L.getD i 0)).1 (bZ es (L.getD i 0)).2.2.1 hs.length:=by
 unfold pg
 rw [fj 0 h,List.map_append,List.flatten_append];simp
theorem Rc {hs:List Int} (es:List (Int×ew)) (L:List Int) (i:Nat):(pg hs es (L.take i)).length≤i*(hs.length*hs.length):=by
 unfold pg
 refine Nat.le_trans (xK (n:=hs.length*hs.length) _ fun l hl=> ?_) (Nat.mul_le_mul_right _ (by rw [List.length_map,List.length_take];omega))
 obtain⟨h,_,rfl⟩:=List.mem_map.1 hl
 exact mc ..
theorem Wc {hs:List Int} {es:List (Int×ew)} {L:List Int}:∀m∈pg hs es L,m.2.2.2.2.1.length≤1048576:=fun m hm=>by
 unfold pg at hm
 obtain⟨l,hl,hm⟩:=List.mem_flatten.1 hm
 obtain⟨h,_,rfl⟩:=List.mem_map.1 hl
 exact B6 _ _ _ _ m hm
theorem gJ.at {hs:List Int} {nd sz:Int} {es:List (Int×ew)} (H:gJ hs nd sz es) {h:Int} (e:(aW es h).isSome=true):(bZ es h).1=h∧h∈hs∧SOk hs nd sz (bZ es h).2.2.1 (bZ es h).2.2.2.1∧((bZ es h).2.1.length:Int)=sz:=H _ _ (eK e)
structure Gm (hs:List Int) (nd wr sz st ph:Int) (sec nz:List UInt8) (ml:List lD) (po:List RP):Prop where
 tk:Tk hs nd wr sz st ph
 l7:hs.length≤7
 z4:sz≤4
 sec:(sec.length:Int)=sz
 m60:ml.length≤60
 p10:po.length≤10
 nz:nz.length≤1048576
 mx:∀m∈ml,m.1.2.2.2.2.1.length≤1048576
 px:∀p∈po,p.2.1.length≤1048576
section
variable {hs:List Int} {nd wr sz st ph:Int} {sec nz:List UInt8} {lb:Int} {ml:List lD} {po:List RP} {lo:List Bool} (G:Gm hs nd wr sz st ph sec nz ml po)
include G
end
end
section
def kK (hs:List Int) (nd sz:Int) (sec nz:List UInt8) (h:Int):List UInt8:=L9 hs nd sz sec nz (aZ h hs 0).toNat
theorem mB {lo:List Bool} {c t:Int} {l:List Ml} {x:Ml×Int} (h:x∈bT lo c t l):∃m∈l,x=(m,t):=by
 obtain⟨m,hm,rfl⟩:=List.mem_map.1 h
 exact⟨m,qk lo l c m hm,rfl⟩
theorem uu {hs:List Int} {me:Int} {rows:List eX} {m:Ml}:∀k,m∈dx hs me rows k↔∃i:Nat,i<k∧(rows.getD i []).length≠0∧∃p∈bA me 0 hs,m=(2,(me,(p.2,(hs.getD i 0,([cr (rows.getD i []) p.2],())))))
 |0=>⟨fun h=>(by cases h),fun⟨i,h,_⟩=>absurd h (Nat.not_lt_zero i)⟩
 | k+1=>by
  have ih:=uu (hs:=hs) (me:=me) k (m:=m) (rows:=rows)
  rw [dx,List.mem_append,ih]
  constructor
  ·rintro(⟨i,h1,h2⟩|h)
   ·exact⟨i,by omega,h2⟩
   ·split at h
    ·cases h
    ·rename_i g
     unfold lc at h
     rw [List.take_length] at h
     obtain⟨p,hp,rfl⟩:=List.mem_map.1 h
     exact⟨k,by omega,g,p,hp,rfl⟩
  ·rintro⟨i,h1,h2,p,hp,rfl⟩
   by_cases e:i=k
   ·subst e
    right
    rw [if_neg h2]
    unfold lc
    rw [List.take_length]
    exact List.mem_map.2 ⟨p,hp,rfl⟩
   ·exact .inl ⟨i,by omega,h2,p,hp,rfl⟩
theorem Fg {hs:List Int} {es:List (Int×ew)} {L:List Int} {m:Ml}:m∈pg hs es L↔∃h∈L,m∈dx hs (bZ es h).1 (bZ es h).2.2.1 hs.length:=by
 unfold pg
 rw [List.mem_flatten]
 constructor
 ·rintro⟨l,hl,hm⟩
  obtain⟨h,hh,rfl⟩:=List.mem_map.1 hl
  exact⟨h,hh,hm⟩
 ·rintro⟨h,hh,hm⟩
  exact⟨_,List.mem_map.2 ⟨h,hh,rfl⟩,hm⟩
section
variable {hs:List Int} {nd wr sz st ph:Int} {sec nz:List UInt8} {lb:Int} {ml:List lD} {po:List RP} {lo:List Bool} (G:Gm hs nd wr sz st ph sec nz ml po)
include G
end
theorem Ed {hs l:List Int} (h:lU hs=true) (hl:l.Sublist hs):lU l=true:=by
 have hp:=(uR h).sublist hl
 refine List.all_eq_true.2 fun k hk=>decide_eq_true ?_
 have hk:=List.mem_range.1 hk
 refine⟨qu h _ (hl.subset (bc 0 l k hk)),?_⟩
 rcases Nat.eq_zero_or_pos k with e|e
 ·exact .inl e
 ·refine .inr ?_
  rw [gD (by omega),gD hk]
  exact List.pairwise_iff_getElem.1 hp (k-1) k (by omega) hk (by omega)
section
variable {hs:List Int} {nd wr sz st ph:Int} {sec nz:List UInt8} {lb:Int} {ml:List lD} {po:List RP} {lo:List Bool} (G:Gm hs nd wr sz st ph sec nz ml po)
include G
end
end
section
section
variable {hs:List Int} {nd wr sz st ph:Int} {sec nz:List UInt8} {lb:Int} {ml:List lD} {po:List RP} (G:Gm hs nd wr sz st ph sec nz ml po)
include G
end
section
variable {hs:List Int} {nd wr sz st ph:Int} {sec nz:List UInt8} {lb:Int} {ml:List lD} {po:List RP} {lo:List Bool} (G:Gm hs nd wr sz st ph sec nz ml po)
include G
end
end
section
theorem kY:∀(l:List Int) (k:Int) {i:Nat},l.Nodup→i<l.length→aZ (l.getD i 0) l k=k+(i:Int)
 |[],_,_,_,h=>by simp at h
 |x::l,k,0,_,_=>by
  show aZ x (x::l) k=_
  rw [aZ,if_pos rfl];simp
 |x::l,k,i+1,hn,h=>by
  rw [List.nodup_cons] at hn
  have hi:i<l.length:=by simpa using h
  show aZ (l.getD i 0) (x::l) k=_
  rw [aZ,if_neg fun e=>hn.1 (by rw [←e];exact bc 0 l i hi),kY l (k+1) hn.2 hi]
  omega
section
variable (hs:List Int) (nd wr sz st ph:Int) (L:List gf) (nzf:Nat→List UInt8)
def Ui (k:Nat):ew:=(xf hs nd wr sz st ph (L.getD k (0,([],()))).1 (L.getD k (0,([],()))).2.1 (nzf k),sB hs nd wr sz st ph (L.getD k (0,([],()))).1 (L.getD k (0,([],()))).2.1 (nzf k),
 ov hs nd wr sz st ph (L.getD k (0,([],()))).1 (L.getD k (0,([],()))).2.1 (nzf k),ou hs nd wr sz st ph (L.getD k (0,([],()))).1 (L.getD k (0,([],()))).2.1 (nzf k),())
def Eo:Nat→List (Int×ew)
 |0=> []
 |k+1=>cJ (Eo k) (L.getD k (0,([],()))).1 (Ui hs nd wr sz st ph L nzf k)
def xz:Nat→List Ml
 |0=> []
 |k+1=>xz k++ku hs nd wr sz st ph (L.getD k (0,([],()))).1 (L.getD k (0,([],()))).2.1 (nzf k)
end
def sY (f:gf→gf) (g:gf→Int) (L:List gf):Nat→List gf
 |0=> []
 |k+1=>if g (L.getD k (0,([],())))=0 then sY f g L k++ [f (L.getD k (0,([],())))] else sY f g L k
theorem y0 (f:gf→gf) (g:gf→Int) (L:List gf):∀k,k≤L.length→sY f g L k=((L.take k).filter fun x=>decide (g x=0)).map f
 |0,_=>by simp [sY]
 | k+1,hk=>by
  rw [sY,y0 f g L k (by omega),fj (0,([],())) (by omega),List.filter_append,List.map_append]
  split
  ·rename_i h
   rw [List.filter_cons_of_pos (by exact decide_eq_true h)];rfl
  ·rename_i h
   rw [List.filter_cons_of_neg (by simpa using h)];simp
theorem t9 (f:gf→gf) (g:gf→Int) (L:List gf):∀k,(sY f g L k).length≤k
 |0=>Nat.le_refl _
 |k+1=>by
  have:=t9 f g L k
  rw [sY]
  split
  ·rw [List.length_append,List.length_cons,List.length_nil];omega
  ·omega
structure Rn (hs:List Int) (nd wr sz st ph:Int) (key:List UInt8) (H:List Int) (L:List gf) (nzf:Nat→List UInt8):Prop where
 tk:Tk hs nd wr sz st ph
 l7:hs.length≤7
 sub:H.Sublist hs
 rd:Ready key nd H L
 key:(key.length:Int)=sz
 nz:∀k,kp nd sz (nzf k)=0
 nzl:∀k,(nzf k).length≤1048576
theorem D9 {hs:List Int} {nd sz st ph:Int} {D:List (Ml×Int)} {es:List (Int×ew)} {h:Int} {s:ew} (e:aW es h=some s):(aW (aQ hs nd sz st ph es D) h).map (fun s=>(s.1,s.2.1))=some (s.1,s.2.1):=by
 rw [eo,e]
 show some (((kz h D).foldl (mE hs nd sz st ph) s).1,((kz h D).foldl (mE hs nd sz st ph) s).2.1)=_
 have:=kb (mE hs nd sz st ph) (fun t=>t.1=s.1∧t.2.1=s.2.1) (kz h D) s ⟨rfl,rfl⟩ fun x _ t g=>⟨g.1,g.2⟩
 rw [this.1,this.2]
section
variable {hs:List Int} {nd wr sz st ph:Int} {key:List UInt8} {H:List Int} {L:List gf} {nzf:Nat→List UInt8} (R:Rn hs nd wr sz st ph key H L nzf)
include R
theorem Rn.dup:H.Nodup:=R.tk.nodup.sublist R.sub
theorem Rn.hl:L.length=H.length:=by rw [←R.rd.hm,List.length_map]
theorem Rn.at {i:Nat} (hi:i<L.length):(L.getD i (0,([],()))).1=H.getD i 0∧H.getD i 0∈H∧(L.getD i (0,([],()))).1∈hs∧((L.getD i (0,([],()))).2.1.length:Int)=sz:=by
 have e:(L.getD i (0,([],()))).1=H.getD i 0:=by
  rw [←R.rd.hm,gD (l:=L.map (·.1)) (d:=0) (by rw [List.length_map];exact hi),List.getElem_map,gD hi]
 have hm:H.getD i 0∈H:=bc 0 H i (by rw [←R.hl];exact hi)
 refine⟨e,hm,by rw [e];exact R.sub.subset hm,?_⟩
 rw [R.rd.len _ (bc (0,([],())) L i hi)]
 exact R.key
theorem Rn.beg0 {i:Nat} (hi:i<L.length):c6 hs nd wr sz st ph (L.getD i (0,([],()))).1 (L.getD i (0,([],()))).2.1 (nzf i)=0:=by
 obtain⟨_,_,h1,h2⟩:=R.at hi
 obtain⟨h3,_,_⟩:=iq h1
 unfold c6
 rw [if_pos R.tk.e,if_neg (by omega),if_pos ⟨R.nz i,h2⟩]
theorem Rn.ok:∀k,k≤L.length→gJ hs nd sz (Eo hs nd wr sz st ph L nzf k)
 |0,_=>fun h s e=>by cases e
 | k+1,hk=>by
  have ih:=Rn.ok k (by omega)
  rw [Eo]
  intro a s e
  rw [dJ] at e
  split at e
  ·rename_i g
   cases e
   have hb:=R.beg0 (show k<L.length by omega)
   obtain⟨e1,e2,_⟩:=lh hb
   obtain⟨_,_,h1,h2⟩:=R.at (show k<L.length by omega)
   refine⟨e1.trans g,g▸h1,SOk.beg hb,?_⟩
   show((sB hs nd wr sz st ph _ _ _).length:Int)=sz
   rw [e2]
   exact h2
  ·exact ih a s e
theorem Rn.get {i:Nat}:∀k,k≤L.length→i<k→aW (Eo hs nd wr sz st ph L nzf k) (L.getD i (0,([],()))).1=some (Ui hs nd wr sz st ph L nzf i)
 |0,_,h=>absurd h (Nat.not_lt_zero i)
 | k+1,hk,hi=>by
  rw [Eo]
  by_cases e:i=k
  ·subst e
   rw [dJ,if_pos rfl]
  ·rw [dJ,if_neg,Rn.get k (by omega) (by omega)]
   intro g
   rw [(R.at (show k<L.length by omega)).1,(R.at (show i<L.length by omega)).1] at g
   have h1:=kY H 0 R.dup (show k<H.length by rw [←R.hl];omega)
   have h2:=kY H 0 R.dup (show i<H.length by rw [←R.hl];omega)
   rw [g] at h1
   omega
theorem Rn.esl:∀k,(Eo hs nd wr sz st ph L nzf k).length≤k
 |0=>Nat.le_refl _
 |k+1=>by
  have:=Rn.esl k
  have:=A7 (L.getD k (0,([],()))).1 (Ui hs nd wr sz st ph L nzf k) (Eo hs nd wr sz st ph L nzf k)
  rw [Eo]
  omega
theorem Rn.rwl:∀k,(xz hs nd wr sz st ph L nzf k).length≤k*7∧∀m∈xz hs nd wr sz st ph L nzf k,m.2.2.2.2.1.length≤1048576
 |0=>⟨Nat.zero_le _,fun m h=>by cases h⟩
 | k+1=>by
  obtain⟨i1,i2⟩:=Rn.rwl k
  have h7:=R.l7
  have hx:=Kf (hs:=hs) (nd:=nd) (wr:=wr) (sz:=sz) (st:=st) (ph:=ph) (me:=(L.getD k (0,([],()))).1) (sh:=(L.getD k (0,([],()))).2.1) (nz:=nzf k) (by omega) (R.nzl k)
  have hl:(ku hs nd wr sz st ph (L.getD k (0,([],()))).1 (L.getD k (0,([],()))).2.1 (nzf k)).length≤hs.length:=by
   unfold ku
   split
   ·exact kD ..
   ·exact Nat.zero_le _
  rw [xz]
  refine⟨by rw [List.length_append,Nat.succ_mul];omega,fun m hm=> ?_⟩
  rcases List.mem_append.1 hm with h|h
  ·exact i2 m h
  ·exact hx.ms m h
theorem Rn.mem {m:Ml}:∀k,k≤L.length→(m∈xz hs nd wr sz st ph L nzf k→∃i:Nat,i<k∧m∈ku hs nd wr sz st ph (L.getD i (0,([],()))).1 (L.getD i (0,([],()))).2.1 (nzf i))
 |0,_,h=>by cases h
 | k+1,hk,h=>by
  rw [xz] at h
  rcases List.mem_append.1 h with h|h
  ·obtain⟨i,h1,h2⟩:=Rn.mem k (by omega) h
   exact⟨i,by omega,h2⟩
  ·exact⟨k,by omega,h⟩
theorem Rn.idx {h:Int} (hh:h∈H):∃i:Nat,i<L.length∧(L.getD i (0,([],()))).1=h∧(aZ h H 0).toNat=i:=by
 obtain⟨i,h1,h2⟩:=List.mem_iff_getElem.1 hh
 have e:H.getD i 0=h:=by rw [gD h1];exact h2
 refine⟨i,by rw [R.hl];exact h1,by rw [(R.at (by rw [R.hl];exact h1)).1,e],?_⟩
 have:=kY H 0 R.dup h1
 rw [e] at this
 omega
end
def yQ (H:List Int) (L:List gf) (h:Int):List UInt8:=(L.getD (aZ h H 0).toNat (0,([],()))).2.1
def nzR (H:List Int) (nzf:Nat→List UInt8) (h:Int):List UInt8:=nzf (aZ h H 0).toNat
section
variable {hs:List Int} {nd wr sz st ph:Int} {key:List UInt8} {H:List Int} {L:List gf} {nzf:Nat→List UInt8} {lo:List Bool} {c c2:Int} {E0 E1 E2:List (Int×ew)} {P:List RP} (R:Rn hs nd wr sz st ph key H L nzf)
 (h0:E0=Eo hs nd wr sz st ph L nzf L.length) (h1:E1=aQ hs nd sz st ph E0 (bT lo c st (xz hs nd wr sz st ph L nzf L.length)))
 (h2:E2=aQ hs nd sz st ph E1 (bT lo c2 (st+ph) (pg hs E1 H))) (hP:P=H.map (wN hs E2))
include R h0 h1 h2
theorem Rn.has {h:Int} (hh:h∈H):(aW E0 h).isSome=true∧(aW E1 h).isSome=true∧(aW E2 h).isSome=true:=by
 obtain⟨i,i1,i2,_⟩:=R.idx hh
 have e:(aW E0 h).isSome=true:=by
  rw [h0,←i2,R.get _ (Nat.le_refl _) i1];rfl
 have e1:(aW E1 h).isSome=true:=by rw [h1,jD];exact e
 exact⟨e,e1,by rw [h2,jD];exact e1⟩
theorem Rn.keeps {h:Int} (hh:h∈H):(bZ E2 h).1=h∧(bZ E2 h).2.1=yQ H L h:=by
 obtain⟨i,i1,i2,i3⟩:=R.idx hh
 have hb:=R.beg0 i1
 obtain⟨b1,b2,_⟩:=lh hb
 have g0:aW E0 h=some (Ui hs nd wr sz st ph L nzf i):=by rw [h0,←i2,R.get _ (Nat.le_refl _) i1]
 have g1:=D9 (hs:=hs) (nd:=nd) (sz:=sz) (st:=st) (ph:=ph) (D:=bT lo c st (xz hs nd wr sz st ph L nzf L.length)++bT lo c2 (st+ph) (pg hs E1 H)) g0
 have e3:aQ hs nd sz st ph E0 (bT lo c st (xz hs nd wr sz st ph L nzf L.length)++bT lo c2 (st+ph) (pg hs E1 H))=E2:=by rw [j8,←h1,←h2]
 rw [e3,eK (R.has h0 h1 h2 hh).2.2] at g1
 have g2:((bZ E2 h).1,(bZ E2 h).2.1)=((Ui hs nd wr sz st ph L nzf i).1,(Ui hs nd wr sz st ph L nzf i).2.1):=Option.some.inj g1
 injection g2 with g3 g4
 refine⟨g3.trans (b1.trans i2),g4.trans (b2.trans ?_)⟩
 unfold yQ
 rw [i3]
theorem Rn.run (hm:(hs.length:Int)≤H.length+wr):Run hs nd wr sz st ph H (nzR H nzf) (yQ H L) E0 (bT lo c st (xz hs nd wr sz st ph L nzf L.length)) (bT lo c2 (st+ph) (pg hs E1 H)) where
 tk:=R.tk
 sub:=R.sub
 many:=hm
 beg h hh:=by
  obtain⟨i,i1,i2,i3⟩:=R.idx hh
  have:=R.beg0 i1
  unfold yQ nzR
  rw [i3]
  rw [i2] at this
  exact this
 start h hh:=by
  obtain⟨i,i1,i2,i3⟩:=R.idx hh
  have:=R.get (i:=i) _ (Nat.le_refl _) i1
  unfold Ui at this
  rw [i2] at this
  unfold yQ nzR
  rw [i3,h0]
  exact this
 one x hx:=by
  obtain⟨m,hm,rfl⟩:=mB hx
  obtain⟨i,i1,hm⟩:=R.mem _ (Nat.le_refl _) hm
  obtain⟨a1,a2,a3,_⟩:=R.at i1
  unfold ku at hm
  rw [if_pos (R.beg0 i1)] at hm
  unfold rZ at hm
  rw [List.take_length] at hm
  obtain⟨p,hp,rfl⟩:=List.mem_map.1 hm
  obtain⟨_,p1,p2⟩:=iq a3
  refine .inr ⟨rfl,rfl,(aZ (L.getD i (0,([],()))).1 hs 0).toNat,p1,p2,?_⟩
  show rowL _ _ _=qE _ _ _ _ _ _
  unfold qE nzR
  have:=kY H 0 R.dup (i:=i) (by rw [←R.hl];exact i1)
  rw [p2,a1,this,show((0:Int)+(i:Int)).toNat=i by omega]
 two x hx:=by
  obtain⟨m,hm,rfl⟩:=mB hx
  obtain⟨h,hh,hm⟩:=Fg.1 hm
  obtain⟨i,i1,i2,p,hp,rfl⟩:=(uu _).1 hm
  have e1:(bZ E1 h).1=h:=((R.ok _ (Nat.le_refl _)).dlv (st:=st) (ph:=ph) (bT lo c st (xz hs nd wr sz st ph L nzf L.length))|>fun g=>by rw [←h0,←h1] at g;exact(g.at (R.has h0 h1 h2 hh).2.1).1)
  have er:bS E1 h=(bZ E1 h).2.2.1:=by unfold bS;rw [eK (R.has h0 h1 h2 hh).2.1]
  refine⟨Int.le_refl _,.inr ⟨rfl,by show(bZ _ h).1∈_;rw [e1];exact hh,i,i1,rfl,?_,?_⟩⟩
  ·show((bS (aQ _ _ _ _ _ _ _) (bZ _ h).1).getD i []).length≠0
   rw [←h1,e1,er];exact i2
  ·show [cr _ p.2]= [cr ((bS (aQ _ _ _ _ _ _ _) (bZ _ h).1).getD i []) p.2]
   rw [←h1,e1,er]
include hP
theorem Rn.played (hm:(hs.length:Int)≤H.length+wr):Played hs nd wr sz st ph H (bS E1) (cd E2) P∧∀h∈H,(bZ E2 h).2.2.1=bS E1 h∧(bZ E2 h).2.2.2.1=cd E2 h:=by
 have F:∀h∈H,(bZ E2 h).2.2.1=bS E1 h∧(bZ E2 h).2.2.2.1=cd E2 h:=fun h hh=>by
  obtain⟨s0,s,_,e2,_,_,g⟩:=(R.run h0 h1 h2 hm).fin hh
  rw [←h1,←h2] at e2
  have e3:=eK (R.has h0 h1 h2 hh).2.2
  rw [e2] at e3
  have e4:s=bZ E2 h:=Option.some.inj e3
  rw [←e4]
  exact⟨by rw [g.rows,←h1],by unfold cd;rw [e2]⟩
 refine⟨?_,F⟩
 have:=(R.run h0 h1 h2 hm).played (l:=P) fun h hh=>by
  rw [←h1,←h2]
  have e:P= []++H.map fun a=>(a,fA hs a (bS E1 a) (cd E2 a),()):=by
   rw [hP,List.nil_append]
   refine List.map_congr_left fun a ha=> ?_
   unfold wN
   rw [(R.keeps h0 h1 h2 ha).1,(F a ha).1,(F a ha).2]
  rw [e]
  exact Dd R.tk.hs12 R.dup (fun a ha=>R.sub.subset ha) (fun p hp=>by cases hp) hh
 rw [←h1,←h2] at this
 exact this
theorem Rn.few (hm:¬(hs.length:Int)≤H.length+wr):ac hs nd wr sz st ph P= []:=by
 refine List.eq_nil_iff_forall_not_mem.2 fun v hv=> ?_
 unfold ac at hv
 rw [if_pos R.tk.e] at hv
 obtain⟨k,k1,k2,_⟩:=yG hv
 have hok:Pv hs (e7 hs P):=ue R.tk.hs12 P [] (fun _ h=>by cases h)
 have hq:=R.tk.q1
 have hn:=R.tk.rg.1.1
 obtain⟨T,t1,t2,t3,t4⟩:=j9 (es:=e7 hs P) (k:=(k:Int)) (fun e he x hx=>((hok e he).2.2 x hx).1) hs [] ((hs.length:Int)-wr) (fun h hh=>(R.tk.hs12 h hh).1) (fun _ h=>by cases h) (by omega) (fun _ h=>by cases h) k2
 have key:∀(l:List RP) (es:Ps) (h:Int),(aW es h).isSome=true∨(∃p∈l,p.1=h)∨¬(aW (l.foldl (ee hs) es) h).isSome=true:=fun l es h=>by
  by_cases e:∃p∈l,p.1=h
  ·exact .inr (.inl e)
  ·rw [kS l es fun p hp g=>e ⟨p,hp,g⟩]
   by_cases g:(aW es h).isSome=true
   ·exact .inl g
   ·exact .inr (.inr g)
 have hs':∀a∈T,a∈H:=fun a ha=>by
  obtain⟨ag,g1,_⟩:=t4 a (by simpa using ha)
  rcases key P [] a with g|⟨p,hp,rfl⟩|g
  ·cases g
  ·rw [hP] at hp
   obtain⟨b,hb,rfl⟩:=List.mem_map.1 hp
   show(bZ E2 b).1∈H
   rw [(R.keeps h0 h1 h2 hb).1];exact hb
  ·exact absurd (by rw [show(P.foldl (ee hs) [])=e7 hs P from rfl,g1];rfl) g
 have:=nO T H (R.tk.nodup.sublist t1) hs'
 omega
theorem Rn.next:(∀h∈H,vN hs nd wr sz st ph E2 P h=0∨vN hs nd wr sz st ph E2 P h=17)∧
  ∃K:List Int,K.Sublist H∧Ready key nd K (sY (fun x=>E7 hs nd wr sz st ph E2 P x.1) (fun x=>vN hs nd wr sz st ph E2 P x.1) L L.length):=by
 have hn:=R.tk.rg.1.1
 have hz:=R.tk.rg.1.2.2.1
 have shl:∀h∈H,((yQ H L h).length:Int)=sz:=fun h hh=>by
  obtain⟨i,i1,_,i3⟩:=R.idx hh
  unfold yQ
  rw [i3];exact(R.at i1).2.2.2
 have hLH:∀x∈L,x.1∈H:=fun x hx=>by rw [←R.rd.hm];exact List.mem_map.2 ⟨x,hx,rfl⟩
 by_cases hm:(hs.length:Int)≤H.length+wr
 ·obtain⟨Pl,F⟩:=R.played h0 h1 h2 hP hm
  have fC:∀h∈H,vN hs nd wr sz st ph E2 P h=jM hs nd wr sz st ph h (yQ H L h) (bS E1 h) (cd E2 h) P:=fun h hh=>by
   obtain⟨g1,g2⟩:=R.keeps h0 h1 h2 hh
   unfold vN
   rw [g1,g2,(F h hh).1,(F h hh).2]
  refine⟨fun h hh=>by
   rw [fC h hh,Pl.ends hh (shl h hh)]
   split
   ·exact .inl rfl
   ·exact .inr rfl,(L.filter fun x=>decide (vN hs nd wr sz st ph E2 P x.1=0)).map (·.1),by rw [←R.rd.hm];exact List.filter_sublist.map _,?_⟩
  rw [y0 _ _ _ _ (Nat.le_refl _),List.take_length]
  have S:=Pl.shares (key:=key) R.key (sh:=yQ H L) shl fun b hb=>by
   obtain⟨p,p1,p2,p3⟩:=R.rd.pol b hb
   refine⟨p,Nat.le_trans (jU p) p1,p2,fun h hh=> ?_⟩
   obtain⟨i,i1,i2,i3⟩:=R.idx hh
   have:=p3 _ (bc (0,([],())) L i i1)
   rw [i2] at this
   unfold yQ
   rw [i3];exact this
  have ok:∀x∈L.filter (fun x=>decide (vN hs nd wr sz st ph E2 P x.1=0)),x.1∈H∧jM hs nd wr sz st ph x.1 (yQ H L x.1) (bS E1 x.1) (cd E2 x.1) P=0∧E7 hs nd wr sz st ph E2 P x.1=(x.1,Bq hs nd wr sz st ph x.1 (yQ H L x.1) (bS E1 x.1) (cd E2 x.1) P,()):=fun x hx=>by
   obtain⟨g1,g2⟩:=List.mem_filter.1 hx
   have g1:=hLH x g1
   have g2:=of_decide_eq_true g2
   have g3:=g2
   rw [fC _ g1] at g3
   refine⟨g1,g3,?_⟩
   obtain⟨a1,a2⟩:=R.keeps h0 h1 h2 g1
   unfold E7
   rw [a1,a2,(F _ g1).1,(F _ g1).2]
   unfold Tv
   rw [if_pos g3]
  refine⟨⟨?_,fun s hs'=> ?_,fun b hb=> ?_⟩,Ed (Fy R.tk) (List.Sublist.trans (by
   have g:((L.filter fun x=>decide (vN hs nd wr sz st ph E2 P x.1=0)).map (·.1)).Sublist (L.map (·.1)):=List.filter_sublist.map _
   rw [R.rd.hm] at g
   exact g) R.sub),by omega,by omega,R.rd.k4⟩
  ·rw [List.map_map]
   refine List.map_congr_left fun x hx=> ?_
   show(E7 hs nd wr sz st ph E2 P x.1).1=x.1
   rw [(ok x hx).2.2]
  ·obtain⟨x,hx,rfl⟩:=List.mem_map.1 hs'
   obtain⟨g1,g2,g3⟩:=ok x hx
   show(E7 hs nd wr sz st ph E2 P x.1).2.1.length=_
   rw [g3];exact S.1 _ g1 g2
  ·obtain⟨p,p1,p2,p3⟩:=S.2 b hb
   refine⟨aF p,p1,by rw [au,p2],fun s hs'=> ?_⟩
   obtain⟨x,hx,rfl⟩:=List.mem_map.1 hs'
   obtain⟨g1,g2,g3⟩:=ok x hx
   show(E7 hs nd wr sz st ph E2 P x.1).2.1.getD b 0=aB (pt (E7 hs nd wr sz st ph E2 P x.1).1) _
   rw [g3,au]
   exact p3 _ g1 g2
 ·have hd:=R.few h0 h1 h2 hP hm
  have e:∀h∈H,vN hs nd wr sz st ph E2 P h=0∧E7 hs nd wr sz st ph E2 P h=(h,yQ H L h,()):=fun h hh=>by
   obtain⟨a1,a2⟩:=R.keeps h0 h1 h2 hh
   have g:∀rows vals,jM hs nd wr sz st ph h (yQ H L h) rows vals P=0:=fun rows vals=>by
    unfold jM rz
    rw [if_pos R.tk.e,hd,if_pos (show mq (List.map _ []) from rfl)]
    exact Fi hn (by omega) (R.tk.hs12 h (R.sub.subset hh)) (shl h hh) (fun _ h=>by cases h) rfl
   refine⟨by unfold vN;rw [a1,a2];exact g _ _,?_⟩
   unfold E7
   rw [a1,a2]
   unfold Tv Bq
   rw [if_pos (g _ _),if_pos (g _ _)]
   unfold rz
   rw [hd];rfl
  refine⟨fun h hh=> .inl (e h hh).1,H,List.Sublist.refl _,?_⟩
  rw [y0 _ _ _ _ (Nat.le_refl _),List.take_length,List.filter_eq_self.2 fun x hx=>decide_eq_true (e _ (hLH x hx)).1]
  have:L.map (fun x=>E7 hs nd wr sz st ph E2 P x.1)=L:=by
   refine(List.map_congr_left fun x hx=> ?_).trans (List.map_id L)
   rw [(e _ (hLH x hx)).2]
   obtain⟨i,i1,i2⟩:=List.mem_iff_getElem.1 hx
   have e2:L.getD i (0,([],()))=x:=by rw [gD i1];exact i2
   have e3:=kY H 0 R.dup (i:=i) (by rw [←R.hl];exact i1)
   rw [←(R.at i1).1,e2] at e3
   unfold yQ
   rw [e3,show((0:Int)+(i:Int)).toNat=i by omega,e2];rfl
  rw [this]
  exact R.rd
end
end
section
def y7 (ns:List UInt8) (nd sz a:Int) (k:Nat):List UInt8:=cB ns (Int.toNat (3*(k:Int)+a)) (Int.toNat (sz*(nd-1)*(nd-1+1)/2))
theorem S7 {hs:List Int} {nd wr sz st ph:Int} (T:Tk hs nd wr sz st ph) (ns:List UInt8) (a:Int) (k:Nat):kp nd sz (y7 ns nd sz a k)=0:=by
 have h1:=T.rg.1.1
 have h2:=T.rg.1.2.2.1
 have hm:0≤sz*(((nd-1)*nd)/2):=Int.mul_nonneg (by omega) (Int.ediv_nonneg (Int.mul_nonneg (by omega) (by omega)) (by omega))
 unfold kp
 rw [if_neg (by omega),if_pos]
 unfold y7
 rw [bb,Ax h1]
 omega
theorem Ay {nd sz a:Int} {ns:List UInt8} {k:Nat} (h:2≤nd∧nd≤12) (hz:1≤sz∧sz≤4):(y7 ns nd sz a k).length≤1048576:=by
 have:=(Ig h hz).2
 unfold y7
 rw [bb]
 omega
section
variable (hs:List Int) (nd wr sz s ph:Int) (ns:List UInt8) (a:Int) (lo:List Bool) (c:Int) (L:List gf)
def wB:List (Int×ew):=Eo hs nd wr sz s ph L (y7 ns nd sz a) L.length
def yf:List Ml:=xz hs nd wr sz s ph L (y7 ns nd sz a) L.length
def fP:List (Int×ew):=aQ hs nd sz s ph (wB hs nd wr sz s ph ns a L) (bT lo c s (yf hs nd wr sz s ph ns a L))
def G9:List Ml:=pg hs (fP hs nd wr sz s ph ns a lo c L) (L.map (·.1))
def dG:List (Int×ew):=aQ hs nd sz s ph (fP hs nd wr sz s ph ns a lo c L) (bT lo (c+((yf hs nd wr sz s ph ns a L).length:Int)) (s+ph) (G9 hs nd wr sz s ph ns a lo c L))
def Ai:List RP:=(L.map (·.1)).map (wN hs (dG hs nd wr sz s ph ns a lo c L))
noncomputable def yg (x:gf):gf:=E7 hs nd wr sz s ph (dG hs nd wr sz s ph ns a lo c L) (Ai hs nd wr sz s ph ns a lo c L) x.1
noncomputable def x6 (x:gf):Int:=vN hs nd wr sz s ph (dG hs nd wr sz s ph ns a lo c L) (Ai hs nd wr sz s ph ns a lo c L) x.1
noncomputable def jg:List gf:=sY (yg hs nd wr sz s ph ns a lo c L) (x6 hs nd wr sz s ph ns a lo c L) L L.length
end
structure Rw (hs:List Int) (nd wr sz s ph:Int) (key:List UInt8) (L:List gf):Prop where
 tk:Tk hs nd wr sz s ph
 l7:hs.length≤5
 z4:sz≤4
 kl:(key.length:Int)=sz
 rd:∃H:List Int,H.Sublist hs∧Ready key nd H L
section
variable {hs:List Int} {nd wr sz s ph:Int} {ns key:List UInt8} {a:Int} {lo:List Bool} {c:Int} {L:List gf} (R:Rw hs nd wr sz s ph key L)
include R
theorem Rw.rn:∃H:List Int,Rn hs nd wr sz s ph key H L (y7 ns nd sz a)∧L.map (·.1)=H:=by
 obtain⟨H,h1,h2⟩:=R.rd
 have h5:=R.l7
 exact⟨H,⟨R.tk,by omega,h1,h2,R.kl,fun k=>S7 R.tk ns a k,fun k=>Ay R.tk.rg.1.1 ⟨R.tk.rg.1.2.2.1.1,R.z4⟩⟩,h2.hm⟩
theorem Rw.len:L.length≤5:=by
 obtain⟨H,h1,h2⟩:=R.rd
 have h3:=h1.length_le
 have h4:L.length=H.length:=by rw [←h2.hm,List.length_map]
 have h5:=R.l7
 omega
theorem Rw.mem {k:Nat} (hk:k<L.length):(L.getD k (0,([],()))).1∈hs∧(0≤(L.getD k (0,([],()))).1∧(L.getD k (0,([],()))).1<12)∧((L.getD k (0,([],()))).2.1.length:Int)=sz∧
  c6 hs nd wr sz s ph (L.getD k (0,([],()))).1 (L.getD k (0,([],()))).2.1 (y7 ns nd sz a k)=0:=by
 obtain⟨H,Q,_⟩:=R.rn (ns:=ns) (a:=a)
 obtain⟨_,_,h1,h2⟩:=Q.at hk
 exact⟨h1,R.tk.hs12 _ h1,h2,Q.beg0 hk⟩
theorem Rw.has {k:Nat} (hk:k<L.length):(aW (fP hs nd wr sz s ph ns a lo c L) (L.getD k (0,([],()))).1).isSome=true∧(aW (dG hs nd wr sz s ph ns a lo c L) (L.getD k (0,([],()))).1).isSome=true:=by
 obtain⟨H,Q,e⟩:=R.rn (ns:=ns) (a:=a)
 have h:=Q.get _ (Nat.le_refl _) hk
 have h1:(aW (fP hs nd wr sz s ph ns a lo c L) (L.getD k (0,([],()))).1).isSome=true:=by
  unfold fP wB
  rw [jD,h];rfl
 exact⟨h1,by unfold dG;rw [jD];exact h1⟩
theorem Rw.e0:gJ hs nd sz (wB hs nd wr sz s ph ns a L):=by
 obtain⟨H,Q,e⟩:=R.rn (ns:=ns) (a:=a)
 exact Q.ok _ (Nat.le_refl _)
theorem Rw.e1:gJ hs nd sz (fP hs nd wr sz s ph ns a lo c L):=gJ.dlv _ R.e0
theorem Rw.e2:gJ hs nd sz (dG hs nd wr sz s ph ns a lo c L):=gJ.dlv _ R.e1
theorem Rw.esl (k:Nat):(Eo hs nd wr sz s ph L (y7 ns nd sz a) k).length≤k:=by
 obtain⟨H,Q,e⟩:=R.rn (ns:=ns) (a:=a)
 exact Q.esl k
theorem Rw.rwl (k:Nat):(xz hs nd wr sz s ph L (y7 ns nd sz a) k).length≤k*7∧∀m∈xz hs nd wr sz s ph L (y7 ns nd sz a) k,m.2.2.2.2.1.length≤1048576:=by
 obtain⟨H,Q,e⟩:=R.rn (ns:=ns) (a:=a)
 exact Q.rwl k
theorem Rw.val (i:Nat) (hi:i≤5) (es:List (Int×ew)) (M:List Int):(pg hs es (M.take i)).length≤125:=by
 have h1:=Rc (hs:=hs) es M i
 have h2:i*(hs.length*hs.length)≤5*(5*5):=Nat.mul_le_mul hi (Nat.mul_le_mul R.l7 R.l7)
 omega
theorem Rw.vall:(G9 hs nd wr sz s ph ns a lo c L).length≤125:=by
 have h1:=R.val L.length R.len (fP hs nd wr sz s ph ns a lo c L) (L.map (·.1))
 have h2:(L.map (·.1)).take L.length=L.map (·.1):=List.take_of_length_le (by rw [List.length_map];omega)
 rw [h2] at h1
 exact h1
theorem Rw.snd1 (hc:0≤c∧c≤10000):tJ hs nd wr sz s ph (wB hs nd wr sz s ph ns a L) c (yf hs nd wr sz s ph ns a L):=by
 have h1:=R.len
 obtain⟨h2,h3⟩:=R.rwl (ns:=ns) (a:=a) L.length
 have h4:=R.esl (ns:=ns) (a:=a) L.length
 exact⟨R.tk.e,R.e0,hc.1,by omega,by unfold yf;omega,h3,by unfold wB;omega⟩
theorem Rw.snd2 (hc:0≤c∧c≤10000):tJ hs nd wr sz s ph (fP hs nd wr sz s ph ns a lo c L) (c+((yf hs nd wr sz s ph ns a L).length:Int)) (G9 hs nd wr sz s ph ns a lo c L):=by
 have h1:=R.len
 obtain⟨h2,h3⟩:=R.rwl (ns:=ns) (a:=a) L.length
 have h4:=R.esl (ns:=ns) (a:=a) L.length
 have h5:=R.vall (ns:=ns) (a:=a) (lo:=lo) (c:=c)
 have h6:(yf hs nd wr sz s ph ns a L).length≤L.length*7:=h2
 exact⟨R.tk.e,R.e1,by omega,by omega,by omega,Wc,by unfold fP wB;rw [j7];omega⟩
theorem Rw.errs {k:Nat} (hk:k<L.length):x6 hs nd wr sz s ph ns a lo c L (L.getD k (0,([],())))=0∨x6 hs nd wr sz s ph ns a lo c L (L.getD k (0,([],())))=17:=by
 obtain⟨H,Q,e⟩:=R.rn (ns:=ns) (a:=a)
 have g:=(Q.next (lo:=lo) (c:=c) (c2:=c+((yf hs nd wr sz s ph ns a L).length:Int)) (E0:=wB hs nd wr sz s ph ns a L) (E1:=fP hs nd wr sz s ph ns a lo c L) (E2:=dG hs nd wr sz s ph ns a lo c L) (P:=Ai hs nd wr sz s ph ns a lo c L) rfl rfl (by unfold dG G9;rw [e]) (by unfold Ai;rw [e])).1
 refine g _ ?_
 rw [←e]
 exact List.mem_map.2 ⟨_,bc _ L k hk,rfl⟩
theorem Rw.next {s2:Int} (T2:Tk hs nd wr sz s2 ph):Rw hs nd wr sz s2 ph key (jg hs nd wr sz s ph ns a lo c L):=by
 obtain⟨H,Q,e⟩:=R.rn (ns:=ns) (a:=a)
 obtain⟨K,k1,k2⟩:=(Q.next (lo:=lo) (c:=c) (c2:=c+((yf hs nd wr sz s ph ns a L).length:Int)) (E0:=wB hs nd wr sz s ph ns a L) (E1:=fP hs nd wr sz s ph ns a lo c L) (E2:=dG hs nd wr sz s ph ns a lo c L) (P:=Ai hs nd wr sz s ph ns a lo c L) rfl rfl (by unfold dG G9;rw [e]) (by unfold Ai;rw [e])).2
 exact⟨T2,R.l7,R.z4,R.kl,K,k1.trans Q.sub,k2⟩
theorem Rw.fit {p:List gf} (hp:p.Sublist L):ry p nd key:=by
 obtain⟨H,_,Q⟩:=R.rd
 by_cases h:nd≤(p.length:Int)
 ·exact((Q.many hp h rfl).1).2 rfl
 ·exact(Q.few hp h rfl).1
theorem Rw.hide {p:List gf} (hp:p.Sublist L) (hl:(p.length:Int)<nd) {o:List UInt8} (ho:o.length=key.length):ry p nd o∧vM p nd key=vM p nd o:=by
 obtain⟨H,_,Q⟩:=R.rd
 obtain⟨h1,h2⟩:=Q.few hp (by omega) ho
 obtain⟨_,h3⟩:=Q.few hp (by omega) (o:=key) rfl
 exact⟨h1,by rw [h2,h3]⟩
theorem Rw.join (hl:¬(L.length:Int)<nd):Mg L nd=0∧Eb L nd 0=key:=by
 obtain⟨H,_,Q⟩:=R.rd
 exact Q.join (List.Sublist.refl _) (by omega)
end
theorem Rw.to {hs:List Int} {nd wr sz s s2 ph:Int} {key:List UInt8} {L:List gf} (R:Rw hs nd wr sz s ph key L) (T2:Tk hs nd wr sz s2 ph):Rw hs nd wr sz s2 ph key L:=⟨T2,R.l7,R.z4,R.kl,R.rd⟩
theorem Fz {hs:List Int} {nd wr sz s s2 ph:Int} (T:Tk hs nd wr sz s ph) (h1:s≤s2) (h2:s2+3*ph≤1000000):Tk hs nd wr sz s2 ph:=by
 obtain⟨⟨r1,r2,r3,r4,r5⟩,r6⟩:=T.rg
 exact⟨T.ho,⟨⟨r1,r2,r3,⟨by omega,by omega⟩,r5⟩,h2⟩,T.q1,T.q2,T.l12⟩
theorem Rl {hs:List Int} {nd wr sz s ph:Int} {sec nzz:List UInt8} (T:Tk hs nd wr sz s ph) (hsec:(sec.length:Int)=sz) (hl:(nzz.length:Int)=sz*(nd-1)):Spl sec nd hs nzz:=by
 have h1:=T.rg.1.1
 have h2:=T.rg.1.2.2.1
 have h3:=T.q1
 have h4:=T.rg.1.2.1.1
 exact⟨by omega,by omega,h1.2,by omega,Fy T,by rw [hl,hsec]⟩
theorem Rw.start {hs:List Int} {nd wr sz s ph:Int} {key nzz:List UInt8} (T:Tk hs nd wr sz s ph) (h5:hs.length≤5) (h4:sz≤4) (hk:(key.length:Int)=sz) (S:Spl key nd hs nzz):Rw hs nd wr sz s ph key (jK key nd hs nzz):=
 ⟨T,h5,h4,hk,hs,List.Sublist.refl _,xN S,S.ok,S.n1,S.n12,S.len⟩
theorem Jf {L:List gf} {k:Nat} (h:k<L.length):(L.map (·.1)).getD k 0=(L.getD k (0,([],()))).1:=by
 rw [gD (l:=L.map (·.1)) (d:=0) (by rw [List.length_map];exact h),List.getElem_map,gD h]
theorem Ra {hs:List Int} {es:List (Int×ew)} {L:List gf} {k:Nat} (h:k<L.length):pg hs es ((L.map (·.1)).take (k+1))=pg hs es ((L.map (·.1)).take k)++dx hs (bZ es (L.getD k (0,([],()))).1).1 (bZ es (L.getD k (0,([],()))).1).2.2.1 hs.length:=by
 rw [Rb (by rw [List.length_map];exact h),Jf h]
theorem S1 {hs:List Int} {es:List (Int×ew)} {L:List gf} {k:Nat} (h:k<L.length):((L.map (·.1)).take (k+1)).map (wN hs es)=((L.map (·.1)).take k).map (wN hs es)++ [wN hs es (L.getD k (0,([],()))).1]:=by
 rw [ca 0 _ _ k (by rw [List.length_map];exact h),Jf h]
theorem Bp {L:List gf} {k:Nat} (h:L.length≤k):(L.map (·.1)).take k=L.map (·.1):=List.take_of_length_le (by rw [List.length_map];exact h)
theorem O8 (hs:List Int) (nd wr sz st ph me:Int) (sh nz:List UInt8):(ku hs nd wr sz st ph me sh nz).length≤hs.length:=by
 unfold ku
 split
 ·exact kD ..
 ·exact Nat.zero_le _
theorem Xs {hs:List Int} {es:List (Int×ew)} {M:List Int} (hh:hs.length≤1048576):∀p∈M.map (wN hs es),p.2.1.length≤1048576:=fun p hp=>by
 obtain⟨h,_,rfl⟩:=List.mem_map.1 hp
 show(fA _ _ _ _).length≤1048576
 unfold fA
 rw [List.length_map,List.length_range];exact hh
def g8 (z:Int) (L:List gf):Nat→List gf
 |0=> []
 |k+1=>if(z/2^(L.getD k (0,([],()))).1.toNat)%2=1 then g8 z L k++ [L.getD k (0,([],()))] else g8 z L k
theorem Ae (z:Int) (L:List gf):∀k,k≤L.length→(g8 z L k).Sublist (L.take k)
 |0,_=>List.nil_sublist _
 |k+1,hk=>by
  have ih:=Ae z L k (by omega)
  rw [g8,fj (0,([],())) (by omega)]
  split
  ·exact ih.append (List.Sublist.refl _)
  ·exact ih.trans (List.sublist_append_left _ _)
theorem td (z:Int) (L:List gf):∀k,(g8 z L k).length≤k
 |0=>Nat.le_refl _
 |k+1=>by
  have:=td z L k
  rw [g8]
  split
  ·rw [List.length_append,List.length_cons,List.length_nil];omega
  ·omega
end
theorem Q9 {t:Ty} (h1:∀x,1≤wt t x) (xs:List t.D):xs.length+1≤wt (.sl t) xs:=by
 have e:wt (.sl t) xs=(xs.map (wt t)).sum+1:=rfl
 rw [e]
 clear e
 induction xs with
 |nil=>simp
 |cons x xs ih=>have:=h1 x;rw [List.map_cons,List.sum_cons,List.length_cons];omega
theorem Wb (xs:List Int):xs.length+1≤wt (.sl (.int .i64)) xs:=Q9 (t:= .int .i64) (fun _=>Nat.le_refl 1) xs
theorem Mr (x:List Int×(Int×(Int×(Int×(Int×(Int×Unit)))))):wt (.cons (.sl (.int .i64)) (.cons (.int .i64) (.cons (.int .i64) (.cons (.int .i64) (.cons (.int .i64) (.cons (.int .i64) .nil)))))) x=wt (.sl (.int .i64)) x.1+(1+(1+(1+(1+(1+0))))):=rfl
end Go.Proofs.YtogipicegdbhdaaDoor.S72d
namespace Go.Proofs.YtogipicegdbhdaaDoor.Cd
set_option maxHeartbeats 20000000
open Go Go.Proofs.YtogipicegdbhdaaDoor.Vc Go.Proofs Go.Proofs.YtogipicegdbhdaaDoor.S72 Go.Proofs.YtogipicegdbhdaaDoor.S72c Go.Proofs.YtogipicegdbhdaaDoor.S72d Go.ChangeShapes Go.WideShapes Go.ChangeAt Go.RowKit
set_option maxRecDepth 100000
set_option linter.unusedVariables false
section
theorem pX {H:Type}:∀l:List (DataW H),Rows.uptoBulkAll l=(l.map Rows.uptoBulk).sum
 |[]=>rfl
 |d::l=>by rw [Rows.uptoBulkAll,pX l];rfl
theorem Es {H:Type}:Bulk (H:=H) Rows.uptoBulk where
 one d:=by cases d with
  |lit l=>cases l<;>simp [Rows.uptoBulk]
  |_=>simp [Rows.uptoBulk]
 str b:=by simp [Rows.uptoBulk]
 sl es sp:=by rw [Rows.uptoBulk,pX,pX];omega
 agg ps:=by rw [Rows.uptoBulk,pX];omega
theorem kV:laidOutB Tryd.prog=true:=by kernel_rfl
theorem own:ownKnob Tryd.prog.godebug=none:=by kernel_rfl

section
variable {H:Type} {enc:TypeId×Value→H} {P:Program}
theorem Df {f:Func} {s:ChangeSpec} {apart fresh handsOn again:Bool} {W W':World} {args:Array Value} {v:Value} {ds gs:List (DataW H)} {before pa pv:List MemPlace}
  (hW:DataW.Whole enc P f.params.toList s.vars apart W args.toList ds gs before)
  (hres:∀(b:Nat) (sp:Nat→Bool) (hd:Bool),DataW.TrodAll enc P W' b sp hd f.resultTypes.toList (v.resultList f.resultTypes.size) (s.fn H (ds++gs)).results [])
  (hargs:∀sp:Nat→Bool,(∀p∈before,sp p.block=true)→DataW.TrodAll enc P W' 0 sp true f.params.toList args.toList (s.fn H (ds++gs)).args pa)
  (hvars:∀sp:Nat→Bool,(∀p∈before,sp p.block=true)→DataW.TrodVars enc P W' sp s.vars (s.fn H (ds++gs)).vars pv)
  (hps:before=pa++pv) (hb:Below W.heap.size W W')
  (hok:∀(j:Nat) (t:TypeId) (r:Value),f.resultTypes[j]? =some t→(v.resultList f.resultTypes.size)[j]? =some r→Value.okWide P W' .any 0 t r):
  s.post enc P f apart fresh handsOn again W args v W':=by
 have hlt:∀p∈before,p.block<W.heap.size:=fun p hp=>by simpa using hW.lt p hp
 have hold:∀p∈before,(fun b=>decide (b<W.heap.size)) p.block=true:=fun p hp=>by simpa using hW.lt p hp
 refine⟨ds,gs,before, [],pa,pv,hW,hres _ _ _,hargs _ hold,hvars _ hold,World.keptBut_mono (fun p hp=>⟨hp,?_⟩) (hb.frame (· ∈before)),fun _=> ?_⟩
 ·rw [hps,List.mem_append] at hp
  exact Or.inr hp
 ·obtain⟨_,_,_,_,_,hz,hn⟩:=hW
  refine⟨hok,_,_,([]++pa)++pv,⟨[]++pa,pv,trodAll_append (hargs _ (fun _ _=>rfl)) (hres _ _ _),hvars _ (fun _ _=>rfl),rfl,?_,?_⟩,?_⟩
  ·intro b off hp
   have hp':MemPlace.cell b off∈before:=by rw [hps];simpa using hp
   rw [hb.frozen (hlt _ hp')]
   exact hz b off hp'
  ·intro ha
   have:=hn ha
   rw [hps] at this
   simpa using this
  ·intro p hp _
   rw [hps]
   simpa using hp
end
end
end Go.Proofs.YtogipicegdbhdaaDoor.Cd

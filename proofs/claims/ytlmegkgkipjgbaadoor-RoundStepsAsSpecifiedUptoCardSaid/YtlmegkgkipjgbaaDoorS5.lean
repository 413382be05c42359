/- Texts of this claim. -/
import Derived.Test.YtlmegkgkipjgbaaDoorS4
set_option linter.unusedVariables false
set_option linter.unusedSimpArgs false
namespace Go.Proofs.YtlmegkgkipjgbaaDoor.S33c
set_option maxHeartbeats 20000000
open Go Go.Proofs.YtlmegkgkipjgbaaDoor.Vc Go.Proofs
set_option maxRecDepth 100000
set_option linter.unusedVariables false
open Go.Proofs.YtlmegkgkipjgbaaDoor.S33
noncomputable def sRSz:List V→Option (Prop×V×List Blk)
 |[.sl false .str l,.int .i64 n,.int .i64 z]=>some (l.length≤1048576,.b (szdP l n z), [])
 |_=>none
theorem bRSz (l:List (List UInt8)) (n z:Int):bodyQ (En CDcd tys G6 QOth) Tryd.f43 [.k] sRSz [.sl false .str l,.int .i64 n,.int .i64 z]:=by
 intro hp0
 refine yn ((l.length:Int)≠n) (fun h0=> ?_) fun h0=> ?_
 ·exact⟨rfl,rfl,congrArg V.b (propext ⟨fun h=>Bool.noConfusion h,fun h=>False.elim (h0 h.1)⟩),rfl⟩
 ·refine⟨0, [(0,.k),(1,.k),(2,.k),(7,.k)],fun nM vs H=>∃(k:Nat),k≤l.length∧(∀x∈l.take k,(x.length:Int)=z)∧nM=l.length-k∧vs= [.sl false .str l,.i n,.i z,.i k]∧H= [],⟨rfl,l.length,0,by omega,fun x hx=>by simp at hx,by omega,rfl,rfl⟩,?_⟩
  rintro nM vs H ⟨k,hc1_0,hc1_1,rfl,rfl,rfl⟩
  refine yn ((k:Int)<n) (fun h1=> ?_) fun h1=> ?_
  ·have hkl:k<l.length:=by omega
   refine⟨ix k l.length,yn ((((l.getD k []).length:Nat):Int)≠z) (fun h2=> ?_) fun h2=> ?_⟩
   ·exact⟨rfl,rfl,congrArg V.b (propext ⟨fun h=>Bool.noConfusion h,fun h=>False.elim (h.2 ⟨_,gmem [] l k hkl,h2⟩)⟩),rfl⟩
   ·have hnx:∀x∈l.take (k+1),(x.length:Int)=z:=fun x hx=>by
     rw [takeD [] l k hkl] at hx
     rcases List.mem_append.1 hx with g|g
     ·exact hc1_1 x g
     ·rw [List.mem_singleton.1 g];exact nw h2
    refine⟨r64 (k+1),?_⟩
    exact⟨rfl,l.length-(k+1),by omega,k+1,by omega,hnx,rfl,rfl,rfl⟩
  ·exact⟨rfl,rfl,congrArg V.b (propext ⟨fun _=>⟨nw h0,fun⟨x,hx,hn⟩=>hn (hc1_1 x (by rw [List.take_of_length_le (by omega)];exact hx))⟩,fun _=>rfl⟩),rfl⟩
noncomputable def CRSz:List (Nat×Con):=(43,pureC [.v (.sl .str),.v (.int .i64),.v (.int .i64)] sRSz)::CDcd
theorem kRSz:Known Tryd.prog (En CRSz tys G6 QOth):=kDcd.addQ Tryd.func43 Tryd.call43 [.k] fun ds _ _ _ h=>by unfold sRSz at h;split at h;exact bRSz _ _ _;cases h
noncomputable def sRCp:List V→Option (Prop×V×List Blk)
 |[.agg [.sl false (.int .i64) hs,.int .i64 nd,.int .i64 wr,.int .i64 sz,.int .i64 st,.int .i64 ph],.agg [.int .i64 me,.str sh,.sl false (.sl .str) rows,.sl false (.sl (.sl .str)) vals]]=>some (hs.length≤1000∧rows.length=hs.length∧(∀x∈rows,x.length≤1048576),.own (.cons (.int .i64) (.cons (.int .i64) (.cons (.int .i64) (.cons (.int .i64) (.cons (.sl .str) .nil))))) 0, [.row true (.cons (.int .i64) (.cons (.int .i64) (.cons (.int .i64) (.cons (.int .i64) (.cons (.sl .str) .nil))))) (cmpK hs me rows hs.length)])
 |_=>none
theorem bRCp (hs:List Int) (nd wr sz st ph me:Int) (sh:List UInt8) (rows:List (List (List UInt8))) (vals:List (List (List (List UInt8)))):bodyQ (En CRSz tys G6 QOth) Tryd.f19 [.o tMl] sRCp [aTk hs nd wr sz st ph,aSt me sh rows vals]:=by
 rintro⟨hp0,hp1,(hp2:(∀x∈rows,x.length≤1048576))⟩
 refine⟨2, [(2,.k),(3,.k),(5,.o tMl),(6,.k)],fun nM vs H=>∃(k:Nat),k≤hs.length∧nM=hs.length-k∧vs= [.p 0,.p 1,.own tMl 2,.i k]∧H= [cTk hs nd wr sz st ph,cSt me sh rows vals,.r tMl (cmpK hs me rows k)],⟨rfl,hs.length,0,by omega,by omega,rfl,rfl⟩,?_⟩
 rintro nM vs H ⟨k,hc1_0,rfl,rfl,rfl⟩
 refine yn ((k:Int)<(hs.length:Int)) (fun h0=> ?_) fun h0=> ?_
 ·have hkl:k<hs.length:=by omega
  have hkm:=hp2 _ (gmem [] rows k (by omega))
  have hcl:=cmpK_len hs me rows k
  have hcl2:k*hs.length≤1000000:=Nat.le_trans (Nat.mul_le_mul (show k≤1000 by omega) hp0) (by omega)
  refine⟨2, [(2,.k),(3,.k),(5,.o tMl),(6,.k),(7,.k)],fun nM vs H=>∃(i:Nat),i≤hs.length∧nM=hs.length-i∧vs= [.p 0,.p 1,.own tMl 2,.i k,.i i]∧H= [cTk hs nd wr sz st ph,cSt me sh rows vals,.r tMl (cmpK hs me rows k++cmpJ hs me rows k i)],⟨rfl,hs.length,0,by omega,by omega,rfl,by rw [cmpJ_zero,List.append_nil];rfl⟩,?_⟩
  rintro nM vs H ⟨i,hc2_0,rfl,rfl,rfl⟩
  refine yn ((i:Int)<(hs.length:Int)) (fun h1=> ?_) fun h1=> ?_
  ·have hil:i<hs.length:=by omega
   have hjl:=cmpJ_len hs me rows k i
   have hal:(cmpK hs me rows k++cmpJ hs me rows k i).length≤1001000:=by rw [List.length_append];omega
   refine⟨by kernel_rfl,ix k rows.length,yn (0<(((rows.getD k []).length:Nat):Int)) (fun h2=> ?_) fun h2=> ?_⟩
   ·refine⟨fun h3=> ?_,cp (0<(((rows.getD k []).length:Nat):Int))⟩
    refine⟨fun h4=> ?_,cp (0<(((rows.getD k []).length:Nat):Int))⟩
    refine⟨fun h5=> ?_,cp (0<(((rows.getD k []).length:Nat):Int))⟩
    refine⟨ix i hs.length,fun h6=> ?_,cp (0<(((rows.getD k []).length:Nat):Int))⟩
    refine⟨fun h7=> ?_,cp (0<(((rows.getD k []).length:Nat):Int))⟩
    refine⟨fun h8=> ?_,cp (0<(((rows.getD k []).length:Nat):Int))⟩
    refine⟨fun h9=> ?_,cp (0<(((rows.getD k []).length:Nat):Int))⟩
    refine⟨fun h10=> ?_,cp (0<(((rows.getD k []).length:Nat):Int))⟩
    refine yn ((hs.getD i 0)≠me) (fun h11=> ?_) fun h11=> ?_
    ·have hnx:=cmpJ_yes (A:=cmpK hs me rows k) hil (fun g=>by rw [g] at h2;omega) h11
     refine⟨by kernel_rfl,ix k rows.length,ix i hs.length,rfl,os ((rows.getD k []).length≤1048576),by kernel_rfl,ix i hs.length,ix k hs.length,rfl,rfl,rfl,rfl,w2',l9 (cmpK hs me rows k++cmpJ hs me rows k i).length,r64 (i+1),?_⟩
     exact⟨rfl,hs.length-(i+1),by omega,i+1,by omega,rfl,rfl,by rw [hnx];rfl⟩
    ·have hnx:cmpK hs me rows k++cmpJ hs me rows k (i+1)=cmpK hs me rows k++cmpJ hs me rows k i:=by rw [cmpJ_no hil (.inr h11)]
     refine⟨r64 (i+1),?_⟩
     exact⟨rfl,hs.length-(i+1),by omega,i+1,by omega,rfl,rfl,by rw [hnx];rfl⟩
   ·have hnx:cmpK hs me rows k++cmpJ hs me rows k (i+1)=cmpK hs me rows k++cmpJ hs me rows k i:=by rw [cmpJ_no hil (.inl (by omega))]
    refine⟨cn (0<(((rows.getD k []).length:Nat):Int)),fun h12=> ?_⟩
    refine⟨cn (0<(((rows.getD k []).length:Nat):Int)),fun h13=> ?_⟩
    refine⟨cn (0<(((rows.getD k []).length:Nat):Int)),fun h14=> ?_⟩
    refine⟨cn (0<(((rows.getD k []).length:Nat):Int)),fun h15=> ?_⟩
    refine⟨cn (0<(((rows.getD k []).length:Nat):Int)),fun h16=> ?_⟩
    refine⟨cn (0<(((rows.getD k []).length:Nat):Int)),fun h17=> ?_⟩
    refine⟨cn (0<(((rows.getD k []).length:Nat):Int)),fun h18=> ?_⟩
    refine⟨cn (0<(((rows.getD k []).length:Nat):Int)),fun h19=> ?_⟩
    refine⟨r64 (i+1),?_⟩
    exact⟨rfl,hs.length-(i+1),by omega,i+1,by omega,rfl,rfl,by rw [hnx];rfl⟩
  ·have hst:cmpK hs me rows (k+1)=cmpK hs me rows k++cmpJ hs me rows k i:=by rw [cmpJ_all,show i=hs.length by omega]
   refine⟨r64 (k+1),?_⟩
   exact⟨rfl,hs.length-(k+1),by omega,k+1,by omega,rfl,rfl,by rw [hst];rfl⟩
 ·rw [show cmpK hs me rows hs.length=cmpK hs me rows k by rw [show k=hs.length by omega]]
  exact d4'
noncomputable def CRCp:List (Nat×Con):=(19,pureC [.v tTk,.v tSt] sRCp)::CRSz
theorem kRCp:Known Tryd.prog (En CRCp tys G6 QOth):=kRSz.addQ Tryd.func19 Tryd.call19 [.o tMl] fun ds _ _ _ h=>by unfold sRCp at h;split at h;exact bRCp _ _ _ _ _ _ _ _ _ _;cases h
open Go Go.Proofs.YtlmegkgkipjgbaaDoor.Vc Go.Proofs Go.Proofs.YtlmegkgkipjgbaaDoor.S33
def psB (hs:List Int) (me:Int) (r:List (List UInt8)) (vk:List (List (List UInt8))) (j:Nat):Prop:=hs.getD j 0=me∨(0<(vk.getD j []).length∧(vk.getD j []).getD 0 []=valS r (hs.getD j 0))
instance (hs:List Int) (me:Int) (r:List (List UInt8)) (vk:List (List (List UInt8))) (j:Nat):Decidable (psB hs me r vk j):=by unfold psB;infer_instance
def psS (hs:List Int) (me:Int) (r:List (List UInt8)) (vk:List (List (List UInt8))):Nat→Int
 |0=>0
 |j+1=>psS hs me r vk j+(if psB hs me r vk j then 2^(hs.getD j 0).toNat else 0)
theorem nxt_bit {s h:Int} (b:Nat):(nxt s h).toNat.testBit b=(s.toNat.testBit b||decide (h.toNat=b)):=by
 unfold nxt
 rw [Int.toNat_natCast,Int.one_mul,pow_nat,Nat.testBit_or]
 congr 1
 rw [Nat.testBit_two_pow]
theorem agB_bit (vk:List (List (List UInt8))) (r:List (List UInt8)) (b:Nat):∀(l:List (Int×Int)) (a:Int),(agB vk r l a).toNat.testBit b=true↔a.toNat.testBit b=true∨∃p∈l,(0<(vk.getD p.1.toNat []).length∧(vk.getD p.1.toNat []).getD 0 []=valS r p.2)∧p.2.toNat=b
 |[],a=>⟨.inl,fun h=>h.resolve_right fun⟨_,hp,_⟩=>by cases hp⟩
 | p::l,a=>by
  rw [agB,List.foldl_cons]
  have ih:=agB_bit vk r b l
  unfold agB at ih
  rw [ih]
  by_cases h:0<(vk.getD p.1.toNat []).length∧(vk.getD p.1.toNat []).getD 0 []=valS r p.2
  ·rw [if_pos h,nxt_bit,Bool.or_eq_true,decide_eq_true_iff]
   constructor
   ·rintro((g|g)|⟨q,g1,g2⟩)
    ·exact .inl g
    ·exact .inr ⟨p,by simp,h,g⟩
    ·exact .inr ⟨q,by simp [g1],g2⟩
   ·rintro(g|⟨q,g1,g2,g3⟩)
    ·exact .inl (.inl g)
    ·rcases List.mem_cons.1 g1 with rfl|g1
     ·exact .inl (.inr g3)
     ·exact .inr ⟨q,g1,g2,g3⟩
  ·rw [if_neg h]
   constructor
   ·rintro(g|⟨q,g1,g2⟩)
    ·exact .inl g
    ·exact .inr ⟨q,by simp [g1],g2⟩
   ·rintro(g|⟨q,g1,g2,g3⟩)
    ·exact .inl g
    ·rcases List.mem_cons.1 g1 with rfl|g1
     ·exact absurd g2 h
     ·exact .inr ⟨q,g1,g2,g3⟩
theorem psS_bd {hs:List Int} (hh:hsF (-1) hs=true) (hb:∀x∈hs,0≤x∧x<12) {me:Int} {r:List (List UInt8)} {vk:List (List (List UInt8))}:∀j,j≤hs.length→0≤psS hs me r vk j∧∀i,j≤i→i<hs.length→psS hs me r vk j<2^(hs.getD i 0).toNat
 |0,_=>⟨Int.le_refl _,fun i _ hi=>by
  obtain⟨g0,g1⟩:=hb _ (gmem 0 hs i hi)
  have:=(pw12 g0 g1).1
  show(0:Int)<_
  omega⟩
 | j+1,hj=>by
  obtain⟨h1,h2⟩:=psS_bd hh hb (me:=me) (r:=r) (vk:=vk) j (by omega)
  obtain⟨g0,g1⟩:=hb _ (gmem 0 hs j (by omega))
  obtain⟨p0,p1⟩:=pw12 g0 g1
  have h3:=h2 j (Nat.le_refl _) (by omega)
  refine⟨by rw [psS];split<;>omega,fun i hi hl=> ?_⟩
  have hlt:=sorted_lt hh (show j<i by omega) hl
  have h4:(2:Int)^(hs.getD j 0).toNat*2≤2^(hs.getD i 0).toNat:=by
   have e:(hs.getD i 0).toNat=(hs.getD j 0).toNat+1+((hs.getD i 0).toNat-((hs.getD j 0).toNat+1)):=by omega
   rw [e,Int.pow_add,Int.pow_succ]
   have:=(pwn ((hs.getD i 0).toNat-((hs.getD j 0).toNat+1)) (by have:=hb _ (gmem 0 hs i hl);omega)).1
   have h5:(2:Int)^(hs.getD j 0).toNat*2*1≤2^(hs.getD j 0).toNat*2*2^((hs.getD i 0).toNat-((hs.getD j 0).toNat+1)):=Int.mul_le_mul_of_nonneg_left this (by omega)
   omega
  rw [psS]
  split<;>omega
theorem psS_bit {hs:List Int} (hh:hsF (-1) hs=true) (hb:∀x∈hs,0≤x∧x<12) {me:Int} {r:List (List UInt8)} {vk:List (List (List UInt8))} (b:Nat):∀j,j≤hs.length→((psS hs me r vk j).toNat.testBit b=true↔∃i,i<j∧psB hs me r vk i∧(hs.getD i 0).toNat=b)
 |0,_=>⟨fun h=>by simp [psS] at h,fun⟨_,h,_⟩=>by omega⟩
 | j+1,hj=>by
  obtain⟨h1,h2⟩:=psS_bd hh hb (me:=me) (r:=r) (vk:=vk) j (by omega)
  have h3:=h2 j (Nat.le_refl _) (by omega)
  obtain⟨g0,g1⟩:=hb _ (gmem 0 hs j (by omega))
  have ih:=psS_bit hh hb (me:=me) (r:=r) (vk:=vk) b j (by omega)
  by_cases h:psB hs me r vk j
  ·have e:psS hs me r vk (j+1)=nxt (psS hs me r vk j) (hs.getD j 0):=by rw [psS,if_pos h,nxt_sum h1 g0 h3]
   rw [e,nxt_bit,Bool.or_eq_true,decide_eq_true_iff,ih]
   constructor
   ·rintro(⟨i,q1,q2⟩|q)
    ·exact⟨i,by omega,q2⟩
    ·exact⟨j,by omega,h,q⟩
   ·rintro⟨i,q1,q2,q3⟩
    by_cases e2:i=j
    ·subst e2;exact .inr q3
    ·exact .inl ⟨i,by omega,q2,q3⟩
  ·rw [psS,if_neg h,Int.add_zero,ih]
   constructor
   ·rintro⟨i,q1,q2⟩
    exact⟨i,by omega,q2⟩
   ·rintro⟨i,q1,q2,q3⟩
    by_cases e2:i=j
    ·subst e2;exact absurd q2 h
    ·exact⟨i,by omega,q2,q3⟩
theorem oth_at {x:Int}:∀(l:List Int) (k i:Nat),i<l.length→l.getD i 0≠x→(((k+i:Nat):Int),l.getD i 0)∈oth x k l
 |[],k,i,h,_=>by simp at h
 |a::l,k,0,h,hn=>by
  rw [oth,if_neg (by simpa using hn)]
  exact List.mem_cons_self
 |a::l,k,i+1,h,hn=>by
  have:=oth_at l (k+1) i (by simpa using h) (by simpa using hn)
  rw [show k+1+i=k+(i+1) by omega] at this
  rw [oth]
  split
  ·exact this
  ·exact List.mem_cons_of_mem _ this
theorem ps_eq {hs:List Int} (hh:hsF (-1) hs=true) (hb:∀x∈hs,0≤x∧x<12) {me:Int} (hm:me∈hs) (r:List (List UInt8)) (vk:List (List (List UInt8))):
  psS hs me r vk hs.length=agB vk r (oth me 0 hs) (1*2^me.toNat):=by
 obtain⟨m0,m1⟩:=hb me hm
 obtain⟨q0,q1⟩:=pw12 m0 m1
 have h1:=(psS_bd hh hb (me:=me) (r:=r) (vk:=vk) hs.length (Nat.le_refl _)).1
 have h2:=(agB_bd vk r (oth me 0 hs) (1*2^me.toNat) (by omega) (by omega) (fun p hp=>by obtain⟨i,hi,_,e2,_⟩:=oth_mem hs 0 hp;rw [e2];exact hb _ (gmem 0 hs i hi))).1
 have e:(psS hs me r vk hs.length).toNat=(agB vk r (oth me 0 hs) (1*2^me.toNat)).toNat:=Nat.eq_of_testBit_eq fun b=>by
  rw [Bool.eq_iff_iff,psS_bit hh hb b hs.length (Nat.le_refl _),agB_bit]
  have ea:((1:Int)*2^me.toNat).toNat.testBit b=true↔me.toNat=b:=by rw [Int.one_mul,pow_nat,Nat.testBit_two_pow,decide_eq_true_iff]
  rw [ea]
  constructor
  ·rintro⟨i,p1,p2,p3⟩
   by_cases g:hs.getD i 0=me
   ·left;rw [←g];exact p3
   ·refine .inr ⟨_,oth_at hs 0 i p1 g,?_,p3⟩
    have:=p2.resolve_left g
    rw [show(0+i:Nat)=i by omega]
    simpa using this
  ·rintro(g|⟨p,p1,p2,p3⟩)
   ·obtain⟨x0,x1,x2⟩:=pos_of hm
    exact⟨_,x1,.inl x2,by rw [x2];exact g⟩
   ·obtain⟨i,i1,i2,i3,i4⟩:=oth_mem hs 0 p1
    rw [show(0+i:Nat)=i by omega] at i2
    refine⟨i,i1,.inr ?_,by rw [←i3];exact p3⟩
    rw [←i3]
    rw [i2] at p2
    simpa using p2
 omega
def psK (hs:List Int) (me:Int) (rows:List (List (List UInt8))) (vals:List (List (List (List UInt8)))) (k i:Nat):Int:=if(rows.getD k []).length=0 then 0 else psS hs me (rows.getD k []) (vals.getD k []) i
theorem psK_all {hs:List Int} (hh:hsF (-1) hs=true) (hb:∀x∈hs,0≤x∧x<12) {me:Int} (hm:me∈hs) (rows:List (List (List UInt8))) (vals:List (List (List (List UInt8)))) (k:Nat):psK hs me rows vals k hs.length=pst1 hs me rows vals k:=by
 unfold psK pst1
 rw [ps_eq hh hb hm]
theorem range_snoc {α:Type} (f:Nat→α) (k:Nat):(List.range (k+1)).map f=(List.range k).map f++ [f k]:=by
 rw [List.range_succ,List.map_append];rfl
noncomputable def sRBg:List V→Option (Prop×V×List Blk)
 |[.agg [.sl false (.int .i64) hs,.int .i64 nd,.int .i64 wr,.int .i64 sz,.int .i64 st,.int .i64 ph],.int .i64 me,.str sh,.str nz]=>some (hs.length≤1000∧(tkE hs nd wr sz st ph=0→nd≤7)∧sh.length≤1048576∧nz.length≤1048576,.agg [.int .i64 (begH hs nd wr sz st ph me sh nz),.str (begS hs nd wr sz st ph me sh nz),.sl true (.sl .str) (begR hs nd wr sz st ph me sh nz),.sl true (.sl (.sl .str)) (begV hs nd wr sz st ph me sh nz),.sl true (.cons (.int .i64) (.cons (.int .i64) (.cons (.int .i64) (.cons (.int .i64) (.cons (.sl .str) .nil))))) (begM hs nd wr sz st ph me sh nz),.int .i64 (begE hs nd wr sz st ph me sh nz)], [])
 |_=>none
theorem bRBg (hs:List Int) (nd wr sz st ph me:Int) (sh nz:List UInt8):bodyQ (En CRCp tys G6 QOth [1000002,9000095]) Tryd.f9 [.k,.k,.d (.sl .str),.d (.sl (.sl .str)),.d tMl,.k] sRBg [aTk hs nd wr sz st ph,.int .i64 me,.str sh,.str nz]:=by
 rintro⟨hp0,hp1,hp2,hp3⟩
 refine⟨rfl,rfl,rfl,rfl,rfl,om (hs.length≤2000000),yn ((tkE hs nd wr sz st ph)≠0) (fun h0=> ?_) fun h0=> ?_⟩
 ·refine⟨w4',?_⟩
  have e:begE hs nd wr sz st ph me sh nz=tkE hs nd wr sz st ph:=by unfold begE;rw [if_neg h0]
  obtain⟨e1,e2,e3,e4,e5⟩:=beg_err (show begE hs nd wr sz st ph me sh nz≠0 by rw [e];exact h0)
  rw [e1,e2,e3,e4,e5,e]
  exact d4'
 ·have hT:=tk0 (nw h0)
  have hl12:=hT.l12
  have hnd:=hp1 (nw h0)
  have hmx:=mkC_mx nd sz hp3
  refine⟨rfl,rfl,rfl,rfl,rfl,rfl,om (hs.length≤2000000),yn ((idxF me hs 0)<0) (fun h1=> ?_) fun h1=> ?_⟩
  ·refine⟨w4',?_⟩
   have e:begE hs nd wr sz st ph me sh nz=8:=by unfold begE;rw [if_pos (nw h0),if_pos h1]
   obtain⟨e1,e2,e3,e4,e5⟩:=beg_err (show begE hs nd wr sz st ph me sh nz≠0 by rw [e];decide)
   rw [e1,e2,e3,e4,e5,e]
   exact d4'
  ·have hix:=idx_lt h1
   have hmm:=(idxF_mem me hs 0 (by omega)).1 (by omega)
   refine⟨rfl,rfl,om (nd≤7),w4',ny ((sh.length:Int)≠sz) (fun h2=> ?_) fun h2=> ?_⟩
   ·refine yn ((mkE nd sz nz)≠0) (fun h3=> ?_) fun h3=> ?_
    ·refine⟨w4',?_⟩
     have e:begE hs nd wr sz st ph me sh nz=1:=by unfold begE;rw [if_pos (nw h0),if_neg h1,if_neg (fun g=>h3 g.1)]
     obtain⟨e1,e2,e3,e4,e5⟩:=beg_err (show begE hs nd wr sz st ph me sh nz≠0 by rw [e];decide)
     rw [e1,e2,e3,e4,e5,e]
     exact d4'
    ·refine⟨w4',6, [(1,.k),(4,.k),(8,.k),(10,.k),(11,.c [(2,(.sl .str)),(3,(.sl (.sl .str)))]),(12,.o tMl),(13,.k)],fun nM vs H=>∃(k:Nat),k≤hs.length∧nM=hs.length-k∧vs= [.int .i64 me,.ptr 0 1 0 0,.ptr 1 1 0 0,.ptr 2 1 0 0,.ptr 3 1 0 0,.own tMl 6,.int .i64 (k:Int)]∧H= [.cells [.sl false (.int .i64) hs,.int .i64 nd,.int .i64 wr,.int .i64 sz,.int .i64 st,.int .i64 ph],.cells [.int .i64 0,.str ([]),.nils,.nils,.nils,.int .i64 0],.cells [.int .i64 (mkN nd sz nz),.sl true (.sl .str) (mkC nd sz nz),.int .i64 (mkE nd sz nz)],.cells [.int .i64 me,.str sh,.own (.sl .str) 4,.own (.sl (.sl .str)) 5],.row true (.sl .str) (rbR hs nd sz me nz k),.row true (.sl (.sl .str)) (List.replicate k (List.replicate hs.length [])),.row true tMl (rbM hs nd sz me nz k)],⟨rfl,hs.length,0,by omega,by omega,rfl,rfl⟩,?_⟩
     rintro nM vs H ⟨k,hc1_0,rfl,rfl,rfl⟩
     refine yn ((k:Int)<(hs.length:Int)) (fun h4=> ?_) fun h4=> ?_
     ·have hkl:k<hs.length:=by omega
      have hrl:=rbR_len hs nd sz me nz k
      have hml:=rbM_len hs nd sz me nz k
      have hvl:(List.replicate k (List.replicate hs.length ([]:List (List UInt8)))).length=k:=List.length_replicate ..
      have hvs:=repl_snoc k (List.replicate hs.length ([]:List (List UInt8)))
      refine⟨ix k hs.length,yn ((hs.getD k 0)=me) (fun h5=> ?_) fun h5=> ?_⟩
      ·have hrs:=rbR_snoc (nd:=nd) (sz:=sz) (me:=me) (nz:=nz) hkl
       rw [if_pos h5] at hrs
       have hms:=rbM_no (nd:=nd) (sz:=sz) (nz:=nz) hkl h5
       refine⟨rfl,rfl,⟨hmx.1,hmx.2⟩,w2',l9 (rbR hs nd sz me nz k).length,w3',by kernel_rfl,⟨rfl,om ((0:Int)≤(hs.length:Int)),om ((hs.length:Int)≤(1000000000:Int))⟩,w2',l9 (List.replicate k (List.replicate hs.length [])).length,w3',r64 (k+1),?_⟩
       exact⟨rfl,hs.length-(k+1),by omega,k+1,by omega,rfl,rfl,by rw [hrs,hms,hvs];rfl⟩
      ·have hrs:=rbR_snoc (nd:=nd) (sz:=sz) (me:=me) (nz:=nz) hkl
       rw [if_neg h5] at hrs
       have hms:=rbM_yes (nd:=nd) (sz:=sz) (nz:=nz) hkl h5
       refine⟨by kernel_rfl,ix k hs.length,ix k hs.length,rfl,rfl,⟨hmx.1,hmx.2⟩,rfl,rfl,rfl,rfl,w2',l9 (rbM hs nd sz me nz k).length,w2',l9 (rbR hs nd sz me nz k).length,w3',by kernel_rfl,⟨rfl,om ((0:Int)≤(hs.length:Int)),om ((hs.length:Int)≤(1000000000:Int))⟩,w2',l9 (List.replicate k (List.replicate hs.length [])).length,w3',r64 (k+1),?_⟩
       exact⟨rfl,hs.length-(k+1),by omega,k+1,by omega,rfl,rfl,by rw [hrs,hms,hvs];rfl⟩
     ·refine⟨w4',?_⟩
      have hk:k=hs.length:=by omega
      have e:begE hs nd wr sz st ph me sh nz=0:=by unfold begE;rw [if_pos (nw h0),if_neg h1,if_pos ⟨nw h3,nw h2⟩]
      obtain⟨e1,e2,e3,e4,e5⟩:=beg_ok e
      have e6:begR hs nd wr sz st ph me sh nz=rbR hs nd sz me nz k:=e3.trans (by rw [hk,rbR_all hT.ho hmm])
      have e7:begV hs nd wr sz st ph me sh nz=List.replicate k (List.replicate hs.length []):=e4.trans (by rw [hk])
      have e8:begM hs nd wr sz st ph me sh nz=rbM hs nd sz me nz k:=e5.trans (by rw [hk,rbM_all])
      rw [e1,e2,e6,e7,e8,e]
      exact d4'
   ·refine⟨w4',?_⟩
    have e:begE hs nd wr sz st ph me sh nz=1:=by unfold begE;rw [if_pos (nw h0),if_neg h1,if_neg (fun g=>h2 g.2)]
    obtain⟨e1,e2,e3,e4,e5⟩:=beg_err (show begE hs nd wr sz st ph me sh nz≠0 by rw [e];decide)
    rw [e1,e2,e3,e4,e5,e]
    exact d4'
noncomputable def CRBg:List (Nat×Con):=(9,pureC [.v tTk,.v (.int .i64),.v .str,.v .str] sRBg)::CRCp
theorem kRBg:Known Tryd.prog (En CRBg tys G6 QOth):=Known.frz0<|(kRCp.frz [1000002,9000095]).addQ Tryd.func9 Tryd.call9 [.k,.k,.d (.sl .str),.d (.sl (.sl .str)),.d tMl,.k] fun ds _ _ _ h=>by unfold sRBg at h;split at h;exact bRBg _ _ _ _ _ _ _ _ _;cases h
noncomputable def sRPs:List V→Option (Prop×V×List Blk)
 |[.agg [.sl false (.int .i64) hs,.int .i64 nd,.int .i64 wr,.int .i64 sz,.int .i64 st,.int .i64 ph],.agg [.int .i64 me,.str sh,.sl false (.sl .str) rows,.sl false (.sl (.sl .str)) vals]]=>some (hs.length≤12∧hsF (-1) hs=true∧rows.length=hs.length∧vals.length=hs.length∧(∀x∈vals,x.length=hs.length)∧(∀x∈rows,x.length≤1048576)∧(∀x∈hs,0≤x∧x<12)∧me∈hs,.agg [.int .i64 (me),.sl true (.int .i64) (pstL hs me rows vals)], [])
 |_=>none
theorem bRPs (hs:List Int) (nd wr sz st ph me:Int) (sh:List UInt8) (rows:List (List (List UInt8))) (vals:List (List (List (List UInt8)))):bodyQ (En CRBg tys G6 QOth) Tryd.f17 [.k,.d (.int .i64)] sRPs [aTk hs nd wr sz st ph,aSt me sh rows vals]:=by
 rintro⟨hp0,hp1,hp2,hp3,(hp4:(∀x∈vals,x.length=hs.length)),(hp5:(∀x∈rows,x.length≤1048576)),(hp6:(∀x∈hs,0≤x∧x<12)),hp7⟩
 obtain⟨me0,me1⟩:=hp6 _ hp7
 obtain⟨pm0,pm1⟩:=pw12 me0 me1
 refine⟨w4',5, [(2,.k),(3,.k),(4,.k),(5,.c [(1,(.int .i64))]),(6,.k)],fun nM vs H=>∃(k:Nat),k≤hs.length∧nM=hs.length-k∧vs= [.ptr 0 1 0 0,.ptr 1 1 0 0,.ptr 2 1 0 0,.ptr 3 1 0 0,.int .i64 (k:Int)]∧H= [.cells [.sl false (.int .i64) hs,.int .i64 nd,.int .i64 wr,.int .i64 sz,.int .i64 st,.int .i64 ph],.cells [.int .i64 me,.str sh,.sl false (.sl .str) rows,.sl false (.sl (.sl .str)) vals],.cells [.int .i64 0,.nils],.cells [.int .i64 me,.own (.int .i64) 4],.row true (.int .i64) ((List.range k).map (pst1 hs me rows vals))],⟨rfl,hs.length,0,by omega,by omega,rfl,rfl⟩,?_⟩
 rintro nM vs H ⟨k,hc1_0,rfl,rfl,rfl⟩
 refine yn ((k:Int)<(hs.length:Int)) (fun h0=> ?_) fun h0=> ?_
 ·have hkl:k<hs.length:=by omega
  have hkm:=hp5 _ (gmem [] rows k (by omega))
  have hkv:=hp4 _ (gmem [] vals k (by omega))
  have hz:psK hs me rows vals k 0=0:=by unfold psK;split<;>rfl
  have hal:((List.range k).map (pst1 hs me rows vals)).length=k:=by rw [List.length_map,List.length_range]
  refine⟨5, [(2,.k),(3,.k),(4,.k),(5,.k),(6,.k),(7,.k),(8,.k)],fun nM vs H=>∃(i:Nat),i≤hs.length∧nM=hs.length-i∧vs= [.p 0,.p 1,.p 2,.p 3,.i k,.i (psK hs me rows vals k i),.i i]∧H= [cTk hs nd wr sz st ph,cSt me sh rows vals,.cells [.i 0,.nils],.cells [.i me,.own (.int .i64) 4],.r (.int .i64) ((List.range k).map (pst1 hs me rows vals))],⟨rfl,hs.length,0,by omega,by omega,by rw [hz];rfl,rfl⟩,?_⟩
  rintro nM vs H ⟨i,hc2_0,rfl,rfl,rfl⟩
  refine yn ((i:Int)<(hs.length:Int)) (fun h1=> ?_) fun h1=> ?_
  ·have hil:i<hs.length:=by omega
   obtain⟨g0,g1⟩:=hp6 _ (gmem 0 hs i hil)
   obtain⟨w0_,w1_⟩:=pw12 g0 g1
   have hbd:=psS_bd hp1 hp6 (me:=me) (r:=rows.getD k []) (vk:=vals.getD k []) i (by omega)
   have hbe:=hbd.2 i (Nat.le_refl _) hil
   have hpk:0≤psK hs me rows vals k i∧psK hs me rows vals k i≤4096:=by unfold psK;split<;>omega
   refine⟨ix k rows.length,yn (0<(((rows.getD k []).length:Nat):Int)) (fun h2=> ?_) fun h2=> ?_⟩
   ·have hr:¬(rows.getD k []).length=0:=by omega
    refine⟨ix i hs.length,ix k vals.length,ix i (vals.getD k []).length,by kernel_rfl,ny ((hs.getD i 0)=me) (fun h3=> ?_) fun h3=> ?_⟩
    ·refine⟨fun h4=> ?_,cn ((hs.getD i 0)=me)⟩
     refine⟨fun h5=> ?_,cn ((hs.getD i 0)=me)⟩
     refine⟨fun h6=> ?_,cn ((hs.getD i 0)=me)⟩
     refine yn (0<((((vals.getD k []).getD i []).length:Nat):Int)) (fun h7=> ?_) fun h7=> ?_
     ·refine⟨fun h8=> ?_,cp (0<((((vals.getD k []).getD i []).length:Nat):Int))⟩
      refine⟨ix 0 ((vals.getD k []).getD i []).length,fun h9=> ?_,cp (0<((((vals.getD k []).getD i []).length:Nat):Int))⟩
      refine⟨fun h10=> ?_,cp (0<((((vals.getD k []).getD i []).length:Nat):Int))⟩
      refine⟨fun h11=> ?_,cp (0<((((vals.getD k []).getD i []).length:Nat):Int))⟩
      refine⟨fun h12=> ?_,cp (0<((((vals.getD k []).getD i []).length:Nat):Int))⟩
      refine⟨fun h13=> ?_,cp (0<((((vals.getD k []).getD i []).length:Nat):Int))⟩
      refine⟨ix k rows.length,fun h14=> ?_,cp (0<((((vals.getD k []).getD i []).length:Nat):Int))⟩
      refine⟨fun h15=> ?_,cp (0<((((vals.getD k []).getD i []).length:Nat):Int))⟩
      refine⟨fun h16=> ?_,cp (0<((((vals.getD k []).getD i []).length:Nat):Int))⟩
      refine⟨rfl,os ((rows.getD k []).length≤1048576),fun h17=> ?_,cp (0<((((vals.getD k []).getD i []).length:Nat):Int))⟩
      refine⟨fun h18=> ?_,cp (0<((((vals.getD k []).getD i []).length:Nat):Int))⟩
      refine⟨fun h19=> ?_,cn ((hs.getD i 0)=me)⟩
      refine⟨fun h20=> ?_,cp (0<((((vals.getD k []).getD i []).length:Nat):Int))⟩
      refine⟨cn ((hs.getD i 0)=me),fun h21=> ?_⟩
      refine yn ((((vals.getD k []).getD i []).getD 0 [])=(valS (rows.getD k []) (hs.getD i 0))) (fun h22=> ?_) fun h22=> ?_
      ·have hnx:psK hs me rows vals k (i+1)=psK hs me rows vals k i+(2:Int)^(hs.getD i 0).toNat:=by unfold psK;rw [if_neg hr,if_neg hr,psS,if_pos (.inr ⟨by omega,h22⟩)]
       refine⟨rfl,⟨om (0≤(hs.getD i 0)),om ((hs.getD i 0)<12)⟩,r64 ((psK hs me rows vals k i)+((2:Int)^((hs.getD i 0)).toNat)),r64 (i+1),?_⟩
       exact⟨rfl,hs.length-(i+1),by omega,i+1,by omega,rfl,by rw [hnx];rfl,rfl⟩
      ·have hnx:psK hs me rows vals k (i+1)=psK hs me rows vals k i:=by unfold psK;rw [if_neg hr,if_neg hr,psS,if_neg (fun g=>g.elim h3 fun g=>h22 g.2),Int.add_zero]
       refine⟨r64 (i+1),?_⟩
       exact⟨rfl,hs.length-(i+1),by omega,i+1,by omega,rfl,by rw [hnx];rfl,rfl⟩
     ·have hnx:psK hs me rows vals k (i+1)=psK hs me rows vals k i:=by unfold psK;rw [if_neg hr,if_neg hr,psS,if_neg (fun g=>g.elim h3 fun g=>h7 (by omega)),Int.add_zero]
      refine⟨cn (0<((((vals.getD k []).getD i []).length:Nat):Int)),fun h23=> ?_⟩
      refine⟨cn (0<((((vals.getD k []).getD i []).length:Nat):Int)),fun h24=> ?_⟩
      refine⟨cn (0<((((vals.getD k []).getD i []).length:Nat):Int)),fun h25=> ?_⟩
      refine⟨cn (0<((((vals.getD k []).getD i []).length:Nat):Int)),fun h26=> ?_⟩
      refine⟨cn (0<((((vals.getD k []).getD i []).length:Nat):Int)),fun h27=> ?_⟩
      refine⟨cn (0<((((vals.getD k []).getD i []).length:Nat):Int)),fun h28=> ?_⟩
      refine⟨cn (0<((((vals.getD k []).getD i []).length:Nat):Int)),fun h29=> ?_⟩
      refine⟨cn (0<((((vals.getD k []).getD i []).length:Nat):Int)),fun h30=> ?_⟩
      refine⟨cn (0<((((vals.getD k []).getD i []).length:Nat):Int)),fun h31=> ?_⟩
      refine⟨cn (0<((((vals.getD k []).getD i []).length:Nat):Int)),fun h32=> ?_⟩
      refine⟨cn (0<((((vals.getD k []).getD i []).length:Nat):Int)),fun h33=> ?_⟩
      refine⟨fun h34=> ?_,cn ((hs.getD i 0)=me)⟩
      refine⟨cn (0<((((vals.getD k []).getD i []).length:Nat):Int)),fun h35=> ?_⟩
      refine⟨cn ((hs.getD i 0)=me),fun h36=> ?_⟩
      refine⟨r64 (i+1),?_⟩
      exact⟨rfl,hs.length-(i+1),by omega,i+1,by omega,rfl,by rw [hnx];rfl,rfl⟩
    ·have hnx:psK hs me rows vals k (i+1)=psK hs me rows vals k i+(2:Int)^(hs.getD i 0).toNat:=by unfold psK;rw [if_neg hr,if_neg hr,psS,if_pos (.inl h3)]
     refine⟨cp ((hs.getD i 0)=me),fun h37=> ?_⟩
     refine⟨cp ((hs.getD i 0)=me),fun h38=> ?_⟩
     refine⟨cp ((hs.getD i 0)=me),fun h39=> ?_⟩
     refine⟨cp ((hs.getD i 0)=me),fun h40=> ?_⟩
     refine⟨fun h41=> ?_,cp ((hs.getD i 0)=me)⟩
     refine⟨rfl,⟨om (0≤(hs.getD i 0)),om ((hs.getD i 0)<12)⟩,r64 ((psK hs me rows vals k i)+((2:Int)^((hs.getD i 0)).toNat)),r64 (i+1),?_⟩
     exact⟨rfl,hs.length-(i+1),by omega,i+1,by omega,rfl,by rw [hnx];rfl,rfl⟩
   ·have hps:psK hs me rows vals k i=pst1 hs me rows vals k:=by unfold psK pst1;rw [if_pos (by omega),if_pos (by omega)]
    have hst:(List.range (k+1)).map (pst1 hs me rows vals)=(List.range k).map (pst1 hs me rows vals)++ [psK hs me rows vals k i]:=by rw [range_snoc,hps]
    refine⟨rfl,w2',l9 ((List.range k).map (pst1 hs me rows vals)).length,w3',r64 (k+1),?_⟩
    exact⟨rfl,hs.length-(k+1),by omega,k+1,by omega,rfl,rfl,by rw [hst];rfl⟩
  ·have hps:psK hs me rows vals k i=pst1 hs me rows vals k:=by rw [show i=hs.length by omega,psK_all hp1 hp6 hp7]
   have hst:(List.range (k+1)).map (pst1 hs me rows vals)=(List.range k).map (pst1 hs me rows vals)++ [psK hs me rows vals k i]:=by rw [range_snoc,hps]
   refine⟨rfl,w2',l9 ((List.range k).map (pst1 hs me rows vals)).length,w3',r64 (k+1),?_⟩
   exact⟨rfl,hs.length-(k+1),by omega,k+1,by omega,rfl,rfl,by rw [hst];rfl⟩
 ·refine⟨w4',?_⟩
  rw [show pstL hs me rows vals=(List.range k).map (pst1 hs me rows vals) by rw [pstL,show k=hs.length by omega]]
  exact d4'
noncomputable def CRPs:List (Nat×Con):=(17,pureC [.v tTk,.v tSt] sRPs)::CRBg
theorem kRPs:Known Tryd.prog (En CRPs tys G6 QOth):=kRBg.addQ Tryd.func17 Tryd.call17 [.k,.d (.int .i64)] fun ds _ _ _ h=>by unfold sRPs at h;split at h;exact bRPs _ _ _ _ _ _ _ _ _ _;cases h
end Go.Proofs.YtlmegkgkipjgbaaDoor.S33c

/- Texts of this claim. -/
import Derived.Test.YtlmegkgkipjgbaaDoorS2
set_option linter.unusedVariables false
set_option linter.unusedSimpArgs false
namespace Go.Proofs.YtlmegkgkipjgbaaDoor.S33
set_option maxHeartbeats 20000000
open Go Go.Proofs.YtlmegkgkipjgbaaDoor.Vc Go.Proofs
set_option maxRecDepth 100000
set_option linter.unusedVariables false
def sRChk:List V→Option (Prop×V×List Blk)
 |[.agg [.int .i64 nd,.sl false (.sl .str) cf]]=>some (cf.length≤1048576∧(∀l∈cf,l.length≤1048576∧∀x∈l,x.length≤1048576),.int .i64 (chkD nd cf), [])
 |_=>none
theorem bRChk (nd:Int) (cf:List (List (List UInt8))):bodyQ (En CRUpd tys G6 []) Tryd.f69 [.k] sRChk [.agg [.int .i64 nd,.sl false (.sl .str) cf]]:=by
 rintro⟨hp0,(hp1:(∀l∈cf,l.length≤1048576∧∀x∈l,x.length≤1048576))⟩
 refine ny (nd<2) (fun h0=> ?_) fun h0=> ?_
 ·refine yn (12<nd) (fun h1=> ?_) fun h1=> ?_
  ·have e:chkD nd cf=3:=if_pos (by omega)
   rw [e]
   exact d4'
  ·have hnd:¬(nd<2∨12<nd):=by omega
   refine⟨r64 (nd-1),yn ((cf.length:Int)≠(nd-1)) (fun h2=> ?_) fun h2=> ?_⟩
   ·have e:chkD nd cf=1:=by unfold chkD;rw [if_neg hnd,if_pos h2]
    rw [e]
    exact d4'
   ·refine⟨1, [(1,.k),(3,.k),(4,.k)],fun nM vs H=>∃(a:Nat),a≤cf.length∧(∀i,i<a→(cf.getD i []).length=cf.length)∧nM=cf.length-a∧vs= [.p 0,.i (nd-1),.i a]∧H= [.cells [.i nd,.sl false (.sl .str) cf]],⟨rfl,cf.length,0,by omega,fun i hi=>absurd hi (by omega),by omega,rfl,rfl⟩,?_⟩
    rintro nM vs H ⟨a,hc1_0,hc1_1,rfl,rfl,rfl⟩
    refine yn ((a:Int)<(nd-1)) (fun h3=> ?_) fun h3=> ?_
    ·refine⟨ix a cf.length,yn ((((cf.getD a []).length:Nat):Int)≠(nd-1)) (fun h4=> ?_) fun h4=> ?_⟩
     ·have e:=ck_len hnd h2 (a:=a) (by omega) (by omega)
      rw [e]
      exact d4'
     ·refine⟨r64 (a+1),?_⟩
      exact⟨rfl,cf.length-(a+1),by omega,a+1,by omega,lt_ext hc1_1 (by omega),rfl,rfl,rfl⟩
    ·have hl:∀i,i<cf.length→(cf.getD i []).length=cf.length:=fun i hi=>hc1_1 i (by omega)
     refine⟨1, [(1,.k),(3,.k),(5,.k)],fun nM vs H=>∃(a:Nat),a≤cf.length∧(∀i,i<a→∀j,j<cf.length→((cf.getD i []).getD j []).length=n00 cf)∧nM=cf.length-a∧vs= [.p 0,.i (nd-1),.i a]∧H= [.cells [.i nd,.sl false (.sl .str) cf]],⟨rfl,cf.length,0,by omega,fun i hi=>absurd hi (by omega),by omega,rfl,rfl⟩,?_⟩
     rintro nM vs H ⟨a,hc2_0,hc2_1,rfl,rfl,rfl⟩
     refine yn ((a:Int)<(nd-1)) (fun h5=> ?_) fun h5=> ?_
     ·have hla:=hl a (by omega)
      have hl0:=hl 0 (by omega)
      refine⟨1, [(1,.k),(3,.k),(5,.k),(6,.k)],fun nM vs H=>∃(b:Nat),b≤cf.length∧(∀j,j<b→((cf.getD a []).getD j []).length=n00 cf)∧nM=cf.length-b∧vs= [.p 0,.i (nd-1),.i a,.i b]∧H= [.cells [.i nd,.sl false (.sl .str) cf]],⟨rfl,cf.length,0,by omega,fun i hi=>absurd hi (by omega),by omega,rfl,rfl⟩,?_⟩
      rintro nM vs H ⟨b,hc3_0,hc3_1,rfl,rfl,rfl⟩
      refine yn ((b:Int)<(nd-1)) (fun h6=> ?_) fun h6=> ?_
      ·have hn0:((cf.getD 0 []).getD 0 []).length=n00 cf:=rfl
       refine⟨by kernel_rfl,ix a cf.length,ix b (cf.getD a []).length,ix 0 cf.length,ix 0 (cf.getD 0 []).length,yn (((((cf.getD a []).getD b []).length:Nat):Int)≠((((cf.getD 0 []).getD 0 []).length:Nat):Int)) (fun h7=> ?_) fun h7=> ?_⟩
       ·have e:=ck_ent hnd h2 hl (a:=a) (b:=b) (by omega) (by omega) (fun g=>h7 (by omega))
        rw [e]
        exact d4'
       ·refine⟨r64 (b+1),?_⟩
        exact⟨rfl,cf.length-(b+1),by omega,b+1,by omega,lt_ext hc3_1 (by omega),rfl,rfl,rfl⟩
      ·refine⟨r64 (a+1),?_⟩
       exact⟨rfl,cf.length-(a+1),by omega,a+1,by omega,lt_ext hc2_1 (fun j hj=>hc3_1 j (by omega)),rfl,rfl,rfl⟩
     ·have he:∀i j,i<cf.length→j<cf.length→((cf.getD i []).getD j []).length=n00 cf:=fun i j hi hj=>hc2_1 i (by omega) j hj
      have hn0:((cf.getD 0 []).getD 0 []).length=n00 cf:=rfl
      have hl0:=hl 0 (by omega)
      refine⟨ix 0 cf.length,ix 0 (cf.getD 0 []).length,yn (4096<((((cf.getD 0 []).getD 0 []).length:Nat):Int)) (fun h8=> ?_) fun h8=> ?_⟩
      ·have e:=ck_lim hnd h2 hl he (by omega)
       rw [e]
       exact d4'
      ·refine⟨1, [(1,.k),(3,.k),(7,.k)],fun nM vs H=>∃(a:Nat),a≤cf.length∧(∀i,i<a→∀j,j<cf.length→(cf.getD i []).getD j []=(cf.getD j []).getD i [])∧nM=cf.length-a∧vs= [.p 0,.i (nd-1),.i a]∧H= [.cells [.i nd,.sl false (.sl .str) cf]],⟨rfl,cf.length,0,by omega,fun i hi=>absurd hi (by omega),by omega,rfl,rfl⟩,?_⟩
       rintro nM vs H ⟨a,hc4_0,hc4_1,rfl,rfl,rfl⟩
       refine yn ((a:Int)<(nd-1)) (fun h9=> ?_) fun h9=> ?_
       ·refine⟨1, [(1,.k),(3,.k),(7,.k),(8,.k)],fun nM vs H=>∃(b:Nat),b≤cf.length∧(∀j,j<b→(cf.getD a []).getD j []=(cf.getD j []).getD a [])∧nM=cf.length-b∧vs= [.p 0,.i (nd-1),.i a,.i b]∧H= [.cells [.i nd,.sl false (.sl .str) cf]],⟨rfl,cf.length,0,by omega,fun i hi=>absurd hi (by omega),by omega,rfl,rfl⟩,?_⟩
        rintro nM vs H ⟨b,hc5_0,hc5_1,rfl,rfl,rfl⟩
        refine yn ((b:Int)<(nd-1)) (fun h10=> ?_) fun h10=> ?_
        ·have hla:=hl a (by omega)
         have hlb:=hl b (by omega)
         refine⟨by kernel_rfl,ix a cf.length,ix b (cf.getD a []).length,ix b cf.length,ix a (cf.getD b []).length,yn (((cf.getD a []).getD b [])≠((cf.getD b []).getD a [])) (fun h11=> ?_) fun h11=> ?_⟩
         ·have e:=ck_sym hnd h2 hl he (by omega) (a:=a) (b:=b) (by omega) (by omega) h11
          rw [e]
          exact d4'
         ·have hok:=nw h11
          refine⟨r64 (b+1),?_⟩
          exact⟨rfl,cf.length-(b+1),by omega,b+1,by omega,lt_ext hc5_1 hok,rfl,rfl,rfl⟩
        ·refine⟨r64 (a+1),?_⟩
         exact⟨rfl,cf.length-(a+1),by omega,a+1,by omega,lt_ext hc4_1 (fun j hj=>hc5_1 j (by omega)),rfl,rfl,rfl⟩
       ·have e:=ck_okR hnd h2 hl he (by omega) (fun i j hi hj=>hc4_1 i (by omega) j hj)
        rw [e]
        exact d4'
 ·have e:chkD nd cf=3:=if_pos (by omega)
  rw [e]
  exact d4'
def CRChk:List (Nat×Con):=(69,pureC [.v (.cons (.int .i64) (.cons (.sl (.sl .str)) .nil))] sRChk)::CRUpd
theorem kRChk:Known Tryd.prog (En CRChk tys G6 []):=kRUpd.addQ Tryd.func69 Tryd.call69 [.k] fun ds _ _ _ h=>by unfold sRChk at h;split at h;exact bRChk _ _;cases h
def sRRow:List V→Option (Prop×V×List Blk)
 |[.agg [.int .i64 nd,.sl false (.sl .str) cf],.int .i64 h]=>some (cf.length≤1048576∧(∀l∈cf,l.length≤1048576∧∀x∈l,x.length≤1048576),.agg [.sl true .str (rowL nd cf h),.int .i64 (rowE nd cf h)], [])
 |_=>none
theorem bRRow (nd:Int) (cf:List (List (List UInt8))) (h:Int):bodyQ (En CRChk tys G6 []) Tryd.f38 [.d .str,.k] sRRow [.agg [.int .i64 nd,.sl false (.sl .str) cf],.int .i64 h]:=by
 rintro⟨hp0,(hp1:(∀l∈cf,l.length≤1048576∧∀x∈l,x.length≤1048576))⟩
 refine⟨rfl,⟨om (cf.length≤1048576),by first|assumption|simp⟩,yn ((chkD nd cf)≠0) (fun h0=> ?_) fun h0=> ?_⟩
 ·refine⟨w4',?_⟩
  have e:rowE nd cf h=chkD nd cf:=if_neg h0
  rw [rowL,if_neg (by rw [e];exact h0),e]
  exact d4'
 ·have hc:=nw h0
  have hd:=chkD0 hc
  obtain⟨d1,d2,d3,d4,d5,d6,d7⟩:=id hd
  refine⟨rfl,trivial,yn (¬(knw h)) (fun h1=> ?_) fun h1=> ?_⟩
  ·refine⟨w4',?_⟩
   have e:rowE nd cf h=8:=by unfold rowE;rw [if_pos hc,if_neg h1]
   rw [rowL,if_neg (by rw [e];decide),e]
   exact d4'
  ·have hk:=nw h1
   obtain⟨k1,k2⟩:=id hk
   refine⟨2, [(1,.k),(2,.k),(4,.k),(7,.o .str),(8,.k)],fun nM vs H=>∃(k:Nat),k≤cf.length∧nM=cf.length-k∧vs= [.i h,.p 0,.p 1,.own .str 2,.i k]∧H= [.cells [.i nd,.sl false (.sl .str) cf],.cells [.nils,.i 0],.r .str ((cf.take k).map fun l=>atL l (pt h))],⟨rfl,cf.length,0,by omega,by omega,rfl,rfl⟩,?_⟩
   rintro nM vs H ⟨k,hc1_0,rfl,rfl,rfl⟩
   refine⟨r64 (nd-1),yn ((k:Int)<(nd-1)) (fun h2=> ?_) fun h2=> ?_⟩
   ·have hkl:k<cf.length:=by omega
    have hm:=getD_mem [] cf k hkl
    have hr4:=d4 _ hm
    have hrn0:n0 (cf.getD k [])=n00 cf:=d5 _ hm _ (getD_mem [] _ 0 (by omega))
    have hr5:∀x∈cf.getD k [],x.length≤1048576:=(hp1 _ hm).2
    have hml:((cf.take k).map fun l=>atL l (pt h)).length=k:=by rw [List.length_map,List.length_take];omega
    refine⟨ix k cf.length,r64 (h+1),⟨os (1≤(cf.getD k []).length),os ((cf.getD k []).length≤1000000),(fun s hs=>(d5 _ hm s hs).trans hrn0.symm),Nat.le_trans (Nat.le_of_eq hrn0) (by omega)⟩,w2',l9 ((cf.take k).map fun l=>atL l (pt h)).length,r64 (k+1),?_⟩
    exact⟨rfl,cf.length-(k+1),by omega,k+1,by omega,rfl,rfl,by rw [map_take_snoc [] _ cf k hkl];rfl⟩
   ·refine⟨w4',?_⟩
    have e:rowE nd cf h=0:=by unfold rowE;rw [if_pos hc,if_pos hk]
    rw [rowL,if_pos e,e,rowD,show k=cf.length by omega,List.take_length]
    exact d4'
def CRRow:List (Nat×Con):=(38,pureC [.v (.cons (.int .i64) (.cons (.sl (.sl .str)) .nil)),.v (.int .i64)] sRRow)::CRChk
theorem kRRow:Known Tryd.prog (En CRRow tys G6 []):=kRChk.addQ Tryd.func38 Tryd.call38 [.d .str,.k] fun ds _ _ _ h=>by unfold sRRow at h;split at h;exact bRRow _ _ _;cases h
end Go.Proofs.YtlmegkgkipjgbaaDoor.S33
namespace Go.Proofs.YtlmegkgkipjgbaaDoor.S33c
set_option maxHeartbeats 20000000
open Go Go.Proofs.YtlmegkgkipjgbaaDoor.Vc Go.Proofs Go.Proofs.YtlmegkgkipjgbaaDoor.S33
section
abbrev Ps:=List (Int×List Int)
def nxt (set h:Int):Int:=((set.toNat|||((1:Int)*2^h.toNat).toNat:Nat):Int)
def bad1 (e:Int×List Int) (k set h:Int):Prop:=(((set/2^e.1.toNat).toNat&&&1:Nat):Int)=1∧((((e.2.getD k.toNat 0)/2^h.toNat).toNat&&&1:Nat):Int)=0
def fits (es:Ps) (k set h:Int):Prop:=∃ag,mget es h=some ag∧(((ag.getD k.toNat 0).toNat&&&(nxt set h).toNat:Nat):Int)=nxt set h∧∀e∈es,¬bad1 e k set h
open Classical in
noncomputable def cl (es:Ps) (k:Int):List Int→Int→Int→Int
 |[],set,more=>if more=0 then set else -1
 |h::l,set,more=>if more=0 then set else if fits es k set h then(if 0≤cl es k l (nxt set h) (more-1) then cl es k l (nxt set h) (more-1) else cl es k l set more) else cl es k l set more
structure SrOk (hs:List Int) (es:Ps) (k set more fr:Int):Prop where
 set0:0≤set
 set1:set<4096
 fr0:0≤fr
 fr1:fr≤hs.length
 k0:0≤k
 k1:k<hs.length
 m0:0≤more
 m1:more≤20
 l1:hs.length≤20
 hs1:∀h∈hs,0≤h∧h<12
 es1:∀e∈es,(0≤e.1∧e.1<12)∧e.2.length=hs.length∧∀x∈e.2,0≤x∧x<4096
theorem gD {α:Type} {d:α} {l:List α} {i:Nat} (h:i<l.length):l.getD i d=l[i]:=by simp [List.getD,h]
theorem gmem {α:Type} (d:α):∀(l:List α) (i:Nat),i<l.length→l.getD i d∈l:=fun l i h=>by
 rw [gD h];exact List.getElem_mem h
theorem mget_mem {es:Ps} {n:Int} {x:List Int} (h:mget es n=some x):(n,x)∈es:=by
 induction es with
 |nil=>simp [mget] at h
 | cons e es ih=>
  obtain⟨a,b⟩:=e
  simp only [mget] at h
  split at h
  ·rename_i hh
   simp_all
  ·exact List.mem_cons_of_mem _ (ih h)
theorem cl_zero (es:Ps) (k set:Int):∀l,cl es k l set 0=set
 |[]=>by simp [cl]
 |h::l=>by simp [cl]
theorem drop_at (hs:List Int) (i:Nat) (h:i<hs.length):hs.drop i=hs.getD i 0::hs.drop (i+1):=by
 rw [List.drop_eq_getElem_cons h,gD h]
theorem cl_skip {es:Ps} {k set more:Int} {hs:List Int} {i:Nat} (h:i<hs.length) (hm:¬more=0) (hf:¬fits es k set (hs.getD i 0)):cl es k (hs.drop (i+1)) set more=cl es k (hs.drop i) set more:=by
 rw [drop_at hs i h,cl,if_neg hm,if_neg hf]
theorem cl_no {es:Ps} {k set more:Int} {hs:List Int} {i:Nat} (h:i<hs.length) (hm:¬more=0) (hf:¬0≤cl es k (hs.drop (i+1)) (nxt set (hs.getD i 0)) (more-1)):cl es k (hs.drop (i+1)) set more=cl es k (hs.drop i) set more:=by
 rw [drop_at hs i h,cl,if_neg hm,if_neg hf]
 split<;>rfl
theorem cl_yes {es:Ps} {k set more:Int} {hs:List Int} {i:Nat} (h:i<hs.length) (hm:¬more=0) (hf:fits es k set (hs.getD i 0)) (hx:0≤cl es k (hs.drop (i+1)) (nxt set (hs.getD i 0)) (more-1)):cl es k (hs.drop (i+1)) (nxt set (hs.getD i 0)) (more-1)=cl es k (hs.drop i) set more:=by
 rw [drop_at hs i h,cl,if_neg hm,if_pos hf,if_pos hx]
theorem cl_end {es:Ps} {k set more:Int} {hs:List Int} {i:Nat} (h:hs.length≤i) (hm:¬more=0):cl es k (hs.drop i) set more= -1:=by
 rw [List.drop_eq_nil_of_le h,cl,if_neg hm]
def rem (n:Nat) (l:List Nat):Nat:=(List.range n).countP fun i=>decide (i∉l)
theorem countP_lt {p q:Nat→Bool}:∀(l:List Nat),(∀x,q x=true→p x=true)→(∃x∈l,p x=true∧q x=false)→l.countP q<l.countP p
 |[],_,h=>by obtain⟨_,h,_⟩:=h;cases h
 | a::l,hpq,h=>by
  have hle:l.countP q≤l.countP p:=List.countP_mono_left fun x _=>hpq x
  obtain⟨x,hx,h1,h2⟩:=h
  rw [List.countP_cons,List.countP_cons]
  rcases List.mem_cons.1 hx with rfl|hx
  ·rw [h1,h2];simp;omega
  ·have:=countP_lt l hpq ⟨x,hx,h1,h2⟩
   cases hq:q a with
   |true=>rw [hpq a hq,if_pos rfl];omega
   |false=>rw [if_neg (by decide)];omega
theorem rem_lt {n i:Nat} {l:List Nat} (h:i<n) (hi:¬i∈l):rem n (l++ [i])<rem n l:=by
 refine countP_lt _ (fun x hx=> ?_) ⟨i,List.mem_range.2 h,decide_eq_true hi,decide_eq_false fun hn=>hn (List.mem_append.2 (.inr (List.mem_singleton.2 rfl)))⟩
 exact decide_eq_true fun hx2=>(of_decide_eq_true hx) (List.mem_append.2 (.inl hx2))
theorem pw12 {h:Int} (h0:0≤h) (h1:h<12):(1:Int)≤2^h.toNat∧(2:Int)^h.toNat≤2048:=by
 obtain⟨n,rfl⟩:=Int.eq_ofNat_of_zero_le h0
 have hn:n<12:=by omega
 rw [Int.toNat_natCast]
 refine⟨?_,?_⟩
 ·have:=Int.pow_pos (n:=2) (m:=n) (by omega);omega
 ·have h:=Nat.pow_le_pow_right (n:=2) (by omega) (show n≤11 by omega)
  have h2:((2^n:Nat):Int)≤((2^11:Nat):Int):=Int.ofNat_le.2 h
  rw [Int.natCast_pow] at h2
  exact h2
theorem pwn (i:Nat) (h:i≤12):(1:Int)≤2^i∧(2:Int)^i≤4096:=by
 refine⟨?_,?_⟩
 ·have:=Int.pow_pos (n:=2) (m:=i) (by omega);omega
 ·have h:=Nat.pow_le_pow_right (n:=2) (by omega) h
  have h2:((2^i:Nat):Int)≤((2^12:Nat):Int):=Int.ofNat_le.2 h
  rw [Int.natCast_pow] at h2
  exact h2
theorem nxt_lt {set h:Int} (s0:0≤set) (s1:set<4096) (h0:0≤h) (h1:h<12):0≤nxt set h∧nxt set h<4096:=by
 obtain⟨p1,p2⟩:=pw12 h0 h1
 have:set.toNat|||((1:Int)*2^h.toNat).toNat<2^12:=Nat.or_lt_two_pow (by omega) (by omega)
 unfold nxt
 omega
end
set_option maxRecDepth 100000
def hsF:Int→List Int→Bool
 |_, []=>true
 |p,h::t=>decide (0≤h∧h≤11∧p<h)&&hsF h t
def prv (hs:List Int) (k:Nat):Int:=if k=0 then -1 else hs.getD (k-1) 0
theorem prv_zero (hs:List Int) {k:Nat} (h:¬0<k):prv hs k= -1:=if_pos (by omega)
theorem prv_pos (hs:List Int) {k:Nat} (h:0<k):prv hs k=hs.getD (k-1) 0:=if_neg (by omega)
theorem drop_one {α:Type} (d:α) (l:List α) (k:Nat) (h:k<l.length):l.drop k=l.getD k d::l.drop (k+1):=by
 rw [List.drop_eq_getElem_cons h]
 simp [List.getD_eq_getElem?_getD,h]
theorem hs_next {hs:List Int} {k:Nat} (hk:k<hs.length) (hc:hsF (prv hs k) (hs.drop k)=hsF (-1) hs) (h:0≤hs.getD k 0∧hs.getD k 0≤11∧prv hs k<hs.getD k 0):hsF (prv hs (k+1)) (hs.drop (k+1))=hsF (-1) hs:=by
 rw [←hc,drop_one 0 hs k hk,hsF,decide_eq_true h,Bool.true_and];rfl
theorem hs_bad {hs:List Int} {k:Nat} (hk:k<hs.length) (hc:hsF (prv hs k) (hs.drop k)=hsF (-1) hs) (h:¬(0≤hs.getD k 0∧hs.getD k 0≤11∧prv hs k<hs.getD k 0)):hsF (-1) hs=false:=by
 rw [←hc,drop_one 0 hs k hk,hsF,decide_eq_false h,Bool.false_and]
theorem hs_end {hs:List Int} {k:Nat} (hk:k=hs.length) (hc:hsF (prv hs k) (hs.drop k)=hsF (-1) hs):hsF (-1) hs=true:=by
 rw [←hc,hk,List.drop_length];rfl
theorem hsF_len:∀(l:List Int) (p:Int),-1≤p→hsF p l=true→p≤11→(List.length l:Int)≤11-p
 |[],p,_,_,hp=>by simp only [List.length_nil];omega
 |h::t,p,h0,hh,hp=>by
  simp only [hsF,Bool.and_eq_true,decide_eq_true_eq] at hh
  have:=hsF_len t h (by omega) hh.2 (by omega)
  simp only [List.length_cons];omega
theorem hsF_at:∀(l:List Int) (p:Int) (k:Nat),hsF p l=true→k<l.length→0≤l.getD k 0∧l.getD k 0≤11
 |[],p,k,_,hk=>by simp at hk
 |h::t,p,0,hh,hk=>by
  simp only [hsF,Bool.and_eq_true,decide_eq_true_eq] at hh
  exact⟨hh.1.1,hh.1.2.1⟩
 |h::t,p,k+1,hh,hk=>by
  simp only [hsF,Bool.and_eq_true,decide_eq_true_eq] at hh
  have:=hsF_at t h k hh.2 (by simpa using hk)
  simpa using this
def idxF (v:Int):List Int→Int→Int
 |[],_=> -1
 |x::t,k=>if v=x then k else idxF v t (k+1)
theorem idxF_mem (v:Int):∀(l:List Int) (k:Int),0≤k→(0≤idxF v l k↔v∈l)
 |[],k,_=>by simp [idxF]
 | x::t,k,h=>by
  unfold idxF
  split
  ·rename_i e;subst e;simp [h]
  ·rename_i e
   rw [idxF_mem v t (k+1) (by omega)]
   simp [e]

def rngT (nd wr sz st ph:Int):Prop:=((2≤nd∧nd≤12)∧(0≤wr∧wr≤12)∧(1≤sz∧sz≤4096)∧(0≤st∧st≤1000000)∧(1≤ph∧ph≤1000000))∧st+3*ph≤1000000
instance (nd wr sz st ph:Int):Decidable (rngT nd wr sz st ph):=by unfold rngT;infer_instance
def tkE (hs:List Int) (nd wr sz st ph:Int):Int:=
 if hsF (-1) hs=false then 1 else if rngT nd wr sz st ph then(if(hs.length:Int)<nd+wr∨(hs.length:Int)<nd-1+3*wr then 29 else 0) else 3
structure Tk (hs:List Int) (nd wr sz st ph:Int):Prop where
 ho:hsF (-1) hs=true
 rg:rngT nd wr sz st ph
 q1:nd+wr≤hs.length
 q2:nd-1+3*wr≤hs.length
 l12:hs.length≤12
theorem tk0 {hs:List Int} {nd wr sz st ph:Int} (h:tkE hs nd wr sz st ph=0):Tk hs nd wr sz st ph:=by
 unfold tkE at h
 split at h
 ·omega
 ·rename_i h1
  split at h
  ·rename_i h2
   split at h
   ·omega
   ·have h1:hsF (-1) hs=true:=by simpa using h1
    have:=hsF_len hs (-1) (by omega) h1 (by omega)
    exact⟨h1,h2,by omega,by omega,by omega⟩
  ·omega
theorem Tk.e {hs:List Int} {nd wr sz st ph:Int} (h:Tk hs nd wr sz st ph):tkE hs nd wr sz st ph=0:=by
 unfold tkE
 rw [if_neg (by rw [h.ho];simp),if_pos h.rg,if_neg (by have:=h.q1;have:=h.q2;omega)]
theorem tk1 {hs:List Int} {nd wr sz st ph:Int} (e:hsF (-1) hs=false):tkE hs nd wr sz st ph=1:=if_pos e
theorem tk3 {hs:List Int} {nd wr sz st ph:Int} (e:hsF (-1) hs=true) (h:¬rngT nd wr sz st ph):tkE hs nd wr sz st ph=3:=by
 unfold tkE;rw [if_neg (by rw [e];simp),if_neg h]
theorem tk29 {hs:List Int} {nd wr sz st ph:Int} (e:hsF (-1) hs=true) (h:rngT nd wr sz st ph) (hq:(hs.length:Int)<nd+wr∨(hs.length:Int)<nd-1+3*wr):tkE hs nd wr sz st ph=29:=by
 unfold tkE;rw [if_neg (by rw [e];simp),if_pos h,if_pos hq]
theorem tkOk {hs:List Int} {nd wr sz st ph:Int} (e:hsF (-1) hs=true) (h:rngT nd wr sz st ph) (hq:¬((hs.length:Int)<nd+wr∨(hs.length:Int)<nd-1+3*wr)):tkE hs nd wr sz st ph=0:=by
 unfold tkE;rw [if_neg (by rw [e];simp),if_pos h,if_neg hq]
def wildE (a x:Int):Prop:=x<0∨¬(((x.toNat^^^(x.toNat&&&a.toNat)):Nat):Int)=0
instance (a x:Int):Decidable (wildE a x):=by unfold wildE;infer_instance
def ixP {α:Type} (p:α→Bool):List α→Nat→Int
 |[],_=> -1
 |a::l,k=>if p a=true then k else ixP p l (k+1)
theorem ixP_none {α:Type} {p:α→Bool}:∀{l:List α} {k:Nat},ixP p l k<0↔∀a∈l,p a=false
 |[],k=>by simp [ixP]
 | a::l,k=>by
  unfold ixP
  split
  ·rename_i h
   constructor
   ·intro g;omega
   ·intro g;have:=g a (by simp);rw [h] at this;cases this
  ·rename_i h
   rw [ixP_none]
   constructor
   ·intro g b hb
    rcases List.mem_cons.1 hb with rfl|hb
    ·simpa using h
    ·exact g b hb
   ·intro g b hb;exact g b (by simp [hb])
theorem ixP_is (p:Int→Bool) {q:Int→Prop} (l:List Int) (h:∀i,p i=true↔q i):0≤ixP p l 0↔∃i∈l,q i:=by
 constructor
 ·intro g
  refine Classical.byContradiction fun hn=> ?_
  have:=(ixP_none (p:=p) (l:=l) (k:=0)).2 fun a ha=>by
   cases hp:p a with
   |false=>rfl
   |true=>exact absurd ⟨a,ha,(h a).1 hp⟩ hn
  omega
 ·rintro⟨i,hi,hq⟩
  refine Classical.byContradiction fun hn=> ?_
  have:=(ixP_none (p:=p) (l:=l) (k:=0)).1 (by omega) i hi
  rw [(h i).2 hq] at this;cases this
open Go Go.Proofs.YtlmegkgkipjgbaaDoor.Vc Go.Proofs
set_option linter.unusedVariables false
open Go.Proofs.YtlmegkgkipjgbaaDoor.S33
def sWi:List V→Option (Prop×V×List Blk)
 |[.int .i64 x,.int .i64 lo,.int .i64 hi]=>some (True,.b (lo≤x∧x≤hi), [])
 |_=>none
theorem bWi (x lo:Int) (hi:Int):bodyQ (En CRRow tys G6 []) Tryd.f39 [.k] sWi [.int .i64 x,.int .i64 lo,.int .i64 hi]:=by
 intro _
 refine yn (lo≤x) (fun h0=> ?_) fun h0=> ?_
 ·exact⟨rfl,rfl,congrArg V.b (propext (by constructor<;>intro h<;>first|omega|(exfalso;first|omega|exact Bool.noConfusion h))),rfl⟩
 ·exact⟨rfl,rfl,congrArg V.b (propext (by constructor<;>intro h<;>first|omega|(exfalso;first|omega|exact Bool.noConfusion h))),rfl⟩
def CWi:List (Nat×Con):=(39,pureC [.v (.int .i64),.v (.int .i64),.v (.int .i64)] sWi)::CRRow
theorem kWi:Known Tryd.prog (En CWi tys G6 []):=kRRow.addQ Tryd.func39 Tryd.call39 [.k] fun ds _ _ _ h=>by unfold sWi at h;split at h;exact bWi _ _ _;cases h
def sChk:List V→Option (Prop×V×List Blk)
 |[.agg [.sl false (.int .i64) hs,.int .i64 nd,.int .i64 wr,.int .i64 sz,.int .i64 st,.int .i64 ph]]=>some (hs.length≤2000000,.int .i64 (tkE hs nd wr sz st ph), [])
 |_=>none
theorem bChk (hs:List Int) (nd wr sz st ph:Int):bodyQ (En CWi tys G6 []) Tryd.f10 [.k] sChk [aTk hs nd wr sz st ph]:=by
 intro hp0
 refine⟨1, [(1,.k),(8,.k),(9,.k),(10,.k)],fun nM vs H=>∃(k:Nat),k≤hs.length∧hsF (prv hs k) (hs.drop k)=hsF (-1) hs∧nM=hs.length-k∧vs= [.p 0,.sl false (.int .i64) hs,.i (hs.length:Int),.i k]∧H= [cTk hs nd wr sz st ph],⟨rfl,hs.length,0,by omega,rfl,by omega,rfl,rfl⟩,?_⟩
 rintro nM vs H ⟨k,hc1_0,hc1_1,rfl,rfl,rfl⟩
 refine yn ((k:Int)<(hs.length:Int)) (fun h0=> ?_) fun h0=> ?_
 ·have hkl:k<hs.length:=by omega
  have hk1:((k:Int)-1).toNat=k-1:=by omega
  refine⟨ix k hs.length,ny ((hs.getD k 0)<0) (fun h1=> ?_) fun h1=> ?_⟩
  ·refine ny (12≤(hs.getD k 0)) (fun h2=> ?_) fun h2=> ?_
   ·refine yn (0<(k:Int)) (fun h3=> ?_) fun h3=> ?_
    ·refine⟨r64 (k-1),ix (k-1) hs.length,yn ((hs.getD k 0)≤(hs.getD (((k:Int)-1).toNat) 0)) (fun h4=> ?_) fun h4=> ?_⟩
     ·rw [hk1] at h4
      have e:=hs_bad hkl hc1_1 (by rw [prv_pos hs (by omega)];omega)
      rw [tk1 e]
      exact d4'
     ·rw [hk1] at h4
      refine⟨r64 (k+1),?_⟩
      exact⟨rfl,hs.length-(k+1),by omega,k+1,by omega,hs_next hkl hc1_1 (by first|(rw [prv_pos hs (by omega)];omega)|(rw [prv_zero hs (by omega)];omega)),rfl,rfl,rfl⟩
    ·refine⟨r64 (k+1),?_⟩
     exact⟨rfl,hs.length-(k+1),by omega,k+1,by omega,hs_next hkl hc1_1 (by first|(rw [prv_pos hs (by omega)];omega)|(rw [prv_zero hs (by omega)];omega)),rfl,rfl,rfl⟩
   ·have e:=hs_bad hkl hc1_1 (by omega)
    rw [tk1 e]
    exact d4'
  ·have e:=hs_bad hkl hc1_1 (by omega)
   rw [tk1 e]
   exact d4'
 ·have e:=hs_end (by omega) hc1_1
  refine⟨rfl,rfl,rfl,trivial,ny (¬(2≤nd∧nd≤12)) (fun h5=> ?_) fun h5=> ?_⟩
  ·refine⟨rfl,rfl,rfl,trivial,ny (¬(0≤wr∧wr≤12)) (fun h6=> ?_) fun h6=> ?_⟩
   ·refine⟨rfl,rfl,rfl,trivial,ny (¬(1≤sz∧sz≤4096)) (fun h7=> ?_) fun h7=> ?_⟩
    ·refine⟨rfl,rfl,rfl,trivial,ny (¬(0≤st∧st≤1000000)) (fun h8=> ?_) fun h8=> ?_⟩
     ·refine⟨rfl,rfl,rfl,trivial,ny (¬(1≤ph∧ph≤1000000)) (fun h9=> ?_) fun h9=> ?_⟩
      ·refine⟨r64 (3*ph),r64 (st+(3*ph)),yn (1000000<(st+(3*ph))) (fun h10=> ?_) fun h10=> ?_⟩
       ·rw [tk3 e (fun h=>by unfold rngT at h;omega)]
        exact d4'
       ·refine⟨r64 (nd+wr),ny ((hs.length:Int)<(nd+wr)) (fun h11=> ?_) fun h11=> ?_⟩
        ·refine⟨r64 (nd-1),r64 (3*wr),r64 ((nd-1)+(3*wr)),yn ((hs.length:Int)<((nd-1)+(3*wr))) (fun h12=> ?_) fun h12=> ?_⟩
         ·rw [tk29 e (by unfold rngT;omega) (by omega)]
          exact d4'
         ·rw [tkOk e (by unfold rngT;omega) (by omega)]
          exact d4'
        ·rw [tk29 e (by unfold rngT;omega) (by omega)]
         exact d4'
      ·rw [tk3 e (fun h=>by unfold rngT at h;omega)]
       exact d4'
     ·rw [tk3 e (fun h=>by unfold rngT at h;omega)]
      exact d4'
    ·rw [tk3 e (fun h=>by unfold rngT at h;omega)]
     exact d4'
   ·rw [tk3 e (fun h=>by unfold rngT at h;omega)]
    exact d4'
  ·rw [tk3 e (fun h=>by unfold rngT at h;omega)]
   exact d4'
def CChk:List (Nat×Con):=(10,pureC [.v tTk] sChk)::CWi
theorem kChk:Known Tryd.prog (En CChk tys G6 []):=kWi.addQ Tryd.func10 Tryd.call10 [.k] fun ds _ _ _ h=>by unfold sChk at h;split at h;exact bChk _ _ _ _ _ _;cases h
def sRChk:List V→Option (Prop×V×List Blk)
 |[.agg [.sl false (.int .i64) hs,.int .i64 nd,.int .i64 wr,.int .i64 sz,.int .i64 st,.int .i64 ph]]=>some (hs.length≤2000000,.int .i64 (tkE hs nd wr sz st ph), [])
 |_=>none
theorem bRChk (hs:List Int) (nd wr sz st ph:Int):bodyQ (En CChk tys G6 []) Tryd.f11 [.k] sRChk [aTk hs nd wr sz st ph]:=by
 intro hp0
 refine⟨1, [(1,.k),(3,.k)],fun nM vs H=>∃(k:Nat),k≤hs.length∧hsF (prv hs k) (hs.drop k)=hsF (-1) hs∧nM=hs.length-k∧vs= [.p 0,.i k]∧H= [cTk hs nd wr sz st ph],⟨rfl,hs.length,0,by omega,rfl,by omega,rfl,rfl⟩,?_⟩
 rintro nM vs H ⟨k,hc1_0,hc1_1,rfl,rfl,rfl⟩
 refine yn ((k:Int)<(hs.length:Int)) (fun h0=> ?_) fun h0=> ?_
 ·have hkl:k<hs.length:=by omega
  have hk1:((k:Int)-1).toNat=k-1:=by omega
  refine⟨by kernel_rfl,ix k hs.length,ny ((hs.getD k 0)<0) (fun h1=> ?_) fun h1=> ?_⟩
  ·refine⟨fun h2=> ?_,cn ((hs.getD k 0)<0)⟩
   refine⟨fun h3=> ?_,cn ((hs.getD k 0)<0)⟩
   refine⟨fun h4=> ?_,cn ((hs.getD k 0)<0)⟩
   refine⟨ix k hs.length,fun h5=> ?_,cn ((hs.getD k 0)<0)⟩
   refine⟨fun h6=> ?_,cn ((hs.getD k 0)<0)⟩
   refine⟨cn ((hs.getD k 0)<0),fun h7=> ?_⟩
   refine ny (12≤(hs.getD k 0)) (fun h8=> ?_) fun h8=> ?_
   ·refine⟨fun h9=> ?_,cn (12≤(hs.getD k 0))⟩
    refine⟨fun h10=> ?_,cn (12≤(hs.getD k 0))⟩
    refine yn (0<(k:Int)) (fun h11=> ?_) fun h11=> ?_
    ·refine⟨fun h12=> ?_,cp (0<(k:Int))⟩
     refine⟨fun h13=> ?_,cp (0<(k:Int))⟩
     refine⟨fun h14=> ?_,cp (0<(k:Int))⟩
     refine⟨r64 (k-1),fun h15=> ?_,cp (0<(k:Int))⟩
     refine⟨ix (k-1) hs.length,fun h16=> ?_,cp (0<(k:Int))⟩
     refine⟨fun h17=> ?_,cp (0<(k:Int))⟩
     refine⟨fun h18=> ?_,cp (0<(k:Int))⟩
     refine⟨fun h19=> ?_,cp (0<(k:Int))⟩
     refine⟨fun h20=> ?_,cp (0<(k:Int))⟩
     refine⟨ix k hs.length,fun h21=> ?_,cp (0<(k:Int))⟩
     refine⟨fun h22=> ?_,cp (0<(k:Int))⟩
     refine⟨fun h23=> ?_,cn (12≤(hs.getD k 0))⟩
     refine⟨fun h24=> ?_,cp (0<(k:Int))⟩
     refine⟨cn (12≤(hs.getD k 0)),fun h25=> ?_⟩
     refine yn ((hs.getD k 0)≤(hs.getD (((k:Int)-1).toNat) 0)) (fun h26=> ?_) fun h26=> ?_
     ·rw [hk1] at h26
      have e:=hs_bad hkl hc1_1 (by rw [prv_pos hs (by omega)];omega)
      rw [tk1 e]
      exact d4'
     ·rw [hk1] at h26
      refine⟨r64 (k+1),?_⟩
      exact⟨rfl,hs.length-(k+1),by omega,k+1,by omega,hs_next hkl hc1_1 (by first|(rw [prv_pos hs (by omega)];omega)|(rw [prv_zero hs (by omega)];omega)),rfl,rfl,rfl⟩
    ·refine⟨cn (0<(k:Int)),fun h27=> ?_⟩
     refine⟨cn (0<(k:Int)),fun h28=> ?_⟩
     refine⟨cn (0<(k:Int)),fun h29=> ?_⟩
     refine⟨cn (0<(k:Int)),fun h30=> ?_⟩
     refine⟨cn (0<(k:Int)),fun h31=> ?_⟩
     refine⟨cn (0<(k:Int)),fun h32=> ?_⟩
     refine⟨cn (0<(k:Int)),fun h33=> ?_⟩
     refine⟨cn (0<(k:Int)),fun h34=> ?_⟩
     refine⟨cn (0<(k:Int)),fun h35=> ?_⟩
     refine⟨cn (0<(k:Int)),fun h36=> ?_⟩
     refine⟨cn (0<(k:Int)),fun h37=> ?_⟩
     refine⟨fun h38=> ?_,cn (12≤(hs.getD k 0))⟩
     refine⟨cn (0<(k:Int)),fun h39=> ?_⟩
     refine⟨cn (12≤(hs.getD k 0)),fun h40=> ?_⟩
     refine⟨r64 (k+1),?_⟩
     exact⟨rfl,hs.length-(k+1),by omega,k+1,by omega,hs_next hkl hc1_1 (by first|(rw [prv_pos hs (by omega)];omega)|(rw [prv_zero hs (by omega)];omega)),rfl,rfl,rfl⟩
   ·have e:=hs_bad hkl hc1_1 (by omega)
    refine⟨cp (12≤(hs.getD k 0)),fun h41=> ?_⟩
    refine⟨cp (12≤(hs.getD k 0)),fun h42=> ?_⟩
    refine⟨cp (12≤(hs.getD k 0)),fun h43=> ?_⟩
    refine⟨fun h44=> ?_,cp (12≤(hs.getD k 0))⟩
    rw [tk1 e]
    exact d4'
  ·have e:=hs_bad hkl hc1_1 (by omega)
   refine⟨cp ((hs.getD k 0)<0),fun h45=> ?_⟩
   refine⟨cp ((hs.getD k 0)<0),fun h46=> ?_⟩
   refine⟨cp ((hs.getD k 0)<0),fun h47=> ?_⟩
   refine⟨cp ((hs.getD k 0)<0),fun h48=> ?_⟩
   refine⟨cp ((hs.getD k 0)<0),fun h49=> ?_⟩
   refine⟨fun h50=> ?_,cp ((hs.getD k 0)<0)⟩
   rw [tk1 e]
   exact d4'
 ·have e := hs_end (by omega) hc1_1
  refine ny (nd<2) (fun h51=> ?_) fun h51=> ?_
  ·refine ny (12<nd) (fun h52=> ?_) fun h52=> ?_
   ·refine ny (wr<0) (fun h53=> ?_) fun h53=> ?_
    ·refine ny (12<wr) (fun h54=> ?_) fun h54=> ?_
     ·refine ny (sz<1) (fun h55=> ?_) fun h55=> ?_
      ·refine ny (4096<sz) (fun h56=> ?_) fun h56=> ?_
       ·refine ny (st<0) (fun h57=> ?_) fun h57=> ?_
        ·refine ny (1000000<st) (fun h58=> ?_) fun h58=> ?_
         ·refine ny (ph<1) (fun h59=> ?_) fun h59=> ?_
          ·refine ny (1000000<ph) (fun h60=> ?_) fun h60=> ?_
           ·refine⟨r64 (3*ph),r64 (st+(3*ph)),yn (1000000<(st+(3*ph))) (fun h61=> ?_) fun h61=> ?_⟩
            ·rw [tk3 e (fun h=>by unfold rngT at h;omega)]
             exact d4'
            ·refine⟨r64 (nd+wr),ny ((hs.length:Int)<(nd+wr)) (fun h62=> ?_) fun h62=> ?_⟩
             ·refine⟨r64 (nd-1),r64 (3*wr),r64 ((nd-1)+(3*wr)),yn ((hs.length:Int)<((nd-1)+(3*wr))) (fun h63=> ?_) fun h63=> ?_⟩
              ·rw [tk29 e (by unfold rngT;omega) (by omega)]
               exact d4'
              ·rw [tkOk e (by unfold rngT;omega) (by omega)]
               exact d4'
             ·rw [tk29 e (by unfold rngT;omega) (by omega)]
              exact d4'
           ·rw [tk3 e (fun h=>by unfold rngT at h;omega)]
            exact d4'
          ·rw [tk3 e (fun h=>by unfold rngT at h;omega)]
           exact d4'
         ·rw [tk3 e (fun h=>by unfold rngT at h;omega)]
          exact d4'
        ·rw [tk3 e (fun h=>by unfold rngT at h;omega)]
         exact d4'
       ·rw [tk3 e (fun h=>by unfold rngT at h;omega)]
        exact d4'
      ·rw [tk3 e (fun h=>by unfold rngT at h;omega)]
       exact d4'
     ·rw [tk3 e (fun h=>by unfold rngT at h;omega)]
      exact d4'
    ·rw [tk3 e (fun h=>by unfold rngT at h;omega)]
     exact d4'
   ·rw [tk3 e (fun h=>by unfold rngT at h;omega)]
    exact d4'
  ·rw [tk3 e (fun h=>by unfold rngT at h;omega)]
   exact d4'
def CRChk:List (Nat×Con):=(11,pureC [.v tTk] sRChk)::CChk
theorem kRChk:Known Tryd.prog (En CRChk tys G6 []):=kChk.addQ Tryd.func11 Tryd.call11 [.k] fun ds _ _ _ h=>by unfold sRChk at h;split at h;exact bRChk _ _ _ _ _ _;cases h
def sIdx:List V→Option (Prop×V×List Blk)
 |[.sl false (.int .i64) s,.int .i64 x]=>some (s.length≤2000000,.int .i64 (idxF x s 0), [])
 |_=>none
theorem bIdx (s:List Int) (x:Int):bodyQ (En CRChk tys G6 []) Tryd.f32 [.k] sIdx [.sl false (.int .i64) s,.int .i64 x]:=by
 intro hp0
 refine⟨0, [(0,.k),(1,.k),(7,.k),(8,.k)],fun nM vs H=>∃(k:Nat),k≤s.length∧idxF x (s.drop k) k=idxF x s 0∧nM=s.length-k∧vs= [.sl false (.int .i64) s,.i x,.i (s.length:Int),.i k]∧H= [],⟨rfl,s.length,0,by omega,rfl,by omega,rfl,rfl⟩,?_⟩
 rintro nM vs H ⟨k,hc1_0,hc1_1,rfl,rfl,rfl⟩
 refine yn ((k:Int)<(s.length:Int)) (fun h0=> ?_) fun h0=> ?_
 ·rw [drop_one 0 s k (by omega),idxF] at hc1_1
  refine⟨ix k s.length,yn (x=(s.getD k 0)) (fun h1=> ?_) fun h1=> ?_⟩
  ·rw [if_pos h1] at hc1_1
   rw [←hc1_1]
   exact d4'
  ·rw [if_neg h1] at hc1_1
   refine⟨r64 (k+1),?_⟩
   exact⟨rfl,s.length-(k+1),by omega,k+1,by omega,hc1_1,rfl,rfl,rfl⟩
 ·rw [List.drop_eq_nil_of_le (by omega),idxF] at hc1_1
  rw [←hc1_1]
  exact d4'
def CIdx:List (Nat×Con):=(32,pureC [.v (.sl (.int .i64)),.v (.int .i64)] sIdx)::CRChk
theorem kIdx:Known Tryd.prog (En CIdx tys G6 []):=kRChk.addQ Tryd.func32 Tryd.call32 [.k] fun ds _ _ _ h=>by unfold sIdx at h;split at h;exact bIdx _ _;cases h
def sCts:List V→Option (Prop×V×List Blk)
 |[.sl false (.int .i64) s,.int .i64 x]=>some (s.length≤2000000,.b (x∈s), [])
 |_=>none
theorem bCts (s:List Int) (x:Int):bodyQ (En CIdx tys G6 []) Tryd.f57 [.k] sCts [.sl false (.int .i64) s,.int .i64 x]:=by
 intro hp0
 refine⟨rfl,om (s.length≤2000000),?_⟩
 exact⟨rfl,rfl,congrArg V.b (propext (idxF_mem x s 0 (by omega))),rfl⟩
def CCts:List (Nat×Con):=(57,pureC [.v (.sl (.int .i64)),.v (.int .i64)] sCts)::CIdx
theorem kCts:Known Tryd.prog (En CCts tys G6 []):=kIdx.addQ Tryd.func57 Tryd.call57 [.k] fun ds _ _ _ h=>by unfold sCts at h;split at h;exact bCts _ _;cases h
def sWld:List V→Option (Prop×V×List Blk)
 |[.int .i64 x,.rp false (.int .i64) a 0]=>some (0≤a,.b (wildE a x), [])
 |_=>none
theorem bWld (x a:Int):bodyQ (En CCts tys G6 []) Tryd.f56 [.k] sWld [.int .i64 x,.rp false (.int .i64) a 0]:=by
 intro hp0
 refine ny (x<0) (fun h0=> ?_) fun h0=> ?_
 ·refine⟨⟨om ((0:Int)≤x),om ((0:Int)≤a)⟩,?_⟩
  first|exact⟨rfl,rfl,congrArg V.b (propext ⟨fun h=> .inr h,fun h=>h.resolve_left h0⟩),rfl⟩|exact⟨rfl,rfl,congrArg V.b (propext ⟨fun _=> .inl h0,fun _=>trivial⟩),rfl⟩|exact⟨rfl,rfl,congrArg V.b (propext ⟨fun _=> .inl h0,fun _=>rfl⟩),rfl⟩
 ·first|exact⟨rfl,rfl,congrArg V.b (propext ⟨fun h=> .inr h,fun h=>h.resolve_left h0⟩),rfl⟩|exact⟨rfl,rfl,congrArg V.b (propext ⟨fun _=> .inl h0,fun _=>trivial⟩),rfl⟩|exact⟨rfl,rfl,congrArg V.b (propext ⟨fun _=> .inl h0,fun _=>rfl⟩),rfl⟩
def CWld:List (Nat×Con):=(56,pureC [.v (.int .i64),.ref (.int .i64)] sWld)::CCts
theorem kWld:Known Tryd.prog (En CWld tys G6 []):=kCts.addQ Tryd.func56 Tryd.call56 [.k] fun ds _ _ _ h=>by unfold sWld at h;split at h;exact bWld _ _;cases h
theorem bIxI0 (s:List Int) (a:Int) (hp0:0≤a) (hp1:s.length≤1048576):bodyP (En CWld tys G6 []) Tryd.f84 [.k] [.sl false (.int .i64) s,.fn 56 [.rp false (.int .i64) a 0]] (.int .i64 (ixP (fun x=>decide (wildE a x)) s 0)) []:=by
 refine⟨0, [(0,.k),(1,.k),(7,.k),(8,.k)],fun nM vs H=>∃(j:Nat),j≤s.length∧ixP (fun x=>decide (wildE a x)) (s.drop j) j=ixP (fun x=>decide (wildE a x)) s 0∧nM=s.length-j∧vs= [.sl false (.int .i64) s,.fn 56 [.rp false (.int .i64) a 0],.i (s.length:Int),.i j]∧H= [],⟨rfl,s.length,0,by omega,rfl,by omega,rfl,rfl⟩,?_⟩
 rintro nM vs H ⟨j,hc1_0,hc1_1,rfl,rfl,rfl⟩
 refine yn ((j:Int)<(s.length:Int)) (fun h0=> ?_) fun h0=> ?_
 ·have hj:j<s.length:=by omega
  rw [drop_one 0 s j hj,ixP] at hc1_1
  refine⟨ix j s.length,rfl,om (0≤a),yn (wildE a (s.getD j 0)) (fun h1=> ?_) fun h1=> ?_⟩
  ·rw [if_pos (decide_eq_true h1)] at hc1_1
   rw [←hc1_1]
   exact d4'
  ·rw [if_neg (by simpa using h1)] at hc1_1
   refine⟨r64 (j+1),?_⟩
   exact⟨rfl,s.length-(j+1),by omega,j+1,by omega,hc1_1,rfl,rfl,rfl⟩
 ·rw [List.drop_eq_nil_of_le (by omega),ixP] at hc1_1
  rw [←hc1_1]
  exact d4'
def sIxI:List V→Option (Prop×V×List Blk)
 |[.sl false (.int .i64) s,.fn 56 [.rp false (.int .i64) a 0]]=>some (0≤a∧s.length≤1048576,.int .i64 (ixP (fun x=>decide (wildE a x)) s 0), [])
 |_=>none
def CIxI:List (Nat×Con):=(84,pureC [.v (.sl (.int .i64)),.fn [(56, [.ref (.int .i64)])]] sIxI)::CWld
theorem kIxI:Known Tryd.prog (En CIxI tys G6 []):=kWld.add Tryd.func84 Tryd.call84 [.k] fun ds p v bs h hp=>by
 unfold sIxI at h
 split at h<;>simp only [Option.some.injEq,Prod.mk.injEq,reduceCtorEq] at h
 ·obtain⟨rfl,rfl,rfl⟩:=h
  exact bIxI0 _ _ hp.1 hp.2
theorem bCfI0 (s:List Int) (a:Int) (hp0:0≤a) (hp1:s.length≤1048576):bodyP (En CIxI tys G6 []) Tryd.f55 [.k] [.sl false (.int .i64) s,.fn 56 [.rp false (.int .i64) a 0]] (.b (∃x∈s,wildE a x)) []:=by
 refine⟨⟨om (0≤a),om (s.length≤1048576)⟩,?_⟩
 exact⟨rfl,rfl,congrArg V.b (propext (ixP_is (fun x=>decide (wildE a x)) s fun x=>decide_eq_true_iff)),rfl⟩
def sCfI:List V→Option (Prop×V×List Blk)
 |[.sl false (.int .i64) s,.fn 56 [.rp false (.int .i64) a 0]]=>some (0≤a∧s.length≤1048576,.b (∃x∈s,wildE a x), [])
 |_=>none
def CCfI:List (Nat×Con):=(55,pureC [.v (.sl (.int .i64)),.fn [(56, [.ref (.int .i64)])]] sCfI)::CIxI
theorem kCfI:Known Tryd.prog (En CCfI tys G6 []):=kIxI.add Tryd.func55 Tryd.call55 [.k] fun ds p v bs h hp=>by
 unfold sCfI at h
 split at h<;>simp only [Option.some.injEq,Prod.mk.injEq,reduceCtorEq] at h
 ·obtain⟨rfl,rfl,rfl⟩:=h
  exact bCfI0 _ _ hp.1 hp.2
def sPlc:List V→Option (Prop×V×List Blk)
 |[.agg [.sl false (.int .i64) hs,.int .i64 nd,.int .i64 wr,.int .i64 sz,.int .i64 st,.int .i64 ph],.int .i64 x]=>some (hs.length≤2000000,.int .i64 (idxF x hs 0), [])
 |_=>none
theorem bPlc (hs:List Int) (nd wr sz st ph x:Int):bodyQ (En CCfI tys G6 []) Tryd.f36 [.k] sPlc [aTk hs nd wr sz st ph,.int .i64 x]:=by
 intro hp0
 refine⟨1, [(1,.k),(2,.k),(5,.k)],fun nM vs H=>∃(k:Nat),k≤hs.length∧idxF x (hs.drop k) k=idxF x hs 0∧nM=hs.length-k∧vs= [.i x,.p 0,.i k]∧H= [cTk hs nd wr sz st ph],⟨rfl,hs.length,0,by omega,rfl,by omega,rfl,rfl⟩,?_⟩
 rintro nM vs H ⟨k,hc1_0,hc1_1,rfl,rfl,rfl⟩
 refine yn ((k:Int)<(hs.length:Int)) (fun h0=> ?_) fun h0=> ?_
 ·rw [drop_one 0 hs k (by omega),idxF] at hc1_1
  refine⟨ix k hs.length,yn ((hs.getD k 0)=x) (fun h1=> ?_) fun h1=> ?_⟩
  ·rw [if_pos h1.symm] at hc1_1
   rw [←hc1_1]
   exact d4'
  ·rw [if_neg (fun h=>h1 h.symm)] at hc1_1
   refine⟨r64 (k+1),?_⟩
   exact⟨rfl,hs.length-(k+1),by omega,k+1,by omega,hc1_1,rfl,rfl,rfl⟩
 ·rw [List.drop_eq_nil_of_le (by omega),idxF] at hc1_1
  rw [←hc1_1]
  exact d4'
def CPlc:List (Nat×Con):=(36,pureC [.v tTk,.v (.int .i64)] sPlc)::CCfI
theorem kPlc:Known Tryd.prog (En CPlc tys G6 []):=kCfI.addQ Tryd.func36 Tryd.call36 [.k] fun ds _ _ _ h=>by unfold sPlc at h;split at h;exact bPlc _ _ _ _ _ _ _;cases h
def sBit:List V→Option (Prop×V×List Blk)
 |[.int .i64 h]=>some (0≤h∧h<12,.int .i64 ((2:Int)^(h).toNat), [])
 |_=>none
theorem bBit (h:Int):bodyQ (En CPlc tys G6 []) Tryd.f46 [.k] sBit [.int .i64 h]:=by
 rintro⟨hp0,hp1⟩
 refine⟨0, [(0,.k),(3,.k),(4,.k)],fun nM vs H=>∃(i:Nat),i≤h.toNat∧nM=h.toNat-i∧vs= [.i h,.i ((2:Int)^i),.i i]∧H= [],⟨rfl,h.toNat,0,by omega,by omega,rfl,rfl⟩,?_⟩
 rintro nM vs H ⟨i,hc1_0,rfl,rfl,rfl⟩
 obtain⟨b0,b1⟩:=pwn i (by omega)
 have e2:(2:Int)^(i+1)=2*2^i:=by rw [Int.pow_succ,Int.mul_comm]
 refine yn ((i:Int)<h) (fun h0=> ?_) fun h0=> ?_
 ·refine⟨r64 (2*((2:Int)^i)),r64 (i+1),?_⟩
  exact⟨rfl,h.toNat-(i+1),by omega,i+1,by omega,rfl,by rw [e2];rfl,rfl⟩
 ·obtain rfl:i=h.toNat:=by omega
  exact d4'
def CBit:List (Nat×Con):=(46,pureC [.v (.int .i64)] sBit)::CPlc
theorem kBit:Known Tryd.prog (En CBit tys G6 []):=kPlc.addQ Tryd.func46 Tryd.call46 [.k] fun ds _ _ _ h=>by unfold sBit at h;split at h;exact bBit _;cases h
def sIn:List V→Option (Prop×V×List Blk)
 |[.int .i64 a,.int .i64 h]=>some (0≤a∧0≤h∧h<12,.b ((a/2^(h).toNat)%2=1), [])
 |_=>none
theorem bIn (a:Int) (h:Int):bodyQ (En CBit tys G6 []) Tryd.f80 [.k] sIn [.int .i64 a,.int .i64 h]:=by
 rintro⟨hp0,hp1,hp2⟩
 refine⟨0, [(0,.k),(1,.k),(5,.k)],fun nM vs H=>∃(i:Nat),i≤h.toNat∧nM=h.toNat-i∧vs= [.i (a/2^i),.i h,.i i]∧H= [],⟨rfl,h.toNat,0,by omega,by omega,congrArg (fun z:Int=> [V.i z,V.i h,V.i 0]) (show a=a/2^0 by rw [Int.pow_zero,Int.ediv_one]),rfl⟩,?_⟩
 rintro nM vs H ⟨i,hc1_0,rfl,rfl,rfl⟩
 obtain⟨b0,b1⟩:=pwn i (by omega)
 have d0:0≤a/2^i:=Int.ediv_nonneg hp0 (by omega)
 have d1:a/2^i≤a:=Int.ediv_le_self _ hp0
 have e2:a/2^(i+1)=a/2^i/2:=by rw [Int.pow_succ,Int.ediv_ediv_of_nonneg (by omega)]
 refine yn ((i:Int)<h) (fun h0=> ?_) fun h0=> ?_
 ·refine .inl ⟨⟨om ((0:Int)≤(a/2^i)),om ((0:Int)<2)⟩,?_⟩
  refine⟨r64 (i+1),?_⟩
  exact⟨rfl,h.toNat-(i+1),by omega,i+1,by omega,rfl,by rw [e2];rfl,rfl⟩
 ·refine .inl ⟨⟨om ((0:Int)≤(a/2^i)),om ((0:Int)<2)⟩,?_⟩
  obtain rfl:i=h.toNat:=by omega
  exact d4'
def CIn:List (Nat×Con):=(80,pureC [.v (.int .i64),.v (.int .i64)] sIn)::CBit
theorem kIn:Known Tryd.prog (En CIn tys G6 []):=kBit.addQ Tryd.func80 Tryd.call80 [.k] fun ds _ _ _ h=>by unfold sIn at h;split at h;exact bIn _ _;cases h
noncomputable def sSe:List V→List Blk→Option (Prop×V)
 |[.int .i64 set,.int .i64 more,.int .i64 fr,.ptr 0 1 0 0,.ptr 1 1 0 0,.ptr 2 1 0 0,.ptr 3 1 0 0], [.cells [.sl false (.int .i64) hs,.int .i64 nd,.int .i64 wr,.int .i64 sz,.int .i64 stt,.int .i64 ph],.cells [.mp (.sl (.int .i64)) 4],.cells [.int .i64 k],.cells [.fn 58 [.ptr 0 1 0 0,.ptr 1 1 0 0,.ptr 2 1 0 0,.ptr 3 1 0 0]],.imap false (.sl (.int .i64)) es]=>some (SrOk hs es k set more fr,.int .i64 (cl es k (hs.drop fr.toNat) set more))
 |_,_=>none
def mSe:List V→List Blk→Nat
 |[.int .i64 set,.int .i64 more,.int .i64 fr,.ptr 0 1 0 0,.ptr 1 1 0 0,.ptr 2 1 0 0,.ptr 3 1 0 0], [.cells [.sl false (.int .i64) hs,.int .i64 nd,.int .i64 wr,.int .i64 sz,.int .i64 stt,.int .i64 ph],.cells [.mp (.sl (.int .i64)) 4],.cells [.int .i64 k],.cells [.fn 58 [.ptr 0 1 0 0,.ptr 1 1 0 0,.ptr 2 1 0 0,.ptr 3 1 0 0]],.imap false (.sl (.int .i64)) es]=>hs.length-fr.toNat
 |_,_=>0

theorem bSe (hs:List Int) (nd wr sz stt ph k:Int) (es:Ps) (set more fr:Int) (hok:SrOk hs es k set more fr):body (En ((58,lookC (recL mSe (hs.length-fr.toNat) sSe))::CIn) tys G6 [] [1000006]).inR Tryd.f58 [.int .i64 set,.int .i64 more,.int .i64 fr,.ptr 0 1 0 0,.ptr 1 1 0 0,.ptr 2 1 0 0,.ptr 3 1 0 0] (eyeH [.cells [.sl false (.int .i64) hs,.int .i64 nd,.int .i64 wr,.int .i64 sz,.int .i64 stt,.int .i64 ph],.cells [.mp (.sl (.int .i64)) 4],.cells [.int .i64 k],.cells [.fn 58 [.ptr 0 1 0 0,.ptr 1 1 0 0,.ptr 2 1 0 0,.ptr 3 1 0 0]],.imap false (.sl (.int .i64)) es]) (fun v' H'=>(v'.bare=true∧v'= .int .i64 (cl es k (hs.drop fr.toNat) set more))∧∃L,H'=eyeH [.cells [.sl false (.int .i64) hs,.int .i64 nd,.int .i64 wr,.int .i64 sz,.int .i64 stt,.int .i64 ph],.cells [.mp (.sl (.int .i64)) 4],.cells [.int .i64 k],.cells [.fn 58 [.ptr 0 1 0 0,.ptr 1 1 0 0,.ptr 2 1 0 0,.ptr 3 1 0 0]],.imap false (.sl (.int .i64)) es]++L):=by
 obtain⟨s0,s1,f0,f1,k0,k1,m0,m1,l1,hs1,es1⟩:=id hok
 refine yn (more=0) (fun h0=> ?_) fun h0=> ?_
 ·obtain rfl:more=0:=h0
  exact⟨⟨rfl,congrArg (V.int .i64) ((cl_zero es k set _).symm)⟩,_,rfl⟩
 ·have hm0:¬more=0:=h0
  refine⟨6, [(0,.k),(1,.k),(3,.k),(4,.k),(5,.k),(6,.k),(11,.k)],fun nM vs H=>∃(i:Nat),(i≤hs.length∧fr.toNat≤i)∧cl es k (hs.drop i) set more=cl es k (hs.drop fr.toNat) set more∧nM=hs.length-i∧vs= [.i set,.i more,.p 0,.p 1,.p 2,.p 3,.i i]∧H= [cTk hs nd wr sz stt ph,.cells [.mp (.sl (.int .i64)) 4],.cells [.i k],.cells [.fn 58 [.p 0,.p 1,.p 2,.p 3]],.imap false (.sl (.int .i64)) es,.cells [.tup [],.p 0,.p 1,.p 2,.p 3,.mp (.sl (.int .i64)) 4]],⟨rfl,hs.length-fr.toNat,fr.toNat,⟨by omega,by omega⟩,rfl,rfl,congrArg (fun z:Int=> [V.i set,V.i more,V.p 0,V.p 1,V.p 2,V.p 3,V.i z]) (Int.toNat_of_nonneg f0).symm,rfl⟩,?_⟩
  rintro nM vs H ⟨i,hc1_0,hc1_1,rfl,rfl,rfl⟩
  refine yn ((i:Int)<(hs.length:Int)) (fun h1=> ?_) fun h1=> ?_
  ·have hi:i<hs.length:=by omega
   obtain⟨g0,g1⟩:=hs1 _ (gmem 0 hs i hi)
   obtain⟨p0,p1⟩:=pw12 g0 g1
   obtain⟨n0,n1⟩:=nxt_lt s0 s1 g0 g1
   refine⟨ix i hs.length,⟨om ((0:Int)≤hs.getD i 0),om (hs.getD i 0≤(64:Int))⟩,r64 ((1:Int)*2^((hs.getD i 0).toNat)),.inl ⟨⟨om ((0:Int)≤set),om ((0:Int)≤((1:Int)*2^((hs.getD i 0).toNat)))⟩,?_⟩⟩
   refine⟨rfl,fun x2 h2=> ?_,fun h2=> ?_⟩
   ·replace h2:mget es (hs.getD i 0)=some x2:=h2
    obtain⟨_,hxl,hxb⟩:=es1 _ (mget_mem h2)
    replace hxl:x2.length=hs.length:=hxl
    obtain⟨b0,b1⟩:=hxb _ (gmem 0 x2 k.toNat (om (k.toNat<x2.length)))
    refine fun p3 hq3=> ?_
    refine ny (p3) (fun h4=> ?_) fun h4=> ?_
    ·refine⟨rfl,fun x5 h5=> ?_,fun h5=>absurd ((show mget es (hs.getD i 0)=some x2 by assumption).symm.trans h5) (fun h=>by cases h)⟩
     obtain rfl:x2=x5:=Option.some.inj ((show mget es (hs.getD i 0)=some x2 by assumption).symm.trans h5)
     refine⟨ix k x2.length,.inl ⟨⟨om ((0:Int)≤(x2.getD k.toNat 0)),om ((0:Int)≤((set.toNat|||(((1:Int)*2^((hs.getD i 0).toNat)).toNat):Nat):Int))⟩,?_⟩⟩
     refine yn (((((x2.getD k.toNat 0).toNat)&&&(set.toNat|||(((1:Int)*2^((hs.getD i 0).toNat)).toNat)):Nat):Int)≠((set.toNat|||(((1:Int)*2^((hs.getD i 0).toNat)).toNat):Nat):Int)) (fun h6=> ?_) fun h6=> ?_
     ·have hsk:=cl_skip hi hm0 (show¬fits es k set (hs.getD i 0) from fun⟨ag,e1,e2,_⟩=>h6 (by rw [h2] at e1;cases e1;exact e2))
      rw [hc1_1] at hsk
      refine⟨r64 (i+1),?_⟩
      exact⟨rfl,hs.length-(i+1),by omega,i+1,⟨by omega,by omega⟩,hsk,rfl,rfl,rfl⟩
     ·refine⟨rfl,7, [(0,.k),(1,.k),(3,.k),(4,.k),(5,.k),(6,.k),(11,.k),(12,.k),(13,.k),(54,.k)],fun nM vs H=>∃(s:List Nat) (l:Option Nat),(∀j∈s++l.toList,¬bad1 (es.getD j (0, [])) k set ((hs.getD i 0)))∧nM=rem es.length (s++l.toList)∧vs= [.int .i64 set,.int .i64 more,.ptr 0 1 0 0,.ptr 1 1 0 0,.ptr 2 1 0 0,.ptr 3 1 0 0,.int .i64 (i:Int),.int .i64 (hs.getD i 0),.int .i64 ((set.toNat|||(((1:Int)*2^((hs.getD i 0).toNat)).toNat):Nat):Int),.ptr 6 1 0 0]∧H= [.cells [.sl false (.int .i64) hs,.int .i64 nd,.int .i64 wr,.int .i64 sz,.int .i64 stt,.int .i64 ph],.cells [.mp (.sl (.int .i64)) 4],.cells [.int .i64 k],.cells [.fn 58 [.ptr 0 1 0 0,.ptr 1 1 0 0,.ptr 2 1 0 0,.ptr 3 1 0 0]],.imap false (.sl (.int .i64)) es,.cells [.tup [],.ptr 0 1 0 0,.ptr 1 1 0 0,.ptr 2 1 0 0,.ptr 3 1 0 0,.mp (.sl (.int .i64)) 4],.mit (some 4) es.length s l],⟨rfl,rem es.length [], [],none,by simp,rfl,rfl,rfl⟩,?_⟩
      rintro nM vs H ⟨s,l,hc2_0,rfl,rfl,rfl⟩
      refine⟨rfl,fun h7=> ?_,fun i7 l7 h7=> ?_⟩
      ·have alt:=0
       have hfit:fits es k set (hs.getD i 0):=⟨x2,h2,nw h6,fun e he hb=>by
        obtain⟨j,hj,rfl⟩:=List.mem_iff_getElem.1 he
        refine hc2_0 j (h7 j hj) ?_
        rw [gD hj];exact hb⟩
       have hSe:SrOk hs es k (nxt set (hs.getD i 0)) (more-1) ((i:Int)+1):=⟨n0,n1,by omega,by omega,k0,k1,by omega,by omega,l1,hs1,es1⟩
       have hMe:hs.length-((i:Int)+1).toNat<hs.length-fr.toNat:=by omega
       refine⟨r64 (more-1),r64 (i+1),w2',⟨hSe,hMe⟩,yn (0≤(cl es k (hs.drop (((i:Int)+1).toNat)) ((set.toNat|||(((1:Int)*2^((hs.getD i 0).toNat)).toNat):Nat):Int) (more-1))) (fun h8=> ?_) fun h8=> ?_⟩
       ·exact⟨⟨rfl,congrArg (V.int .i64) ((cl_yes hi hm0 hfit h8).trans hc1_1)⟩,_,rfl⟩
       ·have hsk:=cl_no hi hm0 h8
        rw [hc1_1] at hsk
        refine⟨r64 (i+1),?_⟩
        exact⟨rfl,hs.length-(i+1),by omega,i+1,⟨by omega,by omega⟩,hsk,rfl,rfl,rfl⟩
      ·have alt:=1
       obtain⟨⟨o0,o1⟩,hyl,hyb⟩:=es1 _ (gmem (0, []) es i7 l7)
       obtain⟨c0,c1⟩:=hyb _ (gmem 0 _ k.toNat (by rw [hyl];omega))
       have d0:0≤set/2^(((es.getD i7 (0, [])).1).toNat):=Int.ediv_nonneg s0 (by have:=pw12 o0 o1;omega)
       have d1:0≤((es.getD i7 (0, [])).2).getD k.toNat 0/2^((hs.getD i 0).toNat):=Int.ediv_nonneg c0 (by omega)
       refine⟨rfl,⟨om ((0:Int)≤(es.getD i7 (0, [])).1),om ((es.getD i7 (0, [])).1≤(64:Int))⟩,.inl ⟨⟨om ((0:Int)≤(set/2^(((es.getD i7 (0, [])).1).toNat))),om ((0:Int)≤1)⟩,?_⟩⟩
       refine yn (((((set/2^(((es.getD i7 (0, [])).1).toNat)).toNat)&&&1:Nat):Int)=1) (fun h9=> ?_) fun h9=> ?_
       ·refine⟨ix k ((es.getD i7 (0, [])).2).length,⟨om ((0:Int)≤hs.getD i 0),om (hs.getD i 0≤(64:Int))⟩,.inl ⟨⟨om ((0:Int)≤((((es.getD i7 (0, [])).2).getD k.toNat 0)/2^((hs.getD i 0).toNat))),om ((0:Int)≤1)⟩,?_⟩⟩
        refine yn ((((((((es.getD i7 (0, [])).2).getD k.toNat 0)/2^((hs.getD i 0).toNat)).toNat)&&&1:Nat):Int)=0) (fun h10=> ?_) fun h10=> ?_
        ·have hsk:=cl_skip hi hm0 (show¬fits es k set (hs.getD i 0) from fun⟨ag,_,_,e3⟩=>e3 _ (gmem (0, []) es i7 l7) ⟨h9,h10⟩)
         rw [hc1_1] at hsk
         refine⟨r64 (i+1),?_⟩
         exact⟨rfl,hs.length-(i+1),by omega,i+1,⟨by omega,by omega⟩,hsk,rfl,rfl,rfl⟩
        ·have hnx:∀j∈(s++l.toList)++(some i7).toList,¬bad1 (es.getD j (0, [])) k set (hs.getD i 0):=fun j hj=>by
          rcases List.mem_append.1 hj with hj|hj
          ·exact hc2_0 j hj
          ·obtain rfl:j=i7:=by simpa using hj
           exact fun hb=>h10 hb.2
         exact⟨rfl,rem es.length ((s++l.toList)++ [i7]),rem_lt l7 h7,s++l.toList,some i7,hnx,rfl,rfl,rfl⟩
       ·have hnx:∀j∈(s++l.toList)++(some i7).toList,¬bad1 (es.getD j (0, [])) k set (hs.getD i 0):=fun j hj=>by
         rcases List.mem_append.1 hj with hj|hj
         ·exact hc2_0 j hj
         ·obtain rfl:j=i7:=by simpa using hj
          exact fun hb=>h9 hb.1
        exact⟨rfl,rem es.length ((s++l.toList)++ [i7]),rem_lt l7 h7,s++l.toList,some i7,hnx,rfl,rfl,rfl⟩
    ·have:=hq3 h4
     subst this
     simp at hxl
     omega
   ·replace h2:mget es (hs.getD i 0)=none:=h2
    have hsk:=cl_skip hi hm0 (show¬fits es k set (hs.getD i 0) from fun⟨ag,e1,_⟩=>by rw [h2] at e1;cases e1)
    rw [hc1_1] at hsk
    refine⟨fun h11=>absurd (show True by trivial) h11,fun h11=> ?_⟩
    refine⟨r64 (i+1),?_⟩
    exact⟨rfl,hs.length-(i+1),by omega,i+1,⟨by omega,by omega⟩,hsk,rfl,rfl,rfl⟩
  ·exact⟨⟨rfl,congrArg (V.int .i64) ((cl_end (by omega) hm0).symm.trans hc1_1)⟩,_,rfl⟩
noncomputable def CSe:List (Nat×Con):=(58,lookC sSe)::CIn
theorem kSe:Known Tryd.prog (En CSe tys G6 [] [1000006]):=(kIn.frz [1000006]).addLook Tryd.func58 Tryd.call58 mSe fun xs H p v hs hp=>by
 unfold sSe at hs
 split at hs<;>simp only [Option.some.injEq,Prod.mk.injEq,reduceCtorEq] at hs
 obtain⟨rfl,rfl⟩:=hs
 exact bSe _ _ _ _ _ _ _ _ _ _ _ hp
section
abbrev RP:=Int×List Int×Unit
def allS (l:List Int):Int:=l.foldl nxt 0
theorem allS_step {hs:List Int} {k:Nat} (h:k<hs.length):allS (hs.take (k+1))=nxt (allS (hs.take k)) (hs.getD k 0):=by
 unfold allS
 rw [List.take_succ_eq_append_getElem h,List.foldl_append,gD h];rfl
theorem fold_bd:∀(l:List Int) (s:Int),0≤s→s<4096→(∀h∈l,0≤h∧h<12)→0≤l.foldl nxt s∧l.foldl nxt s<4096
 |[],s,h0,h1,_=>⟨h0,h1⟩
 |h::l,s,h0,h1,hl=>by
  obtain⟨n0,n1⟩:=nxt_lt h0 h1 (hl h (by simp)).1 (hl h (by simp)).2
  exact fold_bd l _ n0 n1 fun x hx=>hl x (by simp [hx])
theorem allS_bd {hs:List Int} (h:∀h∈hs,0≤h∧h<12) (k:Nat):0≤allS (hs.take k)∧allS (hs.take k)<4096:=
 fold_bd _ 0 (by omega) (by omega) fun x hx=>h x (List.mem_of_mem_take hx)
theorem Tk.hs12 {hs:List Int} {nd wr sz st ph:Int} (h:Tk hs nd wr sz st ph):∀x∈hs,0≤x∧x<12:=fun x hx=>by
 obtain⟨i,hi,rfl⟩:=List.mem_iff_getElem.1 hx
 have:=hsF_at hs (-1) i h.ho hi
 rw [gD hi] at this
 omega
open Classical in
noncomputable def putP (hs:List Int) (es:Ps) (p:RP):Ps:=
 if mget es p.1=none∧(¬∃x∈p.2.1,wildE (allS hs) x)∧(p.2.1.length:Int)=(hs.length:Int)∧p.1∈hs then mput es p.1 p.2.1 else es
noncomputable def esL (hs:List Int) (l:List RP):Ps:=l.foldl (putP hs) []
theorem esL_step {hs:List Int} {l:List RP} {k:Nat} (h:k<l.length):esL hs (l.take (k+1))=putP hs (esL hs (l.take k)) (l.getD k (0,([],()))):=by
 unfold esL
 rw [List.take_succ_eq_append_getElem h,List.foldl_append,gD h];rfl
theorem mput_mem {es:Ps} {n:Int} {x:List Int} {e:Int×List Int}:e∈mput es n x→e∈es∨e=(n,x):=by
 induction es with
 |nil=>intro h;right;simpa [mput] using h
 | cons a es ih=>
  obtain⟨m,y⟩:=a
  intro h
  unfold mput at h
  split at h
  ·rcases List.mem_cons.1 h with h|h
   ·right;simp_all
   ·left;exact List.mem_cons_of_mem _ h
  ·rcases List.mem_cons.1 h with h|h
   ·left;rw [h];exact List.mem_cons_self ..
   ·exact(ih h).imp (List.mem_cons_of_mem _) id
theorem mput_len (es:Ps) (n:Int) (x:List Int):(mput es n x).length≤es.length+1:=by
 induction es with
 |nil=>simp [mput]
 |cons a es ih=>
  obtain⟨m,y⟩:=a
  unfold mput
  split<;>simp only [List.length_cons]<;>omega
theorem esL_len (hs:List Int):∀(l:List RP) (es:Ps),(l.foldl (putP hs) es).length≤es.length+l.length
 |[],es=>by simp
 | p::l,es=>by
  have h:=esL_len hs l (putP hs es p)
  have h2:(putP hs es p).length≤es.length+1:=by
   unfold putP;split
   ·exact mput_len _ _ _
   ·omega
  simp only [List.foldl_cons,List.length_cons];omega
theorem xor0 {a b:Nat} (h:a^^^b=0):a=b:=by
 apply Nat.eq_of_testBit_eq
 intro i
 have:=congrArg (fun n=>n.testBit i) h
 simp only [Nat.testBit_xor,Nat.zero_testBit] at this
 revert this
 cases a.testBit i<;>cases b.testBit i<;>simp
theorem not_wild {a x:Int} (h:¬wildE a x):0≤x∧x.toNat=x.toNat&&&a.toNat:=by
 unfold wildE at h
 have h1:¬x<0:=fun g=>h (.inl g)
 have h2:(((x.toNat^^^(x.toNat&&&a.toNat)):Nat):Int)=0:=nw fun g=>h (.inr g)
 exact⟨by omega,xor0 (by omega)⟩
def PsOk (hs:List Int) (es:Ps):Prop:=∀e∈es,(0≤e.1∧e.1<12)∧e.2.length=hs.length∧∀x∈e.2,0≤x∧x<4096
theorem esL_ok {hs:List Int} (hh:∀h∈hs,0≤h∧h<12):∀(l:List RP) (es:Ps),PsOk hs es→PsOk hs (l.foldl (putP hs) es)
 |[],es,h=>h
 | p::l,es,h=>by
  refine esL_ok hh l _ fun e he=> ?_
  unfold putP at he
  split at he
  ·rename_i hc
   rcases mput_mem he with he|rfl
   ·exact h e he
   ·refine⟨hh _ hc.2.2.2,by have:=hc.2.2.1;show p.2.1.length=_;omega,fun x hx=> ?_⟩
    obtain⟨x0,x1⟩:=not_wild fun g=>hc.2.1 ⟨x,hx,g⟩
    have ha:=allS_bd hh hs.length
    rw [List.take_length] at ha
    have:x.toNat&&&(allS hs).toNat≤(allS hs).toNat:=Nat.and_le_right
    omega
  ·exact h e he
noncomputable def vd1 (hs:List Int) (wr:Int) (es:Ps) (k:Nat):List (Int×Int×Unit):=
 if 0≤cl es (k:Int) (hs.drop 0) 0 ((hs.length:Int)-wr) then [(hs.getD k 0,cl es (k:Int) (hs.drop 0) 0 ((hs.length:Int)-wr),())] else []
noncomputable def vdL (hs:List Int) (wr:Int) (es:Ps):Nat→List (Int×Int×Unit)
 |0=> []
 |k+1=>vdL hs wr es k++vd1 hs wr es k
theorem vdL_len (hs:List Int) (wr:Int) (es:Ps):∀k,(vdL hs wr es k).length≤k
 |0=>by simp [vdL]
 |k+1=>by
  have:=vdL_len hs wr es k
  unfold vdL vd1
  split<;>simp<;>omega
noncomputable def decL (hs:List Int) (nd wr sz st ph:Int) (l:List RP):List (Int×Int×Unit):=
 if tkE hs nd wr sz st ph=0 then vdL hs wr (esL hs l) hs.length else []
theorem nxt_sum {s h:Int} (s0:0≤s) (h0:0≤h) (hs:s<2^h.toNat):nxt s h=s+2^h.toNat:=by
 obtain⟨n,rfl⟩:=Int.eq_ofNat_of_zero_le h0
 obtain⟨m,rfl⟩:=Int.eq_ofNat_of_zero_le s0
 rw [Int.toNat_natCast] at hs ⊢
 have e:((1:Int)*2^n).toNat=2^n:=by rw [Int.one_mul,show(2:Int)^n=((2^n:Nat):Int) by rw [Int.natCast_pow];rfl,Int.toNat_natCast]
 have h2:m<2^n:=by
  have:((m:Nat):Int)<((2^n:Nat):Int):=by rw [Int.natCast_pow];exact hs
  exact Int.ofNat_lt.1 this
 have h3:=Nat.two_pow_add_eq_or_of_lt h2 1
 rw [Nat.mul_one] at h3
 unfold nxt
 rw [Int.toNat_natCast,Int.toNat_natCast,e,Nat.or_comm,←h3,Int.natCast_add,Int.natCast_pow,Int.add_comm]
 rfl
theorem fold_lt:∀(l:List Int) (s p:Int),-1≤p→hsF p l=true→0≤s→s<2^(p+1).toNat→∀k,k≤l.length→0≤(l.take k).foldl nxt s∧∀(h:Int),p<h→(∀x∈l.take k,x<h)→(l.take k).foldl nxt s<2^h.toNat
 |_,s,p,hp,_,s0,s1,0,_=>by
  refine⟨by simpa using s0,fun h hh _=> ?_⟩
  have h1:=Nat.pow_le_pow_right (n:=2) (by omega) (show(p+1).toNat≤h.toNat by omega)
  have h2:((2^(p+1).toNat:Nat):Int)≤((2^h.toNat:Nat):Int):=Int.ofNat_le.2 h1
  rw [Int.natCast_pow,Int.natCast_pow] at h2
  have h3:(2:Int)^(p+1).toNat≤2^h.toNat:=h2
  simp only [List.take_zero,List.foldl_nil]
  omega
 |[],s,p,hp,hh,s0,s1,k+1,hk=>by simp at hk
 | a::l,s,p,hp,hh,s0,s1,k+1,hk=>by
  simp only [hsF,Bool.and_eq_true,decide_eq_true_eq] at hh
  obtain⟨⟨a0,a1,a2⟩,hl⟩:=hh
  have hpw:∀{x y:Int},0≤x→x≤y→(2:Int)^x.toNat≤2^y.toNat:=fun {x y} hx hxy=>by
   have h1:=Nat.pow_le_pow_right (n:=2) (by omega) (show x.toNat≤y.toNat by omega)
   have h2:((2^x.toNat:Nat):Int)≤((2^y.toNat:Nat):Int):=Int.ofNat_le.2 h1
   rw [Int.natCast_pow,Int.natCast_pow] at h2
   exact h2
  have s2:s<2^a.toNat:=Int.lt_of_lt_of_le s1 (hpw (by omega) (by omega))
  have e:=nxt_sum s0 a0 s2
  have p0:(0:Int)<2^a.toNat:=Int.pow_pos (by omega)
  have e2:(2:Int)^(a+1).toNat=2*2^a.toNat:=by rw [show(a+1).toNat=a.toNat+1 by omega,Int.pow_succ,Int.mul_comm]
  obtain⟨f0,f1⟩:=fold_lt l (nxt s a) a (by omega) hl (by omega) (by omega) k (by simpa using hk)
  rw [List.take_succ_cons,List.foldl_cons]
  exact⟨f0,fun h hh hx=>f1 h (hx a (by simp)) fun x hm=>hx x (by simp [hm])⟩
theorem sorted_take:∀(l:List Int) (p:Int) (k:Nat),hsF p l=true→k<l.length→p<l.getD k 0∧∀x∈l.take k,x<l.getD k 0
 |[],_,k,_,hk=>by simp at hk
 |a::l,p,0,hh,_=>by
  simp only [hsF,Bool.and_eq_true,decide_eq_true_eq] at hh
  exact⟨hh.1.2.2,fun x hx=>by simp at hx⟩
 |a::l,p,k+1,hh,hk=>by
  simp only [hsF,Bool.and_eq_true,decide_eq_true_eq] at hh
  obtain⟨h1,h2⟩:=sorted_take l a k hh.2 (by simpa using hk)
  have e:(a::l).getD (k+1) 0=l.getD k 0:=by simp
  rw [e,List.take_succ_cons]
  refine⟨by omega,fun x hx=> ?_⟩
  rcases List.mem_cons.1 hx with rfl|hx
  ·exact h1
  ·exact h2 x hx
theorem allS_sum {hs:List Int} (hh:hsF (-1) hs=true) {k:Nat} (hk:k<hs.length):allS (hs.take (k+1))=allS (hs.take k)+2^(hs.getD k 0).toNat:=by
 rw [allS_step hk]
 obtain⟨h0,h1⟩:=sorted_take hs (-1) k hh hk
 obtain⟨f0,f1⟩:=fold_lt hs 0 (-1) (by omega) hh (by omega) (by decide) k (by omega)
 exact nxt_sum f0 (by omega) (f1 _ h0 h1)
def cntP (hs:List Int) (p0:Int) (p1:List Int):Prop:=p0∈hs∧p1.length=hs.length∧¬∃x∈p1,wildE (allS hs) x
theorem wild_and {a x:Int} (h0:¬x<0) (h:((x.toNat&&&a.toNat:Nat):Int)=x):¬wildE a x:=by
 rintro(h|h)
 ·exact h0 h
 ·have e:x.toNat&&&a.toNat=x.toNat:=by omega
  exact h (by rw [e,Nat.xor_self];rfl)
theorem wild_ne {a x:Int} (h:¬((x.toNat&&&a.toNat:Nat):Int)=x):wildE a x:=by
 refine Classical.byContradiction fun g=>h ?_
 obtain⟨h0,h1⟩:=not_wild g
 omega
end
noncomputable def sDec:List V→Option (Prop×V×List Blk)
 |[.agg [.sl false (.int .i64) hs,.int .i64 nd,.int .i64 wr,.int .i64 sz,.int .i64 st,.int .i64 ph],.sl false (.cons (.int .i64) (.cons (.sl (.int .i64)) .nil)) l]=>some (hs.length≤2000000∧l.length≤20∧∀p∈l,p.2.1.length≤1048576,.tup [.own (.cons (.int .i64) (.cons (.int .i64) .nil)) 0,.int .i64 (tkE hs nd wr sz st ph)], [.row true (.cons (.int .i64) (.cons (.int .i64) .nil)) (decL hs nd wr sz st ph l)])
 |_=>none
theorem bDec (hs:List Int) (nd wr sz st ph:Int) (l:List (Int×(List Int×Unit))) (hp0:hs.length≤2000000) (hp1:l.length≤20) (hp2:∀p∈l,p.2.1.length≤1048576):bodyP (En CSe tys G6 [] [1000006]) Tryd.f24 [.o (.cons (.int .i64) (.cons (.int .i64) .nil)),.k] [aTk hs nd wr sz st ph,.sl false tPo l] (.tup [.own (.cons (.int .i64) (.cons (.int .i64) .nil)) 0,.int .i64 (tkE hs nd wr sz st ph)]) [.row true (.cons (.int .i64) (.cons (.int .i64) .nil)) (decL hs nd wr sz st ph l)]:=by
 refine⟨rfl,rfl,rfl,rfl,rfl,om (hs.length≤2000000),yn ((tkE hs nd wr sz st ph)≠0) (fun h0=> ?_) fun h0=> ?_⟩
 ·rw [show decL hs nd wr sz st ph l= [] from if_neg h0]
  exact d4'
 ·have hT:=tk0 (nw h0)
  have hsb:∀h∈hs,0≤h∧h<12:=hT.hs12
  have hn12:=hT.l12
  refine⟨w3',2, [(1,.k),(2,.k),(7,.k),(27,.k),(28,.k),(29,.k)],fun nM vs H=>∃(k:Nat),k≤hs.length∧nM=hs.length-k∧vs= [.sl false tPo l,.ptr 0 1 0 0,.ptr 1 1 0 0,.sl false (.int .i64) hs,.int .i64 (hs.length:Int),.int .i64 (k:Int)]∧H= [.cells [.sl false (.int .i64) hs,.int .i64 nd,.int .i64 wr,.int .i64 sz,.int .i64 st,.int .i64 ph],.cells [.int .i64 (allS (hs.take k))]],⟨rfl,hs.length,0,by omega,by omega,rfl,rfl⟩,?_⟩
  rintro nM vs H ⟨k,hc1_0,rfl,rfl,rfl⟩
  refine yn ((k:Int)<(hs.length:Int)) (fun h1=> ?_) fun h1=> ?_
  ·have hkl:k<hs.length:=by omega
   obtain⟨g0,g1⟩:=hsb _ (gmem 0 hs k hkl)
   obtain⟨p0,p1⟩:=pw12 g0 g1
   obtain⟨a0,a1⟩:=allS_bd hsb k
   refine⟨ix k hs.length,by kernel_rfl,⟨om ((0:Int)≤hs.getD k 0),om (hs.getD k 0≤(64:Int))⟩,r64 ((1:Int)*2^((hs.getD k 0).toNat)),.inl ⟨⟨om ((0:Int)≤(allS (hs.take k))),om ((0:Int)≤((1:Int)*2^((hs.getD k 0).toNat)))⟩,?_⟩⟩
   refine⟨w3',r64 (k+1),?_⟩
   exact⟨rfl,hs.length-(k+1),by omega,k+1,by omega,rfl,rfl,by rw [allS_step hkl];rfl⟩
  ·have hk:hs.take k=hs:=List.take_of_length_le (by omega)
   obtain⟨a0,a1⟩:=allS_bd hsb k
   refine⟨w3',4, [(2,.k),(7,.k),(10,.k),(39,.k),(40,.k),(41,.k)],fun nM vs H=>∃(j:Nat),j≤l.length∧nM=l.length-j∧vs= [.ptr 0 1 0 0,.ptr 1 1 0 0,.ptr 3 1 0 0,.sl false tPo l,.int .i64 (l.length:Int),.int .i64 (j:Int)]∧H= [.cells [.sl false (.int .i64) hs,.int .i64 nd,.int .i64 wr,.int .i64 sz,.int .i64 st,.int .i64 ph],.cells [.int .i64 (allS (hs.take k))],.imap false (.sl (.int .i64)) (esL hs (l.take j)),.cells [.mp (.sl (.int .i64)) 2]],⟨rfl,l.length,0,by omega,by omega,rfl,rfl⟩,?_⟩
   rintro nM vs H ⟨j,hc2_0,rfl,rfl,rfl⟩
   refine yn ((j:Int)<(l.length:Int)) (fun h2=> ?_) fun h2=> ?_
   ·have hjl:j<l.length:=by omega
    have hpl:=hp2 _ (gmem (0,([],())) l j hjl)
    have hel:=esL_len hs (l.take j) []
    rw [List.length_take,List.length_nil] at hel
    replace hel:(esL hs (l.take j)).length≤0+min j l.length:=hel
    refine⟨ix j l.length,w4',rfl,fun x3 h3=> ?_,fun h3=> ?_⟩
    ·replace h3:mget (esL hs (l.take j)) ((l.getD j (0,([],()))).1)=some x3:=h3
     have hps:esL hs (l.take (j+1))=esL hs (l.take j):=by
      rw [esL_step hjl,putP,if_neg (fun h=>by
       have h9:=h3.symm.trans h.1
       cases h9)]
     refine⟨rfl,⟨os (0≤(allS (hs.take k))),os ((((l.getD j (0,([],()))).2).1).length≤1048576)⟩,cn (¬True),fun h4=> ?_⟩
     refine⟨r64 (j+1),?_⟩
     exact⟨rfl,l.length-(j+1),by omega,j+1,by omega,rfl,rfl,by rw [hps];rfl⟩
    ·replace h3:mget (esL hs (l.take j)) ((l.getD j (0,([],()))).1)=none:=h3
     refine⟨rfl,⟨os (0≤(allS (hs.take k))),os ((((l.getD j (0,([],()))).2).1).length≤1048576)⟩,fun h5=> ?_,cp (¬False)⟩
     refine yn (¬(∃x∈(((l.getD j (0,([],()))).2).1),wildE (allS (hs.take k)) x)) (fun h6=> ?_) fun h6=> ?_
     ·refine yn ((((((l.getD j (0,([],()))).2).1).length:Nat):Int)=(hs.length:Int)) (fun h7=> ?_) fun h7=> ?_
      ·refine⟨rfl,om (hs.length≤2000000),yn (((l.getD j (0,([],()))).1)∈hs) (fun h8=> ?_) fun h8=> ?_⟩
       ·have hps:esL hs (l.take (j+1))=mput (esL hs (l.take j)) (l.getD j (0,([],()))).1 (l.getD j (0,([],()))).2.1:=by
         rw [hk] at h6
         rw [esL_step hjl,putP,if_pos ⟨h3,h6,h7,h8⟩]
        refine⟨⟨rfl,om ((esL hs (l.take j)).length≤1000000000)⟩,r64 (j+1),?_⟩
        exact⟨rfl,l.length-(j+1),by omega,j+1,by omega,rfl,rfl,by rw [hps];rfl⟩
       ·have hps:esL hs (l.take (j+1))=esL hs (l.take j):=by
         rw [esL_step hjl,putP,if_neg (fun h=>h8 h.2.2.2)]
        refine⟨r64 (j+1),?_⟩
        exact⟨rfl,l.length-(j+1),by omega,j+1,by omega,rfl,rfl,by rw [hps];rfl⟩
      ·have hps:esL hs (l.take (j+1))=esL hs (l.take j):=by
        rw [esL_step hjl,putP,if_neg (fun h=>h7 h.2.2.1)]
       refine⟨r64 (j+1),?_⟩
       exact⟨rfl,l.length-(j+1),by omega,j+1,by omega,rfl,rfl,by rw [hps];rfl⟩
     ·have hps:esL hs (l.take (j+1))=esL hs (l.take j):=by
       rw [esL_step hjl,putP,if_neg (fun h=>h6 (by rw [hk];exact h.2.1))]
      refine⟨r64 (j+1),?_⟩
      exact⟨rfl,l.length-(j+1),by omega,j+1,by omega,rfl,rfl,by rw [hps];rfl⟩
   ·have hj:l.take j=l:=List.take_of_length_le (by omega)
    have hok:=esL_ok hsb l [] (fun e he=>by cases he)
    refine⟨4, [(2,.k),(10,.k),(16,.o (.cons (.int .i64) (.cons (.int .i64) .nil))),(85,.k),(86,.k),(87,.k)],fun nM vs H=>∃(m:Nat),m≤hs.length∧nM=hs.length-m∧vs= [.p 0,.p 3,.own (.cons (.int .i64) (.cons (.int .i64) .nil)) 4,.sl false (.int .i64) hs,.i (hs.length:Int),.i m]∧H= [cTk hs nd wr sz st ph,.cells [.i (allS (hs.take k))],.imap false (.sl (.int .i64)) (esL hs (l.take j)),.cells [.mp (.sl (.int .i64)) 2],.r (.cons (.int .i64) (.cons (.int .i64) .nil)) (vdL hs wr (esL hs l) m)],⟨rfl,hs.length,0,by omega,by omega,rfl,rfl⟩,?_⟩
    rintro nM vs H ⟨m,hc3_0,rfl,rfl,rfl⟩
    refine yn ((m:Int)<(hs.length:Int)) (fun h9=> ?_) fun h9=> ?_
    ·have hm:m<hs.length:=by omega
     have hv:=vdL_len hs wr (esL hs l) m
     have hq:=hT.q1
     have r1:=hT.rg.1.1.1
     obtain⟨r2,r3⟩:=hT.rg.1.2.1
     obtain⟨g0,g1⟩:=hsb _ (gmem 0 hs m hm)
     have hSr:SrOk hs (esL hs (l.take j)) (m:Int) 0 ((hs.length:Int)-wr) 0:=⟨by omega,by omega,by omega,by omega,by omega,by omega,by omega,by omega,by omega,hsb,by rw [hj];exact hok⟩
     refine⟨ix m hs.length,w3',w3',r64 (hs.length-wr),w2',hSr,yn (0≤(cl (esL hs (l.take j)) (m:Int) (hs.drop 0) 0 ((hs.length:Int)-wr))) (fun h10=> ?_) fun h10=> ?_⟩
     ·have hvd:vdL hs wr (esL hs l) (m+1)=vdL hs wr (esL hs l) m++ [(hs.getD m 0,(cl (esL hs (l.take j)) (m:Int) (hs.drop 0) 0 ((hs.length:Int)-wr),()))]:=by
       rw [hj] at h10
       rw [vdL,vd1,if_pos h10,hj]
      refine⟨rfl,rfl,w2',l9 (vdL hs wr (esL hs l) m).length,r64 (m+1),?_⟩
      exact⟨rfl,hs.length-(m+1),by omega,m+1,by omega,rfl,rfl,by rw [hvd];rfl⟩
     ·have hvd:vdL hs wr (esL hs l) (m+1)=vdL hs wr (esL hs l) m:=by
       rw [hj] at h10
       rw [vdL,vd1,if_neg h10,List.append_nil]
      refine⟨r64 (m+1),?_⟩
      exact⟨rfl,hs.length-(m+1),by omega,m+1,by omega,rfl,rfl,by rw [hvd];rfl⟩
    ·rw [show decL hs nd wr sz st ph l=vdL hs wr (esL hs l) m by rw [decL,if_pos (nw h0),show m=hs.length by omega],nw h0]
     exact d4'
noncomputable def CDec:List (Nat×Con):=(24,pureC [.v tTk,.v (.sl tPo)] sDec)::CIn
theorem kDec:Known Tryd.prog (En CDec tys G6 []):=kIn.addT kSe Tryd.func24 Tryd.call24 [.o (.cons (.int .i64) (.cons (.int .i64) .nil)),.k] fun ds p v bs h hp=>by
 unfold sDec at h
 split at h<;>simp only [Option.some.injEq,Prod.mk.injEq,reduceCtorEq] at h
 obtain⟨rfl,rfl,rfl⟩:=h
 exact bDec _ _ _ _ _ _ _ hp.1 hp.2.1 hp.2.2
noncomputable def sCou:List V→Option (Prop×V×List Blk)
 |[.agg [.sl false (.int .i64) hs,.int .i64 nd,.int .i64 wr,.int .i64 sz,.int .i64 st,.int .i64 ph],.agg [.int .i64 p0,.sl false (.int .i64) p1]]=>some (hs.length≤12∧hsF (-1) hs=true∧p1.length≤1048576,.b (cntP hs p0 p1), [])
 |_=>none
theorem bCou (hs:List Int) (nd wr sz st ph p0:Int) (p1:List Int):bodyQ (En CDec tys G6 []) Tryd.f103 [.k] sCou [aTk hs nd wr sz st ph,.agg [.int .i64 p0,.sl false (.int .i64) p1]]:=by
 rintro⟨hp0,hp1,hp2⟩
 have hsb:∀x∈hs,0≤x∧x<12:=fun x hx=>by
  obtain⟨i,hi,rfl⟩:=List.mem_iff_getElem.1 hx
  have:=hsF_at hs (-1) i hp1 hi
  rw [gD hi] at this
  omega
 refine⟨rfl,rfl,rfl,rfl,rfl,rfl,om (hs.length≤2000000),ny ((idxF p0 hs 0)<0) (fun h0=> ?_) fun h0=> ?_⟩
 ·refine yn ((p1.length:Int)≠(hs.length:Int)) (fun h1=> ?_) fun h1=> ?_
  ·exact⟨rfl,rfl,congrArg V.b (propext ⟨fun h=>Bool.noConfusion h,fun h=>False.elim (h1 (by have:=h.2.1;omega))⟩),rfl⟩
  ·refine⟨2, [(2,.k),(3,.k),(5,.k),(6,.k)],fun nM vs H=>∃(k:Nat),k≤hs.length∧nM=hs.length-k∧vs= [.p 0,.p 1,.i (allS (hs.take k)),.i k]∧H= [cTk hs nd wr sz st ph,.cells [.i p0,.sl false (.int .i64) p1]],⟨rfl,hs.length,0,by omega,by omega,rfl,rfl⟩,?_⟩
   rintro nM vs H ⟨k,hc1_0,rfl,rfl,rfl⟩
   refine yn ((k:Int)<(hs.length:Int)) (fun h2=> ?_) fun h2=> ?_
   ·have hkl:k<hs.length:=by omega
    obtain⟨g0,g1⟩:=hsb _ (gmem 0 hs k hkl)
    obtain⟨p0_,p1_⟩:=pw12 g0 g1
    obtain⟨a0,a1⟩:=allS_bd hsb k
    have hst:=allS_sum hp1 hkl
    refine⟨ix k hs.length,rfl,⟨om (0≤(hs.getD k 0)),om ((hs.getD k 0)<12)⟩,r64 ((allS (hs.take k))+((2:Int)^((hs.getD k 0)).toNat)),r64 (k+1),?_⟩
    exact⟨rfl,hs.length-(k+1),by omega,k+1,by omega,rfl,by rw [hst];rfl,rfl⟩
   ·have hk:hs.take k=hs:=List.take_of_length_le (by omega)
    obtain⟨a0,a1⟩:=allS_bd hsb k
    refine⟨2, [(3,.k),(5,.k),(7,.k)],fun nM vs H=>∃(j:Nat),j≤p1.length∧(∀x∈p1.take j,¬wildE (allS hs) x)∧nM=p1.length-j∧vs= [.p 1,.i (allS (hs.take k)),.i j]∧H= [cTk hs nd wr sz st ph,.cells [.i p0,.sl false (.int .i64) p1]],⟨rfl,p1.length,0,by omega,fun x hx=>by simp at hx,by omega,rfl,rfl⟩,?_⟩
    rintro nM vs H ⟨j,hc2_0,hc2_1,rfl,rfl,rfl⟩
    refine yn ((j:Int)<(p1.length:Int)) (fun h3=> ?_) fun h3=> ?_
    ·have hjl:j<p1.length:=by omega
     refine⟨by kernel_rfl,ix j p1.length,ny ((p1.getD j 0)<0) (fun h4=> ?_) fun h4=> ?_⟩
     ·refine⟨fun h5=> ?_,cn ((p1.getD j 0)<0)⟩
      refine⟨fun h6=> ?_,cn ((p1.getD j 0)<0)⟩
      refine⟨fun h7=> ?_,cn ((p1.getD j 0)<0)⟩
      refine⟨ix j p1.length,fun h8=> ?_,cn ((p1.getD j 0)<0)⟩
      refine⟨fun h9=> ?_,cn ((p1.getD j 0)<0)⟩
      refine⟨fun h10=> ?_,cn ((p1.getD j 0)<0)⟩
      refine .inl ⟨⟨om ((0:Int)≤(p1.getD j 0)),om ((0:Int)≤(allS (hs.take k)))⟩,?_⟩
      refine⟨fun h11=> ?_,cn ((p1.getD j 0)<0)⟩
      refine⟨fun h12=> ?_,cn ((p1.getD j 0)<0)⟩
      refine⟨fun h13=> ?_,cn ((p1.getD j 0)<0)⟩
      refine⟨fun h14=> ?_,cn ((p1.getD j 0)<0)⟩
      refine⟨ix j p1.length,fun h15=> ?_,cn ((p1.getD j 0)<0)⟩
      refine⟨fun h16=> ?_,cn ((p1.getD j 0)<0)⟩
      refine⟨cn ((p1.getD j 0)<0),fun h17=> ?_⟩
      refine yn (((((p1.getD j 0).toNat)&&&((allS (hs.take k)).toNat):Nat):Int)≠(p1.getD j 0)) (fun h18=> ?_) fun h18=> ?_
      ·rw [hk] at h18
       exact⟨rfl,rfl,congrArg V.b (propext ⟨fun h=>Bool.noConfusion h,fun h=>False.elim (h.2.2 ⟨_,gmem 0 p1 j hjl,wild_ne h18⟩)⟩),rfl⟩
      ·rw [hk] at h18
       have hnx:∀x∈p1.take (j+1),¬wildE (allS hs) x:=fun x hx=>by
        rw [List.take_succ_eq_append_getElem hjl] at hx
        rcases List.mem_append.1 hx with hx|hx
        ·exact hc2_1 x hx
        ·obtain rfl:x=p1.getD j 0:=by rw [gD hjl];simpa using hx
         exact wild_and h4 (nw h18)
       refine⟨r64 (j+1),?_⟩
       exact⟨rfl,p1.length-(j+1),by omega,j+1,by omega,hnx,rfl,rfl,rfl⟩
     ·refine⟨cp ((p1.getD j 0)<0),fun h19=> ?_⟩
      refine⟨cp ((p1.getD j 0)<0),fun h20=> ?_⟩
      refine⟨cp ((p1.getD j 0)<0),fun h21=> ?_⟩
      refine⟨cp ((p1.getD j 0)<0),fun h22=> ?_⟩
      refine⟨cp ((p1.getD j 0)<0),fun h23=> ?_⟩
      refine⟨cp ((p1.getD j 0)<0),fun h24=> ?_⟩
      refine⟨cp ((p1.getD j 0)<0),fun h25=> ?_⟩
      refine⟨cp ((p1.getD j 0)<0),fun h26=> ?_⟩
      refine⟨cp ((p1.getD j 0)<0),fun h27=> ?_⟩
      refine⟨cp ((p1.getD j 0)<0),fun h28=> ?_⟩
      refine⟨cp ((p1.getD j 0)<0),fun h29=> ?_⟩
      refine⟨cp ((p1.getD j 0)<0),fun h30=> ?_⟩
      refine⟨fun h31=> ?_,cp ((p1.getD j 0)<0)⟩
      exact⟨rfl,rfl,congrArg V.b (propext ⟨fun h=>Bool.noConfusion h,fun h=>False.elim (h.2.2 ⟨_,gmem 0 p1 j hjl,.inl h4⟩)⟩),rfl⟩
    ·exact⟨rfl,rfl,congrArg V.b (propext ⟨fun _=>⟨(idxF_mem p0 hs 0 (by omega)).1 (by omega),by omega,fun⟨x,hx,hw⟩=>hc2_1 x (by rw [List.take_of_length_le (by omega)];exact hx) hw⟩,fun _=>rfl⟩),rfl⟩
 ·exact⟨rfl,rfl,congrArg V.b (propext ⟨fun h=>Bool.noConfusion h,fun h=>False.elim (by have:=(idxF_mem p0 hs 0 (by omega)).2 h.1;omega)⟩),rfl⟩
noncomputable def CCou:List (Nat×Con):=(103,pureC [.v tTk,.v tPo] sCou)::CDec
theorem kCou:Known Tryd.prog (En CCou tys G6 []):=kDec.addQ Tryd.func103 Tryd.call103 [.k] fun ds _ _ _ h=>by unfold sCou at h;split at h;exact bCou _ _ _ _ _ _ _ _;cases h
def ouL (hs:List Int) (es:Ps) (d:Int):List Int:=hs.map fun h=>((mget es h).getD []).getD d.toNat 0
def knL (hs:List Int) (es:Ps):List Bool:=hs.map fun h=>(mget es h).isSome
theorem ouL_len (hs:List Int) (es:Ps) (d:Int):(ouL hs es d).length=hs.length:=List.length_map ..
theorem knL_len (hs:List Int) (es:Ps):(knL hs es).length=hs.length:=List.length_map ..
theorem ou0 (hs:List Int) (d:Int):ouL hs (esL hs []) d=List.replicate hs.length 0:=(List.map_const':List.map (fun _=>(0:Int)) hs=_)
theorem kn0 (hs:List Int):knL hs (esL hs [])=List.replicate hs.length false:=(List.map_const':List.map (fun _=>false) hs=_)
theorem idxF_pos (x:Int):∀(l:List Int) (k:Nat),x∈l→∃i:Nat,i<l.length∧idxF x l k=(k:Int)+i∧l.getD i 0=x
 |[],_,h=>by cases h
 | a::l,k,h=>by
  unfold idxF
  by_cases e:x=a
  ·exact⟨0,by simp,by rw [if_pos e];simp,by simp [e]⟩
  ·rw [if_neg e]
   obtain⟨i,h1,h2,h3⟩:=idxF_pos x l (k+1) ((List.mem_cons.1 h).resolve_left e)
   refine⟨i+1,by simp;omega,?_,by simpa using h3⟩
   rw [show((k:Int)+1)=((k+1:Nat):Int) by omega,h2];omega
theorem pos_of {hs:List Int} {p:Int} (h:p∈hs):0≤idxF p hs 0∧(idxF p hs 0).toNat<hs.length∧hs.getD (idxF p hs 0).toNat 0=p:=by
 obtain⟨i,h1,h2,h3⟩:=idxF_pos p hs 0 h
 have h2:idxF p hs 0=(0:Int)+i:=h2
 have e:(idxF p hs 0).toNat=i:=by omega
 exact⟨by omega,by omega,by rw [e];exact h3⟩
theorem nodup_hs {hs:List Int} (hh:hsF (-1) hs=true) {i j:Nat} (hi:i<hs.length) (hj:j<hs.length) (e:hs.getD i 0=hs.getD j 0):i=j:=by
 have key:∀a b:Nat,a<b→b<hs.length→hs.getD a 0<hs.getD b 0:=fun a b hab hb=>by
  refine(sorted_take hs (-1) b hh hb).2 _ ?_
  rw [gD (show a<hs.length by omega)]
  exact List.mem_take_iff_getElem.2 ⟨a,by omega,rfl⟩
 rcases Nat.lt_trichotomy i j with h|h|h
 ·have:=key i j h hj;omega
 ·exact h
 ·have:=key j i h hi;omega
theorem mget_mput (n m:Int) (x:List Int):∀es:Ps,mget (mput es n x) m=if n=m then some x else mget es m
 |[]=>by simp [mput,mget]
 | (a,y)::es=>by
  have ih:=mget_mput n m x es
  unfold mput
  by_cases e:a=n
  ·rw [if_pos e]
   subst e
   simp only [mget]
   split<;>rfl
  ·rw [if_neg e]
   simp only [mget]
   rw [ih]
   by_cases e2:a=m
   ·rw [if_pos e2,if_pos e2,if_neg (by omega)]
   ·rw [if_neg e2,if_neg e2]
theorem map_put {α:Type} {hs:List Int} {es:Ps} {p:Int} {x:List Int} (f:Option (List Int)→α) (hh:hsF (-1) hs=true) (hp:p∈hs):(hs.map fun h=>f (mget (mput es p x) h))=(hs.map fun h=>f (mget es h)).set (idxF p hs 0).toNat (f (some x)):=by
 obtain⟨h0,h1,h2⟩:=pos_of hp
 refine List.ext_getElem (by simp) fun j hj1 hj2=> ?_
 rw [List.length_map] at hj1
 rw [List.getElem_map,List.getElem_set,List.getElem_map,mget_mput]
 rw [gD h1] at h2
 by_cases e:(idxF p hs 0).toNat=j
 ·subst e
  rw [if_pos h2.symm,if_pos rfl]
 ·rw [if_neg e,if_neg fun he=>e (nodup_hs hh h1 hj1 (by rw [gD h1,gD hj1,h2,he]))]
theorem ou_put {hs:List Int} {es:Ps} {p d:Int} {x:List Int} (hh:hsF (-1) hs=true) (hp:p∈hs):ouL hs (mput es p x) d=(ouL hs es d).set (idxF p hs 0).toNat (x.getD d.toNat 0):=map_put (fun o=>(o.getD []).getD d.toNat 0) hh hp
theorem kn_put {hs:List Int} {es:Ps} {p:Int} {x:List Int} (hh:hsF (-1) hs=true) (hp:p∈hs):knL hs (mput es p x)=(knL hs es).set (idxF p hs 0).toNat true:=map_put Option.isSome hh hp
theorem kn_at {hs:List Int} {es:Ps} {p:Int} (hp:p∈hs):(knL hs es).getD (idxF p hs 0).toNat false=(mget es p).isSome:=by
 obtain⟨h0,h1,h2⟩:=pos_of hp
 rw [gD (by rw [knL_len];exact h1)]
 unfold knL
 rw [List.getElem_map]
 rw [gD h1] at h2
 rw [h2]
theorem kn_same {hs:List Int} {es:Ps} {p:Int} (hp:p∈hs) (hk:(knL hs es).getD (idxF p hs 0).toNat false=true):(knL hs es).set (idxF p hs 0).toNat true=knL hs es:=by
 obtain⟨h0,h1,h2⟩:=pos_of hp
 have hl:(idxF p hs 0).toNat<(knL hs es).length:=by rw [knL_len];exact h1
 rw [gD hl] at hk
 refine List.ext_getElem (by simp) fun j hj1 hj2=> ?_
 rw [List.getElem_set]
 split
 ·rename_i e;subst e;exact hk.symm
 ·rfl
theorem put_yes {hs:List Int} {es:Ps} {p:RP} (hc:cntP hs p.1 p.2.1) (hk:¬(knL hs es).getD (idxF p.1 hs 0).toNat false=true):putP hs es p=mput es p.1 p.2.1:=by
 rw [kn_at hc.1] at hk
 have hn:mget es p.1=none:=by cases h:mget es p.1 with|none=>rfl|some y=>rw [h] at hk;simp at hk
 exact if_pos ⟨hn,hc.2.2,by have:=hc.2.1;omega,hc.1⟩
theorem put_old {hs:List Int} {es:Ps} {p:RP} (hc:cntP hs p.1 p.2.1) (hk:(knL hs es).getD (idxF p.1 hs 0).toNat false=true):putP hs es p=es:=by
 rw [kn_at hc.1] at hk
 exact if_neg fun h=>by rw [h.1] at hk;simp at hk
theorem put_no {hs:List Int} {es:Ps} {p:RP} (hc:¬cntP hs p.1 p.2.1):putP hs es p=es:=
 if_neg fun h=>hc ⟨h.2.2.2,by have:=h.2.2.1;omega,h.2.1⟩
noncomputable def sSets:List V→Option (Prop×V×List Blk)
 |[.agg [.sl false (.int .i64) hs,.int .i64 nd,.int .i64 wr,.int .i64 sz,.int .i64 st,.int .i64 ph],.sl false (.cons (.int .i64) (.cons (.sl (.int .i64)) .nil)) l,.int .i64 d]=>some (hs.length≤12∧hsF (-1) hs=true∧l.length≤20∧(∀p∈l,p.2.1.length≤1048576)∧0≤d∧d<(hs.length:Int),.own (.int .i64) 0, [.row true (.int .i64) (ouL hs (esL hs l) d)])
 |_=>none
theorem bSets (hs:List Int) (nd wr sz st ph:Int) (l:List (Int×(List Int×Unit))) (d:Int):bodyQ (En CCou tys G6 []) Tryd.f79 [.o (.int .i64)] sSets [aTk hs nd wr sz st ph,.sl false tPo l,.int .i64 d]:=by
 rintro⟨hp0,hp1,hp2,(hp3:(∀p∈l,p.2.1.length≤1048576)),hp4,hp5⟩
 refine⟨⟨rfl,om ((0:Int)≤(hs.length:Int)),om ((hs.length:Int)≤(1000000000:Int))⟩,⟨rfl,om ((0:Int)≤(hs.length:Int)),om ((hs.length:Int)≤(1000000000:Int))⟩,1, [(1,.k),(2,.k),(3,.k),(7,.o (.int .i64)),(8,.o .bool),(9,.k)],fun nM vs H=>∃(k:Nat),k≤l.length∧nM=l.length-k∧vs= [.sl false tPo l,.int .i64 d,.ptr 0 1 0 0,.own (.int .i64) 1,.own .bool 2,.int .i64 (k:Int)]∧H= [.cells [.sl false (.int .i64) hs,.int .i64 nd,.int .i64 wr,.int .i64 sz,.int .i64 st,.int .i64 ph],.row true (.int .i64) (ouL hs (esL hs (l.take k)) d),.row true .bool (knL hs (esL hs (l.take k)))],⟨rfl,l.length,0,by omega,by omega,rfl,by rw [show ouL hs (esL hs (l.take 0)) d=List.replicate hs.length (0:Int) from ou0 hs d,show knL hs (esL hs (l.take 0))=List.replicate hs.length false from kn0 hs];rfl⟩,?_⟩
 rintro nM vs H ⟨k,hc1_0,rfl,rfl,rfl⟩
 refine yn ((k:Int)<(l.length:Int)) (fun h0=> ?_) fun h0=> ?_
 ·have hkl:k<l.length:=by omega
  have hpl:=hp3 _ (gmem (0,([],())) l k hkl)
  have hol:=ouL_len hs (esL hs (l.take k)) d
  have hkn:=knL_len hs (esL hs (l.take k))
  have hst:=esL_step (hs:=hs) hkl
  refine⟨by kernel_rfl,ix k l.length,rfl,rfl,rfl,rfl,rfl,rfl,⟨om (hs.length≤12),by first|assumption|simp,os ((((l.getD k (0,([],()))).2).1).length≤1048576)⟩,yn (cntP hs ((l.getD k (0,([],()))).1) (((l.getD k (0,([],()))).2).1)) (fun h1=> ?_) fun h1=> ?_⟩
  ·obtain⟨ix0,ix1,ix2⟩:=pos_of h1.1
   have hpd:=h1.2.1
   refine⟨by kernel_rfl,ix k l.length,rfl,rfl,rfl,rfl,rfl,rfl,om (hs.length≤2000000),ix (idxF ((l.getD k (0,([],()))).1) hs 0) (knL hs (esL hs (l.take k))).length,yn (¬(((knL hs (esL hs (l.take k))).getD ((idxF ((l.getD k (0,([],()))).1) hs 0).toNat) false)=true)) (fun h2=> ?_) fun h2=> ?_⟩
   ·have ey:=hst.trans (put_yes h1 h2)
    have dset: @decide (true=true) (Classical.propDecidable _)=true:= @decide_eq_true _ (Classical.propDecidable _) rfl
    have eo2:(ouL hs (esL hs (l.take k)) d).set (idxF (l.getD k (0,([],()))).1 hs 0).toNat ((l.getD k (0,([],()))).2.1.getD d.toNat 0)=ouL hs (esL hs (l.take (k+1))) d:=by rw [ey,ou_put hp1 h1.1]
    have ek2:(knL hs (esL hs (l.take k))).set (idxF (l.getD k (0,([],()))).1 hs 0).toNat (@decide (true=true) (Classical.propDecidable _))=knL hs (esL hs (l.take (k+1))):=by rw [ey,kn_put hp1 h1.1,dset]
    refine⟨ix k l.length,ix d (((l.getD k (0,([],()))).2).1).length,ix (idxF ((l.getD k (0,([],()))).1) hs 0) (ouL hs (esL hs (l.take k)) d).length,rfl,w2',ix (idxF ((l.getD k (0,([],()))).1) hs 0) (knL hs (esL hs (l.take k))).length,w2',r64 (k+1),?_⟩
    exact⟨rfl,l.length-(k+1),by omega,k+1,by omega,rfl,rfl,by first|(rw [←ek2,←eo2];rfl)|(rw [←ek2,ey];rfl)|(rw [ey];rfl)⟩
   ·have ey:=hst.trans (put_old h1 (nw h2))
    have ek:=kn_same h1.1 (nw h2)
    have dset: @decide (true=true) (Classical.propDecidable _)=true:= @decide_eq_true _ (Classical.propDecidable _) rfl
    have ek2:(knL hs (esL hs (l.take k))).set (idxF (l.getD k (0,([],()))).1 hs 0).toNat (@decide (true=true) (Classical.propDecidable _))=knL hs (esL hs (l.take (k+1))):=by rw [ey,dset,ek]
    refine⟨ix (idxF ((l.getD k (0,([],()))).1) hs 0) (knL hs (esL hs (l.take k))).length,w2',r64 (k+1),?_⟩
    exact⟨rfl,l.length-(k+1),by omega,k+1,by omega,rfl,rfl,by first|(rw [←ek2,←eo2];rfl)|(rw [←ek2,ey];rfl)|(rw [ey];rfl)⟩
  ·have ey:=hst.trans (put_no h1)
   refine⟨r64 (k+1),?_⟩
   exact⟨rfl,l.length-(k+1),by omega,k+1,by omega,rfl,rfl,by first|(rw [←ek2,←eo2];rfl)|(rw [←ek2,ey];rfl)|(rw [ey];rfl)⟩
 ·rw [show l.take k=l from List.take_of_length_le (by omega)]
  exact d4'
noncomputable def CSets:List (Nat×Con):=(79,pureC [.v tTk,.v (.sl tPo),.v (.int .i64)] sSets)::CCou
theorem kSets:Known Tryd.prog (En CSets tys G6 []):=kCou.addQ Tryd.func79 Tryd.call79 [.o (.int .i64)] fun ds _ _ _ h=>by unfold sSets at h;split at h;exact bSets _ _ _ _ _ _ _ _;cases h
section
def fitK (hs ag:List Int) (set:Int) (k i:Nat):Prop:=
 ((((ag.getD k 0).toNat&&&((2:Int)^(hs.getD k 0).toNat).toNat:Nat):Int)=2^(hs.getD k 0).toNat∧(((ag.getD k 0).toNat&&&set.toNat:Nat):Int)=set)∧
  ∀j,j<i→(set/2^(hs.getD j 0).toNat)%2=1→(((ag.getD j 0).toNat&&&((2:Int)^(hs.getD k 0).toNat).toNat:Nat):Int)=2^(hs.getD k 0).toNat
open Classical in
noncomputable def clR (hs ag:List Int):Nat→Int→Int→Int
 |0,set,more=>if more=0 then set else -1
 | m+1,set,more=>if more=0 then set else
  if fitK hs ag set (hs.length-(m+1)) hs.length then
   (if 0≤clR hs ag m (set+2^(hs.getD (hs.length-(m+1)) 0).toNat) (more-1) then clR hs ag m (set+2^(hs.getD (hs.length-(m+1)) 0).toNat) (more-1) else clR hs ag m set more)
  else clR hs ag m set more
theorem clR_zero (hs ag:List Int) (set:Int):∀m,clR hs ag m set 0=set
 |0=>by simp [clR]
 |m+1=>by simp [clR]
section
variable {hs ag:List Int} {set more:Int} {k i:Nat}
open Classical in
theorem clR_at (h:k<hs.length) (hm:¬more=0):clR hs ag (hs.length-k) set more=
  if fitK hs ag set k hs.length then
   (if 0≤clR hs ag (hs.length-(k+1)) (set+2^(hs.getD k 0).toNat) (more-1) then clR hs ag (hs.length-(k+1)) (set+2^(hs.getD k 0).toNat) (more-1) else clR hs ag (hs.length-(k+1)) set more)
  else clR hs ag (hs.length-(k+1)) set more:=by
 obtain⟨m,hm'⟩:∃m,hs.length-k=m+1:=⟨hs.length-(k+1),by omega⟩
 have e:hs.length-(m+1)=k:=by omega
 have e2:hs.length-(k+1)=m:=by omega
 rw [hm',clR,if_neg hm,e,e2]
theorem clR_yes (h:k<hs.length) (hm:¬more=0) (hf:fitK hs ag set k hs.length) (hx:0≤clR hs ag (hs.length-(k+1)) (set+2^(hs.getD k 0).toNat) (more-1)):clR hs ag (hs.length-(k+1)) (set+2^(hs.getD k 0).toNat) (more-1)=clR hs ag (hs.length-k) set more:=by
 rw [clR_at h hm,if_pos hf,if_pos hx]
theorem clR_no (h:k<hs.length) (hm:¬more=0) (hx:¬0≤clR hs ag (hs.length-(k+1)) (set+2^(hs.getD k 0).toNat) (more-1)):clR hs ag (hs.length-(k+1)) set more=clR hs ag (hs.length-k) set more:=by
 rw [clR_at h hm,if_neg hx]
 split<;>rfl
theorem clR_not (h:k<hs.length) (hm:¬more=0) (hf:¬fitK hs ag set k hs.length):clR hs ag (hs.length-(k+1)) set more=clR hs ag (hs.length-k) set more:=by
 rw [clR_at h hm,if_neg hf]
theorem fitK_step:fitK hs ag set k (i+1)↔fitK hs ag set k i∧((set/2^(hs.getD i 0).toNat)%2=1→(((ag.getD i 0).toNat&&&((2:Int)^(hs.getD k 0).toNat).toNat:Nat):Int)=2^(hs.getD k 0).toNat):=by
 unfold fitK
 constructor
 ·rintro⟨h1,h2⟩
  exact⟨⟨h1,fun j hj=>h2 j (by omega)⟩,h2 i (by omega)⟩
 ·rintro⟨⟨h1,h2⟩,h3⟩
  refine⟨h1,fun j hj=> ?_⟩
  rcases Nat.lt_or_ge j i with h|h
  ·exact h2 j h
  ·obtain rfl:j=i:=by omega
   exact h3
theorem fk_in (h:fitK hs ag set k i) (hi:(set/2^(hs.getD i 0).toNat)%2=1):fitK hs ag set k (i+1)↔(((ag.getD i 0).toNat&&&((2:Int)^(hs.getD k 0).toNat).toNat:Nat):Int)=2^(hs.getD k 0).toNat:=
 ⟨fun g=>(fitK_step.1 g).2 hi,fun g=>fitK_step.2 ⟨h,fun _=>g⟩⟩
theorem fk_out (h:fitK hs ag set k i) (hi:¬(set/2^(hs.getD i 0).toNat)%2=1):fitK hs ag set k (i+1)↔true=true:=
 ⟨fun _=>rfl,fun _=>fitK_step.2 ⟨h,fun g=>absurd g hi⟩⟩
theorem fk_no (h:¬fitK hs ag set k i):fitK hs ag set k (i+1)↔false=true:=
 ⟨fun g=>absurd (fitK_step.1 g).1 h,fun g=>Bool.noConfusion g⟩
theorem fk_no2 (h:¬fitK hs ag set k i):fitK hs ag set k (i+1)↔fitK hs ag set k i:=
 ⟨fun g=>absurd (fitK_step.1 g).1 h,fun g=>absurd g h⟩
end
end
noncomputable def sClq:List V→Option (Prop×V×List Blk)
 |[.agg [.sl false (.int .i64) hs,.int .i64 nd,.int .i64 wr,.int .i64 sz,.int .i64 st,.int .i64 ph],.sl false (.int .i64) ag,.int .i64 set,.int .i64 more,.int .i64 fr]=>some (hs.length≤12∧(∀x∈hs,0≤x∧x<12)∧ag.length=hs.length∧(∀x∈ag,0≤x)∧0≤set∧set+2048*((hs.length:Int)-fr)≤1000000∧0≤more∧more≤20∧0≤fr∧fr≤(hs.length:Int),.int .i64 (clR hs ag (hs.length-Int.toNat fr) set more), [])
 |_=>none
def mClq:List V→Nat
 |[.agg [.sl false (.int .i64) hs,.int .i64 nd,.int .i64 wr,.int .i64 sz,.int .i64 st,.int .i64 ph],.sl false (.int .i64) ag,.int .i64 set,.int .i64 more,.int .i64 fr]=>hs.length-Int.toNat fr
 |_=>0
theorem bClq (hs:List Int) (nd wr sz st ph:Int) (ag:List Int) (set more fr:Int) (hp0:hs.length≤12) (hp1:(∀x∈hs,0≤x∧x<12)) (hp2:ag.length=hs.length) (hp3:(∀x∈ag,0≤x)) (hp4:0≤set) (hp5:set+2048*((hs.length:Int)-fr)≤1000000) (hp6:0≤more) (hp7:more≤20) (hp8:0≤fr) (hp9:fr≤(hs.length:Int)):bodyP (En ((78,pureC [.v tTk,.v (.sl (.int .i64)),.v (.int .i64),.v (.int .i64),.v (.int .i64)] (recS mClq (hs.length-Int.toNat fr) sClq))::CSets) tys G6 []) Tryd.f78 [.k] [aTk hs nd wr sz st ph,.sl false (.int .i64) ag,.int .i64 set,.int .i64 more,.int .i64 fr] (.int .i64 (clR hs ag (hs.length-Int.toNat fr) set more)) []:=by
 refine yn (more=0) (fun h0=> ?_) fun h0=> ?_
 ·subst h0
  rw [clR_zero]
  exact d4'
 ·refine⟨1, [(1,.k),(2,.k),(3,.k),(5,.k),(11,.k)],fun nM vs H=>∃(k:Nat),(k≤hs.length∧fr.toNat≤k)∧clR hs ag (hs.length-k) set more=clR hs ag (hs.length-fr.toNat) set more∧nM=hs.length-k∧vs= [.sl false (.int .i64) ag,.i set,.i more,.p 0,.i k]∧H= [cTk hs nd wr sz st ph],⟨rfl,hs.length-fr.toNat,fr.toNat,⟨by omega,by omega⟩,rfl,rfl,congrArg (fun z:Int=> [V.sl false (.int .i64) ag,V.i set,V.i more,V.p 0,V.i z]) (Int.toNat_of_nonneg hp8).symm,rfl⟩,?_⟩
  rintro nM vs H ⟨k,hc1_0,hc1_1,rfl,rfl,rfl⟩
  refine yn ((k:Int)<(hs.length:Int)) (fun h1=> ?_) fun h1=> ?_
  ·have hkl:k<hs.length:=by omega
   obtain⟨g0,g1⟩:=hp1 _ (gmem 0 hs k hkl)
   obtain⟨w0,w1⟩:=pw12 g0 g1
   have a0:=hp3 _ (gmem 0 ag k (by omega))
   refine⟨ix k hs.length,rfl,⟨om (0≤(hs.getD k 0)),om ((hs.getD k 0)<12)⟩,ix k ag.length,.inl ⟨⟨om ((0:Int)≤(ag.getD k 0)),om ((0:Int)≤((2:Int)^((hs.getD k 0)).toNat))⟩,?_⟩⟩
   refine yn (((((ag.getD k 0).toNat)&&&(((2:Int)^((hs.getD k 0)).toNat).toNat):Nat):Int)=((2:Int)^((hs.getD k 0)).toNat)) (fun h2=> ?_) fun h2=> ?_
   ·have e13:(((((ag.getD k 0).toNat)&&&set.toNat:Nat):Int)=set)=fitK hs ag set k 0:=propext ⟨fun h=>⟨⟨h2,h⟩,fun j hj=>absurd hj (by omega)⟩,fun h=>h.1.2⟩
    refine⟨ix k ag.length,.inl ⟨⟨om ((0:Int)≤(ag.getD k 0)),om ((0:Int)≤set)⟩,?_⟩⟩
    refine⟨1, [(1,.k),(2,.k),(3,.k),(5,.k),(11,.k),(12,.k),(13,.k),(14,.k)],fun nM vs H=>∃(i:Nat),i≤hs.length∧nM=hs.length-i∧vs= [.sl false (.int .i64) ag,.i set,.i more,.p 0,.i k,.i ((2:Int)^((hs.getD k 0)).toNat),.b (fitK hs ag set k i),.i i]∧H= [cTk hs nd wr sz st ph],⟨rfl,hs.length,0,by omega,by omega,by rw [←e13];rfl,rfl⟩,?_⟩
    rintro nM vs H ⟨i,hc2_0,rfl,rfl,rfl⟩
    refine yn ((i:Int)<(hs.length:Int)) (fun h3=> ?_) fun h3=> ?_
    ·have hil:i<hs.length:=by omega
     obtain⟨u0,u1⟩:=hp1 _ (gmem 0 hs i hil)
     have b0:=hp3 _ (gmem 0 ag i (by omega))
     refine⟨ix i hs.length,rfl,rfl,⟨om (0≤set),om (0≤(hs.getD i 0)),om ((hs.getD i 0)<12)⟩,yn (fitK hs ag set k i) (fun h4=> ?_) fun h4=> ?_⟩
     ·refine ny (¬((set/2^((hs.getD i 0)).toNat)%2=1)) (fun h5=> ?_) fun h5=> ?_
      ·refine⟨ix i ag.length,.inl ⟨⟨om ((0:Int)≤(ag.getD i 0)),om ((0:Int)≤((2:Int)^((hs.getD k 0)).toNat))⟩,?_⟩⟩
       refine⟨r64 (i+1),?_⟩
       have e14:fitK hs ag set k (i+1)=(((((ag.getD i 0).toNat)&&&(((2:Int)^((hs.getD k 0)).toNat).toNat):Nat):Int)=((2:Int)^((hs.getD k 0)).toNat)):=propext (by first|exact fk_in (by assumption) (nw (by assumption))|exact fk_out (by assumption) (by assumption)|exact fk_no (by assumption)|exact fk_no2 (by assumption))
       exact⟨rfl,hs.length-(i+1),by omega,i+1,by omega,rfl,by rw [e14];rfl,rfl⟩
      ·refine⟨r64 (i+1),?_⟩
       have e14:fitK hs ag set k (i+1)=(true=true):=propext (by first|exact fk_in (by assumption) (nw (by assumption))|exact fk_out (by assumption) (by assumption)|exact fk_no (by assumption)|exact fk_no2 (by assumption))
       exact⟨rfl,hs.length-(i+1),by omega,i+1,by omega,rfl,by rw [e14];rfl,rfl⟩
     ·refine⟨r64 (i+1),?_⟩
      have e14:fitK hs ag set k (i+1)=(false=true):=propext (by first|exact fk_in (by assumption) (nw (by assumption))|exact fk_out (by assumption) (by assumption)|exact fk_no (by assumption)|exact fk_no2 (by assumption))
      exact⟨rfl,hs.length-(i+1),by omega,i+1,by omega,rfl,by rw [e14];rfl,rfl⟩
    ·have hie:i=hs.length:=by omega
     have hk1:((k:Int)+1).toNat=k+1:=by omega
     refine yn (fitK hs ag set k i) (fun h6=> ?_) fun h6=> ?_
     ·rw [hie] at h6
      refine⟨r64 (set+((2:Int)^((hs.getD k 0)).toNat)),r64 (more-1),r64 (k+1),rfl,rfl,rfl,rfl,rfl,rfl,rfl,rfl,⟨⟨om (hs.length≤12),by first|assumption|simp,om (ag.length=hs.length),by first|assumption|simp,om (0≤(set+((2:Int)^((hs.getD k 0)).toNat))),om ((set+((2:Int)^((hs.getD k 0)).toNat))+2048*((hs.length:Int)-((k:Int)+1))≤1000000),om (0≤(more-1)),om ((more-1)≤20),om (0≤((k:Int)+1)),om (((k:Int)+1)≤(hs.length:Int))⟩,om (hs.length-Int.toNat ((k:Int)+1)<hs.length-Int.toNat fr)⟩,yn (0≤(clR hs ag (hs.length-Int.toNat ((k:Int)+1)) (set+((2:Int)^((hs.getD k 0)).toNat)) (more-1))) (fun h7=> ?_) fun h7=> ?_⟩
      ·rw [hk1] at h7
       rw [hk1,clR_yes hkl h0 h6 h7,hc1_1]
       exact d4'
      ·rw [hk1] at h7
       have hsk:=(clR_no hkl h0 h7).trans hc1_1
       refine⟨r64 (k+1),?_⟩
       exact⟨rfl,hs.length-(k+1),by omega,k+1,⟨by omega,by omega⟩,hsk,rfl,rfl,rfl⟩
     ·rw [hie] at h6
      have hsk:=(clR_not hkl h0 h6).trans hc1_1
      refine⟨r64 (k+1),?_⟩
      exact⟨rfl,hs.length-(k+1),by omega,k+1,⟨by omega,by omega⟩,hsk,rfl,rfl,rfl⟩
   ·have e13:(false=true)=fitK hs ag set k 0:=propext ⟨fun h=>Bool.noConfusion h,fun h=>absurd h.1.1 h2⟩
    refine⟨1, [(1,.k),(2,.k),(3,.k),(5,.k),(11,.k),(12,.k),(13,.k),(14,.k)],fun nM vs H=>∃(i:Nat),i≤hs.length∧nM=hs.length-i∧vs= [.sl false (.int .i64) ag,.i set,.i more,.p 0,.i k,.i ((2:Int)^((hs.getD k 0)).toNat),.b (fitK hs ag set k i),.i i]∧H= [cTk hs nd wr sz st ph],⟨rfl,hs.length,0,by omega,by omega,by rw [←e13];rfl,rfl⟩,?_⟩
    rintro nM vs H ⟨i,hc3_0,rfl,rfl,rfl⟩
    refine yn ((i:Int)<(hs.length:Int)) (fun h8=> ?_) fun h8=> ?_
    ·have hil:i<hs.length:=by omega
     obtain⟨u0,u1⟩:=hp1 _ (gmem 0 hs i hil)
     have b0:=hp3 _ (gmem 0 ag i (by omega))
     refine⟨ix i hs.length,rfl,rfl,⟨om (0≤set),om (0≤(hs.getD i 0)),om ((hs.getD i 0)<12)⟩,yn (fitK hs ag set k i) (fun h9=> ?_) fun h9=> ?_⟩
     ·refine ny (¬((set/2^((hs.getD i 0)).toNat)%2=1)) (fun h10=> ?_) fun h10=> ?_
      ·refine⟨ix i ag.length,.inl ⟨⟨om ((0:Int)≤(ag.getD i 0)),om ((0:Int)≤((2:Int)^((hs.getD k 0)).toNat))⟩,?_⟩⟩
       refine⟨r64 (i+1),?_⟩
       have e14:fitK hs ag set k (i+1)=(((((ag.getD i 0).toNat)&&&(((2:Int)^((hs.getD k 0)).toNat).toNat):Nat):Int)=((2:Int)^((hs.getD k 0)).toNat)):=propext (by first|exact fk_in (by assumption) (nw (by assumption))|exact fk_out (by assumption) (by assumption)|exact fk_no (by assumption)|exact fk_no2 (by assumption))
       exact⟨rfl,hs.length-(i+1),by omega,i+1,by omega,rfl,by rw [e14];rfl,rfl⟩
      ·refine⟨r64 (i+1),?_⟩
       have e14:fitK hs ag set k (i+1)=(true=true):=propext (by first|exact fk_in (by assumption) (nw (by assumption))|exact fk_out (by assumption) (by assumption)|exact fk_no (by assumption)|exact fk_no2 (by assumption))
       exact⟨rfl,hs.length-(i+1),by omega,i+1,by omega,rfl,by rw [e14];rfl,rfl⟩
     ·refine⟨r64 (i+1),?_⟩
      have e14:fitK hs ag set k (i+1)=(false=true):=propext (by first|exact fk_in (by assumption) (nw (by assumption))|exact fk_out (by assumption) (by assumption)|exact fk_no (by assumption)|exact fk_no2 (by assumption))
      exact⟨rfl,hs.length-(i+1),by omega,i+1,by omega,rfl,by rw [e14];rfl,rfl⟩
    ·have hie:i=hs.length:=by omega
     have hk1:((k:Int)+1).toNat=k+1:=by omega
     refine yn (fitK hs ag set k i) (fun h11=> ?_) fun h11=> ?_
     ·rw [hie] at h11
      refine⟨r64 (set+((2:Int)^((hs.getD k 0)).toNat)),r64 (more-1),r64 (k+1),rfl,rfl,rfl,rfl,rfl,rfl,rfl,rfl,⟨⟨om (hs.length≤12),by first|assumption|simp,om (ag.length=hs.length),by first|assumption|simp,om (0≤(set+((2:Int)^((hs.getD k 0)).toNat))),om ((set+((2:Int)^((hs.getD k 0)).toNat))+2048*((hs.length:Int)-((k:Int)+1))≤1000000),om (0≤(more-1)),om ((more-1)≤20),om (0≤((k:Int)+1)),om (((k:Int)+1)≤(hs.length:Int))⟩,om (hs.length-Int.toNat ((k:Int)+1)<hs.length-Int.toNat fr)⟩,yn (0≤(clR hs ag (hs.length-Int.toNat ((k:Int)+1)) (set+((2:Int)^((hs.getD k 0)).toNat)) (more-1))) (fun h12=> ?_) fun h12=> ?_⟩
      ·rw [hk1] at h12
       rw [hk1,clR_yes hkl h0 h11 h12,hc1_1]
       exact d4'
      ·rw [hk1] at h12
       have hsk:=(clR_no hkl h0 h12).trans hc1_1
       refine⟨r64 (k+1),?_⟩
       exact⟨rfl,hs.length-(k+1),by omega,k+1,⟨by omega,by omega⟩,hsk,rfl,rfl,rfl⟩
     ·rw [hie] at h11
      have hsk:=(clR_not hkl h0 h11).trans hc1_1
      refine⟨r64 (k+1),?_⟩
      exact⟨rfl,hs.length-(k+1),by omega,k+1,⟨by omega,by omega⟩,hsk,rfl,rfl,rfl⟩
  ·rw [←hc1_1,show hs.length-k=0 by omega,clR,if_neg h0]
   exact d4'
noncomputable def CClq:List (Nat×Con):=(78,pureC [.v tTk,.v (.sl (.int .i64)),.v (.int .i64),.v (.int .i64),.v (.int .i64)] sClq)::CSets
theorem kClq:Known Tryd.prog (En CClq tys G6 []):=kSets.addRec Tryd.func78 Tryd.call78 [.k] mClq fun ds p v bs h hp=>by
 unfold sClq at h
 split at h<;>simp only [Option.some.injEq,Prod.mk.injEq,reduceCtorEq] at h
 obtain⟨rfl,rfl,rfl⟩:=h
 exact bClq _ _ _ _ _ _ _ _ _ _ hp.1 hp.2.1 hp.2.2.1 hp.2.2.2.1 hp.2.2.2.2.1 hp.2.2.2.2.2.1 hp.2.2.2.2.2.2.1 hp.2.2.2.2.2.2.2.1 hp.2.2.2.2.2.2.2.2.1 hp.2.2.2.2.2.2.2.2.2
noncomputable def rv1 (hs:List Int) (wr:Int) (es:Ps) (k:Nat):List (Int×Int×Unit):=
 if 0≤clR hs (ouL hs es (k:Int)) (hs.length-Int.toNat 0) 0 ((hs.length:Int)-wr) then [(hs.getD k 0,(clR hs (ouL hs es (k:Int)) (hs.length-Int.toNat 0) 0 ((hs.length:Int)-wr),()))] else []
noncomputable def rvL (hs:List Int) (wr:Int) (es:Ps):Nat→List (Int×Int×Unit)
 |0=> []
 |k+1=>rvL hs wr es k++rv1 hs wr es k
theorem rvL_len (hs:List Int) (wr:Int) (es:Ps):∀k,(rvL hs wr es k).length≤k
 |0=>by simp [rvL]
 |k+1=>by
  have:=rvL_len hs wr es k
  unfold rvL rv1
  split<;>simp<;>omega
noncomputable def rdL (hs:List Int) (nd wr sz st ph:Int) (l:List RP):List (Int×Int×Unit):=
 if tkE hs nd wr sz st ph=0 then rvL hs wr (esL hs l) hs.length else []
theorem ouL_nn {hs:List Int} {es:Ps} (h:PsOk hs es) (d:Int):∀x∈ouL hs es d,0≤x:=fun x hx=>by
 unfold ouL at hx
 obtain⟨a,_,rfl⟩:=List.mem_map.1 hx
 cases hm:mget es a with
 |none=>simp
 |some y=>
  show 0≤y.getD d.toNat 0
  rcases Nat.lt_or_ge d.toNat y.length with hl|hl
  ·exact((h _ (mget_mem hm)).2.2 _ (gmem 0 y d.toNat hl)).1
  ·rw [List.getD,List.getElem?_eq_none (by omega)];simp
noncomputable def sRDe:List V→Option (Prop×V×List Blk)
 |[.agg [.sl false (.int .i64) hs,.int .i64 nd,.int .i64 wr,.int .i64 sz,.int .i64 st,.int .i64 ph],.sl false (.cons (.int .i64) (.cons (.sl (.int .i64)) .nil)) l]=>some (hs.length≤2000000∧l.length≤20∧(∀p∈l,p.2.1.length≤1048576),.agg [.own (.cons (.int .i64) (.cons (.int .i64) .nil)) 0,.int .i64 (tkE hs nd wr sz st ph)], [.row true (.cons (.int .i64) (.cons (.int .i64) .nil)) (rdL hs nd wr sz st ph l)])
 |_=>none
theorem bRDe (hs:List Int) (nd wr sz st ph:Int) (l:List (Int×(List Int×Unit))):bodyQ (En CClq tys G6 []) Tryd.f49 [.o (.cons (.int .i64) (.cons (.int .i64) .nil)),.k] sRDe [aTk hs nd wr sz st ph,.sl false tPo l]:=by
 rintro⟨hp0,hp1,(hp2:(∀p∈l,p.2.1.length≤1048576))⟩
 refine⟨rfl,rfl,rfl,rfl,rfl,om (hs.length≤2000000),yn ((tkE hs nd wr sz st ph)≠0) (fun h0=> ?_) fun h0=> ?_⟩
 ·refine⟨w4',?_⟩
  rw [show rdL hs nd wr sz st ph l= [] from if_neg h0]
  exact d4'
 ·have hT:=tk0 (nw h0)
  have hsb:∀h∈hs,0≤h∧h<12:=hT.hs12
  have hn12:=hT.l12
  have hok:=esL_ok hsb l [] (fun e he=>by cases he)
  have ho:=hT.ho
  have hq:=hT.q1
  have r1:=hT.rg.1.1.1
  obtain⟨r2,r3⟩:=hT.rg.1.2.1
  refine⟨2, [(1,.k),(2,.k),(4,.k),(6,.o (.cons (.int .i64) (.cons (.int .i64) .nil))),(7,.k)],fun nM vs H=>∃(k:Nat),k≤hs.length∧nM=hs.length-k∧vs= [.sl false tPo l,.p 0,.p 1,.own (.cons (.int .i64) (.cons (.int .i64) .nil)) 2,.i k]∧H= [cTk hs nd wr sz st ph,.cells [.nils,.i 0],.r (.cons (.int .i64) (.cons (.int .i64) .nil)) (rvL hs wr (esL hs l) k)],⟨rfl,hs.length,0,by omega,by omega,rfl,rfl⟩,?_⟩
  rintro nM vs H ⟨k,hc1_0,rfl,rfl,rfl⟩
  refine yn ((k:Int)<(hs.length:Int)) (fun h1=> ?_) fun h1=> ?_
  ·have hkl:k<hs.length:=by omega
   have hv:=rvL_len hs wr (esL hs l) k
   have hol:=ouL_len hs (esL hs l) (k:Int)
   have hnn:=ouL_nn hok (k:Int)
   refine⟨by kernel_rfl,rfl,rfl,rfl,rfl,rfl,rfl,⟨om (hs.length≤12),by first|assumption|simp,om (l.length≤20),by first|assumption|simp,om (0≤(k:Int)),om ((k:Int)<(hs.length:Int))⟩,r64 (hs.length-wr),rfl,rfl,rfl,rfl,rfl,rfl,rfl,rfl,⟨om (hs.length≤12),by first|assumption|simp,om ((ouL hs (esL hs l) (k:Int)).length=hs.length),by first|assumption|simp,by omega,om (0+2048*((hs.length:Int)-0)≤1000000),om (0≤((hs.length:Int)-wr)),om (((hs.length:Int)-wr)≤20),by omega,om (0≤(hs.length:Int))⟩,yn (0≤(clR hs (ouL hs (esL hs l) (k:Int)) (hs.length-Int.toNat 0) 0 ((hs.length:Int)-wr))) (fun h2=> ?_) fun h2=> ?_⟩
   ·have hvd:rvL hs wr (esL hs l) (k+1)=rvL hs wr (esL hs l) k++ [(hs.getD k 0,((clR hs (ouL hs (esL hs l) (k:Int)) (hs.length-Int.toNat 0) 0 ((hs.length:Int)-wr)),()))]:=by rw [rvL,rv1,if_pos h2]
    refine⟨ix k hs.length,rfl,rfl,w2',l9 (rvL hs wr (esL hs l) k).length,r64 (k+1),?_⟩
    exact⟨rfl,hs.length-(k+1),by omega,k+1,by omega,rfl,rfl,by rw [hvd];rfl⟩
   ·have hvd:rvL hs wr (esL hs l) (k+1)=rvL hs wr (esL hs l) k:=by rw [rvL,rv1,if_neg h2,List.append_nil]
    refine⟨r64 (k+1),?_⟩
    exact⟨rfl,hs.length-(k+1),by omega,k+1,by omega,rfl,rfl,by rw [hvd];rfl⟩
  ·refine⟨w4',?_⟩
   rw [show rdL hs nd wr sz st ph l=rvL hs wr (esL hs l) k by rw [rdL,if_pos (nw h0),show k=hs.length by omega],nw h0]
   exact d4'
noncomputable def CRDe:List (Nat×Con):=(49,pureC [.v tTk,.v (.sl tPo)] sRDe)::CClq
theorem kRDe:Known Tryd.prog (En CRDe tys G6 []):=kClq.addQ Tryd.func49 Tryd.call49 [.o (.cons (.int .i64) (.cons (.int .i64) .nil)),.k] fun ds _ _ _ h=>by unfold sRDe at h;split at h;exact bRDe _ _ _ _ _ _ _;cases h
theorem and_pow {a n:Nat}:a&&&2^n=2^n↔a.testBit n=true:=by
 constructor
 ·intro h
  have h1:=congrArg (fun x=>x.testBit n) h
  simp only [Nat.testBit_and,Nat.testBit_two_pow_self,Bool.and_true] at h1
  exact h1
 ·intro h
  apply Nat.eq_of_testBit_eq
  intro i
  rw [Nat.testBit_and,Nat.testBit_two_pow]
  by_cases e:n=i
  ·subst e;rw [h];rfl
  ·rw [decide_eq_false e,Bool.and_false]
theorem and_or {a s t:Nat}:a&&&(s|||t)=s|||t↔a&&&s=s∧a&&&t=t:=by
 constructor
 ·intro h
  have key:∀i,(a.testBit i&&(s.testBit i||t.testBit i))=(s.testBit i||t.testBit i):=fun i=>by
   have:=congrArg (fun x=>x.testBit i) h
   simpa only [Nat.testBit_and,Nat.testBit_or] using this
  refine⟨Nat.eq_of_testBit_eq fun i=> ?_,Nat.eq_of_testBit_eq fun i=> ?_⟩<;>rw [Nat.testBit_and]<;>have:=key i<;>revert this<;>cases a.testBit i<;>cases s.testBit i<;>cases t.testBit i<;>simp
 ·rintro⟨h1,h2⟩
  rw [Nat.and_or_distrib_left,h1,h2]
theorem pow_nat (n:Nat):((2:Int)^n).toNat=2^n:=by
 rw [show(2:Int)^n=((2^n:Nat):Int) by rw [Int.natCast_pow];rfl,Int.toNat_natCast]
theorem bit_mod {x:Int} (h:0≤x) (n:Nat):(x/2^n)%2=1↔x.toNat.testBit n=true:=by
 obtain⟨m,rfl⟩:=Int.eq_ofNat_of_zero_le h
 rw [Int.toNat_natCast,Nat.testBit_eq_decide_div_mod_eq,decide_eq_true_eq,show(2:Int)^n=((2^n:Nat):Int) by rw [Int.natCast_pow];rfl]
 omega
theorem bit_and1 {x:Int} (h:0≤x) (n:Nat):((x/2^n).toNat&&&1)=(x.toNat.testBit n).toNat:=by
 obtain⟨m,rfl⟩:=Int.eq_ofNat_of_zero_le h
 have e:((m:Int)/2^n).toNat=m/2^n:=by
  rw [show(2:Int)^n=((2^n:Nat):Int) by rw [Int.natCast_pow];rfl]
  rw [show(m:Int)/((2^n:Nat):Int)=((m/2^n:Nat):Int) from rfl,Int.toNat_natCast]
 rw [e,Int.toNat_natCast,Nat.and_one_is_mod,Nat.testBit_eq_decide_div_mod_eq]
 have:=Nat.mod_two_eq_zero_or_one (m/2^n)
 rcases this with h|h<;>rw [h]<;>rfl
def GetOk (es:Ps):Prop:=∀e∈es,mget es e.1=some e.2
theorem mget_some {es:Ps} {e:Int×List Int} (h:e∈es):mget es e.1≠none:=by
 induction es with
 |nil=>cases h
 | cons a es ih=>
  obtain⟨m,y⟩:=a
  unfold mget
  split
  ·simp
  ·rename_i hne
   rcases List.mem_cons.1 h with rfl|h
   ·exact absurd rfl hne
   ·exact ih h
theorem esL_get (hs:List Int):∀(l:List RP) (es:Ps),GetOk es→GetOk (l.foldl (putP hs) es)
 |[],_,h=>h
 | p::l,es,h=>by
  refine esL_get hs l _ fun e he=> ?_
  unfold putP at he ⊢
  split at he
  ·rename_i hc
   rw [if_pos hc,mget_mput]
   rcases mput_mem he with he|rfl
   ·rw [if_neg fun hn=>mget_some he (by rw [←hn];exact hc.1)]
    exact h e he
   ·rw [if_pos rfl]
  ·rename_i hc
   rw [if_neg hc]
   exact h e he
theorem ou_at {hs:List Int} {es:Ps} {k:Int} {j:Nat} (h:j<hs.length):(ouL hs es k).getD j 0=((mget es (hs.getD j 0)).getD []).getD k.toNat 0:=by
 rw [gD (by rw [ouL_len];exact h)]
 unfold ouL
 rw [List.getElem_map,gD h]
theorem own_eq {a:Int} (n:Nat):(((a.toNat&&&((2:Int)^n).toNat:Nat):Int)=2^n)↔a.toNat.testBit n=true:=by
 rw [pow_nat,←and_pow,show(2:Int)^n=((2^n:Nat):Int) by rw [Int.natCast_pow];rfl]
 exact Int.ofNat_inj
theorem set_eq {a s:Int} (h:0≤s):(((a.toNat&&&s.toNat:Nat):Int)=s)↔a.toNat&&&s.toNat=s.toNat:=by
 constructor<;>intro h<;>omega
theorem nxt_eq {a s h:Int}:(((a.toNat&&&(nxt s h).toNat:Nat):Int)=nxt s h)↔a.toNat.testBit h.toNat=true∧a.toNat&&&s.toNat=s.toNat:=by
 have e:nxt s h=((s.toNat|||2^h.toNat:Nat):Int):=by unfold nxt;rw [Int.one_mul,pow_nat]
 rw [e,Int.toNat_natCast,←and_pow,and_comm,←and_or]
 exact Int.ofNat_inj
def SetOk (hs:List Int) (es:Ps) (set:Int):Prop:=∀n,set.toNat.testBit n=true→∃j,j<hs.length∧(hs.getD j 0).toNat=n∧(mget es (hs.getD j 0)).isSome=true
theorem fits_iff {hs:List Int} {es:Ps} {k set:Int} {i:Nat} (hb:∀x∈hs,0≤x∧x<12) (hes:PsOk hs es) (hg:GetOk es) (hi:i<hs.length) (s0:0≤set) (hp:SetOk hs es set):
  fits es k set (hs.getD i 0)↔fitK hs (ouL hs es k) set i hs.length:=by
 unfold fits fitK
 rw [ou_at hi,own_eq,set_eq s0]
 have kv:∀{e:Int×List Int},e∈es→0≤e.2.getD k.toNat 0:=fun {e} he=>by
  rcases Nat.lt_or_ge k.toNat e.2.length with hl|hl
  ·exact((hes e he).2.2 _ (gmem 0 _ _ hl)).1
  ·rw [List.getD,List.getElem?_eq_none (by omega)];simp
 constructor
 ·rintro⟨ag,h1,h2,h3⟩
  rw [nxt_eq] at h2
  rw [h1]
  refine⟨h2,fun j hj hin=> ?_⟩
  rw [bit_mod s0] at hin
  obtain⟨j',hj',e1,e2⟩:=hp _ hin
  have ej:hs.getD j' 0=hs.getD j 0:=by
   have:=hb _ (gmem 0 hs j' hj');have:=hb _ (gmem 0 hs j hj);omega
  rw [ej] at e2
  rw [ou_at hj,own_eq]
  cases hm:mget es (hs.getD j 0) with
  |none=>rw [hm] at e2;simp at e2
  | some y=>
   have hmem:=mget_mem hm
   refine Classical.byContradiction fun hn=>h3 _ hmem ⟨?_,?_⟩
   ·rw [bit_and1 s0,hin];rfl
   ·rw [bit_and1 (kv hmem)]
    have:(y.getD k.toNat 0).toNat.testBit (hs.getD i 0).toNat=false:=by simpa using hn
    show(((y.getD k.toNat 0).toNat.testBit (hs.getD i 0).toNat).toNat:Int)=0
    rw [this];rfl
 ·rintro⟨⟨h1,h2⟩,h3⟩
  cases hm:mget es (hs.getD i 0) with
  |none=>rw [hm] at h1;simp at h1
  | some y=>
   rw [hm] at h1 h2
   refine⟨y,rfl,nxt_eq.2 ⟨h1,h2⟩,fun e he hbad=> ?_⟩
   obtain⟨b1,b2⟩:=hbad
   rw [bit_and1 s0] at b1
   rw [bit_and1 (kv he)] at b2
   have c1:set.toNat.testBit e.1.toNat=true:=by
    cases hc:set.toNat.testBit e.1.toNat with
    |true=>rfl
    |false=>rw [hc] at b1;simp at b1
   obtain⟨j,hj,e1,_⟩:=hp _ c1
   have ej:hs.getD j 0=e.1:=by
    have:=hb _ (gmem 0 hs j hj);have:=(hes e he).1;omega
   have h4:=h3 j hj (by rw [bit_mod s0,ej];exact c1)
   rw [ou_at hj,own_eq,ej,hg e he] at h4
   have h5:(e.2.getD k.toNat 0).toNat.testBit (hs.getD i 0).toNat=true:=h4
   rw [h5] at b2
   simp at b2
end Go.Proofs.YtlmegkgkipjgbaaDoor.S33c

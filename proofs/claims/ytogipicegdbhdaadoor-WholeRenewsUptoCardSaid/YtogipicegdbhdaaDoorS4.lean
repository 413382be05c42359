/- Texts of this claim. -/
import Derived.Test.YtogipicegdbhdaaDoorS3
set_option linter.unusedVariables false
set_option linter.unusedSimpArgs false
namespace Go.Proofs.YtogipicegdbhdaaDoor.S72d
set_option maxHeartbeats 20000000
open Go Go.Proofs.YtogipicegdbhdaaDoor.Vc Go.Proofs Go.Proofs.YtogipicegdbhdaaDoor.S72
section
abbrev Ps:=List (Int×List Int)
def kx (set h:Int):Int:=((set.toNat|||((1:Int)*2^h.toNat).toNat:Nat):Int)
def Ev (e:Int×List Int) (k set h:Int):Prop:=(((set/2^e.1.toNat).toNat&&&1:Nat):Int)=1∧((((e.2.getD k.toNat 0)/2^h.toNat).toNat&&&1:Nat):Int)=0
def fits (es:Ps) (k set h:Int):Prop:=∃ag,aW es h=some ag∧(((ag.getD k.toNat 0).toNat&&&(kx set h).toNat:Nat):Int)=kx set h∧∀e∈es,¬Ev e k set h
open Classical in
noncomputable def cl (es:Ps) (k:Int):List Int→Int→Int→Int
 |[],set,more=>if more=0 then set else -1
 |h::l,set,more=>if more=0 then set else if fits es k set h then(if 0≤cl es k l (kx set h) (more-1) then cl es k l (kx set h) (more-1) else cl es k l set more) else cl es k l set more
structure SrOk (hs:List Int) (es:Ps) (k set more fr:Int):Prop where
 set0:0≤set
 set1:set<4096
 fr0:0≤fr
 fr1:fr≤hs.length
 k0:0≤k
 k1:k<hs.length
 m0:0≤more
 m1:more≤20
 l1:hs.length≤20
 hs1:∀h∈hs,0≤h∧h<12
 es1:∀e∈es,(0≤e.1∧e.1<12)∧e.2.length=hs.length∧∀x∈e.2,0≤x∧x<4096
theorem gD {α:Type} {d:α} {l:List α} {i:Nat} (h:i<l.length):l.getD i d=l[i]:=by simp [List.getD,h]
theorem bc {α:Type} (d:α):∀(l:List α) (i:Nat),i<l.length→l.getD i d∈l:=fun l i h=>by
 rw [gD h];exact List.getElem_mem h
theorem qa {es:Ps} {n:Int} {x:List Int} (h:aW es n=some x):(n,x)∈es:=by
 induction es with
 |nil=>simp [aW] at h
 | cons e es ih=>
  obtain⟨a,b⟩:=e
  simp only [aW] at h
  split at h
  ·rename_i hh
   simp_all
  ·exact List.mem_cons_of_mem _ (ih h)
theorem uw (es:Ps) (k set:Int):∀l,cl es k l set 0=set
 |[]=>by simp [cl]
 |h::l=>by simp [cl]
theorem uf (hs:List Int) (i:Nat) (h:i<hs.length):hs.drop i=hs.getD i 0::hs.drop (i+1):=by
 rw [List.drop_eq_getElem_cons h,gD h]
theorem ux {es:Ps} {k set more:Int} {hs:List Int} {i:Nat} (h:i<hs.length) (hm:¬more=0) (hf:¬fits es k set (hs.getD i 0)):cl es k (hs.drop (i+1)) set more=cl es k (hs.drop i) set more:=by
 rw [uf hs i h,cl,if_neg hm,if_neg hf]
theorem Yw {es:Ps} {k set more:Int} {hs:List Int} {i:Nat} (h:i<hs.length) (hm:¬more=0) (hf:¬0≤cl es k (hs.drop (i+1)) (kx set (hs.getD i 0)) (more-1)):cl es k (hs.drop (i+1)) set more=cl es k (hs.drop i) set more:=by
 rw [uf hs i h,cl,if_neg hm,if_neg hf]
 split<;>rfl
theorem Uf {es:Ps} {k set more:Int} {hs:List Int} {i:Nat} (h:i<hs.length) (hm:¬more=0) (hf:fits es k set (hs.getD i 0)) (hx:0≤cl es k (hs.drop (i+1)) (kx set (hs.getD i 0)) (more-1)):cl es k (hs.drop (i+1)) (kx set (hs.getD i 0)) (more-1)=cl es k (hs.drop i) set more:=by
 rw [uf hs i h,cl,if_neg hm,if_pos hf,if_pos hx]
theorem Ug {es:Ps} {k set more:Int} {hs:List Int} {i:Nat} (h:hs.length≤i) (hm:¬more=0):cl es k (hs.drop i) set more= -1:=by
 rw [List.drop_eq_nil_of_le h,cl,if_neg hm]
def rem (n:Nat) (l:List Nat):Nat:=(List.range n).countP fun i=>decide (i∉l)
theorem iU {p q:Nat→Bool}:∀(l:List Nat),(∀x,q x=true→p x=true)→(∃x∈l,p x=true∧q x=false)→l.countP q<l.countP p
 |[],_,h=>by obtain⟨_,h,_⟩:=h;cases h
 | a::l,hpq,h=>by
  have hle:l.countP q≤l.countP p:=List.countP_mono_left fun x _=>hpq x
  obtain⟨x,hx,h1,h2⟩:=h
  rw [List.countP_cons,List.countP_cons]
  rcases List.mem_cons.1 hx with rfl|hx
  ·rw [h1,h2];simp;omega
  ·have:=iU l hpq ⟨x,hx,h1,h2⟩
   cases hq:q a with
   |true=>rw [hpq a hq,if_pos rfl];omega
   |false=>rw [if_neg (by decide)];omega
theorem Hd {n i:Nat} {l:List Nat} (h:i<n) (hi:¬i∈l):rem n (l++ [i])<rem n l:=by
 refine iU _ (fun x hx=> ?_) ⟨i,List.mem_range.2 h,decide_eq_true hi,decide_eq_false fun hn=>hn (List.mem_append.2 (.inr (List.mem_singleton.2 rfl)))⟩
 exact decide_eq_true fun hx2=>(of_decide_eq_true hx) (List.mem_append.2 (.inl hx2))
theorem wK {h:Int} (h0:0≤h) (h1:h<12):(1:Int)≤2^h.toNat∧(2:Int)^h.toNat≤2048:=by
 obtain⟨n,rfl⟩:=Int.eq_ofNat_of_zero_le h0
 have hn:n<12:=by omega
 rw [Int.toNat_natCast]
 refine⟨?_,?_⟩
 ·have:=Int.pow_pos (n:=2) (m:=n) (by omega);omega
 ·have h:=Nat.pow_le_pow_right (n:=2) (by omega) (show n≤11 by omega)
  have h2:((2^n:Nat):Int)≤((2^11:Nat):Int):=Int.ofNat_le.2 h
  rw [Int.natCast_pow] at h2
  exact h2
theorem uB {set h:Int} (s0:0≤set) (s1:set<4096) (h0:0≤h) (h1:h<12):0≤kx set h∧kx set h<4096:=by
 obtain⟨p1,p2⟩:=wK h0 h1
 have:set.toNat|||((1:Int)*2^h.toNat).toNat<2^12:=Nat.or_lt_two_pow (by omega) (by omega)
 unfold kx
 omega
end
set_option maxRecDepth 100000
def dk:Int→List Int→Bool
 |_, []=>true
 |p,h::t=>decide (0≤h∧h≤11∧p<h)&&dk h t
def tl (hs:List Int) (k:Nat):Int:=if k=0 then -1 else hs.getD (k-1) 0
theorem jl (hs:List Int) {k:Nat} (h:¬0<k):tl hs k= -1:=if_pos (by omega)
theorem ip (hs:List Int) {k:Nat} (h:0<k):tl hs k=hs.getD (k-1) 0:=if_neg (by omega)
theorem bf {α:Type} (d:α) (l:List α) (k:Nat) (h:k<l.length):l.drop k=l.getD k d::l.drop (k+1):=by
 rw [List.drop_eq_getElem_cons h]
 simp [List.getD_eq_getElem?_getD,h]
theorem gb {hs:List Int} {k:Nat} (hk:k<hs.length) (hc:dk (tl hs k) (hs.drop k)=dk (-1) hs) (h:0≤hs.getD k 0∧hs.getD k 0≤11∧tl hs k<hs.getD k 0):dk (tl hs (k+1)) (hs.drop (k+1))=dk (-1) hs:=by
 rw [←hc,bf 0 hs k hk,dk,decide_eq_true h,Bool.true_and];rfl
theorem i5 {hs:List Int} {k:Nat} (hk:k<hs.length) (hc:dk (tl hs k) (hs.drop k)=dk (-1) hs) (h:¬(0≤hs.getD k 0∧hs.getD k 0≤11∧tl hs k<hs.getD k 0)):dk (-1) hs=false:=by
 rw [←hc,bf 0 hs k hk,dk,decide_eq_false h,Bool.false_and]
theorem zI {hs:List Int} {k:Nat} (hk:k=hs.length) (hc:dk (tl hs k) (hs.drop k)=dk (-1) hs):dk (-1) hs=true:=by
 rw [←hc,hk,List.drop_length];rfl
theorem mR:∀(l:List Int) (p:Int),-1≤p→dk p l=true→p≤11→(List.length l:Int)≤11-p
 |[],p,_,_,hp=>by simp only [List.length_nil];omega
 |h::t,p,h0,hh,hp=>by
  simp only [dk,Bool.and_eq_true,decide_eq_true_eq] at hh
  have:=mR t h (by omega) hh.2 (by omega)
  simp only [List.length_cons];omega
theorem nU:∀(l:List Int) (p:Int) (k:Nat),dk p l=true→k<l.length→0≤l.getD k 0∧l.getD k 0≤11
 |[],p,k,_,hk=>by simp at hk
 |h::t,p,0,hh,hk=>by
  simp only [dk,Bool.and_eq_true,decide_eq_true_eq] at hh
  exact⟨hh.1.1,hh.1.2.1⟩
 |h::t,p,k+1,hh,hk=>by
  simp only [dk,Bool.and_eq_true,decide_eq_true_eq] at hh
  have:=nU t h k hh.2 (by simpa using hk)
  simpa using this
def aZ (v:Int):List Int→Int→Int
 |[],_=> -1
 |x::t,k=>if v=x then k else aZ v t (k+1)
theorem du (v:Int):∀(l:List Int) (k:Int),0≤k→(0≤aZ v l k↔v∈l)
 |[],k,_=>by simp [aZ]
 | x::t,k,h=>by
  unfold aZ
  split
  ·rename_i e;subst e;simp [h]
  ·rename_i e
   rw [du v t (k+1) (by omega)]
   simp [e]

def ko (nd wr sz st ph:Int):Prop:=((2≤nd∧nd≤12)∧(0≤wr∧wr≤12)∧(1≤sz∧sz≤4096)∧(0≤st∧st≤1000000)∧(1≤ph∧ph≤1000000))∧st+3*ph≤1000000
instance (nd wr sz st ph:Int):Decidable (ko nd wr sz st ph):=by unfold ko;infer_instance
def ly (hs:List Int) (nd wr sz st ph:Int):Int:=
 if dk (-1) hs=false then 1 else if ko nd wr sz st ph then(if(hs.length:Int)<nd+wr∨(hs.length:Int)<nd-1+3*wr then 29 else 0) else 3
structure Tk (hs:List Int) (nd wr sz st ph:Int):Prop where
 ho:dk (-1) hs=true
 rg:ko nd wr sz st ph
 q1:nd+wr≤hs.length
 q2:nd-1+3*wr≤hs.length
 l12:hs.length≤12
theorem P5 {hs:List Int} {nd wr sz st ph:Int} (h:ly hs nd wr sz st ph=0):Tk hs nd wr sz st ph:=by
 unfold ly at h
 split at h
 ·omega
 ·rename_i h1
  split at h
  ·rename_i h2
   split at h
   ·omega
   ·have h1:dk (-1) hs=true:=by simpa using h1
    have:=mR hs (-1) (by omega) h1 (by omega)
    exact⟨h1,h2,by omega,by omega,by omega⟩
  ·omega
theorem Tk.e {hs:List Int} {nd wr sz st ph:Int} (h:Tk hs nd wr sz st ph):ly hs nd wr sz st ph=0:=by
 unfold ly
 rw [if_neg (by rw [h.ho];simp),if_pos h.rg,if_neg (by have:=h.q1;have:=h.q2;omega)]
theorem tk1 {hs:List Int} {nd wr sz st ph:Int} (e:dk (-1) hs=false):ly hs nd wr sz st ph=1:=if_pos e
theorem V0 {hs:List Int} {nd wr sz st ph:Int} (e:dk (-1) hs=true) (h:¬ko nd wr sz st ph):ly hs nd wr sz st ph=3:=by
 unfold ly;rw [if_neg (by rw [e];simp),if_neg h]
theorem W7 {hs:List Int} {nd wr sz st ph:Int} (e:dk (-1) hs=true) (h:ko nd wr sz st ph) (hq:(hs.length:Int)<nd+wr∨(hs.length:Int)<nd-1+3*wr):ly hs nd wr sz st ph=29:=by
 unfold ly;rw [if_neg (by rw [e];simp),if_pos h,if_pos hq]
theorem aAo {hs:List Int} {nd wr sz st ph:Int} (e:dk (-1) hs=true) (h:ko nd wr sz st ph) (hq:¬((hs.length:Int)<nd+wr∨(hs.length:Int)<nd-1+3*wr)):ly hs nd wr sz st ph=0:=by
 unfold ly;rw [if_neg (by rw [e];simp),if_pos h,if_neg hq]
def ec (a x:Int):Prop:=x<0∨¬(((x.toNat^^^(x.toNat&&&a.toNat)):Nat):Int)=0
instance (a x:Int):Decidable (ec a x):=by unfold ec;infer_instance
def vL {α:Type} (p:α→Bool):List α→Nat→Int
 |[],_=> -1
 |a::l,k=>if p a=true then k else vL p l (k+1)
theorem js {α:Type} {p:α→Bool}:∀{l:List α} {k:Nat},vL p l k<0↔∀a∈l,p a=false
 |[],k=>by simp [vL]
 | a::l,k=>by
  unfold vL
  split
  ·rename_i h
   constructor
   ·intro g;omega
   ·intro g;have:=g a (by simp);rw [h] at this;cases this
  ·rename_i h
   rw [js]
   constructor
   ·intro g b hb
    rcases List.mem_cons.1 hb with rfl|hb
    ·simpa using h
    ·exact g b hb
   ·intro g b hb;exact g b (by simp [hb])
theorem Ti (p:Int→Bool) {q:Int→Prop} (l:List Int) (h:∀i,p i=true↔q i):0≤vL p l 0↔∃i∈l,q i:=by
 constructor
 ·intro g
  refine Classical.byContradiction fun hn=> ?_
  have:=(js (p:=p) (l:=l) (k:=0)).2 fun a ha=>by
   cases hp:p a with
   |false=>rfl
   |true=>exact absurd ⟨a,ha,(h a).1 hp⟩ hn
  omega
 ·rintro⟨i,hi,hq⟩
  refine Classical.byContradiction fun hn=> ?_
  have:=(js (p:=p) (l:=l) (k:=0)).1 (by omega) i hi
  rw [(h i).2 hq] at this;cases this
open Go Go.Proofs.YtogipicegdbhdaaDoor.Vc Go.Proofs
set_option linter.unusedVariables false
open Go.Proofs.YtogipicegdbhdaaDoor.S72
open Go.Proofs.YtogipicegdbhdaaDoor.S72c (vJ zE fE)
def Rp:List V→Option (Prop×V×List Blk)
 |[.int .i64 x,.int .i64 lo,.int .i64 hi]=>some (True,.b (lo≤x∧x≤hi), [])
 |_=>none
theorem bWi (x lo:Int) (hi:Int):ap (En vJ tys G6 fE) Tryd.f43 [.k] Rp [.int .i64 x,.int .i64 lo,.int .i64 hi]:=by
 intro _
 refine yn (lo≤x) (fun h0=> ?_) fun h0=> ?_
 ·exact⟨rfl,rfl,congrArg V.b (propext (by constructor<;>intro h<;>first|omega|(exfalso;first|omega|exact Bool.noConfusion h))),rfl⟩
 ·exact⟨rfl,rfl,congrArg V.b (propext (by constructor<;>intro h<;>first|omega|(exfalso;first|omega|exact Bool.noConfusion h))),rfl⟩
def U1:List (Nat×bI):=(43,aS [.v (.int .i64),.v (.int .i64),.v (.int .i64)] Rp)::vJ
theorem kWi:Known Tryd.prog (En U1 tys G6 fE):=zE.addQ Tryd.func43 Tryd.call43 [.k] fun ds _ _ _ h=>by unfold Rp at h;split at h;exact bWi _ _ _;cases h
def qD:List V→Option (Prop×V×List Blk)
 |[.agg [.sl false (.int .i64) hs,.int .i64 nd,.int .i64 wr,.int .i64 sz,.int .i64 st,.int .i64 ph]]=>some (hs.length≤2000000,.int .i64 (ly hs nd wr sz st ph), [])
 |_=>none
theorem Kh (hs:List Int) (nd wr sz st ph:Int):ap (En U1 tys G6 fE) Tryd.f16 [.k] qD [La hs nd wr sz st ph]:=by
 intro hp0
 refine⟨1, [(1,.k),(8,.k),(9,.k),(10,.k)],fun nM vs H=>∃(k:Nat),k≤hs.length∧dk (tl hs k) (hs.drop k)=dk (-1) hs∧nM=hs.length-k∧vs= [.p 0,.sl false (.int .i64) hs,.i (hs.length:Int),.i k]∧H= [Mm hs nd wr sz st ph],⟨rfl,hs.length,0,by omega,rfl,by omega,rfl,rfl⟩,?_⟩
 rintro nM vs H ⟨k,hc1_0,hc1_1,rfl,rfl,rfl⟩
 refine yn ((k:Int)<(hs.length:Int)) (fun h0=> ?_) fun h0=> ?_
 ·have hkl:k<hs.length:=by omega
  have hk1:((k:Int)-1).toNat=k-1:=by omega
  refine⟨ix k hs.length,ny ((hs.getD k 0)<0) (fun h1=> ?_) fun h1=> ?_⟩
  ·refine ny (12≤(hs.getD k 0)) (fun h2=> ?_) fun h2=> ?_
   ·refine yn (0<(k:Int)) (fun h3=> ?_) fun h3=> ?_
    ·refine⟨aj (k-1),ix (k-1) hs.length,yn ((hs.getD k 0)≤(hs.getD (((k:Int)-1).toNat) 0)) (fun h4=> ?_) fun h4=> ?_⟩
     ·rw [hk1] at h4
      have e:=i5 hkl hc1_1 (by rw [ip hs (by omega)];omega)
      rw [tk1 e]
      exact ao
     ·rw [hk1] at h4
      refine⟨aj (k+1),?_⟩
      exact⟨rfl,hs.length-(k+1),by omega,k+1,by omega,gb hkl hc1_1 (by first|(rw [ip hs (by omega)];omega)|(rw [jl hs (by omega)];omega)),rfl,rfl,rfl⟩
    ·refine⟨aj (k+1),?_⟩
     exact⟨rfl,hs.length-(k+1),by omega,k+1,by omega,gb hkl hc1_1 (by first|(rw [ip hs (by omega)];omega)|(rw [jl hs (by omega)];omega)),rfl,rfl,rfl⟩
   ·have e:=i5 hkl hc1_1 (by omega)
    rw [tk1 e]
    exact ao
  ·have e:=i5 hkl hc1_1 (by omega)
   rw [tk1 e]
   exact ao
 ·have e:=zI (by omega) hc1_1
  refine⟨rfl,rfl,rfl,trivial,ny (¬(2≤nd∧nd≤12)) (fun h5=> ?_) fun h5=> ?_⟩
  ·refine⟨rfl,rfl,rfl,trivial,ny (¬(0≤wr∧wr≤12)) (fun h6=> ?_) fun h6=> ?_⟩
   ·refine⟨rfl,rfl,rfl,trivial,ny (¬(1≤sz∧sz≤4096)) (fun h7=> ?_) fun h7=> ?_⟩
    ·refine⟨rfl,rfl,rfl,trivial,ny (¬(0≤st∧st≤1000000)) (fun h8=> ?_) fun h8=> ?_⟩
     ·refine⟨rfl,rfl,rfl,trivial,ny (¬(1≤ph∧ph≤1000000)) (fun h9=> ?_) fun h9=> ?_⟩
      ·refine⟨aj (3*ph),aj (st+(3*ph)),yn (1000000<(st+(3*ph))) (fun h10=> ?_) fun h10=> ?_⟩
       ·rw [V0 e (fun h=>by unfold ko at h;omega)]
        exact ao
       ·refine⟨aj (nd+wr),ny ((hs.length:Int)<(nd+wr)) (fun h11=> ?_) fun h11=> ?_⟩
        ·refine⟨aj (nd-1),aj (3*wr),aj ((nd-1)+(3*wr)),yn ((hs.length:Int)<((nd-1)+(3*wr))) (fun h12=> ?_) fun h12=> ?_⟩
         ·rw [W7 e (by unfold ko;omega) (by omega)]
          exact ao
         ·rw [aAo e (by unfold ko;omega) (by omega)]
          exact ao
        ·rw [W7 e (by unfold ko;omega) (by omega)]
         exact ao
      ·rw [V0 e (fun h=>by unfold ko at h;omega)]
       exact ao
     ·rw [V0 e (fun h=>by unfold ko at h;omega)]
      exact ao
    ·rw [V0 e (fun h=>by unfold ko at h;omega)]
     exact ao
   ·rw [V0 e (fun h=>by unfold ko at h;omega)]
    exact ao
  ·rw [V0 e (fun h=>by unfold ko at h;omega)]
   exact ao
def rk:List (Nat×bI):=(16,aS [.v F7] qD)::U1
theorem I2:Known Tryd.prog (En rk tys G6 fE):=kWi.addQ Tryd.func16 Tryd.call16 [.k] fun ds _ _ _ h=>by unfold qD at h;split at h;exact Kh _ _ _ _ _ _;cases h
def yZ:List V→Option (Prop×V×List Blk)
 |[.sl false (.int .i64) s,.int .i64 x]=>some (s.length≤2000000,.int .i64 (aZ x s 0), [])
 |_=>none
theorem Uo (s:List Int) (x:Int):ap (En rk tys G6 fE) Tryd.f47 [.k] yZ [.sl false (.int .i64) s,.int .i64 x]:=by
 intro hp0
 refine⟨0, [(0,.k),(1,.k),(7,.k),(8,.k)],fun nM vs H=>∃(k:Nat),k≤s.length∧aZ x (s.drop k) k=aZ x s 0∧nM=s.length-k∧vs= [.sl false (.int .i64) s,.i x,.i (s.length:Int),.i k]∧H= [],⟨rfl,s.length,0,by omega,rfl,by omega,rfl,rfl⟩,?_⟩
 rintro nM vs H ⟨k,hc1_0,hc1_1,rfl,rfl,rfl⟩
 refine yn ((k:Int)<(s.length:Int)) (fun h0=> ?_) fun h0=> ?_
 ·rw [bf 0 s k (by omega),aZ] at hc1_1
  refine⟨ix k s.length,yn (x=(s.getD k 0)) (fun h1=> ?_) fun h1=> ?_⟩
  ·rw [if_pos h1] at hc1_1
   rw [←hc1_1]
   exact ao
  ·rw [if_neg h1] at hc1_1
   refine⟨aj (k+1),?_⟩
   exact⟨rfl,s.length-(k+1),by omega,k+1,by omega,hc1_1,rfl,rfl,rfl⟩
 ·rw [List.drop_eq_nil_of_le (by omega),aZ] at hc1_1
  rw [←hc1_1]
  exact ao
def zk:List (Nat×bI):=(47,aS [.v (.sl (.int .i64)),.v (.int .i64)] yZ)::rk
theorem Tf:Known Tryd.prog (En zk tys G6 fE):=I2.addQ Tryd.func47 Tryd.call47 [.k] fun ds _ _ _ h=>by unfold yZ at h;split at h;exact Uo _ _;cases h
def yb:List V→Option (Prop×V×List Blk)
 |[.sl false (.int .i64) s,.int .i64 x]=>some (s.length≤2000000,.b (x∈s), [])
 |_=>none
theorem Uq (s:List Int) (x:Int):ap (En zk tys G6 fE) Tryd.f74 [.k] yb [.sl false (.int .i64) s,.int .i64 x]:=by
 intro hp0
 refine⟨rfl,om (s.length≤2000000),?_⟩
 exact⟨rfl,rfl,congrArg V.b (propext (du x s 0 (by omega))),rfl⟩
def zl:List (Nat×bI):=(74,aS [.v (.sl (.int .i64)),.v (.int .i64)] yb)::zk
theorem Tg:Known Tryd.prog (En zl tys G6 fE):=Tf.addQ Tryd.func74 Tryd.call74 [.k] fun ds _ _ _ h=>by unfold yb at h;split at h;exact Uq _ _;cases h
def Ro:List V→Option (Prop×V×List Blk)
 |[.int .i64 x,.rp false (.int .i64) a 0]=>some (0≤a,.b (ec a x), [])
 |_=>none
theorem aBn (x a:Int):ap (En zl tys G6 fE) Tryd.f87 [.k] Ro [.int .i64 x,.rp false (.int .i64) a 0]:=by
 intro hp0
 refine ny (x<0) (fun h0=> ?_) fun h0=> ?_
 ·refine⟨⟨om ((0:Int)≤x),om ((0:Int)≤a)⟩,?_⟩
  first|exact⟨rfl,rfl,congrArg V.b (propext ⟨fun h=> .inr h,fun h=>h.resolve_left h0⟩),rfl⟩|exact⟨rfl,rfl,congrArg V.b (propext ⟨fun _=> .inl h0,fun _=>trivial⟩),rfl⟩|exact⟨rfl,rfl,congrArg V.b (propext ⟨fun _=> .inl h0,fun _=>rfl⟩),rfl⟩
 ·first|exact⟨rfl,rfl,congrArg V.b (propext ⟨fun h=> .inr h,fun h=>h.resolve_left h0⟩),rfl⟩|exact⟨rfl,rfl,congrArg V.b (propext ⟨fun _=> .inl h0,fun _=>trivial⟩),rfl⟩|exact⟨rfl,rfl,congrArg V.b (propext ⟨fun _=> .inl h0,fun _=>rfl⟩),rfl⟩
def U0:List (Nat×bI):=(87,aS [.v (.int .i64),.ref (.int .i64)] Ro)::zl
theorem aA3:Known Tryd.prog (En U0 tys G6 fE):=Tg.addQ Tryd.func87 Tryd.call87 [.k] fun ds _ _ _ h=>by unfold Ro at h;split at h;exact aBn _ _;cases h
theorem Zm (s:List Int) (a:Int) (hp0:0≤a) (hp1:s.length≤1048576):bL (En U0 tys G6 fE) Tryd.f105 [.k] [.sl false (.int .i64) s,.fn 87 [.rp false (.int .i64) a 0]] (.int .i64 (vL (fun x=>decide (ec a x)) s 0)) []:=by
 refine⟨0, [(0,.k),(1,.k),(7,.k),(8,.k)],fun nM vs H=>∃(j:Nat),j≤s.length∧vL (fun x=>decide (ec a x)) (s.drop j) j=vL (fun x=>decide (ec a x)) s 0∧nM=s.length-j∧vs= [.sl false (.int .i64) s,.fn 87 [.rp false (.int .i64) a 0],.i (s.length:Int),.i j]∧H= [],⟨rfl,s.length,0,by omega,rfl,by omega,rfl,rfl⟩,?_⟩
 rintro nM vs H ⟨j,hc1_0,hc1_1,rfl,rfl,rfl⟩
 refine yn ((j:Int)<(s.length:Int)) (fun h0=> ?_) fun h0=> ?_
 ·have hj:j<s.length:=by omega
  rw [bf 0 s j hj,vL] at hc1_1
  refine⟨ix j s.length,rfl,om (0≤a),yn (ec a (s.getD j 0)) (fun h1=> ?_) fun h1=> ?_⟩
  ·rw [if_pos (decide_eq_true h1)] at hc1_1
   rw [←hc1_1]
   exact ao
  ·rw [if_neg (by simpa using h1)] at hc1_1
   refine⟨aj (j+1),?_⟩
   exact⟨rfl,s.length-(j+1),by omega,j+1,by omega,hc1_1,rfl,rfl,rfl⟩
 ·rw [List.drop_eq_nil_of_le (by omega),vL] at hc1_1
  rw [←hc1_1]
  exact ao
def Xi:List V→Option (Prop×V×List Blk)
 |[.sl false (.int .i64) s,.fn 87 [.rp false (.int .i64) a 0]]=>some (0≤a∧s.length≤1048576,.int .i64 (vL (fun x=>decide (ec a x)) s 0), [])
 |_=>none
def Vj:List (Nat×bI):=(105,aS [.v (.sl (.int .i64)),.fn [(87, [.ref (.int .i64)])]] Xi)::U0
theorem aBN:Known Tryd.prog (En Vj tys G6 fE):=aA3.add Tryd.func105 Tryd.call105 [.k] fun ds p v bs h hp=>by
 unfold Xi at h
 split at h<;>simp only [Option.some.injEq,Prod.mk.injEq,reduceCtorEq] at h
 ·obtain⟨rfl,rfl,rfl⟩:=h
  exact Zm _ _ hp.1 hp.2
theorem Zw (s:List Int) (a:Int) (hp0:0≤a) (hp1:s.length≤1048576):bL (En Vj tys G6 fE) Tryd.f86 [.k] [.sl false (.int .i64) s,.fn 87 [.rp false (.int .i64) a 0]] (.b (∃x∈s,ec a x)) []:=by
 refine⟨⟨om (0≤a),om (s.length≤1048576)⟩,?_⟩
 exact⟨rfl,rfl,congrArg V.b (propext (Ti (fun x=>decide (ec a x)) s fun x=>decide_eq_true_iff)),rfl⟩
def Xr:List V→Option (Prop×V×List Blk)
 |[.sl false (.int .i64) s,.fn 87 [.rp false (.int .i64) a 0]]=>some (0≤a∧s.length≤1048576,.b (∃x∈s,ec a x), [])
 |_=>none
def Py:List (Nat×bI):=(86,aS [.v (.sl (.int .i64)),.fn [(87, [.ref (.int .i64)])]] Xr)::Vj
theorem Yl:Known Tryd.prog (En Py tys G6 fE):=aBN.add Tryd.func86 Tryd.call86 [.k] fun ds p v bs h hp=>by
 unfold Xr at h
 split at h<;>simp only [Option.some.injEq,Prod.mk.injEq,reduceCtorEq] at h
 ·obtain⟨rfl,rfl,rfl⟩:=h
  exact Zw _ _ hp.1 hp.2
noncomputable def sSe:List V→List Blk→Option (Prop×V)
 |[.int .i64 set,.int .i64 more,.int .i64 fr,.ptr 0 1 0 0,.ptr 1 1 0 0,.ptr 2 1 0 0,.ptr 3 1 0 0], [.cells [.sl false (.int .i64) hs,.int .i64 nd,.int .i64 wr,.int .i64 sz,.int .i64 stt,.int .i64 ph],.cells [.mp (.sl (.int .i64)) 4],.cells [.int .i64 k],.cells [.fn 88 [.ptr 0 1 0 0,.ptr 1 1 0 0,.ptr 2 1 0 0,.ptr 3 1 0 0]],.imap false (.sl (.int .i64)) es]=>some (SrOk hs es k set more fr,.int .i64 (cl es k (hs.drop fr.toNat) set more))
 |_,_=>none
def mSe:List V→List Blk→Nat
 |[.int .i64 set,.int .i64 more,.int .i64 fr,.ptr 0 1 0 0,.ptr 1 1 0 0,.ptr 2 1 0 0,.ptr 3 1 0 0], [.cells [.sl false (.int .i64) hs,.int .i64 nd,.int .i64 wr,.int .i64 sz,.int .i64 stt,.int .i64 ph],.cells [.mp (.sl (.int .i64)) 4],.cells [.int .i64 k],.cells [.fn 88 [.ptr 0 1 0 0,.ptr 1 1 0 0,.ptr 2 1 0 0,.ptr 3 1 0 0]],.imap false (.sl (.int .i64)) es]=>hs.length-fr.toNat
 |_,_=>0

theorem bSe (hs:List Int) (nd wr sz stt ph k:Int) (es:Ps) (set more fr:Int) (hok:SrOk hs es k set more fr):body (En ((88,eD (wI mSe (hs.length-fr.toNat) sSe))::Py) tys G6 fE [1000006]).inR Tryd.f88 [.int .i64 set,.int .i64 more,.int .i64 fr,.ptr 0 1 0 0,.ptr 1 1 0 0,.ptr 2 1 0 0,.ptr 3 1 0 0] (jx [.cells [.sl false (.int .i64) hs,.int .i64 nd,.int .i64 wr,.int .i64 sz,.int .i64 stt,.int .i64 ph],.cells [.mp (.sl (.int .i64)) 4],.cells [.int .i64 k],.cells [.fn 88 [.ptr 0 1 0 0,.ptr 1 1 0 0,.ptr 2 1 0 0,.ptr 3 1 0 0]],.imap false (.sl (.int .i64)) es]) (fun v' H'=>(v'.bare=true∧v'= .int .i64 (cl es k (hs.drop fr.toNat) set more))∧∃L,H'=jx [.cells [.sl false (.int .i64) hs,.int .i64 nd,.int .i64 wr,.int .i64 sz,.int .i64 stt,.int .i64 ph],.cells [.mp (.sl (.int .i64)) 4],.cells [.int .i64 k],.cells [.fn 88 [.ptr 0 1 0 0,.ptr 1 1 0 0,.ptr 2 1 0 0,.ptr 3 1 0 0]],.imap false (.sl (.int .i64)) es]++L):=by
 obtain⟨s0,s1,f0,f1,k0,k1,m0,m1,l1,hs1,es1⟩:=id hok
 refine yn (more=0) (fun h0=> ?_) fun h0=> ?_
 ·obtain rfl:more=0:=h0
  exact⟨⟨rfl,congrArg (V.int .i64) ((uw es k set _).symm)⟩,_,rfl⟩
 ·have hm0:¬more=0:=h0
  refine⟨6, [(0,.k),(1,.k),(3,.k),(4,.k),(5,.k),(6,.k),(11,.k)],fun nM vs H=>∃(i:Nat),(i≤hs.length∧fr.toNat≤i)∧cl es k (hs.drop i) set more=cl es k (hs.drop fr.toNat) set more∧nM=hs.length-i∧vs= [.i set,.i more,.p 0,.p 1,.p 2,.p 3,.i i]∧H= [Mm hs nd wr sz stt ph,.cells [.mp (.sl (.int .i64)) 4],.cells [.i k],.cells [.fn 88 [.p 0,.p 1,.p 2,.p 3]],.imap false (.sl (.int .i64)) es,.cells [.tup [],.p 0,.p 1,.p 2,.p 3,.mp (.sl (.int .i64)) 4]],⟨rfl,hs.length-fr.toNat,fr.toNat,⟨by omega,by omega⟩,rfl,rfl,congrArg (fun z:Int=> [V.i set,V.i more,V.p 0,V.p 1,V.p 2,V.p 3,V.i z]) (Int.toNat_of_nonneg f0).symm,rfl⟩,?_⟩
  rintro nM vs H ⟨i,hc1_0,hc1_1,rfl,rfl,rfl⟩
  refine yn ((i:Int)<(hs.length:Int)) (fun h1=> ?_) fun h1=> ?_
  ·have hi:i<hs.length:=by omega
   obtain⟨g0,g1⟩:=hs1 _ (bc 0 hs i hi)
   obtain⟨p0,p1⟩:=wK g0 g1
   obtain⟨n0,n1⟩:=uB s0 s1 g0 g1
   refine⟨ix i hs.length,⟨om ((0:Int)≤hs.getD i 0),om (hs.getD i 0≤(64:Int))⟩,aj ((1:Int)*2^((hs.getD i 0).toNat)),.inl ⟨⟨om ((0:Int)≤set),om ((0:Int)≤((1:Int)*2^((hs.getD i 0).toNat)))⟩,?_⟩⟩
   refine⟨rfl,fun x2 h2=> ?_,fun h2=> ?_⟩
   ·replace h2:aW es (hs.getD i 0)=some x2:=h2
    obtain⟨_,hxl,hxb⟩:=es1 _ (qa h2)
    replace hxl:x2.length=hs.length:=hxl
    obtain⟨b0,b1⟩:=hxb _ (bc 0 x2 k.toNat (om (k.toNat<x2.length)))
    refine fun p3 hq3=> ?_
    refine ny (p3) (fun h4=> ?_) fun h4=> ?_
    ·refine⟨rfl,fun x5 h5=> ?_,fun h5=>absurd ((show aW es (hs.getD i 0)=some x2 by assumption).symm.trans h5) (fun h=>by cases h)⟩
     obtain rfl:x2=x5:=Option.some.inj ((show aW es (hs.getD i 0)=some x2 by assumption).symm.trans h5)
     refine⟨ix k x2.length,.inl ⟨⟨om ((0:Int)≤(x2.getD k.toNat 0)),om ((0:Int)≤((set.toNat|||(((1:Int)*2^((hs.getD i 0).toNat)).toNat):Nat):Int))⟩,?_⟩⟩
     refine yn (((((x2.getD k.toNat 0).toNat)&&&(set.toNat|||(((1:Int)*2^((hs.getD i 0).toNat)).toNat)):Nat):Int)≠((set.toNat|||(((1:Int)*2^((hs.getD i 0).toNat)).toNat):Nat):Int)) (fun h6=> ?_) fun h6=> ?_
     ·have hsk:=ux hi hm0 (show¬fits es k set (hs.getD i 0) from fun⟨ag,e1,e2,_⟩=>h6 (by rw [h2] at e1;cases e1;exact e2))
      rw [hc1_1] at hsk
      refine⟨aj (i+1),?_⟩
      exact⟨rfl,hs.length-(i+1),by omega,i+1,⟨by omega,by omega⟩,hsk,rfl,rfl,rfl⟩
     ·refine⟨rfl,7, [(0,.k),(1,.k),(3,.k),(4,.k),(5,.k),(6,.k),(11,.k),(12,.k),(13,.k),(54,.k)],fun nM vs H=>∃(s:List Nat) (l:Option Nat),(∀j∈s++l.toList,¬Ev (es.getD j (0, [])) k set ((hs.getD i 0)))∧nM=rem es.length (s++l.toList)∧vs= [.int .i64 set,.int .i64 more,.ptr 0 1 0 0,.ptr 1 1 0 0,.ptr 2 1 0 0,.ptr 3 1 0 0,.int .i64 (i:Int),.int .i64 (hs.getD i 0),.int .i64 ((set.toNat|||(((1:Int)*2^((hs.getD i 0).toNat)).toNat):Nat):Int),.ptr 6 1 0 0]∧H= [.cells [.sl false (.int .i64) hs,.int .i64 nd,.int .i64 wr,.int .i64 sz,.int .i64 stt,.int .i64 ph],.cells [.mp (.sl (.int .i64)) 4],.cells [.int .i64 k],.cells [.fn 88 [.ptr 0 1 0 0,.ptr 1 1 0 0,.ptr 2 1 0 0,.ptr 3 1 0 0]],.imap false (.sl (.int .i64)) es,.cells [.tup [],.ptr 0 1 0 0,.ptr 1 1 0 0,.ptr 2 1 0 0,.ptr 3 1 0 0,.mp (.sl (.int .i64)) 4],.mit (some 4) es.length s l],⟨rfl,rem es.length [], [],none,by simp,rfl,rfl,rfl⟩,?_⟩
      rintro nM vs H ⟨s,l,hc2_0,rfl,rfl,rfl⟩
      refine⟨rfl,fun h7=> ?_,fun i7 l7 h7=> ?_⟩
      ·have alt:=0
       have hfit:fits es k set (hs.getD i 0):=⟨x2,h2,nw h6,fun e he hb=>by
        obtain⟨j,hj,rfl⟩:=List.mem_iff_getElem.1 he
        refine hc2_0 j (h7 j hj) ?_
        rw [gD hj];exact hb⟩
       have hSe:SrOk hs es k (kx set (hs.getD i 0)) (more-1) ((i:Int)+1):=⟨n0,n1,by omega,by omega,k0,k1,by omega,by omega,l1,hs1,es1⟩
       have hMe:hs.length-((i:Int)+1).toNat<hs.length-fr.toNat:=by omega
       refine⟨aj (more-1),aj (i+1),fN,⟨hSe,hMe⟩,yn (0≤(cl es k (hs.drop (((i:Int)+1).toNat)) ((set.toNat|||(((1:Int)*2^((hs.getD i 0).toNat)).toNat):Nat):Int) (more-1))) (fun h8=> ?_) fun h8=> ?_⟩
       ·exact⟨⟨rfl,congrArg (V.int .i64) ((Uf hi hm0 hfit h8).trans hc1_1)⟩,_,rfl⟩
       ·have hsk:=Yw hi hm0 h8
        rw [hc1_1] at hsk
        refine⟨aj (i+1),?_⟩
        exact⟨rfl,hs.length-(i+1),by omega,i+1,⟨by omega,by omega⟩,hsk,rfl,rfl,rfl⟩
      ·have alt:=1
       obtain⟨⟨o0,o1⟩,hyl,hyb⟩:=es1 _ (bc (0, []) es i7 l7)
       obtain⟨c0,c1⟩:=hyb _ (bc 0 _ k.toNat (by rw [hyl];omega))
       have d0:0≤set/2^(((es.getD i7 (0, [])).1).toNat):=Int.ediv_nonneg s0 (by have:=wK o0 o1;omega)
       have d1:0≤((es.getD i7 (0, [])).2).getD k.toNat 0/2^((hs.getD i 0).toNat):=Int.ediv_nonneg c0 (by omega)
       refine⟨rfl,⟨om ((0:Int)≤(es.getD i7 (0, [])).1),om ((es.getD i7 (0, [])).1≤(64:Int))⟩,.inl ⟨⟨om ((0:Int)≤(set/2^(((es.getD i7 (0, [])).1).toNat))),om ((0:Int)≤1)⟩,?_⟩⟩
       refine yn (((((set/2^(((es.getD i7 (0, [])).1).toNat)).toNat)&&&1:Nat):Int)=1) (fun h9=> ?_) fun h9=> ?_
       ·refine⟨ix k ((es.getD i7 (0, [])).2).length,⟨om ((0:Int)≤hs.getD i 0),om (hs.getD i 0≤(64:Int))⟩,.inl ⟨⟨om ((0:Int)≤((((es.getD i7 (0, [])).2).getD k.toNat 0)/2^((hs.getD i 0).toNat))),om ((0:Int)≤1)⟩,?_⟩⟩
        refine yn ((((((((es.getD i7 (0, [])).2).getD k.toNat 0)/2^((hs.getD i 0).toNat)).toNat)&&&1:Nat):Int)=0) (fun h10=> ?_) fun h10=> ?_
        ·have hsk:=ux hi hm0 (show¬fits es k set (hs.getD i 0) from fun⟨ag,_,_,e3⟩=>e3 _ (bc (0, []) es i7 l7) ⟨h9,h10⟩)
         rw [hc1_1] at hsk
         refine⟨aj (i+1),?_⟩
         exact⟨rfl,hs.length-(i+1),by omega,i+1,⟨by omega,by omega⟩,hsk,rfl,rfl,rfl⟩
        ·have hnx:∀j∈(s++l.toList)++(some i7).toList,¬Ev (es.getD j (0, [])) k set (hs.getD i 0):=fun j hj=>by
          rcases List.mem_append.1 hj with hj|hj
          ·exact hc2_0 j hj
          ·obtain rfl:j=i7:=by simpa using hj
           exact fun hb=>h10 hb.2
         exact⟨rfl,rem es.length ((s++l.toList)++ [i7]),Hd l7 h7,s++l.toList,some i7,hnx,rfl,rfl,rfl⟩
       ·have hnx:∀j∈(s++l.toList)++(some i7).toList,¬Ev (es.getD j (0, [])) k set (hs.getD i 0):=fun j hj=>by
         rcases List.mem_append.1 hj with hj|hj
         ·exact hc2_0 j hj
         ·obtain rfl:j=i7:=by simpa using hj
          exact fun hb=>h9 hb.1
        exact⟨rfl,rem es.length ((s++l.toList)++ [i7]),Hd l7 h7,s++l.toList,some i7,hnx,rfl,rfl,rfl⟩
    ·have:=hq3 h4
     subst this
     simp at hxl
     omega
   ·replace h2:aW es (hs.getD i 0)=none:=h2
    have hsk:=ux hi hm0 (show¬fits es k set (hs.getD i 0) from fun⟨ag,e1,_⟩=>by rw [h2] at e1;cases e1)
    rw [hc1_1] at hsk
    refine⟨fun h11=>absurd (show True by trivial) h11,fun h11=> ?_⟩
    refine⟨aj (i+1),?_⟩
    exact⟨rfl,hs.length-(i+1),by omega,i+1,⟨by omega,by omega⟩,hsk,rfl,rfl,rfl⟩
  ·exact⟨⟨rfl,congrArg (V.int .i64) ((Ug (by omega) hm0).symm.trans hc1_1)⟩,_,rfl⟩
noncomputable def CSe:List (Nat×bI):=(88,eD sSe)::Py
theorem kSe:Known Tryd.prog (En CSe tys G6 fE [1000006]):=(Yl.frz [1000006]).addLook Tryd.func88 Tryd.call88 mSe fun xs H p v hs hp=>by
 unfold sSe at hs
 split at hs<;>simp only [Option.some.injEq,Prod.mk.injEq,reduceCtorEq] at hs
 obtain⟨rfl,rfl⟩:=hs
 exact bSe _ _ _ _ _ _ _ _ _ _ _ hp
section
abbrev RP:=Int×List Int×Unit
def jO (l:List Int):Int:=l.foldl kx 0
theorem Ez {hs:List Int} {k:Nat} (h:k<hs.length):jO (hs.take (k+1))=kx (jO (hs.take k)) (hs.getD k 0):=by
 unfold jO
 rw [List.take_succ_eq_append_getElem h,List.foldl_append,gD h];rfl
theorem uW:∀(l:List Int) (s:Int),0≤s→s<4096→(∀h∈l,0≤h∧h<12)→0≤l.foldl kx s∧l.foldl kx s<4096
 |[],s,h0,h1,_=>⟨h0,h1⟩
 |h::l,s,h0,h1,hl=>by
  obtain⟨n0,n1⟩:=uB h0 h1 (hl h (by simp)).1 (hl h (by simp)).2
  exact uW l _ n0 n1 fun x hx=>hl x (by simp [hx])
theorem vE {hs:List Int} (h:∀h∈hs,0≤h∧h<12) (k:Nat):0≤jO (hs.take k)∧jO (hs.take k)<4096:=
 uW _ 0 (by omega) (by omega) fun x hx=>h x (List.mem_of_mem_take hx)
theorem Tk.hs12 {hs:List Int} {nd wr sz st ph:Int} (h:Tk hs nd wr sz st ph):∀x∈hs,0≤x∧x<12:=fun x hx=>by
 obtain⟨i,hi,rfl⟩:=List.mem_iff_getElem.1 hx
 have:=nU hs (-1) i h.ho hi
 rw [gD hi] at this
 omega
open Classical in
noncomputable def ee (hs:List Int) (es:Ps) (p:RP):Ps:=
 if aW es p.1=none∧(¬∃x∈p.2.1,ec (jO hs) x)∧(p.2.1.length:Int)=(hs.length:Int)∧p.1∈hs then cJ es p.1 p.2.1 else es
noncomputable def e7 (hs:List Int) (l:List RP):Ps:=l.foldl (ee hs) []
theorem jz {hs:List Int} {l:List RP} {k:Nat} (h:k<l.length):e7 hs (l.take (k+1))=ee hs (e7 hs (l.take k)) (l.getD k (0,([],()))):=by
 unfold e7
 rw [List.take_succ_eq_append_getElem h,List.foldl_append,gD h];rfl
theorem we {es:Ps} {n:Int} {x:List Int} {e:Int×List Int}:e∈cJ es n x→e∈es∨e=(n,x):=by
 induction es with
 |nil=>intro h;right;simpa [cJ] using h
 | cons a es ih=>
  obtain⟨m,y⟩:=a
  intro h
  unfold cJ at h
  split at h
  ·rcases List.mem_cons.1 h with h|h
   ·right;simp_all
   ·left;exact List.mem_cons_of_mem _ h
  ·rcases List.mem_cons.1 h with h|h
   ·left;rw [h];exact List.mem_cons_self ..
   ·exact(ih h).imp (List.mem_cons_of_mem _) id
theorem Im (es:Ps) (n:Int) (x:List Int):(cJ es n x).length≤es.length+1:=by
 induction es with
 |nil=>simp [cJ]
 |cons a es ih=>
  obtain⟨m,y⟩:=a
  unfold cJ
  split<;>simp only [List.length_cons]<;>omega
theorem Br (hs:List Int):∀(l:List RP) (es:Ps),(l.foldl (ee hs) es).length≤es.length+l.length
 |[],es=>by simp
 | p::l,es=>by
  have h:=Br hs l (ee hs es p)
  have h2:(ee hs es p).length≤es.length+1:=by
   unfold ee;split
   ·exact Im _ _ _
   ·omega
  simp only [List.foldl_cons,List.length_cons];omega
theorem aAO {a b:Nat} (h:a^^^b=0):a=b:=by
 apply Nat.eq_of_testBit_eq
 intro i
 have:=congrArg (fun n=>n.testBit i) h
 simp only [Nat.testBit_xor,Nat.zero_testBit] at this
 revert this
 cases a.testBit i<;>cases b.testBit i<;>simp
theorem Ii {a x:Int} (h:¬ec a x):0≤x∧x.toNat=x.toNat&&&a.toNat:=by
 unfold ec at h
 have h1:¬x<0:=fun g=>h (.inl g)
 have h2:(((x.toNat^^^(x.toNat&&&a.toNat)):Nat):Int)=0:=nw fun g=>h (.inr g)
 exact⟨by omega,aAO (by omega)⟩
def Pv (hs:List Int) (es:Ps):Prop:=∀e∈es,(0≤e.1∧e.1<12)∧e.2.length=hs.length∧∀x∈e.2,0≤x∧x<4096
theorem ue {hs:List Int} (hh:∀h∈hs,0≤h∧h<12):∀(l:List RP) (es:Ps),Pv hs es→Pv hs (l.foldl (ee hs) es)
 |[],es,h=>h
 | p::l,es,h=>by
  refine ue hh l _ fun e he=> ?_
  unfold ee at he
  split at he
  ·rename_i hc
   rcases we he with he|rfl
   ·exact h e he
   ·refine⟨hh _ hc.2.2.2,by have:=hc.2.2.1;show p.2.1.length=_;omega,fun x hx=> ?_⟩
    obtain⟨x0,x1⟩:=Ii fun g=>hc.2.1 ⟨x,hx,g⟩
    have ha:=vE hh hs.length
    rw [List.take_length] at ha
    have:x.toNat&&&(jO hs).toNat≤(jO hs).toNat:=Nat.and_le_right
    omega
  ·exact h e he
noncomputable def P1 (hs:List Int) (wr:Int) (es:Ps) (k:Nat):List (Int×Int×Unit):=
 if 0≤cl es (k:Int) (hs.drop 0) 0 ((hs.length:Int)-wr) then [(hs.getD k 0,cl es (k:Int) (hs.drop 0) 0 ((hs.length:Int)-wr),())] else []
noncomputable def pA (hs:List Int) (wr:Int) (es:Ps):Nat→List (Int×Int×Unit)
 |0=> []
 |k+1=>pA hs wr es k++P1 hs wr es k
theorem tR (hs:List Int) (wr:Int) (es:Ps):∀k,(pA hs wr es k).length≤k
 |0=>by simp [pA]
 |k+1=>by
  have:=tR hs wr es k
  unfold pA P1
  split<;>simp<;>omega
noncomputable def ac (hs:List Int) (nd wr sz st ph:Int) (l:List RP):List (Int×Int×Unit):=
 if ly hs nd wr sz st ph=0 then pA hs wr (e7 hs l) hs.length else []
theorem jW:∀(l:List Int) (p:Int) (k:Nat),dk p l=true→k<l.length→p<l.getD k 0∧∀x∈l.take k,x<l.getD k 0
 |[],_,k,_,hk=>by simp at hk
 |a::l,p,0,hh,_=>by
  simp only [dk,Bool.and_eq_true,decide_eq_true_eq] at hh
  exact⟨hh.1.2.2,fun x hx=>by simp at hx⟩
 |a::l,p,k+1,hh,hk=>by
  simp only [dk,Bool.and_eq_true,decide_eq_true_eq] at hh
  obtain⟨h1,h2⟩:=jW l a k hh.2 (by simpa using hk)
  have e:(a::l).getD (k+1) 0=l.getD k 0:=by simp
  rw [e,List.take_succ_cons]
  refine⟨by omega,fun x hx=> ?_⟩
  rcases List.mem_cons.1 hx with rfl|hx
  ·exact h1
  ·exact h2 x hx
end
noncomputable def Xn:List V→Option (Prop×V×List Blk)
 |[.agg [.sl false (.int .i64) hs,.int .i64 nd,.int .i64 wr,.int .i64 sz,.int .i64 st,.int .i64 ph],.sl false (.cons (.int .i64) (.cons (.sl (.int .i64)) .nil)) l]=>some (hs.length≤2000000∧l.length≤20∧∀p∈l,p.2.1.length≤1048576,.tup [.own (.cons (.int .i64) (.cons (.int .i64) .nil)) 0,.int .i64 (ly hs nd wr sz st ph)], [.row true (.cons (.int .i64) (.cons (.int .i64) .nil)) (ac hs nd wr sz st ph l)])
 |_=>none
theorem Up (hs:List Int) (nd wr sz st ph:Int) (l:List (Int×(List Int×Unit))) (hp0:hs.length≤2000000) (hp1:l.length≤20) (hp2:∀p∈l,p.2.1.length≤1048576):bL (En CSe tys G6 fE [1000006]) Tryd.f53 [.o (.cons (.int .i64) (.cons (.int .i64) .nil)),.k] [La hs nd wr sz st ph,.sl false oo l] (.tup [.own (.cons (.int .i64) (.cons (.int .i64) .nil)) 0,.int .i64 (ly hs nd wr sz st ph)]) [.row true (.cons (.int .i64) (.cons (.int .i64) .nil)) (ac hs nd wr sz st ph l)]:=by
 refine⟨rfl,rfl,rfl,rfl,rfl,om (hs.length≤2000000),yn ((ly hs nd wr sz st ph)≠0) (fun h0=> ?_) fun h0=> ?_⟩
 ·rw [show ac hs nd wr sz st ph l= [] from if_neg h0]
  exact ao
 ·have hT:=P5 (nw h0)
  have hsb:∀h∈hs,0≤h∧h<12:=hT.hs12
  have hn12:=hT.l12
  refine⟨jP,2, [(1,.k),(2,.k),(7,.k),(27,.k),(28,.k),(29,.k)],fun nM vs H=>∃(k:Nat),k≤hs.length∧nM=hs.length-k∧vs= [.sl false oo l,.ptr 0 1 0 0,.ptr 1 1 0 0,.sl false (.int .i64) hs,.int .i64 (hs.length:Int),.int .i64 (k:Int)]∧H= [.cells [.sl false (.int .i64) hs,.int .i64 nd,.int .i64 wr,.int .i64 sz,.int .i64 st,.int .i64 ph],.cells [.int .i64 (jO (hs.take k))]],⟨rfl,hs.length,0,by omega,by omega,rfl,rfl⟩,?_⟩
  rintro nM vs H ⟨k,hc1_0,rfl,rfl,rfl⟩
  refine yn ((k:Int)<(hs.length:Int)) (fun h1=> ?_) fun h1=> ?_
  ·have hkl:k<hs.length:=by omega
   obtain⟨g0,g1⟩:=hsb _ (bc 0 hs k hkl)
   obtain⟨p0,p1⟩:=wK g0 g1
   obtain⟨a0,a1⟩:=vE hsb k
   refine⟨ix k hs.length,by kernel_rfl,⟨om ((0:Int)≤hs.getD k 0),om (hs.getD k 0≤(64:Int))⟩,aj ((1:Int)*2^((hs.getD k 0).toNat)),.inl ⟨⟨om ((0:Int)≤(jO (hs.take k))),om ((0:Int)≤((1:Int)*2^((hs.getD k 0).toNat)))⟩,?_⟩⟩
   refine⟨jP,aj (k+1),?_⟩
   exact⟨rfl,hs.length-(k+1),by omega,k+1,by omega,rfl,rfl,by rw [Ez hkl];rfl⟩
  ·have hk:hs.take k=hs:=List.take_of_length_le (by omega)
   obtain⟨a0,a1⟩:=vE hsb k
   refine⟨jP,4, [(2,.k),(7,.k),(10,.k),(39,.k),(40,.k),(41,.k)],fun nM vs H=>∃(j:Nat),j≤l.length∧nM=l.length-j∧vs= [.ptr 0 1 0 0,.ptr 1 1 0 0,.ptr 3 1 0 0,.sl false oo l,.int .i64 (l.length:Int),.int .i64 (j:Int)]∧H= [.cells [.sl false (.int .i64) hs,.int .i64 nd,.int .i64 wr,.int .i64 sz,.int .i64 st,.int .i64 ph],.cells [.int .i64 (jO (hs.take k))],.imap false (.sl (.int .i64)) (e7 hs (l.take j)),.cells [.mp (.sl (.int .i64)) 2]],⟨rfl,l.length,0,by omega,by omega,rfl,rfl⟩,?_⟩
   rintro nM vs H ⟨j,hc2_0,rfl,rfl,rfl⟩
   refine yn ((j:Int)<(l.length:Int)) (fun h2=> ?_) fun h2=> ?_
   ·have hjl:j<l.length:=by omega
    have hpl:=hp2 _ (bc (0,([],())) l j hjl)
    have hel:=Br hs (l.take j) []
    rw [List.length_take,List.length_nil] at hel
    replace hel:(e7 hs (l.take j)).length≤0+min j l.length:=hel
    refine⟨ix j l.length,cm,rfl,fun x3 h3=> ?_,fun h3=> ?_⟩
    ·replace h3:aW (e7 hs (l.take j)) ((l.getD j (0,([],()))).1)=some x3:=h3
     have hps:e7 hs (l.take (j+1))=e7 hs (l.take j):=by
      rw [jz hjl,ee,if_neg (fun h=>by
       have h9:=h3.symm.trans h.1
       cases h9)]
     refine⟨rfl,⟨os (0≤(jO (hs.take k))),os ((((l.getD j (0,([],()))).2).1).length≤1048576)⟩,cn (¬True),fun h4=> ?_⟩
     refine⟨aj (j+1),?_⟩
     exact⟨rfl,l.length-(j+1),by omega,j+1,by omega,rfl,rfl,by rw [hps];rfl⟩
    ·replace h3:aW (e7 hs (l.take j)) ((l.getD j (0,([],()))).1)=none:=h3
     refine⟨rfl,⟨os (0≤(jO (hs.take k))),os ((((l.getD j (0,([],()))).2).1).length≤1048576)⟩,fun h5=> ?_,cp (¬False)⟩
     refine yn (¬(∃x∈(((l.getD j (0,([],()))).2).1),ec (jO (hs.take k)) x)) (fun h6=> ?_) fun h6=> ?_
     ·refine yn ((((((l.getD j (0,([],()))).2).1).length:Nat):Int)=(hs.length:Int)) (fun h7=> ?_) fun h7=> ?_
      ·refine⟨rfl,om (hs.length≤2000000),yn (((l.getD j (0,([],()))).1)∈hs) (fun h8=> ?_) fun h8=> ?_⟩
       ·have hps:e7 hs (l.take (j+1))=cJ (e7 hs (l.take j)) (l.getD j (0,([],()))).1 (l.getD j (0,([],()))).2.1:=by
         rw [hk] at h6
         rw [jz hjl,ee,if_pos ⟨h3,h6,h7,h8⟩]
        refine⟨⟨rfl,om ((e7 hs (l.take j)).length≤1000000000)⟩,aj (j+1),?_⟩
        exact⟨rfl,l.length-(j+1),by omega,j+1,by omega,rfl,rfl,by rw [hps];rfl⟩
       ·have hps:e7 hs (l.take (j+1))=e7 hs (l.take j):=by
         rw [jz hjl,ee,if_neg (fun h=>h8 h.2.2.2)]
        refine⟨aj (j+1),?_⟩
        exact⟨rfl,l.length-(j+1),by omega,j+1,by omega,rfl,rfl,by rw [hps];rfl⟩
      ·have hps:e7 hs (l.take (j+1))=e7 hs (l.take j):=by
        rw [jz hjl,ee,if_neg (fun h=>h7 h.2.2.1)]
       refine⟨aj (j+1),?_⟩
       exact⟨rfl,l.length-(j+1),by omega,j+1,by omega,rfl,rfl,by rw [hps];rfl⟩
     ·have hps:e7 hs (l.take (j+1))=e7 hs (l.take j):=by
       rw [jz hjl,ee,if_neg (fun h=>h6 (by rw [hk];exact h.2.1))]
      refine⟨aj (j+1),?_⟩
      exact⟨rfl,l.length-(j+1),by omega,j+1,by omega,rfl,rfl,by rw [hps];rfl⟩
   ·have hj:l.take j=l:=List.take_of_length_le (by omega)
    have hok:=ue hsb l [] (fun e he=>by cases he)
    refine⟨4, [(2,.k),(10,.k),(16,.o (.cons (.int .i64) (.cons (.int .i64) .nil))),(85,.k),(86,.k),(87,.k)],fun nM vs H=>∃(m:Nat),m≤hs.length∧nM=hs.length-m∧vs= [.p 0,.p 3,.own (.cons (.int .i64) (.cons (.int .i64) .nil)) 4,.sl false (.int .i64) hs,.i (hs.length:Int),.i m]∧H= [Mm hs nd wr sz st ph,.cells [.i (jO (hs.take k))],.imap false (.sl (.int .i64)) (e7 hs (l.take j)),.cells [.mp (.sl (.int .i64)) 2],.r (.cons (.int .i64) (.cons (.int .i64) .nil)) (pA hs wr (e7 hs l) m)],⟨rfl,hs.length,0,by omega,by omega,rfl,rfl⟩,?_⟩
    rintro nM vs H ⟨m,hc3_0,rfl,rfl,rfl⟩
    refine yn ((m:Int)<(hs.length:Int)) (fun h9=> ?_) fun h9=> ?_
    ·have hm:m<hs.length:=by omega
     have hv:=tR hs wr (e7 hs l) m
     have hq:=hT.q1
     have r1:=hT.rg.1.1.1
     obtain⟨r2,r3⟩:=hT.rg.1.2.1
     obtain⟨g0,g1⟩:=hsb _ (bc 0 hs m hm)
     have hSr:SrOk hs (e7 hs (l.take j)) (m:Int) 0 ((hs.length:Int)-wr) 0:=⟨by omega,by omega,by omega,by omega,by omega,by omega,by omega,by omega,by omega,hsb,by rw [hj];exact hok⟩
     refine⟨ix m hs.length,jP,jP,aj (hs.length-wr),fN,hSr,yn (0≤(cl (e7 hs (l.take j)) (m:Int) (hs.drop 0) 0 ((hs.length:Int)-wr))) (fun h10=> ?_) fun h10=> ?_⟩
     ·have hvd:pA hs wr (e7 hs l) (m+1)=pA hs wr (e7 hs l) m++ [(hs.getD m 0,(cl (e7 hs (l.take j)) (m:Int) (hs.drop 0) 0 ((hs.length:Int)-wr),()))]:=by
       rw [hj] at h10
       rw [pA,P1,if_pos h10,hj]
      refine⟨rfl,rfl,fN,l9 (pA hs wr (e7 hs l) m).length,aj (m+1),?_⟩
      exact⟨rfl,hs.length-(m+1),by omega,m+1,by omega,rfl,rfl,by rw [hvd];rfl⟩
     ·have hvd:pA hs wr (e7 hs l) (m+1)=pA hs wr (e7 hs l) m:=by
       rw [hj] at h10
       rw [pA,P1,if_neg h10,List.append_nil]
      refine⟨aj (m+1),?_⟩
      exact⟨rfl,hs.length-(m+1),by omega,m+1,by omega,rfl,rfl,by rw [hvd];rfl⟩
    ·rw [show ac hs nd wr sz st ph l=pA hs wr (e7 hs l) m by rw [ac,if_pos (nw h0),show m=hs.length by omega],nw h0]
     exact ao
noncomputable def Vn:List (Nat×bI):=(53,aS [.v F7,.v (.sl oo)] Xn)::Py
theorem aBS:Known Tryd.prog (En Vn tys G6 fE):=Yl.addT kSe Tryd.func53 Tryd.call53 [.o (.cons (.int .i64) (.cons (.int .i64) .nil)),.k] fun ds p v bs h hp=>by
 unfold Xn at h
 split at h<;>simp only [Option.some.injEq,Prod.mk.injEq,reduceCtorEq] at h
 obtain⟨rfl,rfl,rfl⟩:=h
 exact Up _ _ _ _ _ _ _ hp.1 hp.2.1 hp.2.2
theorem w9 (x:Int):∀(l:List Int) (k:Nat),x∈l→∃i:Nat,i<l.length∧aZ x l k=(k:Int)+i∧l.getD i 0=x
 |[],_,h=>by cases h
 | a::l,k,h=>by
  unfold aZ
  by_cases e:x=a
  ·exact⟨0,by simp,by rw [if_pos e];simp,by simp [e]⟩
  ·rw [if_neg e]
   obtain⟨i,h1,h2,h3⟩:=w9 x l (k+1) ((List.mem_cons.1 h).resolve_left e)
   refine⟨i+1,by simp;omega,?_,by simpa using h3⟩
   rw [show((k:Int)+1)=((k+1:Nat):Int) by omega,h2];omega
theorem iq {hs:List Int} {p:Int} (h:p∈hs):0≤aZ p hs 0∧(aZ p hs 0).toNat<hs.length∧hs.getD (aZ p hs 0).toNat 0=p:=by
 obtain⟨i,h1,h2,h3⟩:=w9 p hs 0 h
 have h2:aZ p hs 0=(0:Int)+i:=h2
 have e:(aZ p hs 0).toNat=i:=by omega
 exact⟨by omega,by omega,by rw [e];exact h3⟩
theorem qU {hs:List Int} (hh:dk (-1) hs=true) {i j:Nat} (hi:i<hs.length) (hj:j<hs.length) (e:hs.getD i 0=hs.getD j 0):i=j:=by
 have key:∀a b:Nat,a<b→b<hs.length→hs.getD a 0<hs.getD b 0:=fun a b hab hb=>by
  refine(jW hs (-1) b hh hb).2 _ ?_
  rw [gD (show a<hs.length by omega)]
  exact List.mem_take_iff_getElem.2 ⟨a,by omega,rfl⟩
 rcases Nat.lt_trichotomy i j with h|h|h
 ·have:=key i j h hj;omega
 ·exact h
 ·have:=key j i h hi;omega
theorem iJ (n m:Int) (x:List Int):∀es:Ps,aW (cJ es n x) m=if n=m then some x else aW es m
 |[]=>by simp [cJ,aW]
 | (a,y)::es=>by
  have ih:=iJ n m x es
  unfold cJ
  by_cases e:a=n
  ·rw [if_pos e]
   subst e
   simp only [aW]
   split<;>rfl
  ·rw [if_neg e]
   simp only [aW]
   rw [ih]
   by_cases e2:a=m
   ·rw [if_pos e2,if_pos e2,if_neg (by omega)]
   ·rw [if_neg e2,if_neg e2]
section
open Classical in
section
variable {hs ag:List Int} {set more:Int} {k i:Nat}
open Classical in
end
end
theorem Pj {a n:Nat}:a&&&2^n=2^n↔a.testBit n=true:=by
 constructor
 ·intro h
  have h1:=congrArg (fun x=>x.testBit n) h
  simp only [Nat.testBit_and,Nat.testBit_two_pow_self,Bool.and_true] at h1
  exact h1
 ·intro h
  apply Nat.eq_of_testBit_eq
  intro i
  rw [Nat.testBit_and,Nat.testBit_two_pow]
  by_cases e:n=i
  ·subst e;rw [h];rfl
  ·rw [decide_eq_false e,Bool.and_false]
theorem Uv {a s t:Nat}:a&&&(s|||t)=s|||t↔a&&&s=s∧a&&&t=t:=by
 constructor
 ·intro h
  have key:∀i,(a.testBit i&&(s.testBit i||t.testBit i))=(s.testBit i||t.testBit i):=fun i=>by
   have:=congrArg (fun x=>x.testBit i) h
   simpa only [Nat.testBit_and,Nat.testBit_or] using this
  refine⟨Nat.eq_of_testBit_eq fun i=> ?_,Nat.eq_of_testBit_eq fun i=> ?_⟩<;>rw [Nat.testBit_and]<;>have:=key i<;>revert this<;>cases a.testBit i<;>cases s.testBit i<;>cases t.testBit i<;>simp
 ·rintro⟨h1,h2⟩
  rw [Nat.and_or_distrib_left,h1,h2]
theorem mG (n:Nat):((2:Int)^n).toNat=2^n:=by
 rw [show(2:Int)^n=((2^n:Nat):Int) by rw [Int.natCast_pow];rfl,Int.toNat_natCast]
theorem u6 {x:Int} (h:0≤x) (n:Nat):(x/2^n)%2=1↔x.toNat.testBit n=true:=by
 obtain⟨m,rfl⟩:=Int.eq_ofNat_of_zero_le h
 rw [Int.toNat_natCast,Nat.testBit_eq_decide_div_mod_eq,decide_eq_true_eq,show(2:Int)^n=((2^n:Nat):Int) by rw [Int.natCast_pow];rfl]
 omega
theorem mh {x:Int} (h:0≤x) (n:Nat):((x/2^n).toNat&&&1)=(x.toNat.testBit n).toNat:=by
 obtain⟨m,rfl⟩:=Int.eq_ofNat_of_zero_le h
 have e:((m:Int)/2^n).toNat=m/2^n:=by
  rw [show(2:Int)^n=((2^n:Nat):Int) by rw [Int.natCast_pow];rfl]
  rw [show(m:Int)/((2^n:Nat):Int)=((m/2^n:Nat):Int) from rfl,Int.toNat_natCast]
 rw [e,Int.toNat_natCast,Nat.and_one_is_mod,Nat.testBit_eq_decide_div_mod_eq]
 have:=Nat.mod_two_eq_zero_or_one (m/2^n)
 rcases this with h|h<;>rw [h]<;>rfl
def xy (es:Ps):Prop:=∀e∈es,aW es e.1=some e.2
theorem D4 {es:Ps} {e:Int×List Int} (h:e∈es):aW es e.1≠none:=by
 induction es with
 |nil=>cases h
 | cons a es ih=>
  obtain⟨m,y⟩:=a
  unfold aW
  split
  ·simp
  ·rename_i hne
   rcases List.mem_cons.1 h with rfl|h
   ·exact absurd rfl hne
   ·exact ih h
theorem Bs (hs:List Int):∀(l:List RP) (es:Ps),xy es→xy (l.foldl (ee hs) es)
 |[],_,h=>h
 | p::l,es,h=>by
  refine Bs hs l _ fun e he=> ?_
  unfold ee at he ⊢
  split at he
  ·rename_i hc
   rw [if_pos hc,iJ]
   rcases we he with he|rfl
   ·rw [if_neg fun hn=>D4 he (by rw [←hn];exact hc.1)]
    exact h e he
   ·rw [if_pos rfl]
  ·rename_i hc
   rw [if_neg hc]
   exact h e he
theorem Ih {a s h:Int}:(((a.toNat&&&(kx s h).toNat:Nat):Int)=kx s h)↔a.toNat.testBit h.toNat=true∧a.toNat&&&s.toNat=s.toNat:=by
 have e:kx s h=((s.toNat|||2^h.toNat:Nat):Int):=by unfold kx;rw [Int.one_mul,mG]
 rw [e,Int.toNat_natCast,←Pj,and_comm,←Uv]
 exact Int.ofNat_inj
theorem N4 {α:Type} (p:α→Bool) {q:α→Prop} (l:List α) (h:∀i,p i=true↔q i):0≤vL p l 0↔∃i∈l,q i:=by
 constructor
 ·intro g
  refine Classical.byContradiction fun hn=> ?_
  have:=(js (p:=p) (l:=l) (k:=0)).2 fun a ha=>by
   cases hp:p a with
   |false=>rfl
   |true=>exact absurd ⟨a,ha,(h a).1 hp⟩ hn
  omega
 ·rintro⟨i,hi,hq⟩
  refine Classical.byContradiction fun hn=> ?_
  have:=(js (p:=p) (l:=l) (k:=0)).1 (by omega) i hi
  rw [(h i).2 hq] at this;cases this
noncomputable def Ru:List V→Option (Prop×V×List Blk)
 |[.str s,.rp false (.int .i64) z 0]=>some (True,.b ((s.length:Int)≠z), [])
 |_=>none
theorem aBt (s:List UInt8) (z:Int):ap (En Vn tys G6 fE) Tryd.f84 [.k] Ru [.str s,.rp false (.int .i64) z 0]:=by
 intro _
 exact ao
noncomputable def U5:List (Nat×bI):=(84,aS [.v .str,.ref (.int .i64)] Ru)::Vn
theorem aA9:Known Tryd.prog (En U5 tys G6 fE):=aBS.addQ Tryd.func84 Tryd.call84 [.k] fun ds _ _ _ h=>by unfold Ru at h;split at h;exact aBt _ _;cases h
theorem Zl (s:List (List UInt8)) (z:Int) (hp0:s.length≤1048576):bL (En U5 tys G6 fE) Tryd.f104 [.k] [.sl false .str s,.fn 84 [.rp false (.int .i64) z 0]] (.int .i64 (vL (fun x:List UInt8=>decide ((x.length:Int)≠z)) s 0)) []:=by
 refine⟨0, [(0,.k),(1,.k),(7,.k),(8,.k)],fun nM vs H=>∃(j:Nat),j≤s.length∧vL (fun x:List UInt8=>decide ((x.length:Int)≠z)) (s.drop j) j=vL (fun x:List UInt8=>decide ((x.length:Int)≠z)) s 0∧nM=s.length-j∧vs= [.sl false .str s,.fn 84 [.rp false (.int .i64) z 0],.i (s.length:Int),.i j]∧H= [],⟨rfl,s.length,0,by omega,rfl,by omega,rfl,rfl⟩,?_⟩
 rintro nM vs H ⟨j,hc1_0,hc1_1,rfl,rfl,rfl⟩
 refine yn ((j:Int)<(s.length:Int)) (fun h0=> ?_) fun h0=> ?_
 ·have hj:j<s.length:=by omega
  rw [bf [] s j hj,vL] at hc1_1
  refine⟨ix j s.length,trivial,yn (((s.getD j []).length:Int)≠z) (fun h1=> ?_) fun h1=> ?_⟩
  ·rw [if_pos (decide_eq_true h1)] at hc1_1
   rw [←hc1_1]
   exact ao
  ·rw [if_neg (by simpa using h1)] at hc1_1
   refine⟨aj (j+1),?_⟩
   exact⟨rfl,s.length-(j+1),by omega,j+1,by omega,hc1_1,rfl,rfl,rfl⟩
 ·rw [List.drop_eq_nil_of_le (by omega),vL] at hc1_1
  rw [←hc1_1]
  exact ao
noncomputable def Xh:List V→Option (Prop×V×List Blk)
 |[.sl false .str s,.fn 84 [.rp false (.int .i64) z 0]]=>some (s.length≤1048576,.int .i64 (vL (fun x:List UInt8=>decide ((x.length:Int)≠z)) s 0), [])
 |_=>none
noncomputable def Vi:List (Nat×bI):=(104,aS [.v (.sl .str),.fn [(84, [.ref (.int .i64)])]] Xh)::U5
theorem aBM:Known Tryd.prog (En Vi tys G6 fE):=aA9.add Tryd.func104 Tryd.call104 [.k] fun ds p v bs h hp=>by
 unfold Xh at h
 split at h<;>simp only [Option.some.injEq,Prod.mk.injEq,reduceCtorEq] at h
 ·obtain⟨rfl,rfl,rfl⟩:=h
  exact Zl _ _ hp
theorem Zv (s:List (List UInt8)) (z:Int) (hp0:s.length≤1048576):bL (En Vi tys G6 fE) Tryd.f83 [.k] [.sl false .str s,.fn 84 [.rp false (.int .i64) z 0]] (.b (∃x∈s,(x.length:Int)≠z)) []:=by
 refine⟨om (s.length≤1048576),?_⟩
 exact⟨rfl,rfl,congrArg V.b (propext (N4 (fun x:List UInt8=>decide ((x.length:Int)≠z)) s fun x=>decide_eq_true_iff)),rfl⟩
noncomputable def Xq:List V→Option (Prop×V×List Blk)
 |[.sl false .str s,.fn 84 [.rp false (.int .i64) z 0]]=>some (s.length≤1048576,.b (∃x∈s,(x.length:Int)≠z), [])
 |_=>none
noncomputable def Vu:List (Nat×bI):=(83,aS [.v (.sl .str),.fn [(84, [.ref (.int .i64)])]] Xq)::Vi
theorem aBZ:Known Tryd.prog (En Vu tys G6 fE):=aBM.add Tryd.func83 Tryd.call83 [.k] fun ds p v bs h hp=>by
 unfold Xq at h
 split at h<;>simp only [Option.some.injEq,Prod.mk.injEq,reduceCtorEq] at h
 ·obtain⟨rfl,rfl,rfl⟩:=h
  exact Zv _ _ hp
noncomputable def Rt:List V→Option (Prop×V×List Blk)
 |[.sl false .str l,.int .i64 n,.int .i64 z]=>some (l.length≤1048576,.b ((l.length:Int)=n∧¬∃x∈l,(x.length:Int)≠z), [])
 |_=>none
theorem aBs (l:List (List UInt8)) (n z:Int):ap (En Vu tys G6 fE) Tryd.f48 [.k] Rt [.sl false .str l,.int .i64 n,.int .i64 z]:=by
 intro hp0
 refine yn ((l.length:Int)=n) (fun h0=> ?_) fun h0=> ?_
 ·refine⟨rfl,om (l.length≤1048576),?_⟩
  first|exact⟨rfl,rfl,congrArg V.b (propext ⟨fun h=>⟨h0,h⟩,fun h=>h.2⟩),rfl⟩|exact⟨rfl,rfl,congrArg V.b (propext ⟨fun h=>Bool.noConfusion h,fun h=>absurd h.1 h0⟩),rfl⟩
 ·first|exact⟨rfl,rfl,congrArg V.b (propext ⟨fun h=>⟨h0,h⟩,fun h=>h.2⟩),rfl⟩|exact⟨rfl,rfl,congrArg V.b (propext ⟨fun h=>Bool.noConfusion h,fun h=>absurd h.1 h0⟩),rfl⟩
noncomputable def U4:List (Nat×bI):=(48,aS [.v (.sl .str),.v (.int .i64),.v (.int .i64)] Rt)::Vu
theorem aA8:Known Tryd.prog (En U4 tys G6 fE):=aBZ.addQ Tryd.func48 Tryd.call48 [.k] fun ds _ _ _ h=>by unfold Rt at h;split at h;exact aBs _ _ _;cases h
def bA (x:Int):Nat→List Int→List (Int×Int)
 |_, []=> []
 |k,h::l=>if h=x then bA x (k+1) l else((k:Int),h)::bA x (k+1) l
theorem mH (x:Int):∀(l:List Int) (k:Nat),(bA x k l).length≤l.length
 |[],k=>by simp [bA]
 |h::l,k=>by
  rw [bA]
  have:=mH x l (k+1)
  split<;>simp<;>omega
theorem fQ {x:Int} {p:Int×Int}:∀(l:List Int) (k:Nat),p∈bA x k l→∃i:Nat,i<l.length∧p.1=((k+i:Nat):Int)∧p.2=l.getD i 0∧p.2≠x
 |[],k,h=>by simp [bA] at h
 | a::l,k,h=>by
  rw [bA] at h
  split at h
  ·obtain⟨i,h1,h2,h3,h4⟩:=fQ l (k+1) h
   exact⟨i+1,by simpa using h1,by rw [h2,show k+1+i=k+(i+1) by omega],by rw [h3];rfl,h4⟩
  ·rename_i hne
   rcases List.mem_cons.1 h with rfl|h
   ·exact⟨0,by simp,rfl,rfl,hne⟩
   ·obtain⟨i,h1,h2,h3,h4⟩:=fQ l (k+1) h
    exact⟨i+1,by simpa using h1,by rw [h2,show k+1+i=k+(i+1) by omega],by rw [h3];rfl,h4⟩
abbrev Ml:=Int×(Int×(Int×(Int×(List (List UInt8)×Unit))))
def lc (hs:List Int) (me:Int) (r:List (List UInt8)) (d:Int) (k:Nat):List Ml:=((bA me 0 hs).take k).map fun p=>(2,(me,(p.2,(d,([cr r p.2],())))))
theorem Ep {hs:List Int} {me:Int} {r:List (List UInt8)} {d:Int} {k:Nat} (h:k<(bA me 0 hs).length):lc hs me r d (k+1)=lc hs me r d k++ [(2,(me,(((bA me 0 hs).getD k (0,0)).2,(d,([cr r ((bA me 0 hs).getD k (0,0)).2],())))))]:=by
 unfold lc
 rw [ca (0,0) _ _ k h]
theorem J6 {A:List Ml} {hs:List Int} {me:Int} {r:List (List UInt8)} {d:Int} {k:Nat} (h:k<(bA me 0 hs).length):A++lc hs me r d (k+1)=A++lc hs me r d k++ [(2,(me,(((bA me 0 hs).getD k (0,0)).2,(d,([cr r ((bA me 0 hs).getD k (0,0)).2],())))))]:=by
 rw [Ep h,List.append_assoc]
theorem xZ (hs:List Int) (me:Int) (r:List (List UInt8)) (d:Int) (k:Nat):(lc hs me r d k).length≤hs.length:=by
 unfold lc
 rw [List.length_map,List.length_take]
 have:=mH me hs 0
 omega
def dx (hs:List Int) (me:Int) (rows:List (List (List UInt8))):Nat→List Ml
 |0=> []
 |k+1=>dx hs me rows k++(if(rows.getD k []).length=0 then [] else lc hs me (rows.getD k []) (hs.getD k 0) (bA me 0 hs).length)
theorem mc (hs:List Int) (me:Int) (rows:List (List (List UInt8))):∀k,(dx hs me rows k).length≤k*hs.length
 |0=>by simp [dx]
 | k+1=>by
  rw [dx,List.length_append,Nat.succ_mul]
  have:=mc hs me rows k
  split
  ·simp;omega
  ·have:=xZ hs me (rows.getD k []) (hs.getD k 0) (bA me 0 hs).length
   omega
def oi (vals:List (List (List UInt8))) (r:List (List UInt8)) (l:List (Int×Int)) (a:Int):Int:=
 l.foldl (fun a p=>if 0<(vals.getD p.1.toNat []).length∧(vals.getD p.1.toNat []).getD 0 []=cr r p.2 then kx a p.2 else a) a
theorem K0 (vals:List (List (List UInt8))) (r:List (List UInt8)) {l:List (Int×Int)} (a:Int) {k:Nat} (h:k<l.length):oi vals r (l.take (k+1)) a=
  (if 0<(vals.getD (l.getD k (0,0)).1.toNat []).length∧(vals.getD (l.getD k (0,0)).1.toNat []).getD 0 []=cr r (l.getD k (0,0)).2 then kx (oi vals r (l.take k) a) (l.getD k (0,0)).2 else oi vals r (l.take k) a):=by
 unfold oi
 rw [oI (0,0) l k h,List.foldl_append]
 rfl
theorem vH (vals:List (List (List UInt8))) (r:List (List UInt8)):∀(l:List (Int×Int)) (a:Int),0≤a→a<4096→(∀p∈l,0≤p.2∧p.2<12)→0≤oi vals r l a∧oi vals r l a<4096
 |[],a,h0,h1,_=>⟨h0,h1⟩
 | p::l,a,h0,h1,hl=>by
  have hp:=hl p (by simp)
  rw [oi,List.foldl_cons]
  split
  ·have:=uB h0 h1 hp.1 hp.2
   exact vH vals r l _ this.1 this.2 fun q hq=>hl q (by simp [hq])
  ·exact vH vals r l _ h0 h1 fun q hq=>hl q (by simp [hq])
def dI (hs:List Int) (me:Int) (rows:List (List (List UInt8))) (vals:List (List (List (List UInt8)))) (k:Nat):Int:=
 if(rows.getD k []).length=0 then 0 else oi (vals.getD k []) (rows.getD k []) (bA me 0 hs) (1*2^me.toNat)
def iS {α:Type} (d:α) (f:Nat→α) (n k:Nat):List α:=(List.range n).map fun i=>if i<k then f i else d
theorem mW {α:Type} (d:α) (f:Nat→α) (n k:Nat):(iS d f n k).length=n:=by rw [iS,List.length_map,List.length_range]
theorem uY {α:Type} {d:α} {f:Nat→α} {n k:Nat} (h:k<n):(iS d f n k).set k (f k)=iS d f n (k+1):=by
 apply List.ext_getElem
 ·rw [List.length_set,mW,mW]
 ·intro i h1 h2
  simp only [iS,List.getElem_set,List.getElem_map,List.getElem_range]
  by_cases e:k=i
  ·subst e;rw [if_pos rfl,if_pos (by omega)]
  ·rw [if_neg e]
   by_cases g:i<k
   ·rw [if_pos g,if_pos (by omega)]
   ·rw [if_neg g,if_neg (by omega)]
theorem rJ {α:Type} (d:α) (f:Nat→α) (n:Nat):iS d f n 0=List.replicate n d:=by
 rw [iS,show(fun i=>if i<0 then f i else d)=fun _=>d from rfl,List.map_const',List.length_range]
theorem uZ {α:Type} (d:α) (f:Nat→α) (n:Nat):iS d f n n=(List.range n).map f:=by
 unfold iS
 exact List.map_congr_left fun i hi=>if_pos (List.mem_range.1 hi)
theorem Jj {α:Type} {d:α} {f:Nat→α} {n k:Nat} (h:f k=d):iS d f n (k+1)=iS d f n k:=by
 unfold iS
 refine List.map_congr_left fun i _=> ?_
 by_cases g:i<k
 ·rw [if_pos g,if_pos (by omega)]
 ·rw [if_neg g]
  by_cases e:i=k
  ·subst e;rw [if_pos (by omega),h]
  ·rw [if_neg (by omega)]
def fA (hs:List Int) (me:Int) (rows:List (List (List UInt8))) (vals:List (List (List (List UInt8)))):List Int:=(List.range hs.length).map (dI hs me rows vals)
def cw (hs:List Int) (st me f t d tick:Int):Prop:=t≠me∨f=me∨aZ f hs 0<0∨aZ d hs 0<0∨tick<st
instance (hs:List Int) (st me f t d tick:Int):Decidable (cw hs st me f t d tick):=by unfold cw;infer_instance
def Co (l:List (List UInt8)) (n z:Int):Prop:=(l.length:Int)=n∧¬∃x∈l,(x.length:Int)≠z
instance (l:List (List UInt8)) (n z:Int):Decidable (Co l n z):=by unfold Co;infer_instance
def M7 (hs:List Int) (nd sz st ph me:Int) (rows:List (List (List UInt8))) (mk f t d:Int) (ss:List (List UInt8)) (tick:Int):Prop:=
 ¬cw hs st me f t d tick∧mk=1∧f=d∧(rows.getD (aZ d hs 0).toNat []).length=0∧Co ss (nd-1) sz∧tick<st+ph
instance (hs:List Int) (nd sz st ph me:Int) (rows:List (List (List UInt8))) (mk f t d:Int) (ss:List (List UInt8)) (tick:Int):Decidable (M7 hs nd sz st ph me rows mk f t d ss tick):=by unfold M7;infer_instance
def dH (hs:List Int) (nd sz st ph me:Int) (rows:List (List (List UInt8))) (mk f t d:Int) (ss:List (List UInt8)) (tick:Int):List (List (List UInt8)):=
 if M7 hs nd sz st ph me rows mk f t d ss tick then rows.set (aZ d hs 0).toNat ss else rows
def M6 (hs:List Int) (sz st ph me:Int) (vals:List (List (List (List UInt8)))) (mk f t d:Int) (ss:List (List UInt8)) (tick:Int):Prop:=
 ¬cw hs st me f t d tick∧mk=2∧((vals.getD (aZ d hs 0).toNat []).getD (aZ f hs 0).toNat []).length=0∧Co ss 1 sz∧tick<st+2*ph
instance (hs:List Int) (sz st ph me:Int) (vals:List (List (List (List UInt8)))) (mk f t d:Int) (ss:List (List UInt8)) (tick:Int):Decidable (M6 hs sz st ph me vals mk f t d ss tick):=by unfold M6;infer_instance
def dR (hs:List Int) (sz st ph me:Int) (vals:List (List (List (List UInt8)))) (mk f t d:Int) (ss:List (List UInt8)) (tick:Int):List (List (List (List UInt8))):=
 if M6 hs sz st ph me vals mk f t d ss tick then vals.set (aZ d hs 0).toNat ((vals.getD (aZ d hs 0).toNat []).set (aZ f hs 0).toNat ss) else vals
theorem uP {hs:List Int} {x:Int} (h:¬aZ x hs 0<0):(aZ x hs 0).toNat<hs.length:=by
 have hm:=(du x hs 0 (by omega)).1 (by omega)
 exact(iq hm).2.1
def c6 (hs:List Int) (nd wr sz st ph me:Int) (sh nz:List UInt8):Int:=
 if ly hs nd wr sz st ph=0 then(if aZ me hs 0<0 then 8 else if kp nd sz nz=0∧(sh.length:Int)=sz then 0 else 1) else ly hs nd wr sz st ph
def xf (hs:List Int) (nd wr sz st ph me:Int) (sh nz:List UInt8):Int:=if c6 hs nd wr sz st ph me sh nz=0 then me else 0
def sB (hs:List Int) (nd wr sz st ph me:Int) (sh nz:List UInt8):List UInt8:=if c6 hs nd wr sz st ph me sh nz=0 then sh else []
def ov (hs:List Int) (nd wr sz st ph me:Int) (sh nz:List UInt8):List (List (List UInt8)):=
 if c6 hs nd wr sz st ph me sh nz=0 then(List.replicate hs.length []).set (aZ me hs 0).toNat (rowL (jL nd sz nz) (fH nd sz nz) me) else []
def ou (hs:List Int) (nd wr sz st ph me:Int) (sh nz:List UInt8):List (List (List (List UInt8))):=
 if c6 hs nd wr sz st ph me sh nz=0 then List.replicate hs.length (List.replicate hs.length []) else []
def rZ (hs:List Int) (nd sz me:Int) (nz:List UInt8) (k:Nat):List Ml:=((bA me 0 hs).take k).map fun p=>(1,(me,(p.2,(me,(rowL (jL nd sz nz) (fH nd sz nz) p.2,())))))
theorem Eu {hs:List Int} {nd sz me:Int} {nz:List UInt8} {k:Nat} (h:k<(bA me 0 hs).length):rZ hs nd sz me nz (k+1)=rZ hs nd sz me nz k++ [(1,(me,(((bA me 0 hs).getD k (0,0)).2,(me,(rowL (jL nd sz nz) (fH nd sz nz) ((bA me 0 hs).getD k (0,0)).2,())))))]:=by
 unfold rZ
 rw [ca (0,0) _ _ k h]
theorem kD (hs:List Int) (nd sz me:Int) (nz:List UInt8) (k:Nat):(rZ hs nd sz me nz k).length≤hs.length:=by
 unfold rZ
 rw [List.length_map,List.length_take]
 have:=mH me hs 0
 omega
def ku (hs:List Int) (nd wr sz st ph me:Int) (sh nz:List UInt8):List Ml:=
 if c6 hs nd wr sz st ph me sh nz=0 then rZ hs nd sz me nz (bA me 0 hs).length else []
theorem Ek {α:Type} (d x:α) (n:Nat):iS d (fun _=>x) n n=List.replicate n x:=by rw [uZ,List.map_const',List.length_range]
theorem mi {hs:List Int} {nd wr sz st ph me:Int} {sh nz:List UInt8} (h:c6 hs nd wr sz st ph me sh nz≠0):
  xf hs nd wr sz st ph me sh nz=0∧sB hs nd wr sz st ph me sh nz= []∧ov hs nd wr sz st ph me sh nz= []∧ou hs nd wr sz st ph me sh nz= []∧ku hs nd wr sz st ph me sh nz= []:=
 ⟨if_neg h,if_neg h,if_neg h,if_neg h,if_neg h⟩
theorem lh {hs:List Int} {nd wr sz st ph me:Int} {sh nz:List UInt8} (h:c6 hs nd wr sz st ph me sh nz=0):
  xf hs nd wr sz st ph me sh nz=me∧sB hs nd wr sz st ph me sh nz=sh∧ov hs nd wr sz st ph me sh nz=(List.replicate hs.length []).set (aZ me hs 0).toNat (rowL (jL nd sz nz) (fH nd sz nz) me)∧ou hs nd wr sz st ph me sh nz=List.replicate hs.length (List.replicate hs.length [])∧ku hs nd wr sz st ph me sh nz=rZ hs nd sz me nz (bA me 0 hs).length:=
 ⟨if_pos h,if_pos h,if_pos h,if_pos h,if_pos h⟩
theorem Ip (nd sz:Int) {nz:List UInt8} (h:nz.length≤1048576):(fH nd sz nz).length≤1048576∧∀l∈fH nd sz nz,l.length≤1048576∧∀x∈l,x.length≤1048576:=by
 unfold fH
 split
 ·rename_i h0
  have hn:¬(nd<2∨12<nd∨sz<0∨4096<sz):=fun g=>by unfold kp at h0;rw [if_pos g] at h0;cases h0
  unfold iw
  refine⟨by rw [List.length_map,List.length_range];omega,fun l hl=> ?_⟩
  obtain⟨a,_,rfl⟩:=List.mem_map.1 hl
  refine⟨by rw [List.length_map,List.length_range];omega,fun x hx=> ?_⟩
  obtain⟨b,_,rfl⟩:=List.mem_map.1 hx
  rw [List.length_take,uh];omega
 ·exact⟨Nat.zero_le _,fun l hl=>by cases hl⟩
noncomputable def Xe:List V→Option (Prop×Nat×(Nat→List V))
 |[.rp false (.cons (.sl (.int .i64)) (.cons (.int .i64) (.cons (.int .i64) (.cons (.int .i64) (.cons (.int .i64) (.cons (.int .i64) .nil)))))) t 0,.rp false (.int .i64) x 0]=>some (t.1.length≤2000000,((bA x 0 t.1).length,fun n=> [.int .i64 (((bA x 0 t.1).getD n (0,0)).1),.int .i64 (((bA x 0 t.1).getD n (0,0)).2)]))
 |_=>none
theorem aB5 (t:(List Int×(Int×(Int×(Int×(Int×(Int×Unit))))))) (x:Int) (hp0:t.1.length≤2000000):s9 (En U4 tys G6 fE).inR Tryd.f85 [.rp false F7 t 0,.rp false (.int .i64) x 0] [.v (.int .i64),.v (.int .i64)] ((bA x 0 t.1).length,fun n=> [.int .i64 (((bA x 0 t.1).getD n (0,0)).1),.int .i64 (((bA x 0 t.1).getD n (0,0)).2)]):=by
 refine⟨rfl,0, [(0,.k),(2,.k),(7,.k),(8,.k),(9,.k)],fun nM vs H=>∃(k q:Nat),k≤(bA x 0 t.1).length∧(bA x 0 t.1).drop k=bA x q (t.1.drop q)∧nM=t.1.length-q∧vs= [.yld (some k),.rp false (.int .i64) x 0,.sl false (.int .i64) t.1,.int .i64 (t.1.length:Int),.int .i64 (q:Int)]∧H= [],⟨rfl,t.1.length,0,0,by omega,rfl,by omega,rfl,rfl⟩,?_⟩
 rintro nM vs H ⟨k,q,hc1_0,hc1_1,rfl,rfl,rfl⟩
 refine yn ((q:Int)<(t.1.length:Int)) (fun h0=> ?_) fun h0=> ?_
 ·have hq:q<t.1.length:=by omega
  rw [bf 0 t.1 q hq,bA] at hc1_1
  refine⟨ix q (t.1.length:Int),yn ((t.1.getD q 0)≠x) (fun h1=> ?_) fun h1=> ?_⟩
  ·rw [if_neg h1] at hc1_1
   obtain⟨y1,y2,y3⟩:=ng (d:=(0,0)) hc1_1
   refine⟨rfl,rfl,⟨y1,by show [V.int .i64 (q:Int),V.int .i64 (t.1.getD q 0)]= [V.int .i64 ((bA x 0 t.1).getD k (0,0)).1,V.int .i64 ((bA x 0 t.1).getD k (0,0)).2];rw [y2]⟩,?_,?_⟩
   ·refine⟨aj (q+1),?_⟩
    exact⟨rfl,t.1.length-(q+1),by omega,k+1,q+1,by omega,y3,rfl,rfl,rfl⟩
   ·trivial
  ·rw [if_pos (nw h1)] at hc1_1
   have y3:=hc1_1
   refine⟨aj (q+1),?_⟩
   exact⟨rfl,t.1.length-(q+1),by omega,k,q+1,by omega,y3,rfl,rfl,rfl⟩
 ·rw [show t.1.drop q= [] from List.drop_eq_nil_of_le (by omega),show bA x q []= [] from rfl] at hc1_1
  have hz:=mZ hc1_0 hc1_1
  show(k:Nat)=(bA x 0 t.1).length
  omega
noncomputable def gI:List (Nat×gU):=(85, [.ref F7,.ref (.int .i64)],Xe)::fE
noncomputable def Ve:List (Nat×bI):=U4
theorem aBI:Known Tryd.prog (En Ve tys G6 gI):=aA8.addSeq Tryd.func85 Tryd.call85 [.v (.int .i64),.v (.int .i64)] fun ds p L h hp=>by
 unfold Xe at h
 split at h<;>simp only [Option.some.injEq,Prod.mk.injEq,reduceCtorEq] at h
 obtain⟨rfl,rfl⟩:=h
 exact aB5 _ _ hp
noncomputable def R9:List V→Option (Prop×V×List Blk)
 |[.agg [.sl false (.int .i64) hs,.int .i64 nd,.int .i64 wr,.int .i64 sz,.int .i64 st,.int .i64 ph],.int .i64 x]=>some (True,.fn 85 [.ptr 0 1 0 0,.ptr 1 1 0 0], [.cells [.sl false (.int .i64) (hs),.int .i64 (nd),.int .i64 (wr),.int .i64 (sz),.int .i64 (st),.int .i64 (ph)],.cells [.int .i64 (x)]])
 |_=>none
theorem aB4 (hs:List Int) (nd wr sz st ph x:Int):tA (En Ve tys G6 gI) Tryd.f51 [.c []] R9 [La hs nd wr sz st ph,.int .i64 x]:=by
 intro _
 exact ao
noncomputable def Vd:List (Nat×bI):=(51,uO [.v F7,.v (.int .i64)] R9)::Ve
theorem aBH:Known Tryd.prog (En Vd tys G6 gI):=aBI.addR Tryd.func51 Tryd.call51 [.c []] fun ds _ _ _ h=>by unfold R9 at h;split at h;exact aB4 _ _ _ _ _ _ _;cases h
noncomputable def Sl:List V→Option (Prop×V×List Blk)
 |[.sl false .str s]=>some (s.length≤1048576,.own .str 0, [.row true .str (s)])
 |_=>none
theorem aCQ (s:List (List UInt8)):ap (En Vd tys G6 gI) Tryd.f49 [.o .str] Sl [.sl false .str s]:=by
 intro hp0
 refine fun p0 hq0=> ?_
 refine yn (p0) (fun h1=> ?_) fun h1=> ?_
 ·have e:=hq0 h1
  subst e
  exact ao
 ·refine⟨fN,l0 s.length,?_⟩
  exact ao
noncomputable def Vt:List (Nat×bI):=(49,aS [.v (.sl .str)] Sl)::Vd
theorem aBY:Known Tryd.prog (En Vt tys G6 gI):=aBH.addQ Tryd.func49 Tryd.call49 [.o .str] fun ds _ _ _ h=>by unfold Sl at h;split at h;exact aCQ _;cases h
noncomputable def Sk:List V→Option (Prop×V×List Blk)
 |[.agg [.sl false (.int .i64) hs,.int .i64 nd,.int .i64 wr,.int .i64 sz,.int .i64 st,.int .i64 ph],.agg [.int .i64 me,.str sh,.sl false (.sl .str) rows,.sl false (.sl (.sl .str)) vals]]=>some (hs.length≤1000∧rows.length=hs.length∧(∀x∈rows,x.length≤1048576),.own (.cons (.int .i64) (.cons (.int .i64) (.cons (.int .i64) (.cons (.int .i64) (.cons (.sl .str) .nil))))) 0, [.row true (.cons (.int .i64) (.cons (.int .i64) (.cons (.int .i64) (.cons (.int .i64) (.cons (.sl .str) .nil))))) (dx hs me rows hs.length)])
 |_=>none
theorem aCP (hs:List Int) (nd wr sz st ph me:Int) (sh:List UInt8) (rows:List (List (List UInt8))) (vals:List (List (List (List UInt8)))):ap (En Vt tys G6 gI [1000002,8000060,8000061]) Tryd.f22 [.o pC] Sk [La hs nd wr sz st ph,V8 me sh rows vals]:=by
 rintro⟨hp0,hp1,(hp2:(∀x∈rows,x.length≤1048576))⟩
 refine⟨4, [(2,.k),(3,.k),(5,.c [(0,pC)]),(13,.k),(14,.k),(15,.k)],fun nM vs H=>∃(k:Nat),k≤hs.length∧nM=hs.length-k∧vs= [.p 0,.p 1,.p 2,.sl false (.int .i64) hs,.i (hs.length:Int),.i k]∧H= [Mm hs nd wr sz st ph,Yy me sh rows vals,.cells [.own pC 3],.r pC (dx hs me rows k)],⟨rfl,hs.length,0,by omega,by omega,rfl,rfl⟩,?_⟩
 rintro nM vs H ⟨k,hc1_0,rfl,rfl,rfl⟩
 refine yn ((k:Int)<(hs.length:Int)) (fun h0=> ?_) fun h0=> ?_
 ·have hkl:k<hs.length:=by omega
  have hkm:=hp2 _ (bc [] rows k (by omega))
  have hcl:=mc hs me rows k
  have hcl2:k*hs.length≤1000000:=Nat.le_trans (Nat.mul_le_mul (show k≤1000 by omega) hp0) (by omega)
  refine⟨ix k hs.length,jP,jP,ix k rows.length,yn ((((rows.getD k []).length:Nat):Int)=0) (fun h1=> ?_) fun h1=> ?_⟩
  ·have hst:dx hs me rows (k+1)=dx hs me rows k:=by rw [dx,if_pos (by omega),List.append_nil]
   refine⟨aj (k+1),?_⟩
   exact⟨rfl,hs.length-(k+1),by omega,k+1,by omega,rfl,rfl,by rw [hst];rfl⟩
  ·have hst:dx hs me rows (k+1)=dx hs me rows k++lc hs me (rows.getD k []) (hs.getD k 0) (bA me 0 hs).length:=by rw [dx,if_neg (by omega)]
   refine⟨rfl,rfl,rfl,rfl,rfl,rfl,trivial,rfl,rfl,rfl,rfl,rfl,rfl,rfl,⟨om (hs.length≤2000000),fun _ _=>rfl⟩,6, [(2,.k),(3,.k),(5,.c [(0,pC)]),(6,.k),(7,.k),(13,.k),(14,.k),(15,.k)],fun n vs H=>n≤(bA me 0 hs).length∧vs= [.ptr 0 1 0 0,.ptr 1 1 0 0,.ptr 2 1 0 0,.ptr 4 1 0 0,.ptr 5 1 0 0,.sl false (.int .i64) hs,.int .i64 (hs.length:Int),.int .i64 (k:Int)]∧H= [.cells [.sl false (.int .i64) hs,.int .i64 nd,.int .i64 wr,.int .i64 sz,.int .i64 st,.int .i64 ph],.cells [.int .i64 me,.str sh,.sl false (.sl .str) rows,.sl false (.sl (.sl .str)) vals],.cells [.own pC 3],.row true pC (dx hs me rows k++lc hs me (rows.getD k []) (hs.getD k 0) n),.cells [.int .i64 (k:Int)],.cells [.int .i64 (hs.getD k 0)]],⟨rfl,by omega,rfl,by rw [show lc hs me (rows.getD k []) (hs.getD k 0) 0= [] from rfl,List.append_nil];rfl⟩,?_,?_⟩
   ·rintro n vs H ⟨hc2_0,rfl,rfl⟩ hn2
    replace hn2:n<(bA me 0 hs).length:=hn2
    have hl1:=xZ hs me (rows.getD k []) (hs.getD k 0) n
    have hl2:(dx hs me rows k++lc hs me (rows.getD k []) (hs.getD k 0) n).length≤1001000:=by rw [List.length_append];omega
    refine⟨ix k rows.length,rfl,os ((rows.getD k []).length≤1048576),rfl,rfl,rfl,rfl,fN,l9 (dx hs me rows k++lc hs me (rows.getD k []) (hs.getD k 0) n).length,jP,?_⟩
    exact⟨rfl,rfl,by omega,rfl,by rw [J6 hn2];rfl⟩
   ·rintro vs H ⟨hc2_0,rfl,rfl⟩
    refine⟨aj (k+1),?_⟩
    exact⟨rfl,hs.length-(k+1),by omega,k+1,by omega,rfl,rfl,by rw [hst];rfl⟩
 ·rw [show dx hs me rows hs.length=dx hs me rows k by rw [show k=hs.length by omega]]
  exact ao
noncomputable def Vs:List (Nat×bI):=(22,aS [.v F7,.v sK] Sk)::Vt
theorem aBX:Known Tryd.prog (En Vs tys G6 gI):=Known.frz0<|(aBY.frz [1000002,8000060,8000061]).addQ Tryd.func22 Tryd.call22 [.o pC] fun ds _ _ _ h=>by unfold Sk at h;split at h;exact aCP _ _ _ _ _ _ _ _ _ _;cases h
noncomputable def R1:List V→Option (Prop×V×List Blk)
 |[.agg [.sl false (.int .i64) hs,.int .i64 nd,.int .i64 wr,.int .i64 sz,.int .i64 st,.int .i64 ph],.agg [.int .i64 me,.str sh,.sl false (.sl .str) rows,.sl false (.sl (.sl .str)) vals]]=>some (hs.length≤1000∧rows.length=hs.length∧vals.length=hs.length∧(∀x∈vals,x.length=hs.length)∧(∀x∈rows,x.length≤1048576)∧(∀x∈hs,0≤x∧x<12)∧0≤me∧me<12,.agg [.int .i64 (me),.sl true (.int .i64) (fA hs me rows vals)], [])
 |_=>none
theorem aB1 (hs:List Int) (nd wr sz st ph me:Int) (sh:List UInt8) (rows:List (List (List UInt8))) (vals:List (List (List (List UInt8)))):ap (En Vs tys G6 gI) Tryd.f23 [.k,.d (.int .i64)] R1 [La hs nd wr sz st ph,V8 me sh rows vals]:=by
 rintro⟨hp0,hp1,hp2,(hp3:(∀x∈vals,x.length=hs.length)),(hp4:(∀x∈rows,x.length≤1048576)),(hp5:(∀x∈hs,0≤x∧x<12)),hp6,hp7⟩
 obtain⟨pm0,pm1⟩:=wK hp6 hp7
 refine⟨by kernel_rfl,⟨rfl,om ((0:Int)≤(hs.length:Int)),om ((hs.length:Int)≤(1000000000:Int))⟩,cm,5, [(2,.k),(3,.k),(4,.k),(5,.k),(21,.k),(22,.k)],fun nM vs H=>∃(k:Nat),k≤hs.length∧nM=hs.length-k∧vs= [.ptr 0 1 0 0,.ptr 1 1 0 0,.ptr 2 1 0 0,.ptr 3 1 0 0,.int .i64 (hs.length:Int),.int .i64 (k:Int)]∧H= [.cells [.sl false (.int .i64) hs,.int .i64 nd,.int .i64 wr,.int .i64 sz,.int .i64 st,.int .i64 ph],.cells [.int .i64 me,.str sh,.sl false (.sl .str) rows,.sl false (.sl (.sl .str)) vals],.cells [.int .i64 0,.nils],.cells [.int .i64 me,.own (.int .i64) 4],.row true (.int .i64) (iS 0 (dI hs me rows vals) hs.length k)],⟨rfl,hs.length,0,by omega,by omega,rfl,by rw [rJ];rfl⟩,?_⟩
 rintro nM vs H ⟨k,hc1_0,rfl,rfl,rfl⟩
 refine yn ((k:Int)<(hs.length:Int)) (fun h0=> ?_) fun h0=> ?_
 ·have hkl:k<hs.length:=by omega
  have hkm:=hp4 _ (bc [] rows k (by omega))
  have hkv:=hp3 _ (bc [] vals k (by omega))
  have hfl:=mW 0 (dI hs me rows vals) hs.length k
  refine⟨jP,ix k rows.length,yn ((((rows.getD k []).length:Nat):Int)=0) (fun h1=> ?_) fun h1=> ?_⟩
  ·have hst:iS 0 (dI hs me rows vals) hs.length (k+1)=iS 0 (dI hs me rows vals) hs.length k:=Jj (by unfold dI;rw [if_pos (by omega)])
   refine⟨aj (k+1),?_⟩
   exact⟨rfl,hs.length-(k+1),by omega,k+1,by omega,rfl,rfl,by rw [hst];rfl⟩
  ·have hst:iS 0 (dI hs me rows vals) hs.length (k+1)=(iS 0 (dI hs me rows vals) hs.length k).set k (oi (vals.getD k []) (rows.getD k []) ((bA me 0 hs).take (bA me 0 hs).length) (1*2^me.toNat)):=by rw [←uY hkl,dI,if_neg (by omega),List.take_length]
   refine⟨by kernel_rfl,⟨om ((0:Int)≤me),om (me≤(64:Int))⟩,aj ((1:Int)*2^me.toNat),ix k (iS 0 (dI hs me rows vals) hs.length k).length,rfl,fN,rfl,rfl,rfl,rfl,rfl,rfl,trivial,rfl,rfl,rfl,rfl,rfl,rfl,rfl,⟨om (hs.length≤2000000),fun _ _=>rfl⟩,6, [(2,.k),(3,.k),(4,.k),(5,.k),(6,.k),(21,.k),(22,.k)],fun n vs H=>n≤(bA me 0 hs).length∧vs= [.ptr 0 1 0 0,.ptr 1 1 0 0,.ptr 2 1 0 0,.ptr 3 1 0 0,.ptr 5 1 0 0,.int .i64 (hs.length:Int),.int .i64 (k:Int)]∧H= [.cells [.sl false (.int .i64) hs,.int .i64 nd,.int .i64 wr,.int .i64 sz,.int .i64 st,.int .i64 ph],.cells [.int .i64 me,.str sh,.sl false (.sl .str) rows,.sl false (.sl (.sl .str)) vals],.cells [.int .i64 0,.nils],.cells [.int .i64 me,.own (.int .i64) 4],.row true (.int .i64) ((iS 0 (dI hs me rows vals) hs.length k).set k (oi (vals.getD k []) (rows.getD k []) ((bA me 0 hs).take n) (1*2^me.toNat))),.cells [.int .i64 (k:Int)]],⟨rfl,by omega,rfl,rfl⟩,?_,?_⟩
   ·rintro n vs H ⟨hc2_0,rfl,rfl⟩ hn2
    replace hn2:n<(bA me 0 hs).length:=hn2
    obtain⟨i,hi,e1,e2,e3⟩:=fQ hs 0 (bc (0,0) (bA me 0 hs) n hn2)
    obtain⟨g0,g1⟩:=hp5 _ (bc 0 hs i hi)
    rw [←e2] at g0 g1
    obtain⟨q0,q1⟩:=wK g0 g1
    obtain⟨a0,a1⟩:=vH (vals.getD k []) (rows.getD k []) ((bA me 0 hs).take n) (1*2^me.toNat) (by omega) (by omega) (fun p hp=>by obtain⟨i,hi,_,e2,_⟩:=fQ hs 0 (List.mem_of_mem_take hp);rw [e2];exact hp5 _ (bc 0 hs i hi))
    have hgs:((iS 0 (dI hs me rows vals) hs.length k).set k (oi (vals.getD k []) (rows.getD k []) ((bA me 0 hs).take n) (1*2^me.toNat))).getD k 0=oi (vals.getD k []) (rows.getD k []) ((bA me 0 hs).take n) (1*2^me.toNat):=by rw [gD (by rw [List.length_set];omega)];exact List.getElem_set_self ..
    have hsl:((iS 0 (dI hs me rows vals) hs.length k).set k (oi (vals.getD k []) (rows.getD k []) ((bA me 0 hs).take n) (1*2^me.toNat))).length=hs.length:=by rw [List.length_set];exact hfl
    have hsn:=K0 (vals.getD k []) (rows.getD k []) (1*2^me.toNat) hn2
    refine⟨ix k rows.length,rfl,os ((rows.getD k []).length≤1048576),ix k vals.length,ix ((bA me 0 hs).getD n (0,0)).1 (vals.getD k []).length,yn (0<((((vals.getD k []).getD ((((bA me 0 hs).getD n (0,0)).1).toNat) []).length:Nat):Int)) (fun h2=> ?_) fun h2=> ?_⟩
    ·refine⟨ix 0 ((vals.getD k []).getD ((((bA me 0 hs).getD n (0,0)).1).toNat) []).length,yn ((((vals.getD k []).getD ((((bA me 0 hs).getD n (0,0)).1).toNat) []).getD 0 [])=(cr (rows.getD k []) (((bA me 0 hs).getD n (0,0)).2))) (fun h3=> ?_) fun h3=> ?_⟩
     ·have hnx:(iS 0 (dI hs me rows vals) hs.length k).set k (oi (vals.getD k []) (rows.getD k []) ((bA me 0 hs).take (n+1)) (1*2^me.toNat))=((iS 0 (dI hs me rows vals) hs.length k).set k (oi (vals.getD k []) (rows.getD k []) ((bA me 0 hs).take n) (1*2^me.toNat))).set k (kx (((iS 0 (dI hs me rows vals) hs.length k).set k (oi (vals.getD k []) (rows.getD k []) ((bA me 0 hs).take n) (1*2^me.toNat))).getD k 0) ((bA me 0 hs).getD n (0,0)).2):=by rw [hgs,List.set_set,hsn,if_pos ⟨by omega,h3⟩]
      refine⟨by kernel_rfl,ix k ((iS 0 (dI hs me rows vals) hs.length k).set k (oi (vals.getD k []) (rows.getD k []) ((bA me 0 hs).take n) (1*2^me.toNat))).length,⟨om ((0:Int)≤((bA me 0 hs).getD n (0,0)).2),om (((bA me 0 hs).getD n (0,0)).2≤(64:Int))⟩,aj ((1:Int)*2^((((bA me 0 hs).getD n (0,0)).2).toNat)),.inl ⟨⟨om ((0:Int)≤(((iS 0 (dI hs me rows vals) hs.length k).set k (oi (vals.getD k []) (rows.getD k []) ((bA me 0 hs).take n) (1*2^me.toNat))).getD k 0)),om ((0:Int)≤((1:Int)*2^((((bA me 0 hs).getD n (0,0)).2).toNat)))⟩,?_⟩⟩
      refine⟨ix k ((iS 0 (dI hs me rows vals) hs.length k).set k (oi (vals.getD k []) (rows.getD k []) ((bA me 0 hs).take n) (1*2^me.toNat))).length,rfl,fN,?_⟩
      exact⟨rfl,rfl,by omega,rfl,by rw [hnx];rfl⟩
     ·have hnx:(iS 0 (dI hs me rows vals) hs.length k).set k (oi (vals.getD k []) (rows.getD k []) ((bA me 0 hs).take (n+1)) (1*2^me.toNat))=(iS 0 (dI hs me rows vals) hs.length k).set k (oi (vals.getD k []) (rows.getD k []) ((bA me 0 hs).take n) (1*2^me.toNat)):=by rw [hsn,if_neg (fun g=>h3 g.2)]
      exact⟨rfl,rfl,by omega,rfl,by rw [hnx];rfl⟩
    ·have hnx:(iS 0 (dI hs me rows vals) hs.length k).set k (oi (vals.getD k []) (rows.getD k []) ((bA me 0 hs).take (n+1)) (1*2^me.toNat))=(iS 0 (dI hs me rows vals) hs.length k).set k (oi (vals.getD k []) (rows.getD k []) ((bA me 0 hs).take n) (1*2^me.toNat)):=by rw [hsn,if_neg (fun g=>h2 (by omega))]
     exact⟨rfl,rfl,by omega,rfl,by rw [hnx];rfl⟩
   ·rintro vs H ⟨hc2_0,rfl,rfl⟩
    refine⟨aj (k+1),?_⟩
    exact⟨rfl,hs.length-(k+1),by omega,k+1,by omega,rfl,rfl,by rw [hst];rfl⟩
 ·refine⟨cm,?_⟩
  rw [show fA hs me rows vals=iS 0 (dI hs me rows vals) hs.length k by rw [fA,show k=hs.length by omega,uZ]]
  exact ao
noncomputable def Va:List (Nat×bI):=(23,aS [.v F7,.v sK] R1)::Vs
theorem aBF:Known Tryd.prog (En Va tys G6 gI):=aBX.addQ Tryd.func23 Tryd.call23 [.k,.d (.int .i64)] fun ds _ _ _ h=>by unfold R1 at h;split at h;exact aB1 _ _ _ _ _ _ _ _ _ _;cases h
end Go.Proofs.YtogipicegdbhdaaDoor.S72d

/- Texts of this claim. -/
import Derived.Test.YtogipicegdbhdaaDoorVc3
import Derived.Laws.CopyRow
import Derived.Laws.BytesArg
import Derived.Lib.MinMax
import Derived.Lib.Strings
set_option linter.unusedVariables false
set_option linter.unusedSimpArgs false
namespace Go.Proofs.YtogipicegdbhdaaDoor.Vc
open Go Go.RowKit
section
section
variable {E:Env} {P:Program} {G:List (Nat×V)} {base:Nat} {w0:W0} {c:Cx} {H:List Blk} {w:World} {σ:List V} {a:Act} {K:V→List V→List Blk→Prop} {o:Oper}

theorem Ja {n:Int} (h: -9223372036854775808≤n∧n≤9223372036854775807):IntKind.i64.min≤n∧n≤IntKind.i64.max:=by
 simpa [IntKind.min,IntKind.max,IntKind.signed,IntKind.bits] using h
theorem Ak {n:Int} (h: -9223372036854775808≤n∧n≤9223372036854775807):VRel c H w (.int .i64 n) (.int .i64 n):= .int _ _ (Ja h).1 (Ja h).2
theorem pR {n:Nat} (h:n≤maxLen):VRel c H w (.int .i64 (n:Int)) (.int .i64 (n:Int)):=Ak (by unfold maxLen at h;omega)

theorem Pn {v:V} {x:Value} {k:V→Prop} (h:alen H v k) (hv:∀s,v≠ .str s) (hx:VRel c H w v x):∃n:Nat,k (.int .i64 (n:Int))∧n≤maxLen∧(∃a cap,x= .slice a n cap):=by
 unfold alen at h
 split at h
 ·cases hx;exact⟨0,h,by simp,⟨_,_,rfl⟩⟩
 ·rename_i fr t xs
  cases hx with|sl _ _ _ _ hd=>
  obtain⟨a,cap,h1,h2,h3,_⟩:=hd
  simp only [List.cons.injEq,and_true] at h1
  exact⟨_,h,by omega,⟨a,cap,h1⟩⟩
 ·exact(hv _ rfl).elim
 ·rename_i t id
  cases hx with|own _ _ n a cap hs hn hc ho=>
  split at h
  ·rename_i f t' xs hb
   simp only [aE,hb,Option.some.injEq,Prod.mk.injEq] at hs
   exact⟨_,h,by omega,⟨a,cap,by rw [hs.1]⟩⟩
  ·rename_i cs hb
   simp only [aE,hb,Option.some.injEq,Prod.mk.injEq] at hs
   exact⟨_,h,by omega,⟨a,cap,by rw [hs.1]⟩⟩
  ·exact h.elim
 ·cases hx with|slc _ _ _ n m a cap hs hm hn hc ho=>exact⟨_,h,by omega,⟨a,cap,rfl⟩⟩
 ·exact h.elim

theorem S4 (hE:EnvOk P E) (hst:St E.glob base w0 c H w) (hσ:VRels c H w σ a.tmps.toList) (x:Operand) (T:TypeId)
  (ho:o.op= .call {callee:= .builtin .len,args:= #[x],argTypes:= #[T]}) (h:alenT E H T (ev E σ x) fun v=>K v σ H):
  a8 E.glob base w0 a.tmps.toList K P o a w:=by
 have hx:=bK hst hσ x
 have hexec:∀v w',(Builtin.len_ #[T] o.type #[a.eval x]).run P w= .ok v w'→(execOp a.eval o).run P w= .ok (.value v) w':=fun v w' hr=>by
  unfold execOp
  simp only [ho,resolve,invoke,builtin,Sem.run_bind,Sem.run_pure,Result.andThen_ok,List.map_toArray,List.map_cons,List.map_nil,hr]
 generalize ev E σ x=vx at h hx
 generalize hax:a.eval x=ax at hx
 rw [hax] at hexec
 unfold alenT at h
 split at h
 ·rename_i t hT
  obtain⟨e,hu,_⟩:=(az hE hT).sl
  split at h
  ·exact h.elim
  ·rename_i hv
   obtain⟨n,h1,h2,⟨ax',cap,h3⟩⟩:=Pn h (fun s e=>hv s e) hx
   subst h3
   refine aK hst hσ (pR h2) h1 (hexec _ _ ?_)
   exact run_len_slice (P:=P) (w:=w) T o.type ax' n cap (by rw [hu];simp [Program.elem,hu])
 ·rename_i hT
  have hu:P.underlying T=some .string:=(az hE hT).2
  split at h
  ·rename_i s
   cases hx with|str _ hs=>
   refine aK hst hσ (pR hs) h (hexec _ _ ?_)
   have hsz:(ByteArray.mk s.toArray).size=s.length:=rfl
   simp [Builtin.len_,run_underlying hu,goInt,hsz]
  ·exact h.elim
 ·rename_i t hT
  obtain⟨kT,eT,hu,_⟩:=(az hE hT).2
  split at h
  ·rename_i t0 id
   split at h
   ·rename_i fr t' es hb
    cases hx with|mp _ _ g hs hr=>
    have hbk:=hst.blk id
    rw [hb] at hbk
    obtain⟨g',ents,clock,hr',hg,⟨hsz,hmax⟩,_⟩:=hbk
    rw [hr] at hr';cases hr'
    refine aK hst hσ (pR hmax) h (hexec _ _ ?_)
    simp [Builtin.len_,run_underlying hu,goInt,MapKept.run_getObj_map hg,hsz]
   ·exact h.elim
  ·exact h.elim
 ·exact h.elim

theorem Qk (hst:St E.glob base w0 c H w) (hσ:VRels c H w σ a.tmps.toList) (mx:Bool) (x y:Operand) (ts:Array TypeId)
  (ho:o.op= .call {callee:= .builtin (bif mx then .max else .min),args:= #[x,y],argTypes:=ts}) (h:V7 mx (ev E σ x) (ev E σ y) fun v=>K v σ H):
  a8 E.glob base w0 a.tmps.toList K P o a w:=by
 have hx:=bK hst hσ x
 have hy:=bK hst hσ y
 generalize ev E σ x=vx at h hx
 generalize ev E σ y=vy at h hy
 generalize hax:a.eval x=ax at hx
 generalize hay:a.eval y=ay at hy
 unfold V7 at h
 split at h
 ·rename_i k n k' m
  obtain⟨hk,hh⟩:=aO h
  have hk:=of_decide_eq_true hk
  subst hk
  clear h
  cases hx with|int _ _ h1 h2=>
  cases hy with|int _ _ h3 h4=>
  cases mx
  ·refine aK hst hσ (VRel.int k (min n m) (by omega) (by omega)) hh ?_
   simp [execOp,ho,resolve,invoke,builtin,Sem.run_bind,hax,hay,Lib.run_min_ints]
  ·refine aK hst hσ (VRel.int k (max n m) (by omega) (by omega)) hh ?_
   simp [execOp,ho,resolve,invoke,builtin,Sem.run_bind,hax,hay,Lib.run_max_ints]
 ·exact h.elim

theorem S6 (hE:EnvOk P E) (hst:St E.glob base w0 c H w) (hσ:VRels c H w σ a.tmps.toList) (op:BinOp) (T:TypeId) (x y:Operand) (T':TypeId) (ho:o.op= .binOp op T x y T') (h:a7 E σ H (.binOp op T x y T') K):
    a8 E.glob base w0 a.tmps.toList K P o a w:=by
  have hx:=bK hst hσ x
  have hy:=bK hst hσ y
  simp only [a7] at h
  by_cases hag:(∃cs,ev E σ x= .agg cs)∨(∃fr t y,ev E σ x= .dat fr t y)
  · have h:aeqA E T op (ev E σ x) (ev E σ y) (fun v=>K v σ H):=by
      rcases hag with⟨cs,e⟩|⟨fr,t,y,e⟩<;>rw [e] at h ⊢<;>exact h
    obtain⟨r,v,h1,h2,h3⟩:=Pp (P:=P) hE hx hy h x y
    refine aK hst hσ h2 h1 ?_
    simp only [Sem.run_bind] at h3
    simp only [execOp,ho,Sem.run_bind]
    rw [h3];rfl
  have key:abin op H (ev E σ x) (ev E σ y) (fun v=>K v σ H)∧P3 P T (ev E σ x):=by
    generalize ev E σ x=vx at h hag
    unfold abinT at h
    split at h
    · split at h
      · rename_i hT;exact⟨h,(az hE hT).2⟩
      · exact h.elim
    all_goals first
      | (split at h
         · rename_i t hT;obtain⟨e,hu,_⟩:=(az hE hT).sl;exact⟨h,e,hu⟩
         · exact h.elim)
      |exact h.elim
      |exact(hag (.inl ⟨_,rfl⟩)).elim
      |exact(hag (.inr ⟨_,_,_,rfl⟩)).elim
      |skip
    refine⟨h,?_⟩
    rename_i h1 h2 h3 h4 h5 h6 h7
    cases vx<;>first|trivial|exact(h1 _ rfl).elim|exact(h2 rfl).elim|exact(h3 _ _ _ rfl).elim|exact(h4 _ _ rfl).elim|exact(h5 _ _ rfl).elim
  obtain⟨r,v,h1,h2,h3⟩:=Pt (P:=P) hst hx hy key.1 T key.2 x y
  refine aK hst hσ h2 h1 ?_
  simp only [Sem.run_bind] at h3
  simp only [execOp,ho,Sem.run_bind]
  rw [h3];rfl

theorem S3 (hst:St E.glob base w0 c H w) (hσ:VRels c H w σ a.tmps.toList) (T:TypeId) (x:Operand) (ho:o.op= .unOp .not T x) (h:a7 E σ H (.unOp .not T x) K):
  a8 E.glob base w0 a.tmps.toList K P o a w:=by
 have hx:=jy hst hσ x
 simp only [a7] at h
 generalize lr E σ x=vx at h hx
 generalize hax:a.eval x=ax at hx
 cases hx<;>try exact h.elim
 case b p b hb=>
  refine aK hst hσ (VRel.b _ (!b) (by rw [←hb];cases b<;>simp)) h ?_
  simp [execOp,ho,hax,Op.unary]
 case bt b=>
  cases b
  ·exact aK hst hσ (VRel.bt true) h (by simp [execOp,ho,hax,Op.unary])
  ·exact aK hst hσ (VRel.bt false) h (by simp [execOp,ho,hax,Op.unary])

theorem Er {S T e:TypeId} (hs:P.underlying S=some (.slice e)) (he:P.underlying e=some (.int .u8)) (hd:P.underlying T=some .string) {a:Option Addr} {cap:Nat} {ys:List UInt8} {M:Nat→Prop}
  (h:ys≠ []→∃g o,a=some ⟨g,o,none⟩∧jJ w M .u8 g o ys):(convert S T (.slice a ys.length cap)).run P w= .ok (.string ⟨ys.toArray⟩) w:=by
 by_cases hy:ys= []
 ·subst hy
  cases a with
  |none=>exact run_convert_bytes_nil w S e hs he _ _ T hd
  |some a=>
   rw [run_convert_bytes_string w S T e _ _ _ hs he hd]
   exact run_bytesToString (P:=P) w a 0 cap [] (by have:=run_loadCells_list (P:=P) w a [] (fun j v hj=>by simp at hj);simpa using this)
 ·obtain⟨g,o,rfl,hr⟩:=h hy
  have:=run_convert_bytes_arg (P:=P) w S e hs he g o ys.length cap (ys.map fun y=>(y.toNat:Int)) (by simp) (fun i hi=>by
   obtain⟨es,h1,h2⟩:=hr i (ys[i]'hi) (List.getElem?_eq_getElem hi)
   have h1:es= [Value.int .u8 ((ys[i]'hi).toNat:Int)]:=h1
   have:=h2 0 _ (by rw [h1];rfl)
   simp only [Ty.size,Nat.mul_one,Nat.add_zero] at this
   rw [this]
   simp [List.getD,List.getElem?_eq_getElem hi]) T hd
  rw [this]
  have e2:(ys.map fun y=>(y.toNat:Int)).map (fun n=>UInt8.ofNat n.toNat)=ys:=by
   rw [List.map_map]
   conv=>rhs;rw [←List.map_id ys]
   apply List.map_congr_left
   intro y _
   simp
  unfold strOfNums
  rw [e2]

theorem Nn (hE:EnvOk P E) (hst:St E.glob base w0 c H w) (hσ:VRels c H w σ a.tmps.toList) (S T:TypeId) (x:Operand) (ho:o.op= .convert S T x) (h:a7 E σ H (.convert S T x) K):
  a8 E.glob base w0 a.tmps.toList K P o a w:=by
 have hx:=bK hst hσ x
 simp only [a7] at h
 generalize ev E σ x=vx at h hx
 generalize hax:a.eval x=ax at hx
 split at h
 ·rename_i hS
  split at h
  ·rename_i hT
   obtain⟨f,ys,ad,cap,hk,rfl,h1,h2,h3⟩:=kE hst h hx
   have heq:=hE.eq S _ hS
   obtain⟨e,hu,_⟩:=(az hE hS).sl
   rw [jC,hu] at heq
   have he:P.underlying e=some (.int .u8):=by
    dsimp only at heq
    unfold dm at heq
    split at heq<;>first|(cases heq;done)|skip
    all_goals (rename_i e1 hu';first|exact hu'|(cases e1;done))
   refine aK hst hσ (VRel.str ys (by omega)) hk ?_
   have:=Er (P:=P) (w:=w) (a:=ad) (cap:=cap) (ys:=ys) (M:=c.im f) hu he (az hE hT).2 fun hne=>by
    obtain⟨g,o,e1,_,e2⟩:=h3 hne
    exact⟨g,o,e1,e2⟩
   simp [execOp,ho,hax,this]
  ·exact h.elim
 unfold aconv at h
 have key:∀(k k':IntKind) (n:Int),P.underlying T=some (.int k)→(∃tS,lk E.ty S=some tS)→ax= .int k' n→(execOp a.eval o).run P w= .ok (.value (.int k (k.wrap n))) w:=fun k k' n hu ⟨tS,hS⟩ e=>by
  have hs:∃d,P.underlying S=some d:=by
   have h2:=(az hE hS).2
   cases tS<;>simp only at h2<;>first|exact⟨_,h2⟩|(obtain⟨e,h2,_⟩:=h2;exact⟨_,h2⟩)|(obtain⟨e,h2⟩:=h2;exact⟨_,h2⟩)|(obtain⟨e,r,v,h2⟩:=h2;exact⟨_,h2⟩)|(obtain⟨e,r,h2,_⟩:=h2;exact⟨_,h2⟩)
  obtain⟨d,hs⟩:=hs
  have:=Go.run_convert_int (P:=P) (w:=w) S T k' n (by rw [hs];rfl) (by rw [hu];simp [Program.intKind,hu])
  have hk:P.intKind T=k:=by simp [Program.intKind,hu]
  rw [hk] at this
  simp [execOp,ho,hax,e,this]
 split at h
 ·exact h.elim
 ·rename_i tS hS
  split at h
  ·rename_i x hT
   cases hx
   have hlt:=x.toNat_lt
   refine aK hst hσ (Ak (by omega)) h ?_
   rw [key .i64 .u8 _ (az hE hT).2 ⟨_,hS⟩ rfl,IntWalk.i64_in _ (by omega)]
  ·rename_i x hT
   cases hx
   have hlt:=x.toNat_lt
   refine aK hst hσ (VRel.int .u64 (x.toNat:Int) (by simp [IntKind.min,IntKind.signed]) (by simp [IntKind.max,IntKind.signed,IntKind.bits];omega)) h ?_
   rw [key .u64 .u8 _ (az hE hT).2 ⟨_,hS⟩ rfl]
   have:IntKind.u64.wrap (x.toNat:Int)=x.toNat:=by simp [IntKind.wrap,IntKind.signed,IntKind.bits];omega
   rw [this]
  ·rename_i k k' n hT
   cases hx with|int _ _ h1 h2=>
   obtain⟨g1,g2,g3⟩:=mQ h
   refine aK hst hσ (VRel.int k n g3.1 g3.2) g1 ?_
   rw [key k _ _ (az hE hT).2 ⟨_,hS⟩ rfl,g2]
  ·rename_i k' n hT
   cases hx with|int _ _ h1 h2=>
   refine aK hst hσ (VRel.u8 _) h ?_
   rw [key .u8 _ _ (az hE hT).2 ⟨_,hS⟩ rfl,IntKind.wrap_u8]
   congr 3
   rw [UInt8.toNat_ofNat'];omega
  ·rename_i x hT
   cases hx
   have hlt:=x.toNat_lt
   refine aK hst hσ (VRel.u8 _) h ?_
   rw [key .u8 .u8 _ (az hE hT).2 ⟨_,hS⟩ rfl,IntKind.wrap_u8]
   congr 3
   omega
  ·exact h.elim

theorem oa (s:List UInt8) (l h:Nat):(ByteArray.mk s.toArray).extract l h=⟨((s.drop l).take (h-l)).toArray⟩:=by
 rw [Lib.extract_eq]

theorem Rm {fr:Bool} {t:Ty} {xs:List t.D} {ad:Option Addr} {cap:Nat} (hd:aJ w (c.im fr) (.sl t) xs [.slice ad xs.length cap]) (l h:Nat) (hlh:l≤h) (hh:h≤xs.length):
  VRel c H w (.sl fr t ((xs.drop l).take (h-l))) (.slice (if cap=l then ad else ad.map (·.add (l*t.size))) (h-l) (cap-l)):=by
 obtain⟨a',cap',h1,h2,h3,h4⟩:=hd
 simp only [List.cons.injEq,Value.slice.injEq,and_true,true_and] at h1
 obtain⟨rfl,rfl⟩:=h1
 have hlen:((xs.drop l).take (h-l)).length=h-l:=by rw [List.length_take,List.length_drop];omega
 refine .sl _ _ _ _ ⟨_,cap-l,by rw [hlen],by rw [hlen];omega,by omega,fun hne=> ?_⟩
 have hpos:0<h-l:=by rw [←hlen];exact List.length_pos_iff.2 hne
 have hx:xs≠ []:=fun e=>by subst e;simp at hh;omega
 obtain⟨g,q,rfl,hM,hel⟩:=h4 hx
 have hcl:¬cap=l:=by omega
 rw [if_neg hcl]
 refine⟨g,q+l*t.size,by simp [Addr.add_lit],hM,fun i y hy=> ?_⟩
 have hi:i<h-l:=by
  have:=(List.getElem?_eq_some_iff.1 hy).1
  rw [hlen] at this;exact this
 rw [List.getElem?_take,if_pos hi,List.getElem?_drop] at hy
 obtain⟨es,e1,e2⟩:=hel _ y hy
 refine⟨es,e1,fun j v hj=> ?_⟩
 have:=e2 j v hj
 rw [Nat.add_mul] at this
 rw [show q+l*t.size+i*t.size+j=q+(l*t.size+i*t.size)+j by omega]
 exact this

theorem H7 (hE : EnvOk P E) (hst:St E.glob base w0 c H w) (hσ:VRels c H w σ a.tmps.toList) (T:TypeId) (x:Operand) (lo hi:Option Operand) (ho:o.op= .slice T x lo hi none) (h:a7 E σ H (.slice T x lo hi none) K):
    a8 E.glob base w0 a.tmps.toList K P o a w:=by
  have hx:=bK hst hσ x
  have hlo:∀l,lo=some l→VRel c H w (ev E σ l) (a.eval l):=fun l _=>bK hst hσ l
  have hhi:∀l,hi=some l→VRel c H w (ev E σ l) (a.eval l):=fun l _=>bK hst hσ l
  simp only [a7] at h
  generalize ev E σ x=vx at h hx
  generalize hax:a.eval x=ax at hx
  obtain⟨vl,hvl⟩:∃vl,lo.map (ev E σ)=vl:=⟨_,rfl⟩
  obtain⟨vh,hvh⟩:∃vh,hi.map (ev E σ)=vh:=⟨_,rfl⟩
  rw [hvl,hvh] at h
  have hl':∀k n,vl=some (.int k n)→∃l,lo=some l∧a.eval l= .int k n:=fun k n e=>by
    subst e
    cases lo with
    |none=>simp at hvl
    | some l=>
      simp only [Option.map_some,Option.some.injEq] at hvl
      have:=hlo l rfl
      rw [hvl] at this
      generalize hal:a.eval l=al at this
      cases this;exact⟨l,rfl,hal⟩
  have hh':∀k n,vh=some (.int k n)→∃l,hi=some l∧a.eval l= .int k n:=fun k n e=>by
    subst e
    cases hi with
    |none=>simp at hvh
    | some l=>
      simp only [Option.map_some,Option.some.injEq] at hvh
      have:=hhi l rfl
      rw [hvh] at this
      generalize hal:a.eval l=al at this
      cases this;exact⟨l,rfl,hal⟩
  have hln:vl=none→lo=none:=fun e=>by subst e;cases lo<;>simp at hvl ⊢
  have hhn:vh=none→hi=none:=fun e=>by subst e;cases hi<;>simp at hvh ⊢
  have runS:∀{e:TypeId} {z len cap:Nat} {ad:Option Addr} (l h:Nat),P.underlying T=some (.slice e)→(P.info? e).map (·.size)=some z→ax= .slice ad len cap→l≤h→h≤cap→
      (lo=none∧l=0∨∃ol k,lo=some ol∧a.eval ol= .int k l)→(hi=none∧h=len∨∃oh k,hi=some oh∧a.eval oh= .int k h)→
      (execOp a.eval o).run P w= .ok (.value (.slice (if cap=l then ad else ad.map (·.add (l*z))) (h-l) (cap-l))) w:=by
    intro e z len cap ad l h hu hs hax2 h1 h2 h3 h4
    cases hinf:P.info? e with
    |none=>rw [hinf] at hs;simp at hs
    | some inf=>
      rw [hinf] at hs
      simp only [Option.map_some,Option.some.injEq] at hs
      subst hax2
      rcases h3 with⟨rfl,rfl⟩|⟨ol,kl,rfl,e3⟩<;>rcases h4 with⟨rfl,rfl⟩|⟨oh,kh,rfl,e4⟩
      · simp [execOp,ho,hax,Instr.sliceAt,Instr.slice,run_underlying hu,Instr.sliceBounds,sizeOf,typeInfo,hinf,hs]
      · have b2:=run_sliceBound (P:=P) (w:=w) kh (h:Int) cap .sliceAcap (by omega) (by omega)
        simp [execOp,ho,hax,e4,Instr.sliceAt,Instr.slice,run_underlying hu,Instr.sliceBounds,b2,sizeOf,typeInfo,hinf,hs]
      · have b1:=run_sliceBound (P:=P) (w:=w) kl (l:Int) h .sliceB (by omega) (by omega)
        simp [execOp,ho,hax,e3,Instr.sliceAt,Instr.slice,run_underlying hu,Instr.sliceBounds,b1,sizeOf,typeInfo,hinf,hs]
      · have b1:=run_sliceBound (P:=P) (w:=w) kl (l:Int) h .sliceB (by omega) (by omega)
        have b2:=run_sliceBound (P:=P) (w:=w) kh (h:Int) cap .sliceAcap (by omega) (by omega)
        simp [execOp,ho,hax,e3,e4,Instr.sliceAt,Instr.slice,run_underlying hu,Instr.sliceBounds,b1,b2,sizeOf,typeInfo,hinf,hs]
  have bnd:∀(n:Nat) (k:Nat→Nat→Prop),abounds n vl vh k→∃l h:Nat,k l h∧l≤h∧h≤n∧(lo=none∧l=0∧vl=none∨∃ol kk,lo=some ol∧a.eval ol= .int kk l∧vl≠none)∧(hi=none∧h=n∧vh=none∨∃oh kk,hi=some oh∧a.eval oh= .int kk h∧vh≠none):=by
    intro n k hb
    unfold abounds at hb
    split at hb
    · exact⟨0,n,hb,by omega,by omega,.inl ⟨hln rfl,rfl,rfl⟩,.inl ⟨hhn rfl,rfl,rfl⟩⟩
    · rename_i kk h'
      obtain⟨oh,h1,h2⟩:=hh' _ _ rfl
      exact⟨0,h'.toNat,hb.2,by omega,by omega,.inl ⟨hln rfl,rfl,rfl⟩,.inr ⟨oh,kk,h1,by rw [h2];congr 1;omega,by simp⟩⟩
    · rename_i kk l'
      obtain⟨ol,h1,h2⟩:=hl' _ _ rfl
      exact⟨l'.toNat,n,hb.2,by omega,by omega,.inr ⟨ol,kk,h1,by rw [h2];congr 1;omega,by simp⟩,.inl ⟨hhn rfl,rfl,rfl⟩⟩
    · rename_i kk l' kk' h'
      obtain⟨ol,h1,h2⟩:=hl' _ _ rfl
      obtain⟨oh,h3,h4⟩:=hh' _ _ rfl
      exact⟨l'.toNat,h'.toNat,hb.2,by omega,by omega,.inr ⟨ol,kk,h1,by rw [h2];congr 1;omega,by simp⟩,.inr ⟨oh,kk',h3,by rw [h4];congr 1;omega,by simp⟩⟩
    · exact hb.elim
  have cutE:∀{α:Type} (xs:List α) (l h:Nat),(vl=none→l=0)→(vh=none→h=xs.length)→cut xs vl vh l h=(xs.drop l).take (h-l):=by
    intro α xs l h g1 g2
    unfold cut
    cases vl<;>cases vh<;>simp only
    · rw [g1 rfl,g2 rfl];simp
    · rw [g1 rfl];simp
    · rw [g2 rfl,List.take_of_length_le (by rw [List.length_drop];omega)]
  unfold aslice at h
  simp only [pV] at h
  split at h
  · rename_i te hT
    obtain⟨e,hu,hio,hpos⟩:=(az hE hT).sl
    split at h
    · rename_i fr t xs
      obtain⟨hz,h⟩:=aO h
      have hz:=aa hz
      obtain⟨l,hh,hk,h1,h2,h3,h4⟩:=bnd _ _ h
      rw [cutE xs l hh (fun e => by rcases h3 with h3|⟨_,_,_,_,h3⟩;· exact h3.2.1
                                    · exact (h3 e).elim) (fun e => by rcases h4 with h4|⟨_,_,_,_,h4⟩;· exact h4.2.1
                                                                      · exact(h4 e).elim)] at hk
      cases hx with|sl _ _ _ _ hd=>
      obtain⟨ad,cap,e1,e2,e3,e4⟩:=id hd
      simp only [List.cons.injEq,and_true] at e1
      subst e1
      refine aK hst hσ (Rm hd l hh h1 h2) hk ?_
      rw [hz]
      exact runS l hh hu hio.size rfl h1 (by omega) (by rcases h3 with h3|⟨ol,kk,q1,q2,_⟩
                                                        · exact .inl ⟨h3.1,h3.2.1⟩
                                                        · exact .inr ⟨ol, kk, q1, q2⟩) (by rcases h4 with h4|⟨ol,kk,q1,q2,_⟩
                                                                                           · exact .inl ⟨h4.1,h4.2.1⟩
                                                                                           · exact .inr ⟨ol,kk,q1,q2⟩)
    · rename_i t id
      split at h
      · rename_i f t' xs hb
        obtain⟨hz,h⟩:=aO h
        have hz:=aa hz
        obtain⟨l,hh,hk,h1,h2,h3,h4⟩:=bnd _ _ h
        cases hx with|own _ _ n ad cap hs hn hc hoo=>
        have hs0:=hs
        simp only [aE,hb,Option.some.injEq,Prod.mk.injEq] at hs
        obtain⟨rfl,_⟩:=hs
        refine aK hst hσ (VRel.slc (c:=c) (H:=H) (w:=w) t id l (hh-l) xs.length (if cap=l then ad else ad.map (·.add (l*t.size))) (cap-l) hs0 (by omega) (by omega) (by omega) ?_) hk ?_
        · by_cases hcl:cap=l
          · left;omega
          · right
            rw [if_neg hcl]
            obtain⟨g,el,cur,q1,rfl,q3,q4⟩:=hoo.resolve_left (by omega)
            refine⟨g,el,cur,q1,by simp [Addr.add_lit],q3,?_⟩
            rw [Nat.add_assoc,←Nat.add_mul]
            have:l+(cap-l)=cap:=by omega
            rw [this];simpa using q4
        · rw [hz]
          exact runS l hh hu hio.size rfl h1 (by omega) (by rcases h3 with h3|⟨ol,kk,q1,q2,_⟩
                                                            · exact .inl ⟨h3.1,h3.2.1⟩
                                                            · exact .inr ⟨ol, kk, q1, q2⟩) (by rcases h4 with h4|⟨ol,kk,q1,q2,_⟩
                                                                                               · exact .inl ⟨h4.1,h4.2.1⟩
                                                                                               · exact .inr ⟨ol,kk,q1,q2⟩)
      · exact h.elim
    · rename_i t id off n
      obtain⟨hz,h⟩:=aO h
      have hz:=aa hz
      obtain⟨l,hh,hk,h1,h2,h3,h4⟩:=bnd _ _ h
      cases hx with|slc _ _ _ _ m ad cap hs hm hn hc hoo=>
      refine aK hst hσ (VRel.slc (c:=c) (H:=H) (w:=w) t id (off+l) (hh-l) m (if cap=l then ad else ad.map (·.add (l*t.size))) (cap-l) hs (by omega) (by omega) (by omega) ?_) hk ?_
      · by_cases hcl:cap=l
        · left;omega
        · right
          rw [if_neg hcl]
          obtain⟨g,el,cur,q1,rfl,q3,q4⟩:=hoo.resolve_left (by omega)
          refine⟨g,el,cur,q1,by simp [Addr.add_lit,Nat.add_mul,Nat.add_assoc],q3,?_⟩
          rw [Nat.add_assoc,←Nat.add_mul]
          have:off+l+(cap-l)=off+cap:=by omega
          rw [this,Nat.add_mul,←Nat.add_assoc];exact q4
      · rw [hz]
        exact runS l hh hu hio.size rfl h1 (by omega) (by rcases h3 with h3|⟨ol,kk,q1,q2,_⟩
                                                          · exact .inl ⟨h3.1,h3.2.1⟩
                                                          · exact .inr ⟨ol, kk, q1, q2⟩) (by rcases h4 with h4|⟨ol,kk,q1,q2,_⟩
                                                                                             · exact .inl ⟨h4.1,h4.2.1⟩
                                                                                             · exact .inr ⟨ol,kk,q1,q2⟩)
    · exact h.elim
  · rename_i hT
    have hu:P.underlying T=some .string:=(az hE hT).2
    split at h
    · rename_i s
      obtain⟨l,hh,hk,h1,h2,h3,h4⟩:=bnd _ _ h
      rw [cutE s l hh (fun e => by rcases h3 with h3|⟨_,_,_,_,h3⟩;· exact h3.2.1
                                   · exact (h3 e).elim) (fun e => by rcases h4 with h4|⟨_,_,_,_,h4⟩;· exact h4.2.1
                                                                     · exact(h4 e).elim)] at hk
      cases hx with|str _ hs=>
      have hsz:(ByteArray.mk s.toArray).size=s.length:=rfl
      refine aK hst hσ (VRel.str (c:=c) (H:=H) (w:=w) ((s.drop l).take (hh-l)) (by rw [List.length_take,List.length_drop];omega)) hk ?_
      rw [←oa]
      rcases h3 with⟨rfl,rfl,_⟩|⟨ol,kl,rfl,e3,_⟩<;>rcases h4 with⟨rfl,rfl,_⟩|⟨oh,kh,rfl,e4,_⟩
      · simp [execOp,ho,hax,Instr.sliceAt,Instr.slice,run_underlying hu,Instr.sliceBounds,hsz]
        rw [oa];simp
      · have b2:=run_sliceBound (P:=P) (w:=w) kh (hh:Int) s.length .sliceAlen (by omega) (by omega)
        simp [execOp,ho,hax,e4,Instr.sliceAt,Instr.slice,run_underlying hu,Instr.sliceBounds,b2,hsz]
      · have b1:=run_sliceBound (P:=P) (w:=w) kl (l:Int) s.length .sliceB (by omega) (by omega)
        simp [execOp,ho,hax,e3,Instr.sliceAt,Instr.slice,run_underlying hu,Instr.sliceBounds,b1,hsz]
      · have b1:=run_sliceBound (P:=P) (w:=w) kl (l:Int) hh .sliceB (by omega) (by omega)
        have b2:=run_sliceBound (P:=P) (w:=w) kh (hh:Int) s.length .sliceAlen (by omega) (by omega)
        simp [execOp,ho,hax,e3,e4,Instr.sliceAt,Instr.slice,run_underlying hu,Instr.sliceBounds,b1,b2,hsz]
    · exact h.elim
  · exact h.elim

theorem S5 (hE:EnvOk P E) (hst:St E.glob base w0 c H w) (hσ:VRels c H w σ a.tmps.toList) (T:TypeId) (x:Operand) (ho:o.op= .box T x) (h:a7 E σ H (.box T x) K):
  a8 E.glob base w0 a.tmps.toList K P o a w:=by
 have hx:=bK hst hσ x
 simp only [a7] at h
 have h:=(aR _ _).1 h
 generalize ev E σ x=vx at h hx
 generalize hax:a.eval x=ax at hx
 have hrun:(execOp a.eval o).run P w= .ok (.value (.pointer (some ⟨w.heap.size,0,none⟩))) (w.alloc (.cells ax.cells T)):=by
  simp [execOp,ho,hax,Instr.box,newVar,newRow]
 unfold abox at h
 split at h
 ·rename_i n t hT
  obtain⟨hb,h⟩:=aO h
  simp only [Bool.and_eq_true,Nat.blt_eq] at hb
  obtain⟨hn0,ht0⟩:=hb
  unfold asArr at h
  split at h
  ·rename_i f m te ys _
   obtain⟨e0,h⟩:=cX h
   subst e0
   dsimp only at h
   obtain⟨⟨hmn,hlen⟩,h2⟩:(_=n∧_)∧_:=h
   have h3:=(aA _ _).1 h2
   subst hmn
   cases hx with|dat _ _ _ es hd=>
   have hes:=aJ.length _ _ _ hd
   obtain⟨_,ess,hfe,hl,hel⟩:=hd
   have hes:es.length=m*te.size:=hes
   have hlens:∀e∈ess,e.length=te.size:=fun e he=>by
    obtain⟨i,hi⟩:=List.mem_iff_getElem?.1 he
    have hlt:i<ess.length:=(List.getElem?_eq_some_iff.1 hi).1
    exact aJ.length _ _ _ (hel i _ e (List.getElem?_eq_getElem (by omega)) hi)
   obtain⟨hst',hext⟩:=jk (f:=te.flat||f) (t:=te) (xs:=ys) hst es.toArray T (by rw [hlen];simpa using Nat.le_of_eq hes.symm) (fun i y hy=>by
    have hi:i<ess.length:=by have:=(List.getElem?_eq_some_iff.1 hy).1;omega
    have hd':aJ w (c.im (te.flat||f)) te y ess[i]:=by
     have h0:=hel i y _ hy (List.getElem?_eq_getElem hi)
     cases hfl:te.flat with
     |true=>exact aJ.flat _ _ _ hfl h0
     |false=>exact h0
    refine⟨ess[i],hd',fun j v hj=> ?_⟩
    have key:∀(ess:List (List Value)) (j k:Nat) (hj:j<ess.length),(∀e∈ess,e.length=te.size)→ess[j][k]? =some v→ess.flatten[j*te.size+k]? =some v:=by
     intro ess
     induction ess with
     |nil=>intro j k hj;simp at hj
     | cons e ess ih=>
      intro j k hj hl hk
      have he:=hl e (by simp)
      cases j with
      |zero=>
       have hk:e[k]? =some v:=hk
       have:=(List.getElem?_eq_some_iff.1 hk).1
       rw [List.flatten_cons,List.getElem?_append_left (by omega)]
       simpa using hk
      |succ j=>
       rw [List.flatten_cons,List.getElem?_append_right (by rw [Nat.succ_mul];omega),show(j+1)*te.size+k-e.length=j*te.size+k by rw [Nat.succ_mul];omega]
       exact ih j k (by simpa using hj) (fun e h=>hl e (by simp [h])) hk
    have:=key ess i j hi hlens hj
    rw [←hfe] at this
    simpa using this)
   refine .inl ⟨_,_,hrun,_,σ,_,_,h3,?_,hσ.ext hext,hst'⟩
   have:=VRel.ptr (c:=c.push H.length w.heap.size) (H:=H++ [.row (te.flat||f) te ys]) (w:=w.alloc (.cells es.toArray T)) H.length te.size 0 0 w.heap.size m (by simp [aE,aP,hlen]) (by simp [Cx.push]) hn0 ht0
   simpa [Value.cells,bF] using this
  ·exact h.elim
 ·rename_i t _ hT
  have fin:∀(cs:List V),VRels c H w cs ax.cells.toList→b7 cs=true→cs.length=t.size→0<t.size→K (.ptr H.length 1 0 0) σ (H++ [.cells cs])→a8 E.glob base w0 a.tmps.toList K P o a w:=fun cs hr hall hlen hpos h=>by
   obtain⟨hst',hext⟩:=io (cs:=cs) hst ax.cells T hr (eA hr hall)
   refine .inl ⟨_,_,hrun,_,σ,_,_,h,?_,hσ.ext hext,hst'⟩
   have:=VRel.ptr (c:=c.push H.length w.heap.size) (H:=H++ [.cells cs]) (w:=w.alloc (.cells ax.cells T)) H.length 1 0 0 w.heap.size cs.length (by simp [aE,aP]) (by simp [Cx.push]) (by omega) (by omega)
   simpa [bF] using this
  split at h
  ·rename_i cs
   obtain⟨hb,h⟩:=aO h
   simp only [Bool.and_eq_true,Nat.blt_eq] at hb
   have h:=(aA _ _).1 h
   cases hx with|agg _ us hr=>
   exact fin cs (by simpa [Value.cells] using hr) hb.1.2 (aa hb.2) hb.1.1 h
  ·obtain⟨hb,h⟩:=aO h
   simp only [Bool.and_eq_true] at hb
   have h:=(aA _ _).1 h
   have h1:=aa hb.2
   have hc:=lR hx hb.1
   exact fin [vx] (by rw [hc.2];exact .cons _ _ _ _ hx .nil) (by simp [b7,hb.1]) (by simpa using h1.symm) (by omega) h
 ·exact h.elim

theorem xM (z:Nat):∀(ess:List (List Value)) (i:Nat) (e:List Value),(∀e∈ess,e.length=z)→ess[i]? =some e→(ess.flatten.drop (i*z)).take z=e
 |[],i,e,_,h=>by simp at h
 |e0::ess,0,e,hl,h=>by
  obtain rfl:e0=e:=by simpa using h
  have:=hl e0 (by simp)
  simp [List.take_append,this]
 |e0::ess,i+1,e,hl,h=>by
  have h0:=hl e0 (by simp)
  have:=xM z ess i e (fun e he=>hl e (by simp [he])) (by simpa using h)
  rw [List.flatten_cons,List.drop_append,List.drop_of_length_le (by rw [h0,Nat.succ_mul];omega),List.nil_append,show(i+1)*z-e0.length=i*z by rw [h0,Nat.succ_mul];omega]
  exact this

theorem H9 (hE:EnvOk P E) (hst:St E.glob base w0 c H w) (hσ:VRels c H w σ a.tmps.toList) (T:TypeId) (x ix:Operand) (ho:o.op= .index T x ix) (h:a7 E σ H (.index T x ix) K):
  a8 E.glob base w0 a.tmps.toList K P o a w:=by
 have hx:=bK hst hσ x
 have hi:=bK hst hσ ix
 simp only [a7] at h
 generalize ev E σ x=vx at h hx
 generalize ev E σ ix=vi at h hi
 generalize hax:a.eval x=ax at hx
 generalize hai:a.eval ix=ai at hi
 split at h
 ·rename_i s k j hT
  have hu:P.underlying T=some .string:=(az hE hT).2
  cases hx;cases hi
  obtain⟨⟨h0,h1⟩,hk⟩:=h
  have hlt:j.toNat<s.length:=by omega
  refine aK hst hσ (VRel.u8 _) hk ?_
  have hget:(ByteArray.mk s.toArray)[j.toNat]? =some (s.getD j.toNat 0):=by
   have h2:j.toNat<(ByteArray.mk s.toArray).size:=hlt
   have h3:(ByteArray.mk s.toArray)[j.toNat]? =some ((ByteArray.mk s.toArray)[j.toNat]'h2):=getElem?_pos (ByteArray.mk s.toArray) j.toNat h2
   rw [h3]
   simp [List.getD_eq_getElem?_getD,List.getElem?_eq_getElem hlt];rfl
  simp [execOp,ho,hax,hai,Instr.index,asIntOf,run_underlying hu,h0,hget]
 ·rename_i n te fr t' x' k j hT
  cases hb:(decide (t'= .arr n te)&&(Nat.beq te.size 1&& !bh te)) with
  | true=>
   rw [hb] at h
   simp only [cond_true] at h
   obtain⟨⟨h0,h1⟩,hk⟩:=h
   simp only [Bool.and_eq_true,decide_eq_true_eq,Bool.not_eq_true'] at hb
   obtain⟨rfl,hs,hnb⟩:=hb
   have hs:=aa hs
   have hk:=(aR _ _).1 hk
   obtain⟨e,hu,hio,hpos,hua⟩:=(az hE hT).arr
   obtain⟨i,z,hi2,hz,hzc,hsz,_⟩:=hio.open
   cases hx with|dat _ _ _ es hd=>
   cases hi
   have hl:=aJ.length _ _ _ hd
   simp only [Ty.size,hs,Nat.mul_one] at hl
   have hlt:j.toNat<es.length:=by omega
   have hrel:=cP (H:=H) _ _ _ _ _ hd (List.getElem?_eq_getElem hlt)
   refine aK hst hσ hrel hk ?_
   have hna:(isAgg e).run P w= .ok false w:=by
    rw [hnb] at hua
    cases hue:P.underlying e with
    |none=>rw [hue] at hua;cases hua
    |some u=>
     rw [hue] at hua
     cases u<;>first|(simp [isAgg,run_underlying hue];done)|(simp [Cm] at hua)
   have hget:es[j.toNat]? =some es[j.toNat]:=List.getElem?_eq_getElem hlt
   simp [execOp,ho,hax,hai,Instr.index,asIntOf,run_underlying hu,h0,h1,sizeOf,typeInfo,hi2,hsz,hs,part,hna,hget]
  | false=>
   rw [hb] at h
   simp only [cond_false] at h
   unfold aidxA at h
   split at h
   ·rename_i m tb n' t1 xs
    obtain⟨hb2,⟨h0,h1⟩,hk⟩:=aO h
    simp only [Bool.and_eq_true,decide_eq_true_eq] at hb2
    obtain⟨q1,q2⟩:=hb2
    have q1:=aa q1
    subst q1 q2
    obtain⟨e,hu,hio,hpos,hua⟩:=(az hE hT).arr
    obtain⟨i,z,hi2,hz,hzc,hsz,_⟩:=hio.open
    cases hx with|dat _ _ _ es hd=>
    cases hi
    obtain⟨e0,ess,e1,e2,e3⟩:=hd
    have hlt:j.toNat<(xs:List (Ty.arr m tb).D).length:=by omega
    have hget:(xs:List (Ty.arr m tb).D)[j.toNat]? =some ((xs:List (Ty.arr m tb).D).getD j.toNat (Ty.arr m tb).dflt):=by simp [List.getD_eq_getElem?_getD,List.getElem?_eq_getElem hlt]
    have hge:ess[j.toNat]? =some (ess[j.toNat]'(by omega)):=List.getElem?_eq_getElem (by omega)
    have hd':=e3 _ _ _ hget hge
    have hlen:∀e∈ess,e.length=(Ty.arr m tb).size:=fun e he=>by
     obtain⟨i,hi⟩:=List.mem_iff_getElem?.1 he
     have hlt:i<ess.length:=(List.getElem?_eq_some_iff.1 hi).1
     have hx:(xs:List (Ty.arr m tb).D)[i]? =some ((xs:List (Ty.arr m tb).D)[i]'(by omega)):=List.getElem?_eq_getElem (by omega)
     exact aJ.length _ _ _ (e3 i _ e hx hi)
    have hcut:=xM _ ess j.toNat _ hlen hge
    refine aK hst hσ (VRel.dat (c:=c) (H:=H) (w:=w) fr (.arr m tb) _ _ hd') hk ?_
    have hna:(isAgg e).run P w= .ok true w:=by
     cases hue:P.underlying e with
     |none=>rw [hue] at hua;cases hua
     |some u=>
      rw [hue] at hua
      cases u<;>first|(simp [isAgg,run_underlying hue];done)|(simp [Cm,bh] at hua)
    simp [execOp,ho,hax,hai,Instr.index,asIntOf,run_underlying hu,h0,h1,sizeOf,typeInfo,hi2,hsz,part,hna,e1,List.extract_eq_take_drop,hcut]
   ·exact h.elim
 ·exact h.elim

theorem yt (hst:St E.glob base w0 c H w) (hσ:VRels c H w σ a.tmps.toList) (x:Operand) (i:Nat) (ho:o.op= .extract x i) (h:a7 E σ H (.extract x i) K):
  a8 E.glob base w0 a.tmps.toList K P o a w:=by
 have hx:=bK hst hσ x
 simp only [a7] at h
 generalize ev E σ x=vx at h hx
 generalize hax:a.eval x=ax at hx
 split at h
 ·rename_i vs
  obtain⟨hb,h⟩:=aO h
  have hlt:=kC hb
  have h:=(aR _ _).1 h
  cases hx with|tup _ us hrel=>
  have hl:=hrel.length
  have hv:us[i]? =some (us[i]'(by omega)):=List.getElem?_eq_getElem (by omega)
  have hg:us.getD i undef=us[i]'(by omega):=by rw [List.getD_eq_getElem?_getD,hv];rfl
  have hr:=hrel.get i
  rw [hg] at hr
  generalize us[i]'(by omega)=u at hv hr
  refine aK hst hσ hr h ?_
  simp [execOp,ho,hax,Instr.extract,hv]
 ·exact h.elim

theorem wY (hst:St E.glob base w0 c H w) (hσ:VRels c H w σ a.tmps.toList) (f:Nat) (fst caps:Array Operand) (ho:o.op= .makeFunc (.func f) fst caps) (h:a7 E σ H (.makeFunc (.func f) fst caps) K):
  a8 E.glob base w0 a.tmps.toList K P o a w:=by
 simp only [a7] at h
 split at h
 ·rename_i hf
  have hf':fst= #[]:=by apply Array.ext';exact hf
  subst hf'
  obtain⟨vs,h1,h2⟩:=lW hst hσ _ _ h
  have hrel:=VRel.fn f vs _ h2
  refine aK hst hσ hrel h1 ?_
  have he:Array.map a.eval caps=(List.map a.eval caps.toList).toArray:=Array.ext' (by simp)
  simp [execOp,ho,Instr.makeFunc,he]
 ·exact h.elim

theorem No (hE:EnvOk P E) (hst:St E.glob base w0 c H w) (hσ:VRels c H w σ a.tmps.toList) (f:Operand) (args:Array Operand) (ts:Array TypeId) (ho:o.op= .call {callee:= .value f,args,argTypes:=ts}) (h:a7 E σ H (.call {callee:= .value f,args,argTypes:=ts}) K):
  a8 E.glob base w0 a.tmps.toList K P o a w:=by
 have hf:=bK hst hσ f
 simp only [a7] at h
 generalize ev E σ f=vf at h hf
 generalize hax:a.eval f=af at hf
 split at h
 ·rename_i k caps
  split at h
  ·rename_i con hcon
   obtain⟨vs,h1,h2⟩:=lW hst hσ _ _ h
   cases hf with|fn _ _ cvs hcap=>
   obtain⟨hent,hcalls⟩:=hE.con k con hcon
   have hrel:=VRels.append h2 hcap
   have hc:=hcalls base w0 c H w _ _ hst hrel _ h1
   refine .inr (.inr ⟨k,(args.toList.map a.eval++cvs).toArray,w,?_,hc.mono fun e w' ⟨x,v,H',c',he,hR,hx,hst',hext⟩=> ?_⟩)
   ·simp [execOp,ho,resolve,hax,Deferred.ofValue,invoke,hent]
   ·have hR:=(aA _ _).1 ((aR _ _).1 hR)
    exact⟨v,he,x,σ,H',c',hR,hx,hσ.ext hext,hst'⟩
  ·exact h.elim
 ·exact h.elim

theorem Nm (hE:EnvOk P E) (hst:St E.glob base w0 c H w) (hσ:VRels c H w σ a.tmps.toList) (x y:Operand) (T:TypeId)
  (ho:o.op= .call {callee:= .builtin .copy,args:= #[x,y],argTypes:= #[T,T]}) (h:K4 E H T (ev E σ x) (ev E σ y) fun v H=>K v σ H):
  a8 E.glob base w0 a.tmps.toList K P o a w:=by
 have hx:=bK hst hσ x
 have hy:=bK hst hσ y
 generalize ev E σ x=vx at h hx
 generalize ev E σ y=vy at h hy
 have hexec:∀v w',(Builtin.copy_ #[T,T] o.type #[a.eval x,a.eval y]).run P w= .ok v w'→(execOp a.eval o).run P w= .ok (.value v) w':=fun v w' hr=>by
  unfold execOp
  simp only [ho,resolve,invoke,builtin,Sem.run_bind,Sem.run_pure,Result.andThen_ok,List.map_toArray,List.map_cons,List.map_nil,hr]
 unfold K4 at h
 split at h<;>first|exact h.elim|skip
 rename_i t t0 id hT
 split at h<;>first|exact h.elim|skip
 rename_i fr t' xs hbk
 obtain⟨⟨e1,ht1⟩,h⟩:=h
 subst e1
 obtain⟨e,hu,hio,hpos⟩:=(az hE hT).sl
 obtain⟨i,z,hi,hz,hzc,hs,hb⟩:=hio.open
 obtain⟨f,ys,ay,capy,⟨⟨hlen,hys⟩,h⟩,hay,hcy,hcm,hrow⟩:=kE hst h hy
 have h:=(aA _ _).1 h
 generalize hax:a.eval x=ax at hx
 cases hx with|own _ _ n ax cap hsh hnc hcap ho2=>
 rw [hax,hay] at hexec
 simp only [aE,hbk,Option.some.injEq,Prod.mk.injEq] at hsh
 obtain⟨rfl,hz0⟩:=hsh
 have hyne:ys≠ []:=fun e=>by subst e;simp at hys
 obtain⟨gy,qy,rfl,hgy,hrw⟩:=hrow hyne
 obtain⟨news,n1,n2,n3,n4⟩:=jJ.news ys qy hrw
 obtain⟨g,e',cur,hr0,ha0,hg,hsz⟩:=ho2.resolve_left (by omega)
 obtain⟨q,hq⟩:∃q,q=c.β id:=⟨_,rfl⟩
 rw [←hq,Nat.add_zero] at ha0
 subst ha0
 rw [←hq,Nat.add_zero,←hz0] at hsz
 have hfit:q+news.length≤cur.size:=by
  have:=Nat.mul_le_mul_right t'.size hnc
  rw [n1,hlen];omega
 obtain⟨cur',hcur'⟩:∃cur',(cur.toList.take q++news++cur.toList.drop (q+news.length)).toArray=cur':=⟨_,rfl⟩
 have hsz':cur'.size=cur.size:=by
  rw [←hcur'];simp only [List.size_toArray,List.length_append,List.length_take,List.length_drop,Array.length_toList];omega
 have hnl:news.length=ys.length:=by rw [n1,ht1,Nat.mul_one]
 have hrun:=run_copy_row (P:=P) w T T o.type e g q xs.length cap ⟨gy,qy,none⟩ ys.length capy cur e' news hu (by rw [hi];exact congrArg some (hs.trans ht1)) hg (by rw [hnl,hlen];exact(Nat.min_self _).symm) (fun j v hj=>by rw [Addr.add_lit];exact n2 j v hj) hfit n3
 rw [hcur',hnl] at hrun
 obtain⟨hw1,hw2⟩:=cN w g cur cur' e' hg
 have hidl:=(hst.own id g hr0).2.2.2
 have hshape:aE (aH H id (.row (fr&&f) t' ys)) id=aE H id:=by simp [aE,aG,hidl,hbk,hlen]
 have hext:=hst.ext_upd id g (.row (fr&&f) t' ys) e' cur cur' hr0 hg hsz' hw1 hw2 hshape
 have hst':=hst.upd id g (.row (fr&&f) t' ys) e' cur cur' hr0 hg hsz' hw1 hw2 hshape (cR (hst.own id g hr0).1) (.inr ⟨g,e',cur',hr0,hw1,by rw [hsz',←hq,ht1,Nat.mul_one];omega,fun k u hku=>by
  obtain⟨es,e1,e2⟩:=n4 k u hku
  refine⟨es,hext.drel ?_,fun j v hj=> ?_⟩
  ·cases fr<;>cases f<;>first|exact e1|exact aJ.ext (fun g hg=>(hst.sub g hg).1) (fun _ _=>rfl) _ _ _ e1
  ·have hj2:=e2 j v hj
   have:=(List.getElem?_eq_some_iff.1 hj2).1
   have hlt:(cur.toList.take q).length=q:=by rw [List.length_take,Array.length_toList];omega
   rw [←hcur',←hq,List.getElem?_toArray,List.append_assoc,List.getElem?_append_right (by rw [hlt];omega),hlt,show q+(k*t'.size+j)-q=k*t'.size+j by omega,List.getElem?_append_left (by simpa using this)]
   exact hj2⟩)
 exact .inl ⟨_,_,hexec _ _ hrun,_,σ,_,c,h,pR (by omega),hσ.ext hext,hst'⟩

theorem vB (hG:bV E.glob) (hE:EnvOk P E) (hst:St E.glob base w0 c H w) (hσ:VRels c H w σ a.tmps.toList) (h:a7 E σ H o.op K):a8 E.glob base w0 a.tmps.toList K P o a w:=by
 generalize ho:o.op=op at h
 cases op with
 |move x=>exact Aq hst hσ x (.inl ho) h
 |assign x=>exact Aq hst hσ x (.inr ho) h
 |pick x y z=>exact Nj hst hσ x y z ho h
 |alloc T=>exact Ie hE hst hσ T ho h
 |box T x=>exact S5 hE hst hσ T x ho h
 |build T ps=>exact Ic hE hst hσ T ps ho h
 |buildSlice T n ps=>exact rr hE hst hσ T n ps ho h
 |load T p=>exact Nl hE hst hσ T p ho h
 |store T p x=>exact H6 hE hst hσ T p x ho h
 |binOp op T x y T'=>exact S6 hE hst hσ op T x y T' ho h
 |unOp op T x=>cases op<;>first|exact S3 hst hσ T x ho h|exact h.elim
 |convert S T x=>exact Nn hE hst hσ S T x ho h
 |makeFunc f fst caps=>cases f<;>first|exact wY hst hσ _ fst caps ho h|exact h.elim
 |makeSlice T l m=>exact t6 hE hst hσ T l m ho h
 |slice T x lo hi mx=>cases mx with
  |none=>exact H7 hE hst hσ T x lo hi ho h
  |some _=>exact h.elim
 |fieldAddr S x f=>exact Ia hE hst hσ S x f ho h
 |indexAddr T x ix=>exact t7 hE hst hσ T x ix ho h
 |index T x ix=>exact H9 hE hst hσ T x ix ho h
 |extract x i=>exact yt hst hσ x i ho h
 |field S x f=>exact Ds hE hst hσ S x f ho h
 |makeMap T r=>exact yr hE hst hσ T r ho h
 |range T x=>exact H8 hE hst hσ T x ho h
 |next x s=>cases s<;>first|exact Nk hE hst hσ x ho h|exact h.elim
 |entry x=>exact Ib hE hst hσ x ho h
 |mapUpdate T m k x=>exact t5 hE hst hσ T m k x ho h
 |lookup T m k ok=>exact Dq hE hst hσ T m k ok ho h
 | call cl=>
  obtain⟨cal,args,ts⟩:=cl
  cases cal with
  |value f=>exact No hE hst hσ f args ts ho h
  |invoke r m=>exact h.elim
  | builtin b=>
   cases b<;>try exact h.elim
   ·simp only [a7] at h
    split at h
    ·rename_i x y T T' hargs hts
     have e1:args= #[x,y]:=by apply Array.ext';exact hargs
     have e2:ts= #[T,T']:=by apply Array.ext';exact hts
     subst e1 e2
     cases hb:Nat.beq T T' with
     |true=>
      rw [hb] at h
      have hb:=aa hb
      subst hb
      exact yw hG hE hst hσ x y T ho h
     |false=>
      rw [hb] at h
      simp only [cond_false] at h
      obtain⟨hi,hh⟩:=aO h
      exact yu hG hE hst hσ x y T T' hi ho hh
    ·exact h.elim
   ·simp only [a7] at h
    split at h
    ·rename_i x y T T' hargs hts
     have e1:args= #[x,y]:=by apply Array.ext';exact hargs
     have e2:ts= #[T,T']:=by apply Array.ext';exact hts
     subst e1 e2
     obtain⟨hb,hh⟩:=aO h
     have hb:=aa hb
     subst hb
     exact Nm hE hst hσ x y T ho hh
    ·exact h.elim
   ·simp only [a7] at h
    split at h
    ·rename_i x T hargs hts
     have e1:args= #[x]:=by apply Array.ext';exact hargs
     have e2:ts= #[T]:=by apply Array.ext';exact hts
     subst e1 e2
     exact S4 hE hst hσ x T ho h
    ·exact h.elim
   ·simp only [a7] at h
    split at h
    ·rename_i x y hargs
     have e1:args= #[x,y]:=by apply Array.ext';exact hargs
     subst e1
     exact Qk hst hσ true x y ts ho h
    ·exact h.elim
   ·simp only [a7] at h
    split at h
    ·rename_i x y hargs
     have e1:args= #[x,y]:=by apply Array.ext';exact hargs
     subst e1
     exact Qk hst hσ false x y ts ho h
    ·exact h.elim
 |_=>exact h.elim
end
end
section
section
variable {E:Env} {P:Program} {G:List (Nat×V)} {base:Nat} {w0:W0} {c:Cx} {H:List Blk} {w:World}

def Z3 (w:World):Nat→Prop:=fun g=>g<w.heap.size
abbrev Cx.all (w:World):Cx:=Cx.of (Z3 w) ⟨[],none,0⟩

variable {U:Nat→Prop}

theorem Bj (hst:St G base w0 c H w) (hU:∀g,c.M g→U g) (fr:Bool):∀g,c.im fr g→U g:=fun g hg=>by
 cases fr
 ·exact hU g hg
 ·exact hU g (hst.sub g hg).1

theorem jH (hst:St G base w0 c H w) (hU:∀g,c.M g→U g) (hU2:∀i g,c.ρ i=some g→U g) {t:Ty} {v:V} {x:Value} {K:Bool→List t.D→Prop} (h:asRow H t v K) (hx:VRel c H w v x):∃f ys,K f ys∧aJ w (U) (.sl t) ys [x]:=by
 obtain⟨f,ys,a,cap,hk,rfl,h1,h2,h3⟩:=kE hst h hx
 refine⟨f,ys,hk,a,cap,rfl,h1,h2,fun hne=> ?_⟩
 obtain⟨g,o,ha,hg,hr⟩:=h3 hne
 refine⟨g,o,ha,hg.elim (hU g) fun⟨i,hi⟩=>hU2 i g hi,fun i y hy=> ?_⟩
 obtain⟨es,e1,e2⟩:=hr i y hy
 exact⟨es,aJ.ext (Bj hst hU f) (fun _ _=>rfl) _ _ _ e1,e2⟩

theorem og (hst:St G base w0 c H w) (hU:∀g,c.M g→U g) (hU2:∀i g,c.ρ i=some g→U g) {t:Ty} {cur:Array Value}:∀(cs:List V) (k:Nat) (K:List (List t.D)→Prop),asRows H t cs K→(∀j,j<cs.length→∃v,cur[k+j]? =some v∧VRel c H w (aL cs j) v)→
  ∃xss,K xss∧xss.length=cs.length∧∀(j:Nat) (xs:List t.D),xss[j]? =some xs→∃v,cur[k+j]? =some v∧aJ w (U) (.sl t) xs [v]
 |[],k,K,h,_=>⟨[],h,rfl,by simp⟩
 | v::cs,k,K,h,hel=>by
  obtain⟨u,hu,hv⟩:=hel 0 (by simp)
  obtain⟨f,ys,h,hd⟩:=jH hst hU hU2 h hv
  obtain⟨xss,h1,h2,h3⟩:=og hst hU hU2 cs (k+1) _ h fun j hj=>by
   obtain⟨v',e1,e2⟩:=hel (j+1) (by simpa using hj)
   exact⟨v',by rw [←e1];congr 1;omega,e2⟩
  refine⟨ys::xss,h1,by simp [h2],fun j xs hj=> ?_⟩
  cases j with
  |zero=>
   obtain rfl:ys=xs:=by simpa using hj
   exact⟨u,hu,hd⟩
  |succ j=>
   obtain⟨v',e1,e2⟩:=h3 j xs (by simpa using hj)
   exact⟨v',by rw [←e1];congr 1;omega,e2⟩

theorem ib (hst:St G base w0 c H w) (hU:∀g,c.M g→U g) (hU2:∀i g,c.ρ i=some g→U g) {t:Ty} {v:V} {x:Value} {K:t.D→Prop} (h:asD H t v K) (hx:VRel c H w v x):∃y,K y∧aJ w (U) t y [x]:=by
 unfold asD at h
 split at h
 ·split at h
  ·cases hx;exact⟨_,h,rfl⟩
  ·exact h.elim
 ·split at h
  ·obtain⟨rfl,h⟩:=h
   cases hx with|int _ _ h1 h2=>exact⟨_,h,⟨rfl,h1,h2⟩⟩
  ·exact h.elim
 ·split at h
  ·cases hx with|str _ h1=>exact⟨_,h,⟨rfl,h1⟩⟩
  ·exact h.elim
 ·split at h
  ·obtain⟨b,hb,h⟩:=h
   cases hx with|b _ b' hb'=>
   have:b'=b:=by rw [Bool.eq_iff_iff,hb',hb]
   subst this
   exact⟨_,h,rfl⟩
  ·exact h.elim
 ·rename_i t K
  split at h
  ·rename_i t0 id
   split at h
   ·rename_i cs hb
    cases hx with|own _ _ n a cap hs hn hc ho=>
    simp only [aE,hb,Option.some.injEq,Prod.mk.injEq] at hs
    obtain⟨rfl,hz⟩:=hs
    by_cases hc0:cap=0
    ·subst hc0
     have:cs= []:=List.eq_nil_of_length_eq_zero (by omega)
     subst this
     exact⟨[],h,a,0,rfl,Nat.le_refl _,by simp,fun hh=>absurd rfl hh⟩
    ·obtain⟨g,e,cur,hr,ha,hg,hsz⟩:=ho.resolve_left hc0
     obtain⟨e',cur',hg',hsz',hel⟩:=eN hst hb hr
     rw [hg] at hg';cases hg'
     obtain⟨xss,h1,h2,h3⟩:=og hst hU hU2 (cur:=cur) cs (c.β id) _ h fun j hj=>by
      obtain⟨v,e1,_,e2⟩:=hel j hj
      exact⟨v,e1,e2⟩
     refine⟨xss,h1,a,cap,by rw [h2],by rw [h2];exact hn,hc,fun _=>⟨g,c.β id+0,ha,(hU2 id g hr),fun i y hy=> ?_⟩⟩
     obtain⟨v,e1,e2⟩:=h3 i y hy
     refine⟨[v],e2,fun j u hj=> ?_⟩
     cases j with
     |zero=>
      simp at hj;subst hj
      rw [Go.cell_of_row w g _ cur e (0,0) hg]
      simpa [Ty.size] using e1
     |succ j=>simp at hj
   ·rename_i fr t' xs hb
    obtain⟨e,hk⟩:=cX h
    subst e
    obtain⟨f,ys,hk',hd⟩:=jH hst hU hU2 (K:=fun _ ys=>K ys) (t:= .sl t) (v:= .own t0 id) (by
     simp only [asRow,hb];exact iY.2 ⟨rfl,hk⟩) hx
    exact⟨ys,hk',hd⟩
   ·exact h.elim
  ·obtain⟨f,ys,hk,hd⟩:=jH hst hU hU2 h hx
   exact⟨ys,hk,hd⟩
 ·obtain⟨f,ys,hk,hd⟩:=jH hst hU hU2 h hx
  exact⟨ys,hk,hd⟩
 ·exact h.elim

theorem fY (hst:St G base w0 c H w) (hU:∀g,c.M g→U g) (hU2:∀i g,c.ρ i=some g→U g):∀(t:Ty) (l:List V) (us:List Value) (K:t.D→List V→Prop),asCells H t l K→VRels c H w l us→
  ∃x l' us1 us2,K x l'∧us=us1++us2∧aJ w (U) t x us1∧VRels c H w l' us2
 |.nil,l,us,K,h,hr=>⟨(),l, [],us,h,rfl,rfl,hr⟩
 |.cons t ts,l,us,K,h,hr=>by
  unfold asCells at h
  obtain⟨x,l1,u1,u2,h,rfl,h1,h2⟩:=fY hst hU hU2 t l us _ h hr
  obtain⟨y,l2,u3,u4,h,rfl,h3,h4⟩:=fY hst hU hU2 ts l1 u2 _ h h2
  exact⟨(x,y),l2,u1++u3,u4,h,by simp,⟨u1,u3,rfl,h1,h3⟩,h4⟩
 |.arr _ _,l,us,K,h,hr=>by simp [asCells] at h
 |.fnT,l,us,K,h,hr=>by
  cases hr with
  |nil=>simp [asCells] at h
  |cons v u l us hv hr=>simp [asCells,asD] at h
 |.mapT _,l,us,K,h,hr=>by
  cases hr with
  |nil=>simp [asCells] at h
  |cons v u l us hv hr=>simp [asCells,asD] at h
 | .u8,l,us,K,h,hr=>by
  cases hr with
  |nil=>simp [asCells] at h
  |cons v u l us hv hr=>
   obtain⟨y,h1,h2⟩:=ib hst hU hU2 (t:= .u8) h hv
   exact⟨y,l, [u],us,h1,rfl,h2,hr⟩
 | .int k,l,us,K,h,hr=>by
  cases hr with
  |nil=>simp [asCells] at h
  |cons v u l us hv hr=>
   obtain⟨y,h1,h2⟩:=ib hst hU hU2 (t:= .int k) h hv
   exact⟨y,l, [u],us,h1,rfl,h2,hr⟩
 | .bool,l,us,K,h,hr=>by
  cases hr with
  |nil=>simp [asCells] at h
  |cons v u l us hv hr=>
   obtain⟨y,h1,h2⟩:=ib hst hU hU2 (t:= .bool) h hv
   exact⟨y,l, [u],us,h1,rfl,h2,hr⟩
 | .str,l,us,K,h,hr=>by
  cases hr with
  |nil=>simp [asCells] at h
  |cons v u l us hv hr=>
   obtain⟨y,h1,h2⟩:=ib hst hU hU2 (t:= .str) h hv
   exact⟨y,l, [u],us,h1,rfl,h2,hr⟩
 | .sl t,l,us,K,h,hr=>by
  cases hr with
  |nil=>simp [asCells] at h
  |cons v u l us hv hr=>
   obtain⟨y,h1,h2⟩:=ib hst hU hU2 (t:= .sl t) h hv
   exact⟨y,l, [u],us,h1,rfl,h2,hr⟩

theorem uo {t:Ty} {y:t.D} {x:Value} (h1:t.size=1) (hna:bh t=false) (hd:aJ w (U) t y [x]) {xt:Xt}:VRel (Cx.of U xt) [] w (dV t y) x:=by
 cases t<;>first|(simp [bh] at hna;done)|skip
 case u8=>have: [x]= [_]:=hd;simp at this;subst this;exact .u8 _
 case int k=>have: [x]= [_]:=hd.1;simp at this;subst this;exact .int _ _ hd.2.1 hd.2.2
 case bool=>have: [x]= [_]:=hd;simp at this;subst this;exact .b _ _ Iff.rfl
 case str=>have: [x]= [_]:=hd.1;simp at this;subst this;exact .str _ hd.2
 case sl t=>exact .sl false t y x hd
 case fnT=>have: [x]= [_]:=hd;simp at this;subst this;exact .nilfn
 case mapT t=>exact .undef _

theorem nu (hst:St G base w0 c H w) (hU:∀g,c.M g→U g) (hU2:∀i g,c.ρ i=some g→U g) {k:PK} {v:V} {x:Value} {K:V→Prop} (h:asArg1 H k v K) (hx:VRel c H w v x):∃d,K d∧∀xt,VRel (Cx.of U xt) [] w d x:=by
 unfold asArg1 at h
 split at h
 ·exact h.elim
 ·exact h.elim
 ·rename_i t ts
  split at h
  ·rename_i cs
   cases hx with|agg _ us hr=>
   obtain⟨y,l,u1,u2,h,rfl,h1,h2⟩:=fY hst hU hU2 _ _ _ _ h hr
   split at h
   ·cases h2
    refine⟨_,h,fun xt=> ?_⟩
    have hl:=aJ.length _ _ _ h1
    have:=df (c:=Cx.of U xt) (H:= []) (fr:=false) h1 (Ty.cons t ts).size 0 (by omega)
    rw [List.drop_zero,List.take_of_length_le (by omega)] at this
    simpa [dV] using VRel.agg _ _ this
   ·exact h.elim
  ·exact h.elim
 ·split at h
  ·cases hx with|b p b hb=>exact⟨_,h,fun xt=> .b _ _ hb⟩
  ·exact h.elim
 ·rename_i n t
  split at h
  ·rename_i fr t' y
   split at h
   ·rename_i e
    subst e
    cases hx with|dat _ _ _ es hd=>
    exact⟨_,h,fun xt=> .dat false _ _ es (aJ.ext (Bj hst hU fr) (fun _ _=>rfl) _ _ _ hd)⟩
   ·exact h.elim
  ·exact h.elim
 ·rename_i t hnc hnb hna
  obtain⟨y,h1,h2⟩:=ib hst hU hU2 h hx
  refine⟨_,h1,fun xt=> ?_⟩
  cases t with
  |u8=>exact uo rfl rfl h2
  |int k=>exact uo rfl rfl h2
  |bool=>exact(hnb rfl).elim
  |str=>exact uo rfl rfl h2
  |sl t=>exact uo rfl rfl h2
  |nil=>simp [asD] at h
  |fnT=>simp [asD] at h
  |mapT t=>simp [asD] at h
  |cons t ts=>exact(hnc _ _ rfl).elim
  |arr n t=>exact(hna _ _ rfl).elim
 ·rename_i t
  split at h
  ·rename_i fr t' y o
   split at h
   ·rename_i e
    subst e
    split at h
    ·cases hx with|rp _ _ _ _ g p es hM hd hc=>
     exact⟨_,h,fun xt=> .rp false _ _ 0 g p es (Bj hst hU fr g hM) (aJ.ext (Bj hst hU fr) (fun _ _=>rfl) _ _ _ hd) hc⟩
    ·exact h.elim
   ·exact h.elim
  ·rename_i id z i o
   split at h
   ·rename_i cs hb
    cases hx with|ptr _ _ _ _ g m hs hr hi ho=>
    obtain⟨e,cur,hg,hsz,hel⟩:=eN hst hb hr
    obtain⟨es,l1,l2,l3⟩:=jG hel cs.length 0 (by omega)
    rw [List.drop_zero,List.take_length] at l2
    obtain⟨y,l,u1,u2,h,rfl,h1,h2⟩:=fY hst hU hU2 t cs es _ h l2
    split at h
    ·cases h2
     refine⟨_,h,fun xt=> ?_⟩
     have:=VRel.rp (c:=Cx.of U xt) (H:= []) (w:=w) false t y 0 g (c.β id) u1 (hU2 id g hr) h1 (fun j v hj=>by
      rw [Go.cell_of_row w g _ cur e (0,0) hg]
      have:=l3 j v (by simpa using hj)
      simpa using this)
     simpa using this
    ·exact h.elim
   ·exact h.elim
  ·exact h.elim

theorem lj (hst:St G base w0 c H w) (hU:∀g,c.M g→U g) (hU2:∀i g,c.ρ i=some g→U g):∀(ks:List PK) (vs:List V) (us:List Value) (K:List V→Prop),asArgs1 H ks vs K→VRels c H w vs us→∃ds,K ds∧∀xt,VRels (Cx.of U xt) [] w ds us
 |[],vs,us,K,h,hr=>by
  cases hr with
  |nil=>exact⟨[],h,fun _=> .nil⟩
  |cons=>simp [asArgs1] at h
 | k::ks,vs,us,K,h,hr=>by
  cases hr with
  |nil=>simp [asArgs1] at h
  |cons v u vs us hv hr=>
   obtain⟨d,h,h1⟩:=nu hst hU hU2 h hv
   obtain⟨ds,h,h2⟩:=lj hst hU hU2 ks vs us _ h hr
   exact⟨_,h,fun xt=> .cons _ _ _ _ (h1 xt) (h2 xt)⟩

theorem Kn (hst:St G base w0 c H w) (hU:∀g,c.M g→U g) (hU2:∀i g,c.ρ i=some g→U g) {k:PK} {v:V} {x:Value} {K:V→Prop} (h:asArg H k v K) (hx:VRel c H w v x):∃d,K d∧∀xt,VRel (Cx.of U xt) [] w d x:=by
 unfold asArg at h
 split at h
 ·rename_i alts
  split at h
  ·rename_i g cs
   split at h
   ·rename_i ks hks
    cases hx with|fn _ _ us hr=>
    obtain⟨ds,h,h1⟩:=lj hst hU hU2 ks cs us _ h hr
    exact⟨_,h,fun xt=> .fn g ds us (h1 xt)⟩
   ·exact h.elim
  ·exact h.elim
 ·rename_i alts
  split at h
  ·rename_i g cs
   split at h
   ·rename_i ks hks
    cases hx with|rb _ v g0 p hM hc hx=>
    cases hx with|fn _ _ us hr=>
    obtain⟨ds,h,h1⟩:=lj hst hU hU2 ks cs us _ h hr
    exact⟨_,h,fun xt=> .rb _ _ g0 p (hU _ hM) hc (.fn g ds us (h1 xt))⟩
   ·exact h.elim
  ·exact h.elim
 ·exact nu hst hU hU2 h hx
 ·exact nu hst hU hU2 h hx

theorem ic (hst:St G base w0 c H w) (hU:∀g,c.M g→U g) (hU2:∀i g,c.ρ i=some g→U g):∀(ks:List PK) (vs:List V) (us:List Value) (K:List V→Prop),asArgs H ks vs K→VRels c H w vs us→∃ds,K ds∧∀xt,VRels (Cx.of U xt) [] w ds us
 |[],vs,us,K,h,hr=>by
  cases hr with
  |nil=>exact⟨[],h,fun _=> .nil⟩
  |cons=>simp [asArgs] at h
 | k::ks,vs,us,K,h,hr=>by
  cases hr with
  |nil=>simp [asArgs] at h
  |cons v u vs us hv hr=>
   obtain⟨d,h,h1⟩:=Kn hst hU hU2 h hv
   obtain⟨ds,h,h2⟩:=ic hst hU hU2 ks vs us _ h hr
   exact⟨_,h,fun xt=> .cons _ _ _ _ (h1 xt) (h2 xt)⟩

end

mutual
theorem VRel.y {c c':Cx} {H H':List Blk} {w w':World} {q:Option Nat} (hM:∀g,c.M g→c'.M g) (hN:∀g,c.N g→c'.M g) (hw:∀g,c.M g∨c.N g→w'.heap[g]? =w.heap[g]?) (hq:q=c'.x.k) (hl:c'.x.l=c.x.l):
  ∀{x:V} {v:Value},VRel c H w x v→VRel c' H' w' (yV q x) v
 |_,_,.undef v=> .undef v
 |_,_,.int k n h1 h2=> .int k n h1 h2
 |_,_,.u8 x=> .u8 x
 |_,_,.b p x h=> .b p x h
 |_,_,.bt x=> .bt x
 |_,_,.nope=> .nope
 |_,_,.str s h=> .str s h
 |_,_,.nils=> .nils
 |_,_,.sl fr t xs v h=> .sl false t xs v (aJ.ext (M:=c.im fr) (by cases fr;exact hM;exact hN) (by cases fr;exact fun g h=>hw g (.inl h);exact fun g h=>hw g (.inr h)) _ _ _ h)
 |_,_,.own .. => .undef _
 |_,_,.slc .. => .undef _
 |_,_,.ptr .. => .undef _
 |_,_,.mp .. => .undef _
 |_,_,.rb x v g p h1 hc h=> .rb _ v g p (hM g h1) ((World.cell?_of_block (w:=w) (hw g (.inl h1))).trans hc) (VRel.y hM hN hw hq hl h)
 |_,_,.rp fr t x o g p es h1 hd hc=>
  have hm:∀g,c.im fr g→c'.M g:=by cases fr;exact hM;exact hN
  have hk:∀g,c.im fr g→w'.heap[g]? =w.heap[g]? :=by cases fr;exact fun g h=>hw g (.inl h);exact fun g h=>hw g (.inr h)
  .rp false t x o g p es (hm g h1) (aJ.ext hm hk _ _ _ hd) fun j v hj=>(World.cell?_of_block (w:=w) (hk g h1)).trans (hc j v hj)
 |_,_,.agg cs vs h=> .agg _ vs (VRels.y hM hN hw hq hl h)
 |_,_,.tup cs vs h=> .tup _ vs (VRels.y hM hN hw hq hl h)
 |_,_,.fn f cs vs h=> .fn f _ vs (VRels.y hM hN hw hq hl h)
 |_,_,.nilfn=> .nilfn
 |_,_,.yld k h=>by
  have:=VRel.yld (c:=c') (H:=H') (w:=w') q hq
  rwa [hl] at this
 |_,_,.dat fr t x es h=> .dat false t x es (aJ.ext (M:=c.im fr) (by cases fr;exact hM;exact hN) (by cases fr;exact fun g h=>hw g (.inl h);exact fun g h=>hw g (.inr h)) _ _ _ h)
theorem VRels.y {c c':Cx} {H H':List Blk} {w w':World} {q:Option Nat} (hM:∀g,c.M g→c'.M g) (hN:∀g,c.N g→c'.M g) (hw:∀g,c.M g∨c.N g→w'.heap[g]? =w.heap[g]?) (hq:q=c'.x.k) (hl:c'.x.l=c.x.l):
  ∀{xs:List V} {vs:List Value},VRels c H w xs vs→VRels c' H' w' (yL q xs) vs
 |_,_,.nil=> .nil
 |_,_,.cons x v xs vs h hs=> .cons _ v _ vs (VRel.y hM hN hw hq hl h) (VRels.y hM hN hw hq hl hs)
end

section
variable {G:List (Nat×V)} {base:Nat} {w0:W0} {c:Cx} {H:List Blk} {w:World}

def fo (G:List (Nat×V)):Prop:=∀g x,lk G g=some x→∃t y o,x= .rp false t y o

theorem N8 (hN:fo G) (hst:St G base w0 c H w) {U:Nat→Prop} (hU:∀g,c.M g→U g):∀g x,lk G g=some x→∀xt,VRel (Cx.of U xt) [] w x (.pointer (some ⟨g,0,none⟩)):=fun g x hx xt=>by
 obtain⟨t,y,o,rfl⟩:=hN g x hx
 have:=hst.glob g _ hx
 generalize hq:Value.pointer (some ⟨g,0,none⟩)=q at this ⊢
 cases this with|rp _ _ _ _ g' p es hM hd hc=>exact .rp false t y o g' p es (hU _ hM) (aJ.ext hU (fun _ _=>rfl) _ _ _ hd) hc

theorem Tx {U:Nat→Prop} {xt:Xt} {w w':World} (h:∀g,U g→w'.heap[g]? =w.heap[g]?):Ext (Cx.of U xt) [] w (Cx.of U xt) [] w' where
 M g hg:=hg
 N g hg:=hg
 mem g hg:=hg.elim (h g) fun h=>h.elim
 shp id s hs:=by cases id<;>cases hs
 siz id s g cur e hs:=by cases id<;>cases hs
 x:=rfl
 gi:=rfl
 bas _ _ _:=rfl

theorem St.calm (hN:fo G) (hst:St G base w0 c H w) {base':Nat} {v':W0} {w':World} {xt:Xt} {U:Nat→Prop} (hU:∀g,c.M g→U g) (hw:∀g,c.M g→w'.heap[g]? =w.heap[g]?)
  (hbel:Below base' v'.w w') (hxk:Xk base' v' (Cx.of U xt) w') (hsz:base'≤w'.heap.size) (him:∀g,U g→g<w'.heap.size):St G base' v' (Cx.of U xt) [] w' where
 below:=hbel
 xk:=hxk
 size:=hsz
 blk id:=by cases id<;>trivial
 inj i j g hi:=by cases hi
 own i g hi:=by cases hi
 imm:=him
 sub g hg:=hg.elim
 glob g x hx:=by
  obtain⟨t,y,o,rfl⟩:=hN g x hx
  have:=hst.glob g _ hx
  generalize hq:Value.pointer (some ⟨g,0,none⟩)=q at this ⊢
  cases this with|rp _ _ _ _ g' p es hM hd hc=>exact .rp false t y o g' p es (hU _ hM) (aJ.ext hU hw _ _ _ hd) fun j v hj=>(World.cell?_of_block (w:=w) (hw g' hM)).trans (hc j v hj)
end
end
section
section
variable {G:List (Nat×V)} {base:Nat} {w0:W0} {c:Cx} {H:List Blk} {w:World}

def Cx.frz (c:Cx) (id:Nat):Cx:=⟨fun g=>c.M g∨c.ρ id=some g,fun g=>c.N g∨c.ρ id=some g,fun i=>if i=id then none else c.ρ i,c.β,c.x,c.gi⟩

theorem I9 {fr:Bool} {id g:Nat} (h:c.im fr g):(c.frz id).im fr g:=by cases fr<;>exact .inl h

theorem iP (id:Nat) (y:V):∀(H:List Blk) (j:Nat),aD (bU id y H) j=Jg id y (aD H j)
 |[],j=>by cases j<;>rfl
 |b::H,0=>rfl
 |b::H,j+1=>iP id y H j
theorem cx (id:Nat) (y:V):∀H:List Blk,(bU id y H).length=H.length
 |[]=>rfl
 |b::H=>by simp [bU,cx id y H]
theorem bq (id:Nat) (y:V):∀l:List V,(frzL id y l).length=l.length
 |[]=>rfl
 |b::l=>by simp [frzL,bq id y l]
theorem nW (id:Nat) (y:V):∀(l:List V) (j:Nat),aL (frzL id y l) j=jt id y (aL l j)
 |[],j=>by cases j<;>rfl
 |b::l,0=>rfl
 |b::l,j+1=>nW id y l j
theorem bE {id j:Nat} {y:V} (h:j≠id):aE (aH (bU id y H) id .dead) j=aE H j:=by
 rw [bp h]
 unfold aE
 rw [iP]
 cases aD H j<;>first|(simp [Jg,bq];done)|skip
 rename_i mid n s l
 cases mid<;>rfl

theorem aJ.frz {fr:Bool} {id:Nat} {t:Ty} {x:t.D} {cs:List Value} (h:aJ w (c.im fr) t x cs):aJ w ((c.frz id).im fr) t x cs:=aJ.ext (fun _=>I9) (fun _ _=>rfl) _ _ _ h

theorem cI.frz {i id z off:Nat} {a:Option Addr} {cap:Nat} (hi:i≠id) (h:cI c w i z off a cap):cI (c.frz id) w i z off a cap:=by
 obtain⟨g,e,cur,h1,h2⟩:=h
 exact⟨g,e,cur,by simp [Cx.frz,hi,h1],h2⟩

section
variable {H':List Blk} {id:Nat} {y:V}
mutual
theorem VRel.frz (hs:∀j,j≠id→aE H' j=aE H j) (hy:∀t v,VRel c H w (.own t id) v→VRel (c.frz id) H' w (Dp y) v) (hp:∀z j o v,VRel c H w (.ptr id z j o) v→VRel (c.frz id) H' w (wL y j o) v):∀{x:V} {v:Value},VRel c H w x v→VRel (c.frz id) H' w (jt id y x) v
 |_,_,.undef v=> .undef v
 |_,_,.int k n h1 h2=> .int k n h1 h2
 |_,_,.u8 x=> .u8 x
 |_,_,.b p x h=> .b p x h
 |_,_,.bt x=> .bt x
 |_,_,.nope=> .nope
 |_,_,.str s h=> .str s h
 |_,_,.nils=> .nils
 |_,_,.sl fr t xs v h=> .sl fr t xs v h.frz
 | _,_,.own t i n a cap h1 hn hc ho=>by
  unfold jt
  cases hb:Nat.beq i id with
  |true=>
   have:=aa hb;subst this
   exact hy t _ (.own t i n a cap h1 hn hc ho)
  |false=>
   have hne:=bz hb
   exact .own t i n a cap ((hs i hne).trans h1) hn hc (ho.imp (fun h=>h) (cI.frz hne))
 | _,_,.slc t i off n m a cap h1 h2 hn hc ho=>by
  unfold jt
  cases hb:Nat.beq i id with
  |true=>exact .undef _
  |false=>
   have hne:=bz hb
   exact .slc t i off n m a cap ((hs i hne).trans h1) h2 hn hc (ho.imp (fun h=>h) (cI.frz hne))
 |_,_,.rp fr t x o g p es hM hd hc=> .rp fr t x o g p es (I9 hM) hd.frz hc
 | _,_,.ptr i z j o g m h1 hr hi ho=>by
  unfold jt
  cases hb:Nat.beq i id with
  |true=>
   have:=aa hb;subst this
   exact hp _ _ _ _ (.ptr i z j o g m h1 hr hi ho)
  |false=>
   have hne:=bz hb
   exact .ptr i z j o g m ((hs i hne).trans h1) (by simp [Cx.frz,hne,hr]) hi ho
 |_,_,.agg cs vs h=> .agg _ vs (VRels.frz hs hy hp h)
 |_,_,.tup cs vs h=> .tup _ vs (VRels.frz hs hy hp h)
 |_,_,.fn f cs vs h=> .fn f _ vs (VRels.frz hs hy hp h)
 |_,_,.nilfn=> .nilfn
 |_,_,.yld k h=> .yld (c:=c.frz id) k h
 |_,_,.dat fr t x es h=> .dat fr t x es h.frz
 |_,_,.rb x v g p hM hc h=> .rb _ v g p (.inl hM) hc (VRel.frz hs hy hp h)
 | _,_,.mp t i g h1 hr=>by
  unfold jt
  cases hb:Nat.beq i id with
  |true=>exact .undef _
  |false=>
   have hne:=bz hb
   exact .mp t i g ((hs i hne).trans h1) (by simp [Cx.frz,hne,hr])
theorem VRels.frz (hs:∀j,j≠id→aE H' j=aE H j) (hy:∀t v,VRel c H w (.own t id) v→VRel (c.frz id) H' w (Dp y) v) (hp:∀z j o v,VRel c H w (.ptr id z j o) v→VRel (c.frz id) H' w (wL y j o) v):∀{xs:List V} {vs:List Value},VRels c H w xs vs→VRels (c.frz id) H' w (frzL id y xs) vs
 |_,_,.nil=> .nil
 |_,_,.cons x v xs vs h hx=> .cons _ v _ vs (VRel.frz hs hy hp h) (VRels.frz hs hy hp hx)
end
end

theorem cQ (h:St G base w0 c H w) {id:Nat} {fr:Bool} {t:Ty} {xs:List t.D} (hb:aD H id= .row fr t xs) (t':Ty) (v:Value) (hv:VRel c H w (.own t' id) v) {H':List Blk}:VRel (c.frz id) H' w (.sl fr t xs) v:=by
 cases hv with|own _ _ n a cap hs hn hc ho=>
 simp only [aE,hb,Option.some.injEq,Prod.mk.injEq] at hs
 obtain⟨rfl,hz⟩:=hs
 refine .sl _ _ _ _ ⟨a,cap,rfl,hn,hc,fun hne=> ?_⟩
 have hcap:cap≠0:=by
  intro h0;subst h0
  exact hne (List.eq_nil_of_length_eq_zero (by omega))
 obtain⟨g,e,cur,hr,ha,hg,hsz⟩:=ho.resolve_left hcap
 have hbk:=h.blk id
 rw [hb] at hbk
 rcases hbk with⟨_,h2⟩|⟨g',e',cur',hr',hg',hsz',hel⟩
 ·exact absurd h2 hne
 ·rw [hr] at hr';cases hr'
  rw [hg] at hg';cases hg'
  refine⟨g,c.β id+0,ha,by cases fr<;>exact .inr hr,fun i y hy=> ?_⟩
  obtain⟨es,h5,h6⟩:=hel i y hy
  refine⟨es,h5.frz,fun j u hj=> ?_⟩
  rw [Go.cell_of_row w g _ cur e (0,0) hg]
  have:=h6 j u hj
  simpa [Nat.add_assoc] using this

mutual
theorem mV (id:Nat) (y:V):∀x:V,x.mentions id=false→jt id y x=x
 |.undef,_=>rfl
 |.int _ _,_=>rfl
 |.u8 _,_=>rfl
 |.b _,_=>rfl
 |.bt _,_=>rfl
 |.nope,_=>rfl
 |.str _,_=>rfl
 |.nils,_=>rfl
 |.sl _ _ _,_=>rfl
 |.own t i,h=>by
  have h:Nat.beq i id=false:=h
  simp [jt,h]
 |.slc t i o l,h=>by
  have h:Nat.beq i id=false:=h
  simp [jt,h]
 |.rp _ _ _ _,_=>rfl
 |.ptr i z j o,h=>by
  have h:Nat.beq i id=false:=h
  simp [jt,h]
 |.agg cs,h=>by simp only [jt];rw [frzL_id id y cs h]
 |.tup cs,h=>by simp only [jt];rw [frzL_id id y cs h]
 |.fn f cs,h=>by simp only [jt];rw [frzL_id id y cs h]
 |.nilfn,_=>rfl
 |.yld _,_=>rfl
 |.dat _ _ _,_=>rfl
 |.rb x,h=>by simp only [jt];rw [mV id y x h]
 |.mp t i,h=>by
  have h:Nat.beq i id=false:=h
  simp [jt,h]
theorem frzL_id (id:Nat) (y:V):∀l:List V,V.mentionsL id l=false→frzL id y l=l
 |[],_=>rfl
 |x::l,h=>by
  simp only [V.mentionsL,Bool.or_eq_false_iff] at h
  rw [frzL,mV id y x h.1,frzL_id id y l h.2]
end

theorem St.frz (hG:bV G) (h:St G base w0 c H w) {id:Nat} {fr:Bool} {t:Ty} {xs:List t.D} (hb:aD H id= .row fr t xs):St G base w0 (c.frz id) (aH (bU id (.sl fr t xs) H) id .dead) w where
 below:=h.below
 xk:=h.xk.step rfl (fun h=>h) (fun g hg=>hg.imp (fun h=>h) fun hr=> .inl ⟨id,hr⟩) (fun i g hi=>by
  simp only [Cx.frz] at hi
  split at hi
  ·cases hi
  ·exact .inl ⟨i,hi⟩) (fun g o ho=> .inl ho)
 size:=h.size
 blk j:=by
  by_cases hj:j=id
  ·subst hj
   have hl:j<(bU j (.sl fr t xs) H).length:=by
    rw [cx]
    rcases Nat.lt_or_ge j H.length with g|g
    ·exact g
    ·rw [bB H j g] at hb;cases hb
   rw [aG,if_pos ⟨rfl,hl⟩];trivial
  ·rw [aG,if_neg (by simp [hj]),iP]
   have hbk:=h.blk j
   generalize aD H j=b at hbk
   cases b with
   |dead=>trivial
   | row fr' t' xs'=>
    rcases hbk with⟨h1,h2⟩|⟨g,e,cur,h1,h2,h3,h4⟩
    ·exact .inl ⟨by simp [Cx.frz,hj,h1],h2⟩
    ·refine .inr ⟨g,e,cur,by simp [Cx.frz,hj,h1],h2,h3,fun i x hi=> ?_⟩
     obtain⟨es,e1,e2⟩:=h4 i x hi
     exact⟨es,e1.frz,e2⟩
   | cells cs=>
    rcases hbk with⟨g,e,cur,h1,h2,h3,h4⟩|⟨h0,h1,h2⟩
    ·refine .inl ⟨g,e,cur,by simp [Cx.frz,hj,h1],h2,by rw [bq];exact h3,fun k hk=> ?_⟩
     rw [bq] at hk
     obtain⟨v,h5,h6,h7⟩:=h4 k hk
     rw [nW]
     exact⟨v,h5,h6,h7.frz (fun j hj=>bE hj) (fun t' v hv=>cQ h hb t' v hv) fun _ _ _ _ _=> .undef _⟩
    ·exact .inr ⟨h0,by simp [Cx.frz,hj,h1],h2.frz (fun j hj=>bE hj) (fun t' v hv=>cQ h hb t' v hv) fun _ _ _ _ _=> .undef _⟩
   |imap fr' t' es'=>
    obtain⟨g,ents,clock,h1,h2,h3,h4,h5,h6⟩:=hbk
    refine⟨g,ents,clock,by simp [Cx.frz,hj,h1],h2,h3,h4,h5,fun i n x hi=> ?_⟩
    obtain⟨v,b,h7,h8,h9⟩:=h6 i n x hi
    exact⟨v,b,h7,h8,h9.frz⟩
   | mit mid n s l=>
    cases mid with
    |none=>trivial
    | some mid=>
     show ig (c.frz id) (aH (bU id (.sl fr t xs) H) id .dead) w j (.mit (bif Nat.beq mid id then none else some mid) n s l)
     cases hq:Nat.beq mid id with
     |true=>trivial
     |false=>
      obtain⟨g,gm,z,h1,h2,h3,h4,h5,h6⟩:=hbk
      have hm:=bz hq
      exact⟨g,gm,z,by simp [Cx.frz,hj,h1],h2,by simp [Cx.frz,hm,h3],(bE hm).trans h4,h5,h6⟩
 inj i j g hi hj:=by
  simp only [Cx.frz] at hi hj
  split at hi<;>split at hj
  ·omega
  ·cases hi
  ·cases hj
  ·exact h.inj i j g hi hj
 own i g hi:=by
  simp only [Cx.frz] at hi
  split at hi
  ·cases hi
  ·rename_i hne
   obtain⟨h1,h2,h3,h4⟩:=h.own i g hi
   refine⟨h1,h2,fun hm=> ?_,by rw [aM,cx];exact h4⟩
   rcases hm with hm|hm
   ·exact h3 hm
   ·exact hne (h.inj i id g hi hm)
 imm g hg:=by
  rcases hg with hg|hg
  ·exact h.imm g hg
  ·exact(h.own id g hg).2.1
 sub g hg:=by
  rcases hg with hg|hg
  ·exact⟨.inl (h.sub g hg).1,(h.sub g hg).2⟩
  ·exact⟨.inr hg,(h.own id g hg).1⟩
 glob g x hx:=by
  have hm:=hG g x id hx
  have:=(h.glob g x hx).frz (id:=id) (y:= .sl fr t xs) (H':=aH (bU id (.sl fr t xs) H) id .dead) (fun j hj=>bE hj) (fun t' v hv=>cQ h hb t' v hv) fun _ _ _ _ _=> .undef _
  rwa [mV id _ x hm] at this
end
end
section
def aC {α:Type} (f:(α→Prop)→Prop):Prop:=∀K,f K→∃v,K v∧∀K':α→Prop,K' v→f K'

section
variable {α β:Type}
theorem aC.fls:aC (fun _:α→Prop=>False):=fun _ h=>h.elim
theorem aC.ret (v:α):aC (fun K:α→Prop=>K v):=fun _ h=>⟨v,h,fun _ h=>h⟩
theorem aC.and {c:Prop} {f:(α→Prop)→Prop} (hf:aC f):aC (fun K=>c∧f K):=fun K h=>
 let ⟨v,h1,h2⟩:=hf K h.2
 ⟨v,h1,fun K' h'=>⟨h.1,h2 K' h'⟩⟩
theorem aC.or {c d:Prop} {f g:(α→Prop)→Prop} (hf:aC f) (hg:aC g):aC (fun K=>(c∧f K)∨(d∧g K)):=fun K h=>by
 rcases h with h|h
 ·obtain⟨v,h1,h2⟩:=hf K h.2
  exact⟨v,h1,fun K' h'=> .inl ⟨h.1,h2 K' h'⟩⟩
 ·obtain⟨v,h1,h2⟩:=hg K h.2
  exact⟨v,h1,fun K' h'=> .inr ⟨h.1,h2 K' h'⟩⟩
theorem aC.imps {c:Prop} {f g:(α→Prop)→Prop} (hf:aC f) (hg:aC g):aC (fun K=>(c→f K)∧(¬c→g K)):=fun K h=>by
 by_cases hc:c
 ·obtain⟨v,h1,h2⟩:=hf K (h.1 hc)
  exact⟨v,h1,fun K' h'=>⟨fun _=>h2 K' h',fun hn=>absurd hc hn⟩⟩
 ·obtain⟨v,h1,h2⟩:=hg K (h.2 hc)
  exact⟨v,h1,fun K' h'=>⟨fun h=>absurd h hc,fun _=>h2 K' h'⟩⟩
theorem aC.ex {ι:Type} {p:ι→Prop} {f:ι→(α→Prop)→Prop} (hf:∀i,aC (f i)):aC (fun K=>∃i,p i∧f i K):=fun K ⟨i,hp,h⟩=>by
 obtain⟨a,h1,h2⟩:=hf i K h
 exact⟨a,h1,fun K' h'=>⟨i,hp,h2 K' h'⟩⟩
theorem aC.bif {b:Bool} {f g:(α→Prop)→Prop} (hf:aC f) (hg:aC g):aC (fun K=>bif b then f K else g K):=by
 cases b
 ·exact hg
 ·exact hf
theorem aC.bind {f:(α→Prop)→Prop} {g:α→(β→Prop)→Prop} (hf:aC f) (hg:∀x,aC (g x)):aC (fun K=>f fun x=>g x K):=fun K h=>by
 obtain⟨x,h1,h2⟩:=hf _ h
 obtain⟨v,h3,h4⟩:=hg x K h1
 exact⟨v,h3,fun K' h'=>h2 _ (h4 K' h')⟩
theorem aC.forceV {v:V} {f:V→(α→Prop)→Prop} (hf:∀v,aC (f v)):aC (fun K=>Vc.forceV v fun v=>f v K):=fun K h=>by
 obtain⟨u,h1,h2⟩:=hf v K ((aR v _).1 h)
 exact⟨u,h1,fun K' h'=>(aR v _).2 (h2 K' h')⟩
theorem aC.dite {c:Prop} [Decidable c] {f:c→(α→Prop)→Prop} (hf:∀h,aC (f h)):aC (fun K=>if h:c then f h K else False):=fun K h=>by
 dsimp only at h
 by_cases hc:c
 ·rw [dif_pos hc] at h
  obtain⟨v,h1,h2⟩:=hf hc K h
  exact⟨v,h1,fun K' h'=>by dsimp only;rw [dif_pos hc];exact h2 K' h'⟩
 ·rw [dif_neg hc] at h
  exact h.elim
end
theorem aC.forceL {α:Type} {β:Type} {l:List β} {f:List β→(α→Prop)→Prop} (hf:∀l,aC (f l)):aC (fun K=>Vc.forceL l fun l=>f l K):=fun K h=>by
 obtain⟨u,h1,h2⟩:=hf l K ((aA l _).1 h)
 exact⟨u,h1,fun K' h'=>(aA l _).2 (h2 K' h')⟩

theorem aC.abounds {n:Nat} {lo hi:Option V} {f:Nat→Nat→(V→Prop)→Prop} (hf:∀l h,aC (f l h)):aC (fun K=>abounds n lo hi fun l h=>f l h K):=by
 unfold Vc.abounds
 cases lo with
 |none=>cases hi with
  |none=>exact hf _ _
  |some v=>cases v<;>first|exact .fls|exact .and (hf _ _)
 | some u=>cases u<;>first
  |(cases hi with
   |none=>exact .fls
   |some v=>cases v<;>exact .fls)
  |(cases hi with
   |none=>exact .and (hf _ _)
   |some v=>cases v<;>first|exact .fls|exact .and (hf _ _))

theorem aC.inRK {k:IntKind} {n:Int} {α:Type} {f:(α→Prop)→Prop} (hf:aC f):aC (fun K=>inRK k n (f K)):=by
 cases k<;>first|exact .fls|exact .and hf
theorem aC.shRK {k:IntKind} {n:Int} {α:Type} {f:(α→Prop)→Prop} (hf:aC f):aC (fun K=>shRK k n (f K)):=by
 cases k<;>first|exact .fls|exact .and hf

theorem aC.or3 {α:Type} {c1 c2 c3:Prop} (x y z:α):aC (fun K:α→Prop=>(c1∧K x)∨(c2∧K y)∨(c3∧K z)):=fun K h=>by
 rcases h with h|h|h
 ·exact⟨x,h.2,fun K' h'=> .inl ⟨h.1,h'⟩⟩
 ·exact⟨y,h.2,fun K' h'=> .inr (.inl ⟨h.1,h'⟩)⟩
 ·exact⟨z,h.2,fun K' h'=> .inr (.inr ⟨h.1,h'⟩)⟩
theorem aC.orv {α:Type} {c:Prop} (x y:α):aC (fun K:α→Prop=>(c∧K x)∨K y):=fun K h=>by
 rcases h with h|h
 ·exact⟨x,h.2,fun K' h'=> .inl ⟨h.1,h'⟩⟩
 ·exact⟨y,h,fun K' h'=> .inr h'⟩
theorem aC.abinI (op:BinOp) (k:IntKind) (a b:Int):aC (abinI op k a b):=by
 cases op<;>unfold Vc.abinI<;>dsimp only<;>first
  |exact .fls|exact .ret _|exact .inRK (.ret _)|exact .and (.ret _)|exact .or (.ret _) (.ret _)|exact .or3 _ _ _|exact .orv _ _
theorem aC.abinB (op:BinOp) (a b:UInt8):aC (abinB op a b):=by
 cases op<;>unfold Vc.abinB<;>dsimp only<;>first|exact .fls|exact .ret _|exact .and (.ret _)
theorem aC.abinS (op:BinOp) (a b:List UInt8):aC (abinS op a b):=by
 cases op<;>unfold Vc.abinS<;>dsimp only<;>first|exact .fls|exact .ret _|exact .and (.ret _)

def V.plain:V→Bool
 |.nils| .sl _ _ _| .own _ _| .fn _ _=>false
 |_=>true

theorem aC.abin {op:BinOp} {H:List Blk} {x y:V} (hx:x.plain=true):aC (abin op H x y):=by
 cases x<;>first|(simp [V.plain] at hx;done)|skip
 all_goals cases y<;>unfold Vc.abin<;>dsimp only
 all_goals first|exact .fls|exact .abinB _ _ _|exact .abinS _ _ _|skip
 ·cases op<;>dsimp only<;>first|exact .shRK (.inRK (.ret _))|exact .shRK (.ret _)|exact .bif (.abinI _ _ _ _) .fls
 ·cases op<;>dsimp only<;>first|exact .fls|exact .and (.ret _)
 ·cases op<;>dsimp only<;>first|exact .fls|exact .ret _
theorem K6 {op:BinOp} {H H2:List Blk} {x y:V} (hx:x.plain=true) (K:V→Prop):abin op H x y K=abin op H2 x y K:=by
 cases x<;>first|(simp [V.plain] at hx;done)|skip
 all_goals cases y<;>rfl

theorem aC.eq1 {t:Ty} {x y:V} {α:Type} {f:Prop→(α→Prop)→Prop} (hf:∀p,aC (f p)):aC (fun K=>eq1 t x y fun p=>f p K):=by
 unfold Vc.eq1
 split<;>first|exact .fls|exact hf _|exact .bif (hf _) .fls
theorem aC.eqS {α:Type}:∀{t:Ty} {xs ys:List V} {f:Prop→(α→Prop)→Prop},(∀p,aC (f p))→aC (fun K=>eqS t xs ys fun p=>f p K)
 |.nil, [], [],f,hf=>hf _
 |.nil, [],_::_,f,hf=> .fls
 |.nil,_::_,_,f,hf=> .fls
 |.cons t ts, [],_,f,hf=> .fls
 |.cons t ts,_::_, [],f,hf=> .fls
 |.cons t ts,x::xs,y::ys,f,hf=> .eq1 (f:=fun p K=>Vc.eqS ts xs ys fun q=>f (p∧q) K) fun p=>aC.eqS (t:=ts) (f:=fun q=>f (p∧q)) fun q=>hf _
 |.u8,_,_,f,hf=> .fls
 |.int _,_,_,f,hf=> .fls
 |.bool,_,_,f,hf=> .fls
 |.str,_,_,f,hf=> .fls
 |.sl _,_,_,f,hf=> .fls
 |.arr _ _,_,_,f,hf=> .fls
 |.fnT,_,_,f,hf=> .fls
 |.mapT _,_,_,f,hf=> .fls
theorem aC.aeqA {E:Env} {T:TypeId} {op:BinOp} {x y:V}:aC (aeqA E T op x y):=by
 unfold Vc.aeqA
 generalize lk E.ty T=r
 split
 ·cases op<;>dsimp only<;>first|exact .fls|exact .eqS (f:=fun p K=>K _) fun p=> .ret _
 ·refine .bif ?_ .fls
  cases op<;>dsimp only<;>first|exact .fls|exact .ret _
 ·exact .fls
theorem aC.abinT {E:Env} {T:TypeId} {op:BinOp} {H:List Blk} {x y:V} (hT:∀t,lk E.ty T≠some (.sl t)):aC (abinT E T op H x y):=by
 have hs:∀g:(V→Prop)→Prop,aC (fun K=>match lk E.ty T with|some (.sl _)=>g K|_=>False):=by
  intro g
  generalize lk E.ty T=r at hT
  rcases r with _|t
  ·exact .fls
  ·cases t<;>first|exact .fls|exact absurd rfl (hT _)
 have hb:∀{g:(V→Prop)→Prop},aC g→aC (fun K=>match lk E.ty T with|some .bool=>g K|_=>False):=by
  intro g hg
  generalize lk E.ty T=r
  rcases r with _|t
  ·exact .fls
  ·cases t<;>first|exact .fls|exact hg
 cases x<;>unfold Vc.abinT<;>dsimp only<;>first|exact .fls|exact .abin rfl|exact hs _|exact hb (.abin rfl)|exact .aeqA
theorem Pu {E:Env} {T:TypeId} {op:BinOp} {H H2:List Blk} {x y:V} (hT:∀t,lk E.ty T≠some (.sl t)) (K:V→Prop):abinT E T op H x y K=abinT E T op H2 x y K:=by
 have hs:∀g g':Prop,(match lk E.ty T with|some (.sl _)=>g|_=>False)=(match lk E.ty T with|some (.sl _)=>g'|_=>False):=by
  intro g g'
  generalize lk E.ty T=r at hT
  rcases r with _|t
  ·rfl
  ·cases t<;>first|rfl|exact absurd rfl (hT _)
 cases x<;>unfold Vc.abinT<;>dsimp only<;>first|rfl|exact K6 rfl K|exact hs _ _|(rw [K6 (H2:=H2) rfl K])

theorem aC.alen {H:List Blk} {v:V}:aC (alen H v):=by
 cases v<;>unfold Vc.alen<;>dsimp only<;>first|exact .fls|exact .ret _|(generalize aD H _=b;cases b<;>first|exact .fls|exact .ret _)
theorem aC.alenT {E:Env} {H:List Blk} {T:TypeId} {v:V}:aC (alenT E H T v):=by
 unfold Vc.alenT
 generalize lk E.ty T=r
 rcases r with _|t
 ·exact .fls
 ·cases t<;>first|exact .fls|skip
  ·cases v<;>first|exact .fls|exact .ret _
  ·cases v<;>first|exact .fls|exact .alen
  ·cases v<;>dsimp only<;>first|exact .fls|(generalize aD H _=b;cases b<;>dsimp only<;>first|exact .fls|exact .ret _)
theorem aC.asIdx {v:V} {α:Type} {f:Int→(α→Prop)→Prop} (hf:∀i,aC (f i)):aC (fun K=>asIdx v fun i=>f i K):=by
 cases v<;>first|exact .fls|exact hf _

theorem aC.pick {α:Type} {b:Bool} {n:Nat} {i:Int} {f:Nat→α}:aC (fun K=>(0≤i∧i<(n:Int))∧Hq b n i fun j=>K (f j)):=fun K h=>by
 refine⟨f i.toNat,(nL h.1.1 h.1.2).1 h.2,fun K' hk=>⟨h.1,(nL h.1.1 h.1.2).2 hk⟩⟩
theorem aC.aindexAddr {E:Env} {H:List Blk} {T:TypeId} {v ix:V}:aC (aindexAddr E H T v ix):=by
 unfold Vc.aindexAddr
 generalize lk E.ty T=r
 rcases r with _|t
 ·exact .fls
 ·cases t<;>dsimp only<;>first|exact .fls|skip
  ·cases v<;>dsimp only<;>first
    |exact .fls
    |exact .bif (.asIdx fun _=> .and (.ret _)) .fls
    |(generalize aD H _=b;cases b<;>dsimp only<;>first|exact .fls|exact .bif (.asIdx fun _=> .and (.ret _)) .fls|exact .bif (.asIdx fun _=> .pick) .fls)
  ·cases v<;>dsimp only<;>first
    |exact .fls
    |(generalize aD H _=b;cases b<;>dsimp only<;>first|exact .fls|exact .bif (.asIdx fun _=> .and (.ret _)) (.bif (.asIdx fun _=> .and (.ret _)) .fls))
    |(rename_i fr t x o;cases t<;>dsimp only<;>first|exact .fls|exact .bif (.asIdx fun _=> .and (.ret _)) .fls)

theorem aC.aload {E:Env} {H:List Blk} {T:TypeId} {p:V}:aC (aload E H T p):=by
 unfold Vc.aload
 generalize lk E.ty T=r
 rcases r with _|t
 ·exact .fls
 ·cases t<;>dsimp only<;>first|exact .fls|skip
  all_goals cases p<;>dsimp only<;>first
    |exact .fls
    |exact .bif (.forceV fun _=> .ret _) .fls
    |exact .forceV fun _=> .ret _
    |exact .bif (.forceL fun _=> .ret _) .fls
    |exact .bif (.ret _) .fls
    |(generalize aD H _=b;cases b<;>(try dsimp only)<;>first|exact .fls|exact .forceV fun _=> .ret _|exact .bif (.forceV fun _=> .ret _) .fls|exact .bif (.forceL fun _=> .ret _) .fls|exact .bif (.ret _) (.bif (.and (.ret _)) .fls))

theorem aC.elV {fr:Bool} {t:Ty} {x:t.D} {α:Type} {f:V→(α→Prop)→Prop} (hf:∀v,aC (f v)):aC (fun K=>Vc.elV fr t x fun v=>f v K):=by
 unfold Vc.elV
 cases t<;>dsimp only<;>first|exact .fls|exact hf _|exact .forceL fun _=>hf _
theorem aC.okK {ok:Bool} {v:V} {p:Prop}:aC (okK ok v p):=by
 unfold Vc.okK
 cases ok<;>exact .ret _
theorem aC.alookup {E:Env} {H:List Blk} {T:TypeId} {m k:V} {ok:Bool} (hz:br E.frz 1000006=false):aC (alookup E H T m k ok):=by
 unfold Vc.alookup
 rw [hz]
 simp only [cond_false]
 generalize lk E.ty T=r
 rcases r with _|t
 ·exact .fls
 ·cases t<;>(try dsimp only)<;>first|exact .fls|skip
  cases m<;>(try dsimp only)<;>first|exact .fls|skip
  cases k<;>(try dsimp only)<;>first|exact .fls|skip
  rename_i kd n
  cases kd<;>(try dsimp only)<;>first|exact .fls|skip
  generalize aD H _=b
  cases b<;>(try dsimp only)<;>first|exact .fls|exact .and (.elV fun _=> .okK)
theorem aC.afield {E:Env} {H:List Blk} {S:TypeId} {v:V} {f:Nat}:aC (afield E H S v f):=by
 unfold Vc.afield
 generalize lk E.ty S=r
 rcases r with _|t
 ·exact .fls
 ·cases t<;>dsimp only<;>first|exact .fls|skip
  generalize rC _ f=q
  rcases q with _|⟨o,z⟩<;>dsimp only
  ·exact .fls
  ·refine .bif ?_ .fls
   cases v<;>dsimp only<;>first
    |exact .fls|exact .ret _
    |(generalize aD H _=b;cases b<;>dsimp only<;>first|exact .fls|exact .bif (.ret _) .fls)

theorem aC.aslice {E:Env} {H:List Blk} {T:TypeId} {v:V} {lo hi:Option V}:aC (aslice E H T v lo hi):=by
 unfold Vc.aslice
 simp only [pV]
 generalize lk E.ty T=r
 rcases r with _|t
 ·exact .fls
 ·cases t<;>dsimp only<;>first|exact .fls|skip
  all_goals cases v<;>dsimp only<;>first
    |exact .fls
    |exact .bif (.abounds fun _ _=> .ret _) .fls
    |exact .abounds fun _ _=> .ret _
    |(generalize aD H _=b;cases b<;>dsimp only<;>first|exact .fls|exact .bif (.abounds fun _ _=> .ret _) .fls)

theorem aC.aidxA {te:Ty} {n:Nat} {fr:Bool} {t':Ty} {x:t'.D} {j:Int}:aC (aidxA te n fr t' x j):=by
 unfold Vc.aidxA
 cases te<;>first|exact .fls|skip
 cases t'<;>first|exact .fls|skip
 exact .bif (.and (.ret _)) .fls

theorem aC.aconv {E:Env} {S T:TypeId} {v:V}:aC (aconv E S T v):=by
 unfold Vc.aconv
 generalize lk E.ty S=r
 generalize lk E.ty T=q
 rcases r with _|t
 ·exact .fls
 ·dsimp only
  rcases q with _|t
  ·exact .fls
  ·cases t<;>first|exact .fls|skip
   all_goals first
    |(cases v<;>dsimp only<;>first|exact .fls|exact .ret _)
    |(rename_i k;cases k<;>cases v<;>dsimp only<;>first|exact .fls|exact .ret _|exact .inRK (.ret _))

theorem aC.evs {E:Env} {σ:List V} {α:Type}:∀{l:List Operand} {f:List V→(α→Prop)→Prop},(∀vs,aC (f vs))→aC (fun K=>evs E σ l fun vs=>f vs K)
 |[],f,hf=>hf []
 |x::l,f,hf=> .forceV fun v=>aC.evs (l:=l) (f:=fun vs=>f (v::vs)) fun vs=>hf _
theorem eM {E:Env} {σ σ2:List V}:∀{l:List Operand},(∀x∈l,ev E σ2 x=ev E σ x)→∀K,evs E σ2 l K=evs E σ l K
 |[],h,K=>rfl
 |x::l,h,K=>by
  unfold evs
  rw [h x (by simp)]
  exact congrArg _ (funext fun v=>eM (fun x hx=>h x (by simp [hx])) _)

theorem aC.castK {t t':Ty} {xs:List t'.D} {α:Type} {f:List t.D→(α→Prop)→Prop} (hf:∀l,aC (f l)):aC (fun K=>castK xs fun l=>f l K):=fun K h=>by
 obtain⟨e,h⟩:=iY.1 h
 obtain⟨v,h1,h2⟩:=hf _ K h
 exact⟨v,h1,fun K' h'=>iY.2 ⟨e,h2 K' h'⟩⟩
theorem aC.asRow {H:List Blk} {t:Ty} {v:V} {α:Type} {f:Bool→List t.D→(α→Prop)→Prop} (hf:∀b l,aC (f b l)):aC (fun K=>asRow H t v fun b l=>f b l K):=by
 cases v<;>unfold Vc.asRow<;>dsimp only<;>first
  |exact .fls|exact hf _ _|exact .castK fun _=>hf _ _
  |(generalize aD H _=b;cases b<;>dsimp only<;>first|exact .fls|exact .castK fun _=>hf _ _)
theorem aC.asRows {H:List Blk} {t:Ty} {α:Type}:∀{l:List V} {f:List (List t.D)→(α→Prop)→Prop},(∀vs,aC (f vs))→aC (fun K=>asRows H t l fun vs=>f vs K)
 |[],f,hf=>hf []
 |x::l,f,hf=> .asRow fun _ v=>aC.asRows (l:=l) (f:=fun vs=>f (v::vs)) fun vs=>hf _
theorem aC.asD {H:List Blk} {t:Ty} {v:V} {α:Type} {f:t.D→(α→Prop)→Prop} (hf:∀x,aC (f x)):aC (fun K=>asD H t v fun x=>f x K):=by
 cases t with
 | sl t=>
  cases t with
  | sl t=>
   cases v<;>first
    |exact .asRow (f:=fun _ xs K=>f xs K) fun _ xs=>hf xs
    |(unfold Vc.asD;exact .asRow (f:=fun _ xs K=>f xs K) fun _ xs=>hf xs)
    |(unfold Vc.asD;(try dsimp only);generalize aD H _=b;cases b<;>(try dsimp only)<;>first|exact .fls|exact .asRows fun xs=>hf xs|exact .castK fun xs=>hf xs)
  |_=>exact .asRow (f:=fun _ xs K=>f xs K) fun _ xs=>hf xs
 |bool=>cases v<;>first|exact .fls|exact .ex fun _=>hf _
 |_=>cases v<;>first|exact .fls|exact hf _|exact .and (hf _)
theorem aC.asCellsN {α:Type}:∀{t:Ty} {l:List V} {f:Bool→t.D→List V→(α→Prop)→Prop},(∀b x l,aC (f b x l))→aC (fun K=>asCellsN t l fun b x l=>f b x l K)
 |.nil,l,f,hf=>hf _ _ _
 |.cons t ts,l,f,hf=>aC.asCellsN (t:=t) (l:=l) (f:=fun b x l K=>Vc.asCellsN ts l fun g y l=>f (b&&g) (x,y) l K) fun b x l=>aC.asCellsN (t:=ts) fun g y l=>hf (b&&g) (x,y) l
 |.arr _ _,l,f,hf=> .fls
 |.fnT,l,f,hf=> .fls
 |.mapT _,l,f,hf=> .fls
 |.sl t,l,f,hf=>by
  cases l with
  |nil=>exact .fls
  |cons v l=>cases v<;>first|exact .fls|exact hf _ _ _|exact .castK fun xs=>hf _ xs _
 |.u8, [],f,hf=> .fls
 |.u8,v::l,f,hf=> .asD (H:= []) (f:=fun x K=>f true x l K) fun x=>hf true x l
 |.int _, [],f,hf=> .fls
 |.int _,v::l,f,hf=> .asD (H:= []) (f:=fun x K=>f true x l K) fun x=>hf true x l
 |.bool, [],f,hf=> .fls
 |.bool,v::l,f,hf=> .asD (H:= []) (f:=fun x K=>f true x l K) fun x=>hf true x l
 |.str, [],f,hf=> .fls
 |.str,v::l,f,hf=> .asD (H:= []) (f:=fun x K=>f true x l K) fun x=>hf true x l
theorem aC.asEl {t:Ty} {v:V} {α:Type} {f:Bool→t.D→(α→Prop)→Prop} (hf:∀b x,aC (f b x)):aC (fun K=>asEl t v fun b x=>f b x K):=by
 cases t with
 |cons t ts=>
  cases v<;>first|exact .fls|skip
  refine .asCellsN (t:= .cons t ts) (f:=fun b x l K=>match l with| []=>f b x K|_=>False) fun b x l=> ?_
  cases l
  ·exact hf _ _
  ·exact .fls
 |sl t=>
  cases v<;>first|exact .fls|exact hf _ _|skip
  unfold Vc.asEl
  dsimp only
  exact .castK (f:=fun xs K=>f _ xs K) fun xs=>hf _ _
 |nil=>cases v<;>exact .fls
 |arr n te=>
  cases v<;>first|exact .fls|skip
  unfold Vc.asEl
  dsimp only
  exact .dite fun h=>hf _ _
 |_=>exact .asD (H:= []) (v:=v) (f:=fun x K=>f true x K) fun x=>hf true x
theorem aC.asEls {t:Ty} {α:Type}:∀{l:List V} {f:Bool→List t.D→(α→Prop)→Prop},(∀b vs,aC (f b vs))→aC (fun K=>asEls t l fun b vs=>f b vs K)
 |[],f,hf=>hf true []
 |x::l,f,hf=> .asEl (f:=fun b y K=>Vc.asEls t l fun g ys=>f (b&&g) (y::ys) K) fun b y=>aC.asEls (l:=l) (f:=fun g ys=>f (b&&g) (y::ys)) fun g ys=>hf _ _
theorem aC.asArr {t:Ty} {v:V} {α:Type} {f:Nat→Bool→List t.D→(α→Prop)→Prop} (hf:∀n b x,aC (f n b x)):aC (fun K=>asArr t v fun n b x=>f n b x K):=by
 cases v<;>first|exact .fls|skip
 rename_i fr t' ys
 cases t'<;>first|exact .fls|exact .castK fun xs=>hf _ _ xs
theorem aC.setD {t:Ty} {v:V} {α:Type} {f:t.D→(α→Prop)→Prop} (hf:∀x,aC (f x)):aC (fun K=>setD t v fun x=>f x K):=by
 cases t<;>cases v<;>first|exact .fls|exact hf _|exact .and (hf _)

theorem aC.setF {v:V} {α:Type}:∀{t:Ty} {x:t.D} {o:Nat} {f:t.D→(α→Prop)→Prop},(∀x,aC (f x))→aC (fun K=>setF t x o v fun x=>f x K)
 |.cons t ts,x,o,f,hf=> .bif (aC.setF (t:=t) (f:=fun y K=>f (y,x.2) K) fun y=>hf _) (aC.setF (t:=ts) (f:=fun y K=>f (x.1,y) K) fun y=>hf _)
 |.arr _ t,xs,o,f,hf=> .bif (aC.setF (t:=t) (f:=fun y K=>f ((xs:List t.D).set o y) K) fun y=>hf _) (aC.setF (t:=t) (f:=fun y K=>f ((xs:List t.D).set (o/t.size) y) K) fun y=>hf _)
 |.u8,x,o,f,hf=>by cases o;exact .setD hf;exact .fls
 |.int _,x,o,f,hf=>by cases o;exact .setD hf;exact .fls
 |.bool,x,o,f,hf=>by cases o;exact .setD hf;exact .fls
 |.str,x,o,f,hf=>by cases o;exact .setD hf;exact .fls
 |.nil,x,o,f,hf=> .fls
 |.sl _,x,o,f,hf=> .fls
 |.fnT,x,o,f,hf=> .fls
 |.mapT _,x,o,f,hf=> .fls

theorem aC.abuildF {t:Ty}:∀{l:List (Nat×V)} {cs:List V},aC (abuildF t l cs)
 |[],cs=> .ret _
 | (i,v)::l,cs=>by
  show aC fun K=>match rC (qR t 0) i with
   |some (o,z)=>bif v.isPart&&Nat.beq (iW v).length z&&Nat.ble (o+z) cs.length then Vc.forceL (gW cs o (iW v)) fun cs=>Vc.abuildF t l cs K else False
   |none=>False
  generalize rC (qR t 0) i=q
  rcases q with _|⟨o,z⟩<;>dsimp only
  ·exact .fls
  ·exact .bif (.forceL fun cs=>aC.abuildF (l:=l)) .fls
theorem aC.abuild {E:Env} {T:TypeId} {ps:List (Nat×V)}:aC (abuild E T ps):=by
 unfold Vc.abuild
 generalize lk E.ty T=r
 rcases r with _|t
 ·exact .fls
 ·cases t<;>dsimp only<;>first|exact .fls|exact .forceL fun _=> .abuildF|exact .bif (.asEls fun _ _=> .ret _) .fls

theorem aC.aalloc {E:Env} {H:List Blk} {T:TypeId}:aC (fun K:V×List Blk→Prop=>aalloc E H T fun v H=>K (v,H)):=by
 unfold Vc.aalloc
 generalize lk E.ty T=r
 rcases r with _|t
 ·exact .fls
 ·cases t<;>dsimp only<;>first
   |exact .bif (.forceL fun _=> .ret _) .fls
   |exact .bif (.forceL fun _=> .forceL fun _=> .ret _) .fls
theorem aC.abox {E:Env} {H:List Blk} {T:TypeId} {v:V}:aC (fun K:V×List Blk→Prop=>abox E H T v fun v H=>K (v,H)):=by
 unfold Vc.abox
 generalize lk E.ty T=r
 rcases r with _|t
 ·exact .fls
 ·cases t<;>dsimp only<;>first
   |exact .bif (.asArr fun _ _ _=> .and (.forceL fun _=> .ret _)) .fls
   |(cases v<;>dsimp only<;>exact .bif (.forceL fun _=> .ret _) .fls)
theorem aC.abuildSlice {E:Env} {H:List Blk} {T:TypeId} {vs:List V}:aC (fun K:V×List Blk→Prop=>abuildSlice E H T vs fun v H=>K (v,H)):=by
 unfold Vc.abuildSlice
 generalize lk E.ty T=r
 rcases r with _|t
 ·exact .fls
 ·cases t<;>dsimp only<;>first|exact .fls|skip
  rename_i t
  cases t<;>dsimp only<;>first
   |exact .bif (.asEls fun _ _=> .forceL fun _=> .ret _) .fls
   |exact .bif (.bif (.asEls fun _ _=> .forceL fun _=> .ret _) .fls) (.bif (.forceL fun _=> .ret _) .fls)
theorem aC.astore {E:Env} {H:List Blk} {T:TypeId} {p v:V}:aC (fun K:List Blk→Prop=>astore E H T p v K):=by
 unfold Vc.astore
 generalize lk E.ty T=r
 rcases r with _|t
 ·cases p<;>exact .fls
 ·cases p<;>(try dsimp only)<;>first|exact .fls|skip
  generalize aD H _=b
  cases b<;>dsimp only<;>first
   |exact .fls
   | (cases v<;>(try dsimp only)<;>first
     |exact .setF fun _=> .and (.forceL fun _=> .ret _)
     |exact .asArr fun _ _ _=> .and (.forceL fun _=> .ret _)
     |exact .asEl fun _ _=> .and (.forceL fun _=> .ret _))
   |(cases v<;>dsimp only<;>exact .and (.forceL fun _=> .forceL fun _=> .ret _))
theorem aC.amapUpdate {E:Env} {H:List Blk} {T:TypeId} {m k v:V}:aC (fun K:List Blk→Prop=>amapUpdate E H T m k v K):=by
 unfold Vc.amapUpdate
 split
 ·generalize aD H _=b
  cases b<;>dsimp only<;>first|exact .fls|exact .asEl (f:=fun f x K=>(_=_∧_)∧Vc.forceL _ K) fun f x=> .and (.forceL fun _=> .ret _)
 ·exact .fls
theorem aC.aappend {E:Env} {σ:List V} {H:List Blk} {T:TypeId} {x y:V}:aC (fun K:V×List V×List Blk→Prop=>aappend E σ H T x y fun v σ H=>K (v,σ,H)):=by
 unfold Vc.aappend
 generalize lk E.ty T=r
 rcases r with _|t
 ·exact .fls
 ·cases t<;>dsimp only<;>first|exact .fls|skip
  cases x<;>dsimp only<;>first
   |exact .fls
   |exact .asRow fun _ _=> .and (.forceL fun _=> .ret _)
   | (generalize aD H _=b;cases b<;>dsimp only<;>first
     |exact .fls
     |exact .and (.castK fun _=> .asRow fun _ _=> .and (.forceL fun _=> .forceL fun _=> .ret _)))
theorem aC.aappendC {E:Env} {σ:List V} {H:List Blk} {T:TypeId} {x y:V}:aC (fun K:V×List V×List Blk→Prop=>aappendC E σ H T x y fun v σ H=>K (v,σ,H)):=by
 unfold Vc.aappendC
 split
 ·generalize aD H _=b
  cases b<;>dsimp only<;>first
   |exact .fls
   |exact .and (.forceL fun _=> .ret _)
 ·generalize aD H _=b
  generalize aD H _=b2
  cases b<;>cases b2<;>dsimp only<;>first
   |exact .fls
   |exact .and (.forceL fun _=> .forceL fun _=> .forceL fun _=> .ret _)
 ·exact .fls
theorem aC.aappendB {E:Env} {σ:List V} {H:List Blk} {T:TypeId} {x y:V}:aC (fun K:V×List V×List Blk→Prop=>aappendB E σ H T x y fun v σ H=>K (v,σ,H)):=by
 simp only [di]
 exact .bif .aappendC .aappend
theorem aC.aappendZ {E:Env} {σ:List V} {H:List Blk} {T:TypeId} {x y:V}:aC (fun K:V×List V×List Blk→Prop=>aappendZ E σ H T x y fun v σ H=>K (v,σ,H)):=by
 unfold Vc.aappendZ
 split
 ·generalize aD H _=b
  cases b<;>dsimp only<;>first
   |exact .fls
   |exact .and (.castK fun _=> .and (.forceL fun _=> .forceL fun _=> .ret _))
 ·exact .fls
end
end Go.Proofs.YtogipicegdbhdaaDoor.Vc

/- The classes of operations, and what each looks at. -/
import Derived.Test.YtogipicegdbhdaaDoorVc4
import Derived.Test.YtogipicegdbhdaaDoorVc5
set_option linter.unusedVariables false
set_option linter.unusedSimpArgs false
namespace Go.Proofs.YtogipicegdbhdaaDoor.Vc
open Go Go.RowKit
def cA (E:Env) (o:Op) (σ σ2:List V):Prop:=∀x∈o.operands.toList,lr E σ2 x=lr E σ x
theorem s4 {E:Env} {σ σ2:List V} {x:Operand} (h:lr E σ2 x=lr E σ x):ev E σ2 x=ev E σ x:=by
 cases x with
 |tmp t=>exact congrArg V.nb h
 |_=>rfl
theorem cA.ev {E:Env} {o:Op} {σ σ2:List V} (h:cA E o σ σ2):∀x∈o.operands.toList,Vc.ev E σ2 x=Vc.ev E σ x:=fun x hx=>s4 (h x hx)


theorem ke:∀{A B:List Blk},A.length=B.length→(∀id,aD A id=aD B id)→A=B
 |[], [],_,_=>rfl
 |x::A,y::B,h,hg=>by
  have h0:x=y:=hg 0
  subst h0
  rw [ke (A:=A) (B:=B) (by simpa using h) fun t=>hg (t+1)]
 |[],_::_,h,_=>by simp at h
 |_::_, [],h,_=>by simp at h
def ah (F:Nat→Option Blk):List Blk→List Blk
 |[]=> []
 |b::l=>(F 0).getD b::ah (fun i=>F (i+1)) l
theorem ab:∀(F:Nat→Option Blk) (H:List Blk),(ah F H).length=H.length
 |_, []=>rfl
 |F,b::l=>by rw [ah,List.length_cons,List.length_cons,ab]
theorem dX:∀(F:Nat→Option Blk) (H:List Blk) (id:Nat),aD (ah F H) id=if id<H.length then(F id).getD (aD H id) else .dead
 |_, [],id=>by cases id<;>rfl
 |F,b::l,0=>by rw [if_pos (by simp)];rfl
 |F,b::l,id+1=>by
  have:=dX (fun i=>F (i+1)) l id
  by_cases h:id<l.length
  ·rw [if_pos h] at this;rw [if_pos (by simpa using h)];exact this
  ·rw [if_neg h] at this;rw [if_neg (by simpa using h)];exact this
def Cj (H H2:List Blk):Prop:=∀id,aD H id≠ .dead→aD H2 id=aD H id
structure Fok (F:Nat→Option Blk) (H:List Blk):Prop where
 at':∀id b,F id=some b→aD H id= .dead∧id<H.length∧∀k,ci k b=b
theorem Fok.no {F:Nat→Option Blk} {H:List Blk} (h:Fok F H) {id:Nat} (hd:aD H id≠ .dead):F id=none:=by
 cases e:F id with
 |none=>rfl
 |some b=>exact absurd (h.at' id b e).1 hd
theorem Fok.far {F:Nat→Option Blk} {H:List Blk} (h:Fok F H) {id:Nat} (hd:H.length≤id):F id=none:=by
 cases e:F id with
 |none=>rfl
 |some b=>have:=(h.at' id b e).2.1;omega
theorem Fok.get {F:Nat→Option Blk} {H:List Blk} (h:Fok F H) (id:Nat):aD (ah F H) id=(F id).getD (aD H id):=by
 rw [dX]
 by_cases hl:id<H.length
 ·rw [if_pos hl]
 ·rw [if_neg hl,h.far (by omega)]
  exact(bB H id (by omega)).symm
theorem Fok.le {F:Nat→Option Blk} {H:List Blk} (h:Fok F H):Cj H (ah F H):=fun id hd=>by rw [h.get,h.no hd];rfl
theorem da {F:Nat→Option Blk} {H:List Blk} (h:Fok F H) (X:List Blk):ah F H++X=ah F (H++X):=by
 refine ke (by rw [List.length_append,ab,ab,List.length_append]) fun id=> ?_
 have app:∀(A B:List Blk) (id:Nat),aD (A++B) id=if id<A.length then aD A id else aD B (id-A.length):=by
  intro A
  induction A with
  |nil=>intro B id;rfl
  | cons a A ih=>
   intro B id
   cases id with
   |zero=>rfl
   | succ id=>
    show aD (A++B) id=_
    rw [ih]
    by_cases hl:id<A.length
    ·rw [if_pos hl,if_pos (by simpa using hl)];rfl
    ·rw [if_neg hl,if_neg (by simpa using hl)]
     congr 1
     simp only [List.length_cons];omega
 rw [dX,app,ab,app,List.length_append]
 by_cases hl:id<H.length
 ·rw [if_pos hl,if_pos (by omega),if_pos hl,h.get]
 ·rw [if_neg hl,h.far (by omega),if_neg hl]
  by_cases hx:id<H.length+X.length
  ·rw [if_pos hx];rfl
  ·rw [if_neg hx,bB X _ (by omega)]
theorem dl {F:Nat→Option Blk} {H:List Blk} (h:Fok F H) {id:Nat} (hd:F id=none) (b:Blk):aH (ah F H) id b=ah F (aH H id b):=by
 refine ke (by rw [aM,ab,ab,aM]) fun j=> ?_
 rw [aG,dX,dX,ab,aM,aG]
 by_cases hj:j=id∧id<H.length
 ·rw [if_pos hj,if_pos (by omega),if_pos hj,hj.1,hd];rfl
 ·rw [if_neg hj,if_neg hj]
theorem kW {F:Nat→Option Blk} {H:List Blk} (h:Fok F H) (id:Nat):bD id (ah F H)=ah F (bD id H):=by
 refine ke (by rw [an,ab,ab,an]) fun j=> ?_
 rw [bH,dX,dX,an,bH]
 by_cases hl:j<H.length
 ·rw [if_pos hl,if_pos hl]
  cases e:F j with
  |none=>rfl
  |some b=>exact(h.at' j b e).2.2 id
 ·rw [if_neg hl,if_neg hl];rfl
theorem Fok.kill {F:Nat→Option Blk} {H:List Blk} (h:Fok F H) (id:Nat):Fok F (bD id H):=⟨fun j b e=>by
 obtain⟨h1,h2,h3⟩:=h.at' j b e
 exact⟨by rw [bH,h1];rfl,by rw [an];exact h2,h3⟩⟩
theorem aC.up {α:Type} {f:(α→Prop)→Prop} (hp:aC f) {K K2:α→Prop} (h:f K) (hk:∀x,K x→K2 x):f K2:=by
 obtain⟨v,h1,h2⟩:=hp K h
 exact h2 K2 (hk v h1)
theorem gC {H H2:List Blk} (hle:Cj H H2) {t:Ty} {v:V} {K:Bool→List t.D→Prop} (h:asRow H t v K):asRow H2 t v K:=by
 unfold asRow at h ⊢
 cases v<;>first|exact h|skip
 case own t0 id=>
  dsimp only at h ⊢
  split at h<;>first|exact h.elim|skip
  rename_i hb
  rw [hle _ (by rw [hb];simp),hb]
  exact h
 case slc t0 id off n=>
  dsimp only at h ⊢
  split at h<;>first|exact h.elim|skip
  rename_i hb
  rw [hle _ (by rw [hb];simp),hb]
  exact h

theorem xh {E:Env} {F:Nat→Option Blk} {H:List Blk} (hF:Fok F H) {T:TypeId} {p v:V} {K K2:List Blk→Prop} (hk:∀H1,K H1→K2 (ah F H1)) (h:astore E H T p v K):astore E (ah F H) T p v K2:=by
 unfold astore at h ⊢
 generalize lk E.ty T=r at h ⊢
 rcases r with _|tT
 ·cases p<;>exact h.elim
 cases p<;>(try dsimp only at h ⊢)<;>first|exact h.elim|skip
 rename_i id z i o
 cases hb:aD H id with
 |dead=>rw [hb] at h;exact h.elim
 |imap fr t es=>rw [hb] at h;exact h.elim
 |mit m0 n0 s0 l0=>rw [hb] at h;first|exact h.elim|(cases m0<;>exact h.elim)
 | row fr t xs=>
  have hn:=hF.no (id:=id) (by rw [hb];simp)
  rw [hF.get,hn,Option.getD_none]
  rw [hb] at h ⊢
  dsimp only at h ⊢
  have s1:∀v,(setF t (xs.getD i t.dflt) o v fun x=>(o=o∧tT.size=1)∧forceL (aH H id (.row fr t (xs.set i x))) K)→(setF t (xs.getD i t.dflt) o v fun x=>(o=o∧tT.size=1)∧forceL (aH (ah F H) id (.row fr t (xs.set i x))) K2):=fun v h=>
   (aC.setF (t:=t) (x:=xs.getD i t.dflt) (o:=o) (v:=v) (f:=fun x (K:t.D→Prop)=>(o=o∧tT.size=1)∧K x) fun x=> .and (.ret x)).up (K:=fun x=>forceL (aH H id (.row fr t (xs.set i x))) K) (K2:=fun x=>forceL (aH (ah F H) id (.row fr t (xs.set i x))) K2) h
    fun x hx=>(aA _ _).2 (by rw [dl hF hn];exact hk _ ((aA _ _).1 hx))
  have s2:∀v,(asEl t v fun f x=>((fr=true→f=true)∧o=0∧tT.size=t.size)∧forceL (aH H id (.row fr t (xs.set i x))) K)→(asEl t v fun f x=>((fr=true→f=true)∧o=0∧tT.size=t.size)∧forceL (aH (ah F H) id (.row fr t (xs.set i x))) K2):=fun v h=>
   (aC.asEl (t:=t) (v:=v) (f:=fun f x (K:t.D→Prop)=>((fr=true→f=true)∧o=0∧tT.size=t.size)∧K x) fun _ x=> .and (.ret x)).up (K:=fun x=>forceL (aH H id (.row fr t (xs.set i x))) K) (K2:=fun x=>forceL (aH (ah F H) id (.row fr t (xs.set i x))) K2) h
    fun x hx=>(aA _ _).2 (by rw [dl hF hn];exact hk _ ((aA _ _).1 hx))
  have s3:∀v,(asArr t v fun n f ys=>(t.flat=true∧i=0∧o=0∧ys.length=xs.length∧tT.size=n*t.size)∧forceL (aH H id (.row fr t ys)) K)→(asArr t v fun n f ys=>(t.flat=true∧i=0∧o=0∧ys.length=xs.length∧tT.size=n*t.size)∧forceL (aH (ah F H) id (.row fr t ys)) K2):=fun v h=>
   (aC.asArr (t:=t) (v:=v) (f:=fun n f ys (K:List t.D→Prop)=>(t.flat=true∧i=0∧o=0∧ys.length=xs.length∧tT.size=n*t.size)∧K ys) fun _ _ x=> .and (.ret x)).up (K:=fun ys=>forceL (aH H id (.row fr t ys)) K) (K2:=fun ys=>forceL (aH (ah F H) id (.row fr t ys)) K2) h
    fun x hx=>(aA _ _).2 (by rw [dl hF hn];exact hk _ ((aA _ _).1 hx))
  cases v<;>first|exact s1 _ h|exact s2 _ h|exact s3 _ h
 |cells cs=>
  have hn:=hF.no (id:=id) (by rw [hb];simp)
  rw [hF.get,hn,Option.getD_none]
  rw [hb] at h ⊢
  dsimp only at h ⊢
  cases v<;>dsimp only at h ⊢<;>simp only [aA] at h ⊢<;>exact⟨h.1,by rw [dl hF hn];exact hk _ h.2⟩

theorem oz {E:Env} {F:Nat→Option Blk} {H:List Blk} (hF:Fok F H) {T:TypeId} {m k v:V} {K K2:List Blk→Prop} (hk:∀H1,K H1→K2 (ah F H1)) (h:amapUpdate E H T m k v K):amapUpdate E (ah F H) T m k v K2:=by
 unfold amapUpdate at h ⊢
 split at h<;>first|exact h.elim|skip
 rename_i t t0 id n hT
 split at h<;>first|exact h.elim|skip
 rename_i fr t' es hb
 have hn:=hF.no (id:=id) (by rw [hb];simp)
 rw [hF.get,hn,Option.getD_none,hb]
 dsimp only
 exact(aC.asEl (t:=t') (v:=v) (f:=fun f x (K:Bool×t'.D→Prop)=>(t'=t∧es.length≤1000000000)∧K (f,x)) fun _ x=> .and (.ret _)).up (K:=fun p=>forceL (aH H id (.imap (fr&&p.1) t' (cJ es n p.2))) K) (K2:=fun p=>forceL (aH (ah F H) id (.imap (fr&&p.1) t' (cJ es n p.2))) K2) h
  fun p hx=>(aA _ _).2 (by rw [dl hF hn];exact hk _ ((aA _ _).1 hx))

theorem E3 {E:Env} {F:Nat→Option Blk} {H:List Blk} (hF:Fok F H) {T:TypeId} {v:V} {K K2:V→List Blk→Prop} (hk:∀v H1,K v H1→K2 v (ah F H1)) (h:abox E H T v K):abox E (ah F H) T v K2:=by
 unfold abox at h ⊢
 generalize lk E.ty T=r at h ⊢
 rcases r with _|t
 ·exact h.elim
 simp only [ab,da hF]
 have agg:∀cs,(bif Nat.blt 0 t.size&&b7 cs&&Nat.beq cs.length t.size then forceL (H++ [.cells cs]) (K (.ptr H.length 1 0 0)) else False)→(bif Nat.blt 0 t.size&&b7 cs&&Nat.beq cs.length t.size then forceL (ah F (H++ [.cells cs])) (K2 (.ptr H.length 1 0 0)) else False):=fun cs hk'=>by
  obtain⟨hb,hk'⟩:=aO hk'
  rw [hb]
  simp only [cond_true,aA] at hk' ⊢
  exact hk _ _ hk'
 have other:∀v:V,(bif v.isCell&&Nat.beq t.size 1 then forceL (H++ [.cells [v]]) (K (.ptr H.length 1 0 0)) else False)→(bif v.isCell&&Nat.beq t.size 1 then forceL (ah F (H++ [.cells [v]])) (K2 (.ptr H.length 1 0 0)) else False):=fun v hk'=>by
  obtain⟨hb,hk'⟩:=aO hk'
  rw [hb]
  simp only [cond_true,aA] at hk' ⊢
  exact hk _ _ hk'
 cases t<;>dsimp only at h ⊢<;>first
  |(cases v<;>first|exact agg _ h|exact other _ h)
  |skip
 rename_i n t
 obtain⟨hb,h⟩:=aO h
 rw [hb]
 simp only [cond_true]
 exact aC.up (f:=fun K:Bool×List t.D→Prop=>asArr t v fun m f xs=>(m=n∧xs.length=n)∧K (f,xs)) (.asArr fun _ _ _=> .and (.ret _)) (K:=fun p=>forceL (H++ [.row (t.flat||p.1) t p.2]) (K (.ptr H.length t.size 0 0))) h fun x hx=>(aA _ _).2 (hk _ _ ((aA _ _).1 hx))

theorem oD {E:Env} {F:Nat→Option Blk} {H:List Blk} (hF:Fok F H) {T:TypeId} {vs:List V} {K K2:V→List Blk→Prop} (hk:∀v H1,K v H1→K2 v (ah F H1)) (h:abuildSlice E H T vs K):abuildSlice E (ah F H) T vs K2:=by
 unfold abuildSlice at h ⊢
 generalize lk E.ty T=r at h ⊢
 rcases r with _|t
 ·exact h.elim
 simp only [ab,da hF]
 cases t<;>first|exact h.elim|skip
 rename_i t
 have other:(bif Nat.ble (vs.length*t.size) 16777216 then asEls t vs fun f xs=>forceL (H++ [.row (t.flat||f) t xs]) (K (.own t H.length)) else False)→(bif Nat.ble (vs.length*t.size) 16777216 then asEls t vs fun f xs=>forceL (ah F (H++ [.row (t.flat||f) t xs])) (K2 (.own t H.length)) else False):=fun hk'=>by
  obtain⟨hb,hk'⟩:=aO hk'
  rw [hb]
  simp only [cond_true]
  exact aC.up (f:=fun K:Bool×List t.D→Prop=>asEls t vs fun f xs=>K (f,xs)) (.asEls (f:=fun f xs K=>K (f,xs)) fun f xs=> .ret _) (K:=fun p=>forceL (H++ [.row (t.flat||p.1) t p.2]) (K (.own t H.length))) hk' fun x hx=>(aA _ _).2 (hk _ _ ((aA _ _).1 hx))
 cases t<;>first|exact other h|skip
 dsimp only at h ⊢
 cases hfz:(br E.frz 1000002&&mr vs) with
 |true=>rw [hfz] at h;exact other h
 |false=>
 rw [hfz] at h
 simp only [cond_false] at h ⊢
 obtain⟨hb,h⟩:=aO h
 rw [hb]
 simp only [cond_true,aA] at h ⊢
 exact hk _ _ h

theorem sC {E:Env} {F:Nat→Option Blk} {H:List Blk} (hF:Fok F H) {σ:List V} {T:TypeId} {x y:V} {K K2:V→List V→List Blk→Prop} (hk:∀v σ' H1,K v σ' H1→K2 v σ' (ah F H1)) (h:aappendZ E σ H T x y K):aappendZ E σ (ah F H) T x y K2:=by
 unfold aappendZ at h ⊢
 generalize lk E.ty T=r at h ⊢
 rcases r with _|t
 ·exact h.elim
 cases t<;>first|exact h.elim|skip
 rename_i t
 cases x<;>first|exact h.elim|skip
 rename_i t0 id
 cases y<;>first|exact h.elim|skip
 dsimp only at h ⊢
 cases hb:aD H id with
 |dead=>rw [hb] at h;exact h.elim
 |cells cs=>rw [hb] at h;exact h.elim
 |imap fr t es=>rw [hb] at h;exact h.elim
 |mit m0 n0 s0 l0=>rw [hb] at h;first|exact h.elim|(cases m0<;>exact h.elim)
 |row fr t' xs=>
  have hn:=hF.no (id:=id) (by rw [hb];simp)
  rw [hF.get,hn,Option.getD_none]
  rw [hb] at h ⊢
  dsimp only at h ⊢
  simp only [kW hF,dl (hF.kill id) hn]
  refine⟨h.1,?_⟩
  have h2:=h.2
  have hp:aC (fun K:List t.D→Prop=>castK xs K):= .castK (f:=fun l K=>K l) fun l=> .ret _
  refine hp.up h2 fun xs' h3=> ?_
  refine⟨h3.1,?_⟩
  have h4:=h3.2
  simp only [aA] at h4 ⊢
  exact hk _ _ _ h4
theorem vI {E:Env} {F:Nat→Option Blk} {H:List Blk} (hF:Fok F H) {σ:List V} {T:TypeId} {x y:V} {K K2:V→List V→List Blk→Prop} (hk:∀v σ' H1,K v σ' H1→K2 v σ' (ah F H1)) (h:aappend E σ H T x y K):aappend E σ (ah F H) T x y K2:=by
 unfold aappend at h ⊢
 generalize lk E.ty T=r at h ⊢
 rcases r with _|t
 ·exact h.elim
 cases t<;>first|exact h.elim|skip
 rename_i t
 cases x<;>first|exact h.elim|skip
 case nils=>
  simp only [ab,da hF]
  refine gC hF.le ?_
  exact aC.up (f:=fun K:Bool×List t.D→Prop=>asRow H t y fun f ys=>(ys.length≤1000000000)∧K (f,ys)) (.asRow fun b l=> .and (.ret _)) (K:=fun p=>forceL (H++ [.row p.1 t p.2]) (K (.own t H.length) σ)) h fun x hx=>(aA _ _).2 (hk _ _ _ ((aA _ _).1 hx))
 case own t0 id=>
  dsimp only at h ⊢
  cases hb:aD H id with
  |dead=>rw [hb] at h;exact h.elim
  |cells cs=>rw [hb] at h;exact h.elim
  |imap fr t es=>rw [hb] at h;exact h.elim
  |mit m0 n0 s0 l0=>rw [hb] at h;first|exact h.elim|(cases m0<;>exact h.elim)
  | row fr t' xs=>
   have hn:=hF.no (id:=id) (by rw [hb];simp)
   rw [hF.get,hn,Option.getD_none]
   rw [hb] at h ⊢
   dsimp only at h ⊢
   simp only [kW hF,dl (hF.kill id) hn]
   refine⟨h.1,?_⟩
   have h2:=h.2
   have hp:aC (fun K:List t.D→Prop=>castK xs K):= .castK (f:=fun l K=>K l) fun l=> .ret _
   refine hp.up h2 fun xs' h3=> ?_
   refine gC hF.le ?_
   exact aC.up (f:=fun K:Bool×List t.D→Prop=>asRow H t y fun f ys=>(xs'.length+ys.length≤1000000000)∧K (f,ys)) (.asRow fun b l=> .and (.ret _)) (K:=fun p=>forceL (ak id σ) fun σ=>forceL (aH (bD id H) id (.row (fr&&p.1) t (xs'++p.2))) (K (.own t id) σ)) (K2:=fun p=>forceL (ak id σ) fun σ=>forceL (ah F (aH (bD id H) id (.row (fr&&p.1) t (xs'++p.2)))) (K2 (.own t id) σ)) h3 fun x hx=>by
    simp only [aA] at hx ⊢
    exact hk _ _ _ hx

def Lh (c:bI):Prop:=∀args H R,c args H R→∃v bs,R v (H++bs)∧∀R':V→List Blk→Prop,R' v (H++bs)→c args H R'
def Z2 (c:bI):Prop:=∀args H H2 v0,Cj H H2→V.noIds v0=true→c args H (fun v H'=>v=v0∧H'=H)→c args H2 fun v H'=>v=v0∧H'=H2
def Z5 (c:bI):Prop:=∀args H F (R R2:V→List Blk→Prop),Fok F H→(∀v H1,R v H1→R2 v (ah F H1))→c args H R→c args (ah F H) R2
structure Det (c:bI):Prop where
 det:Lh c
 mono:Z2 c
 fill:Z5 c
def rj (E:Env):Prop:=∀k c,lk E.con k=some c→Det c

theorem sD {E:Env} {F:Nat→Option Blk} {H:List Blk} (hF:Fok F H) {σ:List V} {T:TypeId} {x y:V} {K K2:V→List V→List Blk→Prop} (hk:∀v σ' H1,K v σ' H1→K2 v σ' (ah F H1)) (h:aappendC E σ H T x y K):aappendC E σ (ah F H) T x y K2:=by
 unfold aappendC at h ⊢
 split at h
 ·rename_i t t2 id2 hT
  split at h
  ·rename_i ds hb
   have hn:=hF.no (id:=id2) (by rw [hb];simp)
   rw [hF.get,hn,Option.getD_none,hb]
   refine⟨h.1,?_⟩
   have h2:=h.2
   simp only [ab,da hF,aA] at h2 ⊢
   exact hk _ _ _ h2
  ·exact h.elim
 ·rename_i t t0 id t2 id2 hT
  split at h
  ·rename_i cs ds hb1 hb2
   have hn1:=hF.no (id:=id) (by rw [hb1];simp)
   have hn2:=hF.no (id:=id2) (by rw [hb2];simp)
   rw [hF.get,hF.get,hn1,hn2,Option.getD_none,Option.getD_none,hb1,hb2]
   refine⟨h.1,?_⟩
   have h2:=h.2
   simp only [kW hF,dl (hF.kill id) hn1,aA] at h2 ⊢
   exact hk _ _ _ h2
  ·exact h.elim
 ·exact h.elim
theorem sE {E:Env} {F:Nat→Option Blk} {H:List Blk} (hF:Fok F H) {σ:List V} {T:TypeId} {x y:V} {K K2:V→List V→List Blk→Prop} (hk:∀v σ' H1,K v σ' H1→K2 v σ' (ah F H1)) (h:aappendB E σ H T x y K):aappendB E σ (ah F H) T x y K2:=by
 rw [di] at h
 cases hb:dL H y with
 |false=>rw [hb] at h;exact oj (vI hF hk h)
 | true=>
  rw [hb] at h
  have hb2:dL (ah F H) y=true:=by
   unfold dL at hb ⊢
   split at hb
   ·rename_i id
    split at hb
    ·rename_i cs hc
     rw [hF.get,hF.no (id:=id) (by rw [hc];simp),Option.getD_none,hc]
    ·cases hb
   ·cases hb
  rw [di]
  rw [hb2]
  exact sD hF hk h

theorem Det.point {c:bI} (h:Det c) (args:List V) (H:List Blk):aC (fun K:V×List Blk→Prop=>c args H fun v H=>K (v,H)):=fun K hk=>by
 obtain⟨v,bs,h1,h2⟩:=h.det args H _ hk
 exact⟨(v,H++bs),h1,fun K' h'=>h2 _ h'⟩

theorem aBl {E:Env} {o:Op} (h:aV E o=some 0) (σ:List V):∃F:(V→Prop)→Prop,aC F∧∀σ2 H2 (K:V→List V→List Blk→Prop),cA E o σ σ2→a7 E σ2 H2 o K=F fun v=>K v σ2 H2:=by
 cases o<;>first|(simp [aV] at h;done)|skip
 case move x=>
  refine⟨fun K=>forceV (lr E σ x) K,.forceV fun _=> .ret _,fun σ2 H2 K ha=> ?_⟩
  unfold a7
  try dsimp only
  rw [ha x (by simp [Op.operands])]
 case assign x=>
  refine⟨fun K=>forceV (lr E σ x) K,.forceV fun _=> .ret _,fun σ2 H2 K ha=> ?_⟩
  unfold a7
  try dsimp only
  rw [ha x (by simp [Op.operands])]
 case pick c a b=>
  refine⟨fun K=>match lr E σ c with| .b p=>(p→forceV (lr E σ a) K)∧(¬p→forceV (lr E σ b) K)| .bt true=>forceV (lr E σ a) K| .bt false=>forceV (lr E σ b) K|_=>False,?_,fun σ2 H2 K ha=> ?_⟩
  ·generalize lr E σ c=vc
   cases vc<;>first|exact .fls|exact .imps (.forceV fun _=> .ret _) (.forceV fun _=> .ret _)|(rename_i x;cases x<;>exact .forceV fun _=> .ret _)
  ·unfold a7
   try dsimp only
   rw [ha c (by simp [Op.operands]),ha a (by simp [Op.operands]),ha b (by simp [Op.operands])]
   rfl
 case build T ps=>
  refine⟨fun K=>evs E σ (ps.toList.map (·.2)) fun vs=>abuild E T ((ps.toList.map (·.1)).zip vs) K,.evs fun _=> .abuild,fun σ2 H2 K ha=> ?_⟩
  unfold a7
  try dsimp only
  rw [eM fun x hx=>ha.ev x (by simpa [Op.operands] using hx)]
 case unOp op T x=>
  cases op<;>first
   |(refine⟨fun _=>False,.fls,fun σ2 H2 K ha=> ?_⟩;unfold a7;rfl)
   |skip
  refine⟨fun K=>match lr E σ x with| .b p=>K (.b (¬p))| .bt true=>K (.bt false)| .bt false=>K (.bt true)|_=>False,?_,fun σ2 H2 K ha=> ?_⟩
  ·generalize lr E σ x=vc
   cases vc<;>first|exact .fls|exact .ret _|(rename_i x;cases x<;>exact .ret _)
  ·unfold a7
   try dsimp only
   rw [ha x (by simp [Op.operands])]
   rfl
 case slice T x lo hi mx=>
  have hT:lk E.ty T=some .str:=by
   simp only [aV] at h
   split at h<;>first|assumption|(simp at h;done)
  cases mx with
  |some m=>exact⟨fun _=>False,.fls,fun σ2 H2 K ha=>by unfold a7;rfl⟩
  | none=>
   refine⟨fun K=>aslice E [] T (ev E σ x) (lo.map (ev E σ)) (hi.map (ev E σ)) K,.aslice,fun σ2 H2 K ha=> ?_⟩
   unfold a7
   try dsimp only
   have h1:lo.map (ev E σ2)=lo.map (ev E σ):=by
    cases lo with
    |none=>rfl
    |some l=>simp only [Option.map_some];rw [ha.ev l (by simp [Op.operands])]
   have h2:hi.map (ev E σ2)=hi.map (ev E σ):=by
    cases hi with
    |none=>rfl
    |some l=>simp only [Option.map_some];rw [ha.ev l (by simp [Op.operands])]
   rw [ha.ev x (by simp [Op.operands]),h1,h2]
   unfold aslice
   simp only [pV]
   rw [hT]
 case convert S T x=>
  have hS:lk E.ty S≠some (.sl .u8):=fun e=>by simp [aV,e] at h
  refine⟨fun K=>aconv E S T (ev E σ x) K,.aconv,fun σ2 H2 K ha=> ?_⟩
  unfold a7
  try dsimp only
  rw [ha.ev x (by simp [Op.operands])]
  split
  ·rename_i e;exact absurd e hS
  ·rfl
 case makeFunc f fst caps=>
  cases f<;>first
   |(refine⟨fun _=>False,.fls,fun σ2 H2 K ha=> ?_⟩;unfold a7;rfl)
   |skip
  rename_i f
  refine⟨fun K=>match fst.toList with| []=>evs E σ caps.toList fun vs=>K (.fn f vs)|_=>False,?_,fun σ2 H2 K ha=> ?_⟩
  ·generalize fst.toList=l
   cases l
   ·exact .evs fun _=> .ret _
   ·exact .fls
  ·unfold a7
   try dsimp only
   have hev:=eM (E:=E) (σ:=σ) (σ2:=σ2) (l:=caps.toList) (fun x hx=>ha.ev x (by simp [Op.operands];right;simpa using hx))
   generalize fst.toList=l
   cases l
   ·exact hev _
   ·rfl
 case index T x i=>
  refine⟨fun K=>match lk E.ty T,ev E σ x,ev E σ i with|some .str,.str s,.int _ j=>(0≤j∧j<s.length)∧K (.u8 (s.getD j.toNat 0))|some (.arr n te),.dat fr t' x,.int _ j=>bif decide (t'= .arr n te)&&(Nat.beq te.size 1&& !bh te) then(0≤j∧j<n)∧forceV (cj fr t' x j.toNat) K else aidxA te n fr t' x j K|_,_,_=>False,?_,fun σ2 H2 K ha=> ?_⟩
  ·generalize ev E σ x=vc
   generalize ev E σ i=vi
   generalize lk E.ty T=r
   rcases r with _|t
   ·exact .fls
   ·cases t<;>first|exact .fls|skip
    all_goals
     cases vc<;>first|exact .fls|skip
     cases vi<;>first|exact .fls|exact .and (.ret _)|exact .bif (.and (.forceV fun _=> .ret _)) .aidxA
  ·unfold a7
   try dsimp only
   rw [ha.ev x (by simp [Op.operands]),ha.ev i (by simp [Op.operands])]
   rfl
 case field S x f=>
  refine⟨fun K=>pZ E S (ev E σ x) f K,?_,fun σ2 H2 K ha=> ?_⟩
  ·unfold pZ
   generalize lk E.ty S=r
   rcases r with _|t
   ·exact .fls
   ·cases t<;>first|exact .fls|skip
    dsimp only
    generalize rC _ f=q
    rcases q with _|⟨o1,z1⟩
    ·exact .fls
    ·dsimp only
     generalize ev E σ x=vc
     refine .bif ?_ .fls
     cases vc<;>first|exact .fls|exact .bif (.forceV fun _=> .ret _) .fls
  ·unfold a7
   try dsimp only
   rw [ha.ev x (by simp [Op.operands])]
 case extract x i=>
  refine⟨fun K=>match ev E σ x with| .tup vs=>bif Nat.blt i vs.length then forceV (aL vs i) K else False|_=>False,?_,fun σ2 H2 K ha=> ?_⟩
  ·generalize ev E σ x=vc
   cases vc<;>first|exact .fls|exact .bif (.forceV fun _=> .ret _) .fls
  ·unfold a7
   try dsimp only
   rw [ha.ev x (by simp [Op.operands])]
   rfl
 case binOp op T x y yT=>
  have hT:∀t,lk E.ty T≠some (.sl t):=fun t ht=>by simp [aV,ht] at h
  refine⟨fun K=>abinT E T op [] (ev E σ x) (ev E σ y) K,.abinT hT,fun σ2 H2 K ha=> ?_⟩
  unfold a7
  try dsimp only
  rw [ha.ev x (by simp [Op.operands]),ha.ev y (by simp [Op.operands])]
  exact Pu hT _
 case call c=>
  obtain⟨callee,args,tys⟩:=c
  cases callee<;>first|(simp [aV] at h;done)|skip
  rename_i b
  have key:∀mx:Bool,∃F:(V→Prop)→Prop,aC F∧∀σ2 H2 (K:V→List V→List Blk→Prop),cA E (.call {callee:= .builtin b,args,argTypes:=tys}) σ σ2→
    (match args.toList with| [x,y]=>V7 mx (ev E σ2 x) (ev E σ2 y) fun v=>K v σ2 H2|_=>False)=F fun v=>K v σ2 H2:=fun mx=>by
   refine⟨fun K=>match args.toList with| [x,y]=>V7 mx (ev E σ x) (ev E σ y) K|_=>False,?_,fun σ2 H2 K ha=> ?_⟩
   ·generalize args.toList=l
    rcases l with _|⟨x,_|⟨y,_|⟨z,l⟩⟩⟩<;>try exact .fls
    dsimp only
    generalize ev E σ x=vx
    generalize ev E σ y=vy
    cases vx<;>first|exact .fls|skip
    cases vy<;>first|exact .fls|(cases mx<;>exact .bif (.ret _) .fls)
   ·have hx:∀x∈args.toList,ev E σ2 x=ev E σ x:=fun x hx=>ha.ev x (by simpa [Op.operands,Call.operands] using hx)
    generalize args.toList=l at hx
    rcases l with _|⟨x,_|⟨y,_|⟨z,l⟩⟩⟩<;>try rfl
    dsimp only
    rw [hx x (by simp),hx y (by simp)]
  cases b<;>first|(simp [aV] at h;done)|exact key true|exact key false

theorem Yv {E:Env} {o:Op} (h:aV E o=some 1) (σ:List V) (H:List Blk):∃F:(V→Prop)→Prop,aC F∧∀σ2 (K:V→List V→List Blk→Prop),cA E o σ σ2→a7 E σ2 H o K=F fun v=>K v σ2 H:=by
 cases o<;>first|(simp [aV] at h;done)|skip
 case load T p=>
  refine⟨fun K=>aload E H T (ev E σ p) K,.aload,fun σ2 K ha=> ?_⟩
  unfold a7
  try dsimp only
  rw [ha.ev p (by simp [Op.operands])]
 case lookup T m k ok=>
  have hz:br E.frz 1000006=false:=by
   simp only [aV] at h
   cases hz:br E.frz 1000006 with
   |true=>rw [hz] at h;cases h
   |false=>rfl
  refine⟨fun K=>alookup E H T (ev E σ m) (ev E σ k) ok K,.alookup hz,fun σ2 K ha=> ?_⟩
  unfold a7
  try dsimp only
  rw [ha.ev m (by simp [Op.operands]),ha.ev k (by simp [Op.operands])]
 case indexAddr T x i=>
  refine⟨fun K=>aindexAddr E H T (ev E σ x) (ev E σ i) K,.aindexAddr,fun σ2 K ha=> ?_⟩
  unfold a7
  try dsimp only
  rw [ha.ev x (by simp [Op.operands]),ha.ev i (by simp [Op.operands])]
 case convert S T x=>
  have hS:lk E.ty S=some (.sl .u8):=by
   simp only [aV] at h
   split at h<;>first|assumption|(simp at h;done)
  refine⟨fun K=>match lk E.ty T with|some .str=>asRow H .u8 (ev E σ x) fun _ xs=>K (.str xs)|_=>False,?_,fun σ2 K ha=> ?_⟩
  ·generalize lk E.ty T=r
   rcases r with _|t
   ·exact .fls
   ·cases t<;>first|exact .fls|exact aC.asRow (t:= .u8) (f:=fun _ (xs:List UInt8) (K:V→Prop)=>K (V.str xs)) fun _ xs=> .ret (V.str xs)
  ·unfold a7
   try dsimp only
   rw [ha.ev x (by simp [Op.operands]),hS]
   dsimp only
   generalize lk E.ty T=r
   rcases r with _|t
   ·rfl
   ·cases t<;>rfl
 case fieldAddr T x f=>
  refine⟨fun K=>afield E H T (ev E σ x) f K,.afield,fun σ2 K ha=> ?_⟩
  unfold a7
  try dsimp only
  rw [ha.ev x (by simp [Op.operands])]
 case slice T x lo hi mx=>
  cases mx with
  |some m=>exact⟨fun _=>False,.fls,fun σ2 K ha=>by unfold a7;rfl⟩
  | none=>
   refine⟨fun K=>aslice E H T (ev E σ x) (lo.map (ev E σ)) (hi.map (ev E σ)) K,.aslice,fun σ2 K ha=> ?_⟩
   unfold a7
   try dsimp only
   have h1:lo.map (ev E σ2)=lo.map (ev E σ):=by
    cases lo with
    |none=>rfl
    |some l=>simp only [Option.map_some];rw [ha.ev l (by simp [Op.operands])]
   have h2:hi.map (ev E σ2)=hi.map (ev E σ):=by
    cases hi with
    |none=>rfl
    |some l=>simp only [Option.map_some];rw [ha.ev l (by simp [Op.operands])]
   rw [ha.ev x (by simp [Op.operands]),h1,h2]
 case binOp op T x y yT=>
  exfalso
  simp only [aV] at h
  split at h<;>simp at h
 case call c=>
  obtain⟨callee,args,tys⟩:=c
  cases callee<;>first|(simp [aV] at h;done)|skip
  rename_i b
  cases b<;>first|(simp [aV] at h;done)|skip
  refine⟨fun K=>match args.toList,tys.toList with| [x], [T]=>alenT E H T (ev E σ x) K|_,_=>False,?_,fun σ2 K ha=> ?_⟩
  ·generalize args.toList=l
   generalize tys.toList=l'
   rcases l with _|⟨x,_|⟨y,l⟩⟩<;>try exact .fls
   rcases l' with _|⟨T,_|⟨T',l'⟩⟩<;>first|exact .fls|exact .alenT
  ·unfold a7
   try dsimp only
   have hx:∀x∈args.toList,ev E σ2 x=ev E σ x:=fun x hx=>ha.ev x (by simpa [Op.operands,Call.operands] using hx)
   generalize args.toList=l at hx
   generalize tys.toList=l'
   rcases l with _|⟨x,_|⟨y,l⟩⟩<;>try rfl
   rcases l' with _|⟨T,_|⟨T',l'⟩⟩<;>try rfl
   dsimp only
   rw [hx x (by simp)]

def V.top:V→Nat→Prop
 |.own _ i,id=>i=id
 |.slc _ i _ _,id=>i=id
 |.ptr i _ _ _,id=>i=id
 |.mp _ i,id=>i=id
 |_,_=>False
def Z1 (E:Env) (o:Op) (σ:List V) (id:Nat) (b b2:Blk):Prop:=∃cs cs2,b= .cells cs∧b2= .cells cs2∧cs2.length=cs.length∧
 ((∃S x f,o= .fieldAddr S x f)∨∃T p z j o' t,o= .load T p∧ev E σ p= .ptr id z j o'∧lk E.ty T=some t∧Np t=true∧aL cs2 j=aL cs j)
def P0 (E:Env) (o:Op) (σ:List V) (H H2:List Blk):Prop:=∀x∈o.operands.toList,∀id,(ev E σ x).top id→aD H id≠ .dead→aD H2 id=aD H id∨Z1 E o σ id (aD H id) (aD H2 id)

theorem Sv {E:Env} {o:Op} (h:aV E o=some 1) {σ:List V} {H H2:List Blk} (ha:P0 E o σ H H2) {k:V→Prop} (hk:a7 E σ H o fun v _ _=>k v):a7 E σ H2 o fun v _ _=>k v:=by
 have key0:∀x∈o.operands.toList,∀id,(ev E σ x).top id→aD H id= .dead∨aD H2 id=aD H id∨Z1 E o σ id (aD H id) (aD H2 id):=fun x hx id ht=>by
  by_cases hd:aD H id= .dead
  ·exact .inl hd
  ·exact .inr (ha x hx id ht hd)
 have key:(∀S x f,o≠ .fieldAddr S x f)→(∀T p,o≠ .load T p)→∀x∈o.operands.toList,∀id,(ev E σ x).top id→aD H id= .dead∨aD H2 id=aD H id:=fun n1 n2 x hx id ht=>by
  rcases key0 x hx id ht with h|h|⟨_,_,_,_,_,⟨S,x,f,h⟩|⟨T,p,_,_,_,_,h,_⟩⟩
  ·exact .inl h
  ·exact .inr h
  ·exact absurd h (n1 S x f)
  ·exact absurd h (n2 T p)
 cases o<;>first|(simp [aV] at h;done)|skip
 case load T p=>
  have hp:=key0 p (by simp [Op.operands])
  unfold a7 at hk ⊢
  dsimp only at hk ⊢
  unfold aload at hk ⊢
  generalize hvp:ev E σ p=vp at hk hp ⊢
  generalize hr:lk E.ty T=r at hk ⊢
  cases vp<;>first|exact hk|skip
  rename_i id z i o
  rcases r with _|t
  ·exact hk.elim
  ·rcases hp id rfl with hd|he|⟨cs,cs2,e1,e2,el,⟨_,_,_,h2⟩|⟨T',p',z',j',o',t',h2,hv,ht,h1,hg⟩⟩
   ·cases t<;>dsimp only at hk<;>rw [hd] at hk<;>exact hk.elim
   ·cases t<;>dsimp only at hk ⊢<;>first|exact hk.elim|(rw [he];exact hk)
   ·cases h2
   ·injection h2 with h3 h4
    subst h3 h4
    rw [hvp] at hv
    cases hv
    rw [hr] at ht
    cases ht
    cases t<;>first|(simp [Np] at h1;done)|(dsimp only at hk ⊢;rw [e1] at hk;rw [e2];dsimp only at hk ⊢;rw [hg];exact hk)
 case lookup T m k ok=>
  have hp:=key (fun _ _ _ h=>by cases h) (fun _ _ h=>by cases h) m (by simp [Op.operands])
  unfold a7 at hk ⊢
  dsimp only at hk ⊢
  unfold alookup at hk ⊢
  generalize ev E σ m=vp at hk hp ⊢
  generalize ev E σ k=vk at hk ⊢
  generalize lk E.ty T=r at hk ⊢
  rcases r with _|t
  ·exact hk.elim
  ·cases t<;>first|exact hk.elim|skip
   cases vp<;>first|exact hk.elim|skip
   rename_i id
   cases vk<;>first|exact hk.elim|skip
   rename_i kd n
   cases kd<;>first|exact hk.elim|skip
   rcases hp id rfl with hd|he
   ·dsimp only at hk;rw [hd] at hk;exact hk.elim
   ·dsimp only at hk ⊢;rw [he];exact hk
 case indexAddr T x i=>
  have hp:=key (fun _ _ _ h=>by cases h) (fun _ _ h=>by cases h) x (by simp [Op.operands])
  unfold a7 at hk ⊢
  dsimp only at hk ⊢
  unfold aindexAddr at hk ⊢
  generalize ev E σ x=vp at hk hp ⊢
  generalize ev E σ i=vi at hk ⊢
  generalize lk E.ty T=r at hk ⊢
  rcases r with _|t
  ·exact hk.elim
  ·cases vp<;>first|exact hk|skip
   case own t0 id=>
    rcases hp id rfl with hd|he
    ·cases t<;>dsimp only at hk<;>first|exact hk.elim|(rw [hd] at hk;exact hk.elim)
    ·cases t<;>dsimp only at hk ⊢<;>first|exact hk.elim|(rw [he];exact hk)
   case slc t0 id off n=>
    rcases hp id rfl with hd|he
    ·cases t<;>dsimp only at hk<;>first|exact hk.elim|(rw [hd] at hk;exact hk.elim)
    ·cases t<;>dsimp only at hk ⊢<;>first|exact hk.elim|(rw [he];exact hk)
   case ptr id z j o=>
    rcases hp id rfl with hd|he
    ·cases t<;>dsimp only at hk<;>first|exact hk.elim|(rw [hd] at hk;exact hk.elim)
    ·cases t<;>dsimp only at hk ⊢<;>first|exact hk.elim|(rw [he];exact hk)
 case convert S T x=>
  have hp:=key (fun _ _ _ h=>by cases h) (fun _ _ h=>by cases h) x (by simp [Op.operands])
  have hS:lk E.ty S=some (.sl .u8):=by
   simp only [aV] at h
   split at h<;>first|assumption|(simp at h;done)
  unfold a7 at hk ⊢
  dsimp only at hk ⊢
  rw [hS] at hk ⊢
  dsimp only at hk ⊢
  generalize ev E σ x=vp at hk hp ⊢
  generalize lk E.ty T=r at hk ⊢
  rcases r with _|t
  ·exact hk.elim
  ·cases t<;>first|exact hk.elim|skip
   dsimp only at hk ⊢
   unfold asRow at hk ⊢
   cases vp<;>first|exact hk|skip
   case own t0 id=>
    dsimp only at hk ⊢
    rcases hp id rfl with hd|he
    ·rw [hd] at hk;exact hk.elim
    ·rw [he];exact hk
   case slc t0 id off n=>
    dsimp only at hk ⊢
    rcases hp id rfl with hd|he
    ·rw [hd] at hk;exact hk.elim
    ·rw [he];exact hk
 case fieldAddr S x f=>
  have hp:=key0 x (by simp [Op.operands])
  unfold a7 at hk ⊢
  dsimp only at hk ⊢
  unfold afield at hk ⊢
  generalize ev E σ x=vp at hk hp ⊢
  generalize lk E.ty S=r at hk ⊢
  cases vp<;>first|exact hk|skip
  rename_i id z i o
  rcases r with _|t
  ·exact hk.elim
  ·cases t<;>dsimp only at hk ⊢<;>first|exact hk.elim|skip
   rename_i t ts
   generalize rC (qR (t.cons ts) 0) f=q at hk ⊢
   rcases q with _|⟨o1,z1⟩
   ·exact hk.elim
   ·dsimp only at hk ⊢
    rcases hp id rfl with hd|he|⟨cs,cs2,e1,e2,el,_⟩
    ·rw [hd] at hk
     obtain⟨_,hk⟩:=aO hk
     exact hk.elim
    ·rw [he];exact hk
    ·rw [e1] at hk
     rw [e2]
     dsimp only at hk ⊢
     rw [el]
     exact hk
 case slice T x lo hi mx=>
  cases mx with
  |some m=>exact hk.elim
  | none=>
   have hp:=key (fun _ _ _ h=>by cases h) (fun _ _ h=>by cases h) x (by simp [Op.operands])
   unfold a7 at hk ⊢
   dsimp only at hk ⊢
   unfold aslice at hk ⊢
   simp only [pV] at hk ⊢
   generalize ev E σ x=vp at hk hp ⊢
   generalize lk E.ty T=r at hk ⊢
   rcases r with _|t
   ·exact hk.elim
   ·cases vp<;>first|exact hk|skip
    rename_i t0 id
    rcases hp id rfl with hd|he
    ·cases t<;>dsimp only at hk<;>first|exact hk.elim|(rw [hd] at hk;exact hk.elim)
    ·cases t<;>dsimp only at hk ⊢<;>first|exact hk.elim|(rw [he];exact hk)
 case binOp op T x y yT=>
  exfalso
  simp only [aV] at h
  split at h<;>simp at h
 case call c=>
  obtain⟨callee,args,tys⟩:=c
  cases callee<;>first|(simp [aV] at h;done)|skip
  rename_i b
  cases b<;>first|(simp [aV] at h;done)|skip
  have hl:∀x∈args.toList,∀id,(ev E σ x).top id→aD H id= .dead∨aD H2 id=aD H id:=fun x hx=>key (fun _ _ _ h=>by cases h) (fun _ _ h=>by cases h) x (by simpa [Op.operands,Call.operands] using hx)
  unfold a7 at hk ⊢
  dsimp only at hk ⊢
  generalize args.toList=l at hk hl ⊢
  generalize tys.toList=l' at hk ⊢
  rcases l with _|⟨x,_|⟨y,l⟩⟩<;>try exact hk.elim
  rcases l' with _|⟨T,_|⟨T',l'⟩⟩<;>first|exact hk.elim|skip
  have hp:=hl x (by simp)
  dsimp only at hk ⊢
  unfold alenT at hk ⊢
  generalize ev E σ x=vp at hk hp ⊢
  generalize lk E.ty T=r at hk ⊢
  rcases r with _|t
  ·exact hk.elim
  ·cases t<;>first|exact hk.elim|skip
   ·cases vp<;>exact hk
   ·cases vp<;>first|exact hk|skip
    rename_i t0 id
    unfold alen at hk ⊢
    dsimp only at hk ⊢
    rcases hp id rfl with hd|he
    ·rw [hd] at hk
     exact hk.elim
    ·rw [he];exact hk
   ·cases vp<;>first|exact hk|skip
    rename_i t0 id
    dsimp only at hk ⊢
    rcases hp id rfl with hd|he
    ·rw [hd] at hk
     exact hk.elim
    ·rw [he];exact hk

theorem Yu {E:Env} {o:Op} (h:aV E o=some 1) {σ:List V} {H:List Blk} {K:V→List V→List Blk→Prop} (hk:a7 E σ H o K):
  ∃v,K v σ H∧∀σ2 H2 (K':V→List V→List Blk→Prop),cA E o σ σ2→P0 E o σ H H2→K' v σ2 H2→a7 E σ2 H2 o K':=by
 obtain⟨F,hF,he⟩:=Yv h σ H
 rw [he σ K (fun _ _=>rfl)] at hk
 obtain⟨v,h1,h2⟩:=hF _ hk
 refine⟨v,h1,fun σ2 H2 K' ha hr hk'=> ?_⟩
 have e1:a7 E σ H o fun v _ _=>K' v σ2 H2:=by
  rw [he σ _ (fun _ _=>rfl)]
  exact h2 _ hk'
 have e2:=Sv h hr e1
 obtain⟨F2,_,he2⟩:=Yv h σ H2
 rw [he2 σ _ (fun _ _=>rfl)] at e2
 rw [he2 σ2 K' ha]
 exact e2

theorem Yt {E:Env} (hd:rj E) {o:Op} (h:aV E o=some 2) {σ:List V} {H:List Blk} {v:V} (hv:v.noIds=true) (hk:a7 E σ H o fun v' σ' H'=>v'=v∧H'=H):
  ∀σ2 H2 (K':V→List V→List Blk→Prop),cA E o σ σ2→Cj H H2→K' v σ2 H2→a7 E σ2 H2 o K':=by
 intro σ2 H2 K' ha hle hk'
 cases o<;>first|(simp [aV] at h;done)|skip
 case binOp op T x y yT=>
  exfalso
  simp only [aV] at h
  split at h<;>simp at h
 case convert S T x=>
  exfalso
  simp only [aV] at h
  split at h<;>simp at h
 case slice T x lo hi mx=>
  exfalso
  simp only [aV] at h
  split at h<;>simp at h
 case call c=>
  obtain⟨callee,args,tys⟩:=c
  cases callee<;>first|(simp [aV] at h;done)|skip
  case builtin b=>cases b<;>simp [aV] at h
  rename_i f
  have hef:=ha.ev f (by simp [Op.operands,Call.operands])
  have hev:=eM (E:=E) (σ:=σ) (σ2:=σ2) (l:=args.toList) (fun x hx=>ha.ev x (by simp [Op.operands,Call.operands];right;simpa using hx))
  unfold a7 at hk ⊢
  dsimp only at hk ⊢
  rw [hef]
  generalize ev E σ f=vf at hk
  cases vf<;>first|exact hk.elim|skip
  rename_i k caps
  dsimp only at hk ⊢
  generalize hlk:lk E.con k=r at hk
  rcases r with _|c
  ·exact hk.elim
  ·dsimp only at hk ⊢
   rw [hev]
   have hp:aC (fun K:List V→Prop=>evs E σ args.toList K):= .evs (f:=fun vs K=>K vs) fun vs=> .ret vs
   obtain⟨vs,h1,h2⟩:=hp _ hk
   refine h2 _ ?_
   obtain⟨hdet,hmono⟩:=hd k c hlk
   obtain⟨v1,bs,h3,h4⟩:=hdet _ _ _ h1
   have h3:=(aA _ _).1 ((aR _ _).1 h3)
   have e1:c (vs++caps) H fun v' H'=>v'=v∧H'=H:=h4 _ h3
   have e2:=hmono _ _ _ _ hle hv e1
   obtain⟨v2,bs2,⟨h5,h6⟩,h7⟩:=hdet _ _ _ e2
   refine h7 _ ?_
   rw [h6,h5]
   exact(aR _ _).2 ((aA _ _).2 hk')

theorem aBk {E:Env} (hd:rj E) {o:Op} (h:aV E o=some 2) (σ:List V) (H:List Blk):∃F:(V×List Blk→Prop)→Prop,aC F∧(∀K,F K→∃v bs,K (v,H++bs)∧∀K':V×List Blk→Prop,K' (v,H++bs)→F K')∧∀σ2 (K:V→List V→List Blk→Prop),cA E o σ σ2→a7 E σ2 H o K=F fun p=>K p.1 σ2 p.2:=by
 cases o<;>first|(simp [aV] at h;done)|skip
 case binOp op T x y yT=>
  exfalso
  simp only [aV] at h
  split at h<;>simp at h
 case convert S T x=>
  exfalso
  simp only [aV] at h
  split at h<;>simp at h
 case slice T x lo hi mx=>
  exfalso
  simp only [aV] at h
  split at h<;>simp at h
 case call c=>
  obtain⟨callee,args,tys⟩:=c
  cases callee<;>first|(simp [aV] at h;done)|skip
  case builtin b=>cases b<;>simp [aV] at h
  rename_i f
  let F:(V×List Blk→Prop)→Prop:=fun K=>match ev E σ f with
   |.fn k caps=>match lk E.con k with
    |some c=>evs E σ args.toList fun vs=>c (vs++caps) H fun v H=>forceV v fun v=>forceL H fun H=>K (v,H)
    |none=>False
   |_=>False
  have key:∀K,F K→∃v bs,K (v,H++bs)∧∀K':V×List Blk→Prop,K' (v,H++bs)→F K':=by
   intro K hF
   simp only [F] at hF ⊢
   generalize ev E σ f=vf at hF
   cases vf<;>first|exact hF.elim|skip
   rename_i k caps
   dsimp only at hF ⊢
   generalize hk:lk E.con k=r at hF
   rcases r with _|c
   ·exact hF.elim
   ·dsimp only at hF ⊢
    have hp:aC (fun K:List V→Prop=>evs E σ args.toList K):= .evs (f:=fun vs K=>K vs) fun vs=> .ret vs
    obtain⟨vs,h1,h2⟩:=hp _ hF
    obtain⟨v,bs,h3,h4⟩:=(hd k c hk).det _ _ _ h1
    exact⟨v,bs,(aA _ _).1 ((aR _ _).1 h3),fun K' h'=>h2 _ (h4 _ ((aR _ _).2 ((aA _ _).2 h')))⟩
  refine⟨F,fun K hF=> ?_,key,fun σ2 K ha=> ?_⟩
  ·obtain⟨v,bs,h1,h2⟩:=key K hF
   exact⟨_,h1,h2⟩
  ·unfold a7
   try dsimp only
   rw [ha.ev f (by simp [Op.operands,Call.operands])]
   simp only [F]
   have hev:=eM (E:=E) (σ:=σ) (σ2:=σ2) (l:=args.toList) (fun x hx=>ha.ev x (by simp [Op.operands,Call.operands];right;simpa using hx))
   generalize ev E σ f=vf
   cases vf<;>first|rfl|skip
   rename_i k caps
   dsimp only
   generalize lk E.con k=r
   rcases r with _|c
   ·rfl
   ·exact hev _

theorem Ys {E:Env} {o:Op} (h:aV E o=some 3∨aV E o=some 5) (σ:List V) (H:List Blk):∃F:(V×List Blk→Prop)→Prop,aC F∧∀σ2 (K:V→List V→List Blk→Prop),cA E o σ σ2→a7 E σ2 H o K=F fun p=>K p.1 σ2 p.2:=by
 cases o<;>first|(simp [aV] at h;done)|skip
 case alloc T=>
  exact⟨fun K=>aalloc E H T fun v H=>K (v,H),.aalloc,fun σ2 K ha=>by unfold a7;rfl⟩
 case box T x=>
  refine⟨fun K=>forceV (ev E σ x) fun v=>abox E H T v fun v H=>K (v,H),.forceV fun _=> .abox,fun σ2 K ha=> ?_⟩
  unfold a7
  try dsimp only
  rw [ha.ev x (by simp [Op.operands])]
 case buildSlice T n ps=>
  refine⟨fun K=>bif qp ps.toList 0 n&&Nat.ble n 1000 then evs E σ (ps.toList.map (·.2)) fun vs=>abuildSlice E H T vs fun v H=>K (v,H) else False,.bif (.evs fun _=> .abuildSlice) .fls,fun σ2 K ha=> ?_⟩
  unfold a7
  try dsimp only
  rw [eM fun x hx=>ha.ev x (by simpa [Op.operands] using hx)]
 case store T p x=>
  refine⟨fun K=>forceV (ev E σ x) fun v=>astore E H T (ev E σ p) v fun H=>K (.undef,H),.forceV fun v=> ?_,fun σ2 K ha=> ?_⟩
  ·exact aC.bind (g:=fun H K=>K (V.undef,H)) .astore fun H=> .ret _
  ·unfold a7
   try dsimp only
   rw [ha.ev x (by simp [Op.operands]),ha.ev p (by simp [Op.operands])]
 case mapUpdate T m k x=>
  refine⟨fun K=>forceV (ev E σ x) fun v=>amapUpdate E H T (ev E σ m) (ev E σ k) v fun H=>K (.undef,H),.forceV fun v=> ?_,fun σ2 K ha=> ?_⟩
  ·exact aC.bind (g:=fun H K=>K (V.undef,H)) .amapUpdate fun H=> .ret _
  ·unfold a7
   try dsimp only
   rw [ha.ev x (by simp [Op.operands]),ha.ev m (by simp [Op.operands]),ha.ev k (by simp [Op.operands])]
 case makeSlice T l c=>
  refine⟨fun K=>match lk E.ty T,ev E σ l,ev E σ c with
   |some (.sl t),.int _ n,.int _ m=>bif br E.frz 1000000&&ql t then(n=m∧0≤n∧n≤1000)∧forceL (List.replicate n.toNat V.nils) fun cs=>forceL (H++ [.cells cs]) fun H'=>K (.own t H.length,H') else(n=m∧0≤n∧n≤1000000000)∧forceL (H++ [.row true t (List.replicate n.toNat t.dflt)]) fun H'=>K (.own t H.length,H')
   |_,_,_=>False,?_,fun σ2 K ha=> ?_⟩
  ·generalize ev E σ l=vc
   generalize ev E σ c=vi
   generalize lk E.ty T=r
   rcases r with _|t
   ·exact .fls
   ·cases t<;>first|exact .fls|skip
    cases vc<;>first|exact .fls|skip
    cases vi<;>first|exact .fls|(dsimp only;cases (br E.frz 1000000&&ql _)<;>first|exact .and (.forceL fun _=> .ret _)|exact .and (.forceL fun _=> .forceL fun _=> .ret _))
  ·unfold a7
   try dsimp only
   rw [ha.ev l (by simp [Op.operands]),ha.ev c (by simp [Op.operands])]
   rfl
 case binOp op T x y yT=>
  exfalso
  simp only [aV] at h
  split at h<;>simp at h
 case convert S T x=>
  exfalso
  simp only [aV] at h
  split at h<;>simp at h
 case slice T x lo hi mx=>
  exfalso
  simp only [aV] at h
  split at h<;>simp at h
 case call c=>
  obtain⟨callee,args,tys⟩:=c
  cases callee<;>first|(simp [aV] at h;done)|skip
  rename_i b
  cases b<;>simp [aV] at h

theorem zV {E:Env} {o:Op} {k:Nat} (h:aV E o=some k):k≤5:=by
 unfold aV at h
 split at h<;>first|(split at h<;>simp at h<;>omega)|(simp at h<;>omega)

theorem zp {E:Env} {o:Op} {σ:List V} {H:List Blk} {K:V→List V→List Blk→Prop} (h:rc E σ H o K):
  ∃v,K v σ H∧∀σ2 H2 (K':V→List V→List Blk→Prop),cA E o σ σ2→K' v σ2 H2→rc E σ2 H2 o K':=by
 cases o<;>first|exact h.elim|skip
 case makeSlice T l m=>
  unfold rc at h
  dsimp only at h
  generalize hT:lk E.ty T=r at h
  generalize hl:ev E σ l=vl at h
  generalize hm:ev E σ m=vm at h
  split at h<;>first|exact h.elim|skip
  refine⟨_,h.2,fun σ2 H2 K' ha hk=> ?_⟩
  unfold rc
  dsimp only
  rw [ha.ev l (by simp [Op.operands]),ha.ev m (by simp [Op.operands]),hT,hl,hm]
  exact⟨h.1,hk⟩
 rename_i T n ps
 have hp:aC (fun K:V→Prop=>bif qp ps.toList 0 n then evs E σ (ps.toList.map (·.2)) fun vs=>(match lk E.ty T with
  |some (.sl t)=>bif Nat.ble (vs.length*t.size) 16777216 then asEls t vs fun f xs=>K (.sl (t.flat||f) t xs) else False
  |_=>False) else False):= .bif (.evs fun vs=>by
   generalize lk E.ty T=r
   rcases r with _|t
   ·exact .fls
   ·cases t<;>first|exact .fls|exact .bif (.asEls fun f xs=> .ret _) .fls) .fls
 obtain⟨v,h1,h2⟩:=hp (fun v=>K v σ H) h
 refine⟨v,h1,fun σ2 H2 K' ha hk=> ?_⟩
 have:=h2 (fun v=>K' v σ2 H2) hk
 unfold rc
 dsimp only
 rw [eM fun x hx=>ha.ev x (by simpa [Op.operands] using hx)]
 exact this

def bJ (kd:Option Nat) (σ:List V):List V:=match kd with|some id=>ak id σ|none=>σ
theorem Bi {n:Nat}:∀{l:List Nat},br l n=true→n∈l
 |[],h=>by cases h
 |x::l,h=>by
  unfold br at h
  cases e:Nat.beq x n with
  |true=>rw [Nat.eq_of_beq_eq_true e];exact List.mem_cons_self
  |false=>rw [e] at h;exact List.mem_cons_of_mem _ (Bi (by simpa using h))
theorem nR {id:Nat} {X:List Nat}:∀(n i0:Nat) (H:List Blk) {i:Nat},qV id X n i0 H=true→i<n→¬i0+i∈X→ci id (aD H i)=aD H i
 |0,_,_,i,_,hi,_=>by omega
 |n+1,_, [],i,_,_,_=>by cases i<;>rfl
 | n+1,i0,b::H,i,h,hi,hm=>by
  unfold qV at h
  rw [Bool.and_eq_true] at h
  cases i with
  |succ i=>exact nR n (i0+1) H h.2 (by omega) (by rw [show i0+1+i=i0+(i+1) by omega];exact hm)
  | zero=>
   have hX:br X i0=false:=by
    cases e:br X i0 with
    |false=>rfl
    |true=>exact absurd (Bi e) (by simpa using hm)
   rw [hX,Bool.false_or] at h
   show ci id b=b
   cases b with
   | cells cs=>
    have h1:V.mentionsL id cs=false:=by simpa using h.1
    show Blk.cells (ak id cs)= .cells cs
    congr 1
    clear h
    induction cs with
    |nil=>rfl
    |cons x cs ih=>
     rw [V.mentionsL,Bool.or_eq_false_iff] at h1
     rw [ak,h1.1,ih h1.2];rfl
   | mit mid k s l=>
    cases mid with
    |none=>rfl
    |some mid=>
     have h1:Nat.beq mid id=false:=by simpa using h.1
     show Blk.mit (bif Nat.beq mid id then none else some mid) k s l=_
     rw [h1];rfl
   |_=>rfl

def ft (kd:Option Nat) (b:Blk):Blk:=match kd with|some id=>ci id b|none=>b
theorem oV {kd:Option Nat} {b:Blk} (h:∀id,kd=some id→ci id b=b):ft kd b=b:=by
 cases kd with
 |none=>rfl
 |some id=>exact h id rfl
theorem zf {E:Env} {σ:List V} {H:List Blk} {T:TypeId} {x y:V} {K:V→List V→List Blk→Prop} (h:aappend E σ H T x y K):
  ∃v kd H1,K v (bJ kd σ) H1∧(∀id,kd=some id→∃t,x= .own t id)∧(∀i,i<H.length→(∀id,kd=some id→i≠id)→aD H1 i=ft kd (aD H i))∧(H.length≤H1.length∧∀i,i<H.length→aD H i= .dead→aD H1 i= .dead)∧
   ∀σ2 (K':V→List V→List Blk→Prop),K' v (bJ kd σ2) H1→aappend E σ2 H T x y K':=by
 unfold aappend at h
 split at h
 ·rename_i t hT
  have hp:aC (fun K:Bool×List t.D→Prop=>asRow H t y fun f ys=>(ys.length≤1000000000)∧K (f,ys)):= .asRow fun b l=> .and (.ret _)
  obtain⟨⟨f,ys⟩,h1,h2⟩:=hp (fun p=>forceL (H++ [.row p.1 t p.2]) (K (.own t H.length) σ)) h
  simp only [aA] at h1
  refine⟨_,none,_,h1,fun id e=>(by cases e),fun i hi _=>(by rw [aP,if_neg (by omega)]:aD _ i=aD H i),⟨by simp,fun i hi hd=>by rw [aP,if_neg (by omega)];exact hd⟩,fun σ2 K' hk=> ?_⟩
  unfold aappend
  rw [hT]
  exact h2 (fun p=>forceL (H++ [.row p.1 t p.2]) (K' (.own t H.length) σ2)) (by simp only [aA];exact hk)
 ·rename_i t t0 id hT
  split at h
  ·rename_i fr t' xs hb
   obtain⟨ht,h⟩:=h
   have hp:aC (fun K:List t.D×Bool×List t.D→Prop=>castK xs fun xs=>asRow H t y fun f ys=>(xs.length+ys.length≤1000000000)∧K (xs,f,ys)):= .castK fun l=> .asRow fun b l=> .and (.ret _)
   obtain⟨⟨xs2,f,ys⟩,h1,h2⟩:=hp (fun p=>forceL (ak id σ) fun σ=>forceL (aH (bD id H) id (.row (fr&&p.2.1) t (p.1++p.2.2))) (K (.own t id) σ)) h
   simp only [aA] at h1
   refine⟨_,some id,_,h1,fun id' e=>(by cases e;exact⟨_,rfl⟩),fun i hi hne=> ?_,⟨by rw [aM,an];exact Nat.le_refl _,fun i hi hd=>by rw [aG,if_neg (fun e=>by rw [e.1,hb] at hd;cases hd),bH,hd];rfl⟩,fun σ2 K' hk=> ?_⟩
   ·have g1:=hne id rfl
    show _=ci id (aD H i)
    rw [aG,if_neg (fun e=>g1 e.1),bH]
   ·unfold aappend
    rw [hT]
    dsimp only
    rw [hb]
    exact⟨ht,h2 (fun p=>forceL (ak id σ2) fun σ=>forceL (aH (bD id H) id (.row (fr&&p.2.1) t (p.1++p.2.2))) (K' (.own t id) σ)) (by simp only [aA];exact hk)⟩
  ·exact h.elim
 ·exact h.elim

theorem xu {E:Env} {σ:List V} {H:List Blk} {T:TypeId} {x y:V} {K:V→List V→List Blk→Prop} (h:aappendC E σ H T x y K):
  ∃v kd H1,K v (bJ kd σ) H1∧(∀id,kd=some id→∃t,x= .own t id)∧(∀i,i<H.length→(∀id,kd=some id→i≠id)→aD H1 i=ft kd (aD H i))∧(H.length≤H1.length∧∀i,i<H.length→aD H i= .dead→aD H1 i= .dead)∧
   ∀σ2 (K':V→List V→List Blk→Prop),K' v (bJ kd σ2) H1→aappendC E σ2 H T x y K':=by
 unfold aappendC at h
 split at h
 ·rename_i t t2 id2 hT
  split at h
  ·rename_i ds hb
   obtain⟨ht,h⟩:=h
   simp only [aA] at h
   refine⟨_,none,_,h,fun id e=>(by cases e),fun i hi _=>(by rw [aP,if_neg (by omega)]:aD _ i=aD H i),⟨by simp,fun i hi hd=>by rw [aP,if_neg (by omega)];exact hd⟩,fun σ2 K' hk=> ?_⟩
   unfold aappendC
   rw [hT]
   dsimp only
   rw [hb]
   exact⟨ht,by simp only [aA];exact hk⟩
  ·exact h.elim
 ·rename_i t t0 id t2 id2 hT
  split at h
  ·rename_i cs ds hb1 hb2
   obtain⟨ht,h⟩:=h
   simp only [aA] at h
   refine⟨_,some id,_,h,fun id' e=>(by cases e;exact⟨_,rfl⟩),fun i hi hne=> ?_,⟨by rw [aM,an];exact Nat.le_refl _,fun i hi hd=>by rw [aG,if_neg (fun e=>by rw [e.1,hb1] at hd;cases hd),bH,hd];rfl⟩,fun σ2 K' hk=> ?_⟩
   ·have g1:=hne id rfl
    show _=ci id (aD H i)
    rw [aG,if_neg (fun e=>g1 e.1),bH]
   ·unfold aappendC
    rw [hT]
    dsimp only
    rw [hb1,hb2]
    exact⟨ht,by simp only [aA];exact hk⟩
  ·exact h.elim
 ·exact h.elim
theorem xw {E:Env} {σ:List V} {H:List Blk} {T:TypeId} {x y:V} {K:V→List V→List Blk→Prop} (h:aappendB E σ H T x y K):
  ∃v kd H1,K v (bJ kd σ) H1∧(∀id,kd=some id→∃t,x= .own t id)∧(∀i,i<H.length→(∀id,kd=some id→i≠id)→aD H1 i=ft kd (aD H i))∧(H.length≤H1.length∧∀i,i<H.length→aD H i= .dead→aD H1 i= .dead)∧
   ∀σ2 (K':V→List V→List Blk→Prop),K' v (bJ kd σ2) H1→aappendB E σ2 H T x y K':=by
 simp only [di] at h ⊢
 cases hb:dL H y with
 |true=>rw [hb] at h;exact xu h
 |false=>rw [hb] at h;exact zf h

theorem xq {E:Env} {σ:List V} {H:List Blk} {T:TypeId} {x y:V} {K:V→List V→List Blk→Prop} (h:aappendZ E σ H T x y K):
  ∃v kd H1,K v (bJ kd σ) H1∧(∀id,kd=some id→∃t,x= .own t id)∧(∀i,i<H.length→(∀id,kd=some id→i≠id)→aD H1 i=ft kd (aD H i))∧(H.length≤H1.length∧∀i,i<H.length→aD H i= .dead→aD H1 i= .dead)∧
   ∀σ2 (K':V→List V→List Blk→Prop),K' v (bJ kd σ2) H1→aappendZ E σ2 H T x y K':=by
 unfold aappendZ at h
 split at h
 ·rename_i t t0 id ky n hT
  split at h
  ·rename_i fr t' xs hb
   obtain⟨ht,h⟩:=h
   have hp:aC (fun K:List t.D→Prop=>castK xs fun xs=>(0<n∧xs.length+n.toNat≤1000000000)∧K xs):= .castK fun l=> .and (.ret _)
   obtain⟨xs2,h1,h2⟩:=hp (fun p=>forceL (ak id σ) fun σ=>forceL (aH (bD id H) id (.row fr t (p++List.replicate n.toNat t.dflt))) (K (.own t id) σ)) h
   simp only [aA] at h1
   refine⟨_,some id,_,h1,fun id' e=>(by cases e;exact⟨_,rfl⟩),fun i hi hne=> ?_,⟨by rw [aM,an];exact Nat.le_refl _,fun i hi hd=>by rw [aG,if_neg (fun e=>by rw [e.1,hb] at hd;cases hd),bH,hd];rfl⟩,fun σ2 K' hk=> ?_⟩
   ·have g1:=hne id rfl
    show _=ci id (aD H i)
    rw [aG,if_neg (fun e=>g1 e.1),bH]
   ·unfold aappendZ
    rw [hT]
    dsimp only
    rw [hb]
    exact⟨ht,h2 (fun p=>forceL (ak id σ2) fun σ=>forceL (aH (bD id H) id (.row fr t (p++List.replicate n.toNat t.dflt))) (K' (.own t id) σ)) (by simp only [aA];exact hk)⟩
  ·exact h.elim
 ·exact h.elim

theorem Ut {E:Env} {o:Op} (hc:aV E o=some 4) {σ:List V} {H:List Blk} {K:V→List V→List Blk→Prop} (h:a7 E σ H o K):
  ∃v kd H1,K v (bJ kd σ) H1∧(∀id,kd=some id→fK E σ o=some id)∧(∀i,i<H.length→(∀id,kd=some id→i≠id)→aD H1 i=ft kd (aD H i))∧(H.length≤H1.length∧∀i,i<H.length→aD H i= .dead→aD H1 i= .dead)∧
   ∀σ2 (K':V→List V→List Blk→Prop),cA E o σ σ2→K' v (bJ kd σ2) H1→a7 E σ2 H o K':=by
 cases o<;>first|(simp [aV] at hc;done)|skip
 case convert S T x=>
  exfalso
  simp only [aV] at hc
  split at hc<;>simp at hc
 case slice T x lo hi mx=>
  exfalso
  simp only [aV] at hc
  split at hc<;>simp at hc
 case binOp op T x y yT=>
  exfalso
  simp only [aV] at hc
  split at hc<;>simp at hc
 case call c=>
  obtain⟨callee,args,tys⟩:=c
  cases callee<;>first|(simp [aV] at hc;done)|skip
  rename_i b
  cases b<;>first|(simp [aV] at hc;done)|skip
  have hop:∀z∈args.toList,z∈(Op.call ⟨.builtin .append,args,tys⟩).operands.toList:=fun z hz=>by simp [Op.operands,Call.operands];simpa using hz
  unfold a7 at h
  simp only [fK]
  dsimp only at h
  have key:∀l l',args.toList=l→tys.toList=l'→(match l,l' with| [x,y], [T,T']=>bif Nat.beq T T' then aappendB E σ H T (ev E σ x) (ev E σ y) K else bif qm E T' then aappendZ E σ H T (ev E σ x) (ev E σ y) K else False|_,_=>False)→
   ∃v kd H1,K v (bJ kd σ) H1∧(∀id,kd=some id→(match l with|x::_=>(match ev E σ x with| .own _ id=>some id|_=>none)|_=>none)=some id)∧
    (∀i,i<H.length→(∀id,kd=some id→i≠id)→aD H1 i=ft kd (aD H i))∧(H.length≤H1.length∧∀i,i<H.length→aD H i= .dead→aD H1 i= .dead)∧
    ∀σ2 (K':V→List V→List Blk→Prop),cA E (Op.call ⟨.builtin .append,args,tys⟩) σ σ2→K' v (bJ kd σ2) H1→(match l,l' with| [x,y], [T,T']=>bif Nat.beq T T' then aappendB E σ2 H T (ev E σ2 x) (ev E σ2 y) K' else bif qm E T' then aappendZ E σ2 H T (ev E σ2 x) (ev E σ2 y) K' else False|_,_=>False):=by
   intro l l' hl hl' h
   rcases l with _|⟨x,_|⟨y,_|⟨z,l⟩⟩⟩<;>first|exact h.elim|skip
   rcases l' with _|⟨T,_|⟨T',_|⟨T'',l'⟩⟩⟩<;>first|exact h.elim|skip
   dsimp only at h
   cases hb:Nat.beq T T' with
   | true=>
    rw [hb] at h
    obtain⟨v,kd,H1,h1,h2,h3,hl4,h4⟩:=xw h
    refine⟨v,kd,H1,h1,fun id e=> ?_,h3,hl4,fun σ2 K' ha hk=> ?_⟩
    ·obtain⟨t,e⟩:=h2 id e
     dsimp only
     rw [e]
    ·dsimp only
     rw [hb,ha.ev x (hop x (by rw [hl];simp)),ha.ev y (hop y (by rw [hl];simp))]
     exact h4 σ2 K' hk
   | false=>
    rw [hb] at h
    simp only [cond_false] at h
    obtain⟨hi,h⟩:=aO h
    obtain⟨v,kd,H1,h1,h2,h3,hl4,h4⟩:=xq h
    refine⟨v,kd,H1,h1,fun id e=> ?_,h3,hl4,fun σ2 K' ha hk=> ?_⟩
    ·obtain⟨t,e⟩:=h2 id e
     dsimp only
     rw [e]
    ·dsimp only
     rw [hb,hi,ha.ev x (hop x (by rw [hl];simp)),ha.ev y (hop y (by rw [hl];simp))]
     exact h4 σ2 K' hk
  obtain⟨v,kd,H1,h1,h2,h3,hl4,h4⟩:=key _ _ rfl rfl h
  refine⟨v,kd,H1,h1,h2,h3,hl4,fun σ2 K' ha hk=> ?_⟩
  unfold a7
  dsimp only
  exact h4 σ2 K' ha hk
theorem pW {E:Env} {o:Op} {k:Nat} (h:aU E o=some k):k≤6:=by
 unfold aU at h
 cases hv:jR E o with
 |true=>rw [hv] at h;simp only [cond_true,Option.some.injEq] at h;omega
 | false=>
  cases ha:cy E o with
  |true=>rw [hv,ha] at h;simp only [cond_true,cond_false,Option.some.injEq] at h;omega
  |false=>
   cases hs:V1 E o with
   |true=>rw [hv,ha,hs] at h;simp only [cond_true,cond_false,Option.some.injEq] at h;omega
   |false=>rw [hv,ha,hs] at h;have:=zV (show aV E o=some k from h);omega

theorem Ar {E:Env} (hd:rj E) {o:Op} {c:Nat} (hc:aV E o=some c) (h2:2≤c) (ha:cy E o=false) {F:Nat→Option Blk} {H:List Blk} (hF:Fok F H) {σ:List V} {K K2:V→List V→List Blk→Prop} (hk:∀v σ' H1,K v σ' H1→K2 v σ' (ah F H1))
  (h:a7 E σ H o K):a7 E σ (ah F H) o K2:=by
 cases o<;>first|(simp [aV] at hc;done)|(simp [aV] at hc;omega)|skip
 case alloc T=>simp [cy] at ha
 case box T x=>
  unfold a7 at h ⊢
  dsimp only at h ⊢
  simp only [aR] at h ⊢
  exact E3 hF (fun v H1 h=>hk _ _ _ h) h
 case buildSlice T n ps=>
  unfold a7 at h ⊢
  dsimp only at h ⊢
  obtain⟨hb,h⟩:=aO h
  rw [hb]
  simp only [cond_true]
  have hp:aC (fun K:List V→Prop=>evs E σ (ps.toList.map (·.2)) K):= .evs (f:=fun vs K=>K vs) fun vs=> .ret vs
  exact hp.up h fun vs h=>oD hF (fun v H1 h=>hk _ _ _ h) h
 case store T p x=>
  unfold a7 at h ⊢
  dsimp only at h ⊢
  simp only [aR] at h ⊢
  exact xh hF (fun H1 h=>hk _ _ _ h) h
 case mapUpdate T m k x=>
  unfold a7 at h ⊢
  dsimp only at h ⊢
  simp only [aR] at h ⊢
  exact oz hF (fun H1 h=>hk _ _ _ h) h
 case makeSlice T l c=>
  unfold a7 at h ⊢
  dsimp only at h ⊢
  simp only [ab,da hF]
  split at h<;>first|exact h.elim|skip
  revert h
  cases (br E.frz 1000000&&ql _) with
  |true=>exact fun h=>⟨h.1,(aA _ _).2 ((aA _ _).2 (hk _ _ _ ((aA _ _).1 ((aA _ _).1 h.2))))⟩
  |false=>exact fun h=>⟨h.1,(aA _ _).2 (hk _ _ _ ((aA _ _).1 h.2))⟩
 case convert S T x=>
  exfalso
  simp only [aV] at hc
  split at hc<;>simp at hc<;>omega
 case slice T x lo hi mx=>
  exfalso
  simp only [aV] at hc
  split at hc<;>simp at hc<;>omega
 case binOp op T x y yT=>
  exfalso
  simp only [aV] at hc
  split at hc<;>simp at hc
  omega
 case call c=>
  obtain⟨callee,args,tys⟩:=c
  cases callee<;>first|(simp [aV] at hc;done)|skip
  case value f=>
   unfold a7 at h ⊢
   dsimp only at h ⊢
   split at h<;>first|exact h.elim|skip
   rename_i k caps hf
   split at h<;>first|exact h.elim|skip
   rename_i con hlk
   have hp:aC (fun K:List V→Prop=>evs E σ args.toList K):= .evs (f:=fun vs K=>K vs) fun vs=> .ret vs
   refine hp.up h fun vs h=> ?_
   refine(hd k con hlk).fill _ _ F _ _ hF (fun v H1 h=> ?_) h
   exact(aR _ _).2 ((aA _ _).2 (hk _ _ _ ((aA _ _).1 ((aR _ _).1 h))))
  rename_i b
  cases b<;>first|(simp [aV] at hc;done)|(simp [aV] at hc;omega)|skip
  unfold a7 at h ⊢
  dsimp only at h ⊢
  split at h<;>first|exact h.elim|skip
  rename_i T T' _ _
  cases hb:Nat.beq T T' with
  |true=>rw [hb] at h;exact sE hF hk h
  |false=>
   rw [hb] at h
   simp only [cond_false] at h ⊢
   obtain⟨hi,h⟩:=aO h
   rw [hi]
   exact sC hF hk h
theorem Pi {E:Env} {r:Nat} {o:Op} {σ:List V} {H:List Blk} {K:V→List V→List Blk→Prop} (h:lm E r σ H o K):
  ∃v z,K v σ (aH H r z)∧(∀k,ci k z=z)∧∀σ2 H2 (K':V→List V→List Blk→Prop),cA E o σ σ2→aD H2 r= .dead→r<H2.length→K' v σ2 (aH H2 r z)→lm E r σ2 H2 o K':=by
 cases o<;>first|exact h.elim|skip
 case buildSlice T n ps=>
  unfold lm at h
  dsimp only at h
  split at h<;>first|exact h.elim|skip
  obtain⟨hrl,h⟩:=aO h
  obtain⟨v,h1,h2⟩:=zp h
  cases v<;>first|exact h1.elim|skip
  rename_i f t xs
  dsimp only at h1
  simp only [aA] at h1
  refine⟨_,_,h1,fun k=>rfl,fun σ2 H2 K' ha g1 g2 hk=> ?_⟩
  unfold lm
  dsimp only
  rw [g1,show Nat.blt r H2.length=true by simpa using g2]
  simp only [cond_true]
  refine h2 σ2 H2 _ ha ?_
  dsimp only
  simp only [aA]
  exact hk
 case makeSlice T l m=>
  unfold lm at h
  dsimp only at h
  split at h<;>first|exact h.elim|skip
  obtain⟨hrl,h⟩:=aO h
  generalize hT:lk E.ty T=r' at h
  generalize hl:ev E σ l=vl at h
  generalize hm:ev E σ m=vm at h
  split at h<;>first|exact h.elim|skip
  have hk0:=(aA _ _).1 h.2
  refine⟨_,_,hk0,fun k=>rfl,fun σ2 H2 K' ha g1 g2 hk=> ?_⟩
  unfold lm
  dsimp only
  rw [g1,show Nat.blt r H2.length=true by simpa using g2,ha.ev l (by simp [Op.operands]),ha.ev m (by simp [Op.operands]),hT,hl,hm]
  exact⟨h.1,(aA _ _).2 hk⟩
 rename_i T
 unfold lm at h
 dsimp only at h
 split at h<;>first|exact h.elim|skip
 obtain⟨hrl,h⟩:=aO h
 have zv:∀(k:Nat) (t:Ty),ak k (cK t)=cK t:=fun k t=>by
  have:∀t:Ty,∀v∈cK t,v.mentions k=false:=by
   intro t
   induction t with
   |cons t ts h1 h2=>
    intro v hv
    rcases List.mem_append.1 (show v∈cK t++cK ts from hv) with h|h
    ·exact h1 v h
    ·exact h2 v h
   |nil=>intro v hv;simp [cK] at hv
   |arr n t ih=>
    intro v hv
    simp only [cK,List.mem_flatten] at hv
    obtain⟨l,hl,hv⟩:=hv
    rw [List.eq_of_mem_replicate hl] at hv
    exact ih v hv
   |_=>intro v hv;simp [cK] at hv;subst hv;rfl
  have go:∀l:List V,(∀v∈l,v.mentions k=false)→ak k l=l:=by
   intro l
   induction l with
   |nil=>intro _;rfl
   |cons x l ih=>
    intro hl
    rw [ak,hl x (by simp),ih fun v hv=>hl v (by simp [hv])];rfl
  exact go _ (this t)
 generalize hT:lk E.ty T=r at h
 rcases r with _|t
 ·exact h.elim
 have other:(bif Nat.blt 0 t.size then forceL (cK t) fun cs=>forceL (aH H r (.cells cs)) (K (.ptr r 1 0 0) σ) else False)→(∀n t',t≠ .arr n t')→∃v z,K v σ (aH H r z)∧(∀k,ci k z=z)∧∀σ2 H2 (K':V→List V→List Blk→Prop),cA E (.alloc T) σ σ2→aD H2 r= .dead→r<H2.length→K' v σ2 (aH H2 r z)→lm E r σ2 H2 (.alloc T) K':=fun h hne=>by
  obtain⟨hb,h⟩:=aO h
  simp only [aA] at h
  refine⟨_,_,h,fun k=>congrArg Blk.cells (zv k t),fun σ2 H2 K' _ h1 h2 hk=> ?_⟩
  unfold lm
  dsimp only
  rw [h1,show Nat.blt r H2.length=true by simpa using h2,hT]
  simp only [cond_true]
  cases t<;>first|(exact absurd rfl (hne _ _))|((try dsimp only);rw [hb];simp only [cond_true,aA];exact hk)
 cases t<;>first|exact other h (fun n t' e=>by cases e)|skip
 dsimp only at h
 obtain⟨hb,h⟩:=aO h
 simp only [aA] at h
 refine⟨_,_,h,fun k=>rfl,fun σ2 H2 K' _ h1 h2 hk=> ?_⟩
 unfold lm
 dsimp only
 rw [h1,show Nat.blt r H2.length=true by simpa using h2,hT]
 simp only [cond_true]
 rw [hb]
 simp only [cond_true,aA]
 exact hk

theorem xr {E:Env} {σ:List V} {H:List Blk} {T:TypeId} {x y:V} {K:V→List V→List Blk→Prop} (h:eC E σ H T x y K):
  ∃v kd H1,K v (bJ kd σ) H1∧(∀id,kd=some id→∃t,x= .own t id)∧(∀i,i<H.length→(∀id,kd=some id→i≠id)→aD H1 i=ft kd (aD H i))∧(H.length≤H1.length∧∀i,i<H.length→aD H i= .dead→aD H1 i= .dead)∧
   ∀σ2 F (K':V→List V→List Blk→Prop),Fok F H→K' v (bJ kd σ2) (ah F H1)→eC E σ2 (ah F H) T x y K':=by
 unfold eC at h
 generalize hT:lk E.ty T=r at h
 rcases r with _|t
 ·exact h.elim
 cases t<;>first|exact h.elim|skip
 rename_i t
 cases x<;>first|exact h.elim|skip
 case nils=>
  have hp:aC (fun K:Bool×List t.D→Prop=>asRow H t y fun f ys=>(ys.length≤1000000000)∧K (f,ys)):= .asRow fun b l=> .and (.ret _)
  obtain⟨⟨f,ys⟩,h1,h2⟩:=hp (fun p=>forceL (H++ [.dead]) (K (.sl p.1 t p.2) σ)) h
  simp only [aA] at h1
  refine⟨_,none,_,h1,fun id e=>(by cases e),fun i hi _=>(by rw [aP,if_neg (by omega)]:aD _ i=aD H i),⟨by simp,fun i hi hd=>by rw [aP,if_neg (by omega)];exact hd⟩,fun σ2 F K' hF hk=> ?_⟩
  unfold eC
  rw [hT]
  dsimp only
  refine gC hF.le (h2 (fun p=>forceL (ah F H++ [.dead]) (K' (.sl p.1 t p.2) σ2)) ?_)
  rw [aA,da hF]
  exact hk
 case own t0 id=>
  dsimp only at h
  cases hb:aD H id with
  |dead=>rw [hb] at h;exact h.elim
  |cells cs=>rw [hb] at h;exact h.elim
  |imap fr t es=>rw [hb] at h;exact h.elim
  |mit m0 n0 s0 l0=>rw [hb] at h;first|exact h.elim|(cases m0<;>exact h.elim)
  | row fr t' xs=>
   rw [hb] at h
   dsimp only at h
   obtain⟨ht,h⟩:=h
   have hp:aC (fun K:List t.D×Bool×List t.D→Prop=>castK xs fun xs=>asRow H t y fun f ys=>(xs.length+ys.length≤1000000000)∧K (xs,f,ys)):= .castK fun l=> .asRow fun b l=> .and (.ret _)
   obtain⟨⟨xs2,f,ys⟩,h1,h2⟩:=hp (fun p=>forceL (ak id σ) fun σ=>forceL (aH (bD id H) id .dead) (K (.sl (fr&&p.2.1) t (p.1++p.2.2)) σ)) h
   simp only [aA] at h1
   refine⟨_,some id,_,h1,fun id' e=>(by cases e;exact⟨_,rfl⟩),fun i hi hne=> ?_,⟨by rw [aM,an];exact Nat.le_refl _,fun i hi hd=>by rw [aG];split;rfl;rw [bH,hd];rfl⟩,fun σ2 F K' hF hk=> ?_⟩
   ·have g1:=hne id rfl
    show _=ci id (aD H i)
    rw [aG,if_neg (fun e=>g1 e.1),bH]
   ·have hn:=hF.no (id:=id) (by rw [hb];simp)
    unfold eC
    rw [hT]
    dsimp only
    rw [hF.get,hn,Option.getD_none,hb]
    dsimp only
    refine⟨ht,?_⟩
    have hp2:aC (fun K:List t.D→Prop=>castK xs K):= .castK (f:=fun l K=>K l) fun l=> .ret _
    have h3:castK xs fun xs=>asRow H t y fun f ys=>(xs.length+ys.length≤1000000000)∧forceL (ak id σ2) fun σ=>forceL (aH (bD id (ah F H)) id .dead) (K' (.sl (fr&&f) t (xs++ys)) σ):=
     h2 (fun p=>forceL (ak id σ2) fun σ=>forceL (aH (bD id (ah F H)) id .dead) (K' (.sl (fr&&p.2.1) t (p.1++p.2.2)) σ)) (by
      simp only [aA]
      rw [kW hF,dl (hF.kill id) hn]
      exact hk)
    exact hp2.up h3 fun xs' h4=>gC hF.le h4

theorem Pb {E:Env} {o:Op} {σ:List V} {H:List Blk} {K:V→List V→List Blk→Prop} (h:vC E σ H o K):
  ∃v kd H1,K v (bJ kd σ) H1∧(∀id,kd=some id→fK E σ o=some id)∧(∀i,i<H.length→(∀id,kd=some id→i≠id)→aD H1 i=ft kd (aD H i))∧(H.length≤H1.length∧∀i,i<H.length→aD H i= .dead→aD H1 i= .dead)∧
   ∀σ2 F (K':V→List V→List Blk→Prop),cA E o σ σ2→Fok F H→K' v (bJ kd σ2) (ah F H1)→vC E σ2 (ah F H) o K':=by
 cases o<;>first|exact h.elim|skip
 rename_i c
 obtain⟨callee,args,tys⟩:=c
 cases callee<;>first|exact h.elim|skip
 rename_i b
 cases b<;>first|exact h.elim|skip
 have hop:∀z∈args.toList,z∈(Op.call ⟨.builtin .append,args,tys⟩).operands.toList:=fun z hz=>by simp [Op.operands,Call.operands];simpa using hz
 unfold vC at h
 simp only [fK]
 dsimp only at h
 have key:∀l l',args.toList=l→tys.toList=l'→(match l,l' with| [x,y], [T,T']=>bif Nat.beq T T' then eC E σ H T (ev E σ x) (ev E σ y) K else False|_,_=>False)→
   ∃v kd H1,K v (bJ kd σ) H1∧(∀id,kd=some id→(match l with|x::_=>(match ev E σ x with| .own _ id=>some id|_=>none)|_=>none)=some id)∧
    (∀i,i<H.length→(∀id,kd=some id→i≠id)→aD H1 i=ft kd (aD H i))∧(H.length≤H1.length∧∀i,i<H.length→aD H i= .dead→aD H1 i= .dead)∧
    ∀σ2 F (K':V→List V→List Blk→Prop),cA E (Op.call ⟨.builtin .append,args,tys⟩) σ σ2→Fok F H→K' v (bJ kd σ2) (ah F H1)→(match l,l' with| [x,y], [T,T']=>bif Nat.beq T T' then eC E σ2 (ah F H) T (ev E σ2 x) (ev E σ2 y) K' else False|_,_=>False):=by
  intro l l' hl hl' h
  rcases l with _|⟨x,_|⟨y,_|⟨z,l⟩⟩⟩<;>first|exact h.elim|skip
  rcases l' with _|⟨T,_|⟨T',_|⟨T'',l'⟩⟩⟩<;>first|exact h.elim|skip
  dsimp only at h
  obtain⟨hb,h⟩:=aO h
  obtain⟨v,kd,H1,h1,h2,h3,h4,h5⟩:=xr h
  refine⟨v,kd,H1,h1,fun id e=> ?_,h3,h4,fun σ2 F K' ha hF hk=> ?_⟩
  ·obtain⟨t,e⟩:=h2 id e
   dsimp only
   rw [e]
  ·dsimp only
   rw [hb,ha.ev x (hop x (by rw [hl];simp)),ha.ev y (hop y (by rw [hl];simp))]
   exact h5 σ2 F K' hF hk
 obtain⟨v,kd,H1,h1,h2,h3,h4,h5⟩:=key _ _ rfl rfl h
 refine⟨v,kd,H1,h1,h2,h3,h4,fun σ2 F K' ha hF hk=> ?_⟩
 unfold vC
 dsimp only
 exact h5 σ2 F K' ha hF hk
theorem Ec {E:Env} {o:Op} (h:iL o=true):aV E o=some 4:=by
 cases o<;>first|(simp [iL] at h;done)|skip
 rename_i c
 obtain⟨callee,args,tys⟩:=c
 cases callee<;>first|(simp [iL] at h;done)|skip
 rename_i b
 cases b<;>first|(simp [iL] at h;done)|rfl
end Go.Proofs.YtogipicegdbhdaaDoor.Vc

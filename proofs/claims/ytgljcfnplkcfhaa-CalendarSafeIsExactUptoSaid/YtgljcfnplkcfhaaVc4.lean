/- Texts of this claim: Vc.U, Vc.W, Vc.VB, Vc.VC. -/
import Derived.Test.YtgljcfnplkcfhaaVc3
import Derived.Tactics
import Derived.OrdersIn
import Derived.TacticsIn
import Derived.RangeFuncCalls
set_option linter.unusedVariables false
set_option linter.unusedSimpArgs false
namespace Go.Proofs.Ytgljcfnplkcfhaa.Vc
open Go Go.RowKit

section
/-- By what a frame's state may be measured. -/
abbrev Ses := Nat → W0 → Prop

/-- Of a function, or of a round. -/
def Fen (ro : Option Nat) : Fence := { Fence.wide with round := ro }

theorem callsIn_fen {ro : Option Nat} {P : Program} {f : FuncId} {args : Array Value} {w : World} {R : Ending → World → Prop} (h : Calls P f args w R) : CallsIn (Fen ro) 0 P f args w R := by
  cases ro with
  | none => exact callsIn_wide.2 h
  | some l => exact CallsIn.inRound l (callsIn_wide.2 h)

/-- The marks that loops over functions have left. -/
def Marks (w0 : W0) (ds : List Deferred) : Prop :=
  ∃ gs : List Nat, gs.Nodup ∧ ds = gs.map (fun g => { target := .collected g, args := #[] }) ∧ ∀ g ∈ gs, w0.mks g

theorem Marks.nil {w0 : W0} : Marks w0 [] := ⟨[], List.nodup_nil, rfl, by simp⟩

variable {E : Env} {P : Program} {S : Ses} {ro : Option Nat}

/-- The state of a frame. -/
def Sta (E : Env) (S : Ses) (σ : List V) (H : List Blk) (a : Act) (w : World) : Prop :=
  ∃ c b v, S b v ∧ St E.glob b v c H w ∧ VRels c H w σ a.tmps.toList ∧ Marks v a.defers

theorem put_some (a : Act) (d : Nat) (v : Value) : (a.put (some d) v).tmps.toList = a.tmps.toList.set d v := by simp [Act.put]
theorem put_defers (a : Act) (d : Option Nat) (v : Value) : (a.put d v).defers = a.defers := by cases d <;> rfl

theorem setDst_ok {c : Cx} {H : List Blk} {w : World} {σ : List V} {a : Act} {d : Option Nat} {x : V} {v : Value} {K : List V → Prop} (h : setDst σ d x K) (hσ : VRels c H w σ a.tmps.toList) (hx : VRel c H w x v) :
    ∃ σ', K σ' ∧ VRels c H w σ' (a.put d v).tmps.toList := by
  cases d with
  | none => exact ⟨σ, h, hσ⟩
  | some d =>
    have h := (forceL_eq _ _).1 ((normV_eq x fun x => forceL (sets σ d x) K).1 h)
    exact ⟨_, h, by rw [put_some]; exact hσ.set hx d⟩

/-- One operation, its guard looked at. -/
def aopAt (E : Env) (all : List Oper) (o : Oper) (σ : List V) (H : List Blk) (K : List V → List Blk → Prop) : Prop :=
  aguard all σ o.guard (aopX E σ H o.op fun v σ H => setDst σ o.dst v fun σ => K σ H) (setDst σ o.dst .nope fun σ => K σ H)

theorem After.wpIn {G : List (Nat × V)} {base : Nat} {w0 : W0} {tm : List Value} {K : V → List V → List Blk → Prop} {o : Oper} {a : Act} {w : World}
    {next : Act → World → Prop} {Q : Exit → Act → World → Prop} (h : After G base w0 tm K P o a w) (hnd : ∀ c, o.op ≠ .defer c) (hn : ∀ v w', Step G base w0 tm K v w' → next (a.put o.dst v) w') : o.wpIn (Fen ro) 0 P a w next Q := by
  refine ⟨fun _ _ => trivial, ?_⟩
  rw [Oper.semAt_eq _ _ _ hnd]
  rcases h with ⟨v, w', hr, hs⟩ | ⟨w', hr, hs⟩ | ⟨f, args, w', hr, hc⟩
  · rw [hr]; exact hn v w' hs
  · rw [hr]; exact hn _ w' hs
  · rw [hr]
    refine ⟨(fun h => by cases h), callsIn_fen (hc.mono fun e w'' ⟨v, he, hs⟩ => ?_)⟩
    subst he
    exact hn v w'' hs

theorem aop_yes (hG : GlobOk E.glob) (hE : EnvOk P E) {o : Oper} {σ : List V} {H : List Blk} {K : List V → List Blk → Prop} {a : Act} {w : World} {next : Act → World → Prop} {Q : Exit → Act → World → Prop}
    (hs : Sta E S σ H a w) (hn : ∀ σ' H' a' w', K σ' H' → Sta E S σ' H' a' w' → next a' w') (h : aop E σ H o.op (fun v σ H => setDst σ o.dst v fun σ => K σ H)) : o.wpIn (Fen ro) 0 P a w next Q := by
  obtain ⟨c, b, v, hS, hst, hσ, hd⟩ := hs
  refine (aop_ok hG hE hst hσ h).wpIn (fun d e => by rw [e] at h; exact h.elim) fun v w' ⟨x, σ', H', c', hk, hx, hσ', hst'⟩ => ?_
  obtain ⟨σ'', hk, hσ''⟩ := setDst_ok hk hσ' hx
  exact hn _ _ _ _ hk ⟨c', b, _, hS, hst', hσ'', by rw [put_defers]; exact hd⟩

theorem aopX_yes (hG : GlobOk E.glob) (hE : EnvOk P E) {o : Oper} {σ : List V} {H : List Blk} {K : List V → List Blk → Prop} {a : Act} {w : World} {next : Act → World → Prop} {Q : Exit → Act → World → Prop}
    (hs : Sta E S σ H a w) (hn : ∀ σ' H' a' w', K σ' H' → Sta E S σ' H' a' w' → next a' w') (h : aopX E σ H o.op (fun v σ H => setDst σ o.dst v fun σ => K σ H)) : o.wpIn (Fen ro) 0 P a w next Q := by
  obtain ⟨c, b, v, hS, hst, hσ, hd⟩ := hs
  refine (aopX_ok hG hE hst hσ h).wpIn (fun d e => by rw [e] at h; exact aopX_defer h) fun v w' ⟨x, σ', H', c', hk, hx, hσ', hst'⟩ => ?_
  obtain ⟨σ'', hk, hσ''⟩ := setDst_ok hk hσ' hx
  exact hn _ _ _ _ hk ⟨c', b, _, hS, hst', hσ'', by rw [put_defers]; exact hd⟩

/-- The guard of an operation, looked at: it is run, or left out. -/
theorem guard_ok {all : Array Oper} {o : Oper} {σ : List V} {H : List Blk} {yes no : Prop} {a : Act} {w : World} {Y N : Prop}
    (hs : Sta E S σ H a w) (h : aguard all.toList σ o.guard yes no) (hY : yes → Y) (hN : no → N) : if Region.wanted o (yielded all a.tmps) then Y else N := by
  obtain ⟨c, b, v, hS, hst, hσ, hd⟩ := hs
  unfold aguard at h
  split at h
  · rename_i hg
    rw [if_pos (by simp [Region.wanted, hg])]
    exact (hY h)
  · rename_i j b hg
    split at h
    · rename_i t ht
      have hrel := hσ.get t
      have hlen := hσ.length
      have hte : (all[j]?).bind (·.dst) = some t := by simpa using ht
      have hget : t < σ.length → a.tmps[t]? = some (a.tmps.toList.getD t undef) := fun g => by
        rw [hlen] at g
        have hlt : t < a.tmps.size := by simpa using g
        simp [List.getD_eq_getElem?_getD, hlt]
      have hlt : gets σ t ≠ .undef → t < σ.length := fun hne => by
        rcases Nat.lt_or_ge t σ.length with g | g
        · exact g
        · exact absurd (by rw [gets_eq]; simp [List.getD_eq_getElem?_getD, List.getElem?_eq_none g]) hne
      have hw : ∀ x, a.tmps.toList.getD t undef = .bool x → gets σ t ≠ .undef → Region.wanted o (yielded all a.tmps) = (x == b) := fun x hx hne => by
        have hg2 := hget (hlt hne)
        rw [hx] at hg2
        have hy : yielded all a.tmps j = some x := by simp [yielded, hte, hg2]
        simp only [Region.wanted, hg, hy]; cases x <;> cases b <;> rfl
      split at h
      · rename_i p hp
        rw [hp] at hrel hw
        generalize a.tmps.toList.getD t undef = u at hrel hw
        cases hrel with | b _ x hx =>
        rw [hw x rfl (by simp)]
        cases b with
        | true =>
          cases x with
          | true => exact (hY (h.1 (hx.1 rfl)))
          | false => exact hN (h.2 fun hp => by simpa using hx.2 hp)
        | false =>
          cases x with
          | true => exact hN (h.2 (hx.1 rfl))
          | false => exact (hY (h.1 fun hp => by simpa using hx.2 hp))
      · rename_i hp
        rw [hp] at hrel
        have hlt' := hlt (by rw [hp]; simp)
        have hg2 := hget hlt'
        generalize a.tmps.toList.getD t undef = u at hrel hg2
        cases hrel
        have hy : yielded all a.tmps j = none := by simp [yielded, hte, hg2, undef]
        have hw2 : Region.wanted o (yielded all a.tmps) = false := by simp only [Region.wanted, hg, hy]; cases b <;> rfl
        rw [hw2]
        exact hN h
      · rename_i hp
        rw [hp] at hrel hw
        generalize a.tmps.toList.getD t undef = u at hrel hw
        cases hrel
        rw [hw true rfl (by simp)]
        cases b with
        | true => exact (hY h)
        | false => exact hN h
      · rename_i hp
        rw [hp] at hrel hw
        generalize a.tmps.toList.getD t undef = u at hrel hw
        cases hrel
        rw [hw false rfl (by simp)]
        cases b with
        | true => exact hN h
        | false => exact (hY h)
      · exact h.elim
    · exact h.elim

theorem aopAt_ok (hG : GlobOk E.glob) (hE : EnvOk P E) {all : Array Oper} {o : Oper} {σ : List V} {H : List Blk} {K : List V → List Blk → Prop} {a : Act} {w : World} {next : Act → World → Prop} {Q : Exit → Act → World → Prop}
    (hs : Sta E S σ H a w) (h : aopAt E all.toList o σ H K) (hn : ∀ σ' H' a' w', K σ' H' → Sta E S σ' H' a' w' → next a' w') :
    if Region.wanted o (yielded all a.tmps) then o.wpIn (Fen ro) 0 P a w next Q else (∀ f, o.about P w a.eval = some f → (Fen ro).fn f) ∧ next (a.put o.dst undef) w :=
  guard_ok hs h (aopX_yes hG hE hs hn) fun h => ⟨fun _ _ => trivial, by
    obtain ⟨c, b, v, hS, hst, hσ, hd⟩ := hs
    obtain ⟨σ'', hk, hσ''⟩ := setDst_ok h hσ .nope
    exact hn _ _ _ _ hk ⟨c, b, v, hS, hst, hσ'', by rw [put_defers]; exact hd⟩⟩

/-- What is settled in a state. -/
theorem Sta.settle {σ : List V} {H : List Blk} {a : Act} {w : World} (h : Sta E S σ H a w) {t : Nat} {x : Bool} (hx : a.tmps.toList.getD t undef = .bool x) : Sta E S (sets σ t (.bt x)) H a w := by
  obtain ⟨c, b, v, hS, hst, hσ, hd⟩ := h
  refine ⟨c, b, v, hS, hst, ?_, hd⟩
  have := hσ.set (VRel.bt (c := c) (H := H) (w := w) x) t
  have e : a.tmps.toList.set t (.bool x) = a.tmps.toList := by
    rw [← hx]
    by_cases ht : t < a.tmps.toList.length
    · apply List.ext_getElem (by simp)
      intro i h1 h2
      rw [List.getElem_set]
      split
      · rename_i e; subst e; simp only [List.getD_eq_getElem?_getD, List.getElem?_eq_getElem ht, Option.getD_some]
      · rfl
    · exact List.set_eq_of_length_le (by omega)
  rwa [e] at this

/-- One operation, or a call of yield, its guard looked at, and settled. -/
def aopAtR (E : Env) (all : List Oper) (o : Oper) (σ : List V) (H : List Blk) (K : List V → List Blk → Prop) : Prop :=
  aguardR all σ o.guard (fun σ => aopY E σ H o K) (fun σ => setDst σ o.dst .nope fun σ => K σ H)

/-- To look at a guard and to settle it: as with a state in which it is settled. -/
theorem aguardR_ok {all : List Oper} {σ : List V} {g : Option (Nat × Bool)} {yes no : List V → Prop} {H : List Blk} {a : Act} {w : World} (hs : Sta E S σ H a w) (h : aguardR all σ g yes no) :
    ∃ σ', Sta E S σ' H a w ∧ aguard all σ' g (yes σ') (no σ') := by
  unfold aguardR at h
  unfold aguard
  cases g with
  | none => exact ⟨σ, hs, h⟩
  | some g =>
    obtain ⟨j, b⟩ := g
    dsimp only at h ⊢
    cases ht : (all[j]?).bind (·.dst) with
    | none => rw [ht] at h; exact h.elim
    | some t =>
      rw [ht] at h
      dsimp only at h ⊢
      have hlt : gets σ t ≠ .undef → t < σ.length := fun hne => by
        rcases Nat.lt_or_ge t σ.length with g | g
        · exact g
        · exact absurd (by rw [gets_eq]; simp [List.getD_eq_getElem?_getD, List.getElem?_eq_none g]) hne
      have hset : ∀ x : V, gets σ t ≠ .undef → gets (sets σ t x) t = x := fun x hne => by
        rw [gets_eq, sets_eq]
        simp [List.getD_eq_getElem?_getD, hlt hne]
      obtain ⟨c, b0, v0, hS, hst, hσ, hd⟩ := id hs
      have hrel := hσ.get t
      cases hg : gets σ t <;> rw [hg] at h hrel <;> try exact h.elim
      · exact ⟨σ, hs, by rw [hg]; exact h⟩
      · rename_i p
        have hne : gets σ t ≠ .undef := by rw [hg]; simp
        generalize hu : a.tmps.toList.getD t undef = u at hrel
        cases hrel with | b _ x hx =>
        refine ⟨_, hs.settle hu, ?_⟩
        rw [hset _ hne]
        cases b with
        | true =>
          cases x with
          | true => exact (forceL_eq _ _).1 (h.1 (hx.1 rfl))
          | false => exact (forceL_eq _ _).1 (h.2 fun hp => by simpa using hx.2 hp)
        | false =>
          cases x with
          | true => exact (forceL_eq _ _).1 (h.2 (hx.1 rfl))
          | false => exact (forceL_eq _ _).1 (h.1 fun hp => by simpa using hx.2 hp)
      · rename_i x
        refine ⟨σ, hs, ?_⟩
        rw [hg]
        cases x <;> exact h

/-- What a state is measured by, where yield is called. -/
def YLaw (P : Program) (S : Ses) (L : (Nat × (Nat → List V))) : Prop :=
  ∀ b v, S b v → b = v.w.heap.size ∧ (∀ g, v.D g = none) ∧ (∀ g, v.Z g = none) ∧ (∀ g, ¬ v.mks g) ∧ v.gh = [] ∧
    (∀ k X W W', v.J k X W → Below W.heap.size W W' → v.J k X W') ∧ RoundLaw P v.l v.J L ∧ ∀ X W, S W.heap.size { v with w := W, X := X }

theorem yop_ok (hN : noRef E.glob) {ks : List PK} {L : (Nat × (Nat → List V))} (hY : YLaw P S L) {o : Oper} {t : Nat} {args : Array Operand} {ts : Array TypeId} (ho : o.op = .call { callee := .value (.tmp t), args, argTypes := ts }) {k : Nat}
    {σ : List V} {H : List Blk} {K : List V → List Blk → Prop} {a : Act} {w : World} {next : Act → World → Prop} {Q : Exit → Act → World → Prop} (hs : Sta E S σ H a w) (ht : gets σ t = .yld (some k))
    (h : evs E σ args.toList fun vs => asArgs H ks vs fun ds => (k < L.1 ∧ ds = L.2 k) ∧
      (forceL (yL (some (k + 1)) σ) fun σ => setDst σ o.dst (.bt true) fun σ => K σ []) ∧ (forceL (yL none σ) fun σ => setDst σ o.dst (.bt false) fun σ => K σ []))
    (hn : ∀ σ' H' a' w', K σ' H' → Sta E S σ' H' a' w' → next a' w') : o.wpIn (Fen none) 0 P a w next Q := by
  obtain ⟨c, b, v, hS, hst, hσ, hd⟩ := hs
  obtain ⟨hb, hD, hZ, hmk0, hgh, hJ, hR, hS'⟩ := hY b v hS
  have hrel := hσ.get t
  rw [ht] at hrel
  have hat : a.eval (.tmp t) = a.tmps.toList.getD t undef := by simp [Act.eval, Array.getD_eq_getD_getElem?]
  generalize hval : a.tmps.toList.getD t undef = fv at hrel hat
  cases hrel with | yld _ hk =>
  obtain ⟨vs, h1, h2⟩ := evs_ok hst hσ _ _ h
  let U : Nat → Prop := fun g => c.M g ∨ ∃ i, c.ρ i = some g
  obtain ⟨ds, ⟨⟨hlt, rfl⟩, hyes, hno⟩, h4⟩ := asArgs_ok (U := U) hst (fun g hg => .inl hg) (fun i g hi => .inr ⟨i, hi⟩) ks vs _ _ h1 h2
  have hcnt := hst.xk.cnt
  rw [← hk] at hcnt
  have hbel : Below v.w.heap.size v.w w := hb ▸ hst.below
  have hJw := hJ _ _ _ _ hcnt hbel
  obtain ⟨fn, tmps, as, body, hrun, hround⟩ := hR k v.X w U _ hJw hlt (fun g hg => by
    rcases hg with hg | ⟨i, hi⟩
    · exact ⟨hst.xk.dis g hg, hst.imm g hg⟩
    · exact ⟨fun hX => (hst.xk.xb g hX).2 i hi, (hst.own i g hi).2.1⟩) h4
  refine ⟨fun _ _ => trivial, ?_⟩
  rw [Oper.semAt_eq _ _ _ (fun d e => by rw [ho] at e; cases e)]
  have hex : (execOp a.eval o).run P w = .ok (.round c.x.l fn tmps as body) w := by
    have hl := hst.xk.l
    rw [← hl] at hrun
    simp only [execOp, ho, resolve, hat, Deferred.ofValue, Sem.run_bind, Sem.run_pure, Result.andThen_ok]
    rw [← Array.toList_map, Array.toArray_toList] at hrun
    simpa [invoke] using hrun
  rw [hex]
  refine ⟨(fun h => by cases h), ?_⟩
  rw [hst.xk.l]
  refine hround.mono ?_
  rintro e W' ⟨x, rfl, hsz, hkept, hJ'⟩
  have hMX : ∀ g, c.M g → W'.heap[g]? = w.heap[g]? := fun g hg => hkept g (hst.imm g hg) (hst.xk.dis g hg)
  let v' : W0 := { v with w := W', X := fun g => v.X g ∨ (w.heap.size ≤ g ∧ g < W'.heap.size) }
  let xt : Xt := ⟨[], if x then some (k + 1) else none, v.l⟩
  have hst' : St E.glob W'.heap.size v' (Cx.of c.M xt) [] W' := hst.calm hN (fun g hg => hg) hMX (Below.refl _ _)
    { keep := fun g o h => by have := hD g; rw [show v'.D g = v.D g from rfl, this] at h; cases h
      siz := fun g n h => by have := hZ g; rw [show v'.Z g = v.Z g from rfl, this] at h; cases h
      cnt := hJ'
      gh := hgh.symm
      l := rfl
      dis := fun g hg hX => by
        rcases hX with hX | hX
        · exact hst.xk.dis g hg hX
        · have := hst.imm g hg; omega
      xb := fun g hX => by
        refine ⟨?_, fun i hi => by cases hi⟩
        rcases hX with hX | hX
        · have := (hst.xk.xb g hX).1; omega
        · exact hX.2
      mks := fun g h => absurd h (hmk0 g)
      gi := fun _ => rfl }
    (Nat.le_refl _) (fun g hg => Nat.lt_of_lt_of_le (hst.imm g hg) hsz)
  have hσ' : VRels (Cx.of c.M xt) [] W' (yL (if x then some (k + 1) else none) σ) a.tmps.toList :=
    VRels.y (c := c) (c' := Cx.of c.M xt) (fun g hg => hg) (fun g hg => (hst.sub g hg).1) (fun g hg => hMX g (hg.elim id fun hg => (hst.sub g hg).1)) rfl hst.xk.l.symm hσ
  have hmk : Marks v' a.defers := by
    obtain ⟨gs, hg1, hg2, hg3⟩ := hd
    cases gs with
    | nil => exact ⟨[], hg1, hg2, by simp⟩
    | cons g gs => exact absurd (hg3 g (by simp)) (hmk0 g)
  cases x with
  | true =>
    obtain ⟨σ'', h5, h6⟩ := setDst_ok ((forceL_eq _ _).1 hyes) hσ' (VRel.bt true)
    exact hn _ _ _ _ h5 ⟨_, _, v', hS' _ _, hst', h6, by rw [put_defers]; exact hmk⟩
  | false =>
    obtain ⟨σ'', h5, h6⟩ := setDst_ok ((forceL_eq _ _).1 hno) hσ' (VRel.bt false)
    exact hn _ _ _ _ h5 ⟨_, _, v', hS' _ _, hst', h6, by rw [put_defers]; exact hmk⟩

theorem frzOps_ok (hG : GlobOk E.glob) : ∀ (l : List Operand) {σ : List V} {H : List Blk} {K : List V → List Blk → Prop} {a : Act} {w : World}, Sta E S σ H a w → frzOps l σ H K → ∃ σ' H', K σ' H' ∧ Sta E S σ' H' a w
  | [], σ, H, K, a, w, hs, h => ⟨σ, H, h, hs⟩
  | x :: l, σ, H, K, a, w, hs, h => by
    unfold frzOps at h
    split at h
    · split at h
      · rename_i t t0 id hg
        split at h
        · rename_i fr t xs hb
          have h := (forceL_eq _ _).1 ((forceL_eq _ _).1 h)
          obtain ⟨c, b, v, hS, hst, hσ, hd⟩ := hs
          have hy : ∀ t v, VRel c H w (.own t id) v → VRel (c.frz id) (setB (frzH id (.sl fr _ xs) H) id .dead) w (.sl fr _ xs) v := fun t' v hv => frz_row hst hb t' v hv
          have hsh : ∀ j, j ≠ id → shape (setB (frzH id (.sl fr _ xs) H) id .dead) j = shape H j := fun j hj => shape_frz hj
          exact frzOps_ok hG l ⟨c.frz id, b, v, hS, hst.frz hG hb, hσ.frz hsh hy, hd⟩ h
        · exact frzOps_ok hG l hs h
      · exact frzOps_ok hG l hs h
    · exact frzOps_ok hG l hs h

theorem aopY_ok (hG : GlobOk E.glob) (hN : noRef E.glob) (hE : EnvOk P E) (hY : ∀ q, E.yl = some q → ro = none ∧ YLaw P S q.2) {o : Oper} {σ : List V} {H : List Blk} {K : List V → List Blk → Prop} {a : Act} {w : World} {next : Act → World → Prop} {Q : Exit → Act → World → Prop}
    (hs : Sta E S σ H a w) (hn : ∀ σ' H' a' w', K σ' H' → Sta E S σ' H' a' w' → next a' w') (h : aopY E σ H o K) : o.wpIn (Fen ro) 0 P a w next Q := by
  unfold aopY at h
  split at h
  · split at h
    · obtain ⟨σ', H', h', hs'⟩ := frzOps_ok hG _ hs h
      exact aop_yes hG hE hs' hn h'
    · exact aop_yes hG hE hs hn h
  · rename_i t args ts ho
    split at h
    · rename_i q hq
      split at h
      · rename_i ks L k hyl
        obtain ⟨rfl, hy⟩ := hY _ hyl
        exact yop_ok hN hy ho hs hq h hn
      · exact h.elim
    · exact aop_yes hG hE hs hn h
  · exact aop_yes hG hE hs hn h

theorem aopAtR_ok (hG : GlobOk E.glob) (hN : noRef E.glob) (hE : EnvOk P E) (hY : ∀ q, E.yl = some q → ro = none ∧ YLaw P S q.2) {all : Array Oper} {o : Oper} {σ : List V} {H : List Blk} {K : List V → List Blk → Prop} {a : Act} {w : World} {next : Act → World → Prop} {Q : Exit → Act → World → Prop}
    (hs : Sta E S σ H a w) (h : aopAtR E all.toList o σ H K) (hn : ∀ σ' H' a' w', K σ' H' → Sta E S σ' H' a' w' → next a' w') :
    if Region.wanted o (yielded all a.tmps) then o.wpIn (Fen ro) 0 P a w next Q else (∀ f, o.about P w a.eval = some f → (Fen ro).fn f) ∧ next (a.put o.dst undef) w := by
  obtain ⟨σ', hs', h'⟩ := aguardR_ok hs h
  refine guard_ok hs' h' (aopY_ok hG hN hE hY hs' hn) fun h => ⟨fun _ _ => trivial, ?_⟩
  obtain ⟨c, b, v, hS, hst, hσ, hd⟩ := hs'
  obtain ⟨σ'', hk, hσ''⟩ := setDst_ok h hσ .nope
  exact hn _ _ _ _ hk ⟨c, b, v, hS, hst, hσ'', by rw [put_defers]; exact hd⟩

theorem aops_eq (all : List Oper) (o : Oper) (l : List Oper) (σ : List V) (H : List Blk) (K : List V → List Blk → Prop) : aops E all (o :: l) σ H K = aopAtR E all o σ H (fun σ H => aops E all l σ H K) := rfl

theorem aops_ok (hG : GlobOk E.glob) (hN : noRef E.glob) (hE : EnvOk P E) (hY : ∀ q, E.yl = some q → ro = none ∧ YLaw P S q.2) {all : Array Oper} {Q : Exit → Act → World → Prop} : ∀ (l : List Oper) (σ : List V) (H : List Blk) (K : List V → List Blk → Prop) (a : Act) (w : World), Sta E S σ H a w → aops E all.toList l σ H K →
    (∀ σ' H' a' w', K σ' H' → Sta E S σ' H' a' w' → Q .normal a' w') → wpListIn (Fen ro) 0 P all Q l a w
  | [], σ, H, K, a, w, hs, h, hn => hn _ _ _ _ h hs
  | o :: l, σ, H, K, a, w, hs, h, hn => by
    rw [aops_eq] at h
    unfold wpListIn
    exact aopAtR_ok hG hN hE hY hs h fun σ' H' a' w' hk hs' => aops_ok hG hN hE hY l σ' H' K a' w' hs' hk hn

/-- What an abstract post says of the ways out. -/
def Post (E : Env) (S : Ses) (Q : Ex → List V → List Blk → Prop) : Exit → Act → World → Prop
  | .normal, a, w => ∃ σ H, Q .normal σ H ∧ Sta E S σ H a w
  | .exit i, a, w => ∃ σ H, Q (.exit i) σ H ∧ Sta E S σ H a w
  | .ret, a, w => ∃ σ H, Q .ret σ H ∧ Sta E S σ H a w
  | _, _, _ => False

/-- A region in an order that is drawn. -/
def DrawOk (E : Env) (P : Program) : Prop := ∀ (ops : Array Oper) (id : Nat) (S : Ses) (ro : Option Nat) (σ : List V) (H : List Blk) (K : List V → List Blk → Prop) (a : Act) (w : World) (Q : Exit → Act → World → Prop),
  okDraw E ops.toList = true → Sta E S σ H a w → aopsD E ops.toList H.length 0 ops.toList σ H K → (∀ σ' H' a' w', K σ' H' → Sta E S σ' H' a' w' → Q .normal a' w') → (Code.region id ops true).wpIn (Fen ro) 0 P Q a w

end
end Go.Proofs.Ytgljcfnplkcfhaa.Vc

namespace Go.Proofs.Ytgljcfnplkcfhaa.Vc
open Go Go.RowKit

section
variable {G : List (Nat × V)} {base : Nat} {w0 : W0} {c : Cx} {H : List Blk} {w : World}

/-! ### new numbers -/
def Cx.ren (c : Cx) (sel : List Nat) : Cx := { c with ρ := fun k => (sel[k]?).bind c.ρ, gi := c.gi.bind (idxIn sel) }

theorem inL_iff : ∀ (l : List Nat) (n : Nat), inL l n = true ↔ n ∈ l
  | [], n => by simp [inL]
  | x :: l, n => by
    simp only [inL, Bool.or_eq_true, List.mem_cons, inL_iff l n]
    constructor
    · rintro (h | h)
      · exact .inl (beq_ok h).symm
      · exact .inr h
    · rintro (h | h)
      · subst h; exact .inl (Nat.beq_refl _)
      · exact .inr h
theorem nodupB_iff : ∀ l : List Nat, nodupB l = true → l.Nodup
  | [], _ => List.nodup_nil
  | x :: l, h => by
    simp only [nodupB, Bool.and_eq_true, Bool.not_eq_true'] at h
    refine List.nodup_cons.2 ⟨fun hm => ?_, nodupB_iff l h.2⟩
    rw [(inL_iff l x).2 hm] at h
    simp at h
theorem idxIn_some : ∀ (l : List Nat) (n k : Nat), idxIn l n = some k → l[k]? = some n
  | [], n, k, h => by simp [idxIn] at h
  | x :: l, n, k, h => by
    unfold idxIn at h
    cases hb : Nat.beq x n with
    | true =>
      rw [hb] at h
      simp only [cond_true, Option.some.injEq] at h
      subst h
      have := beq_ok hb; subst this; rfl
    | false =>
      rw [hb] at h
      simp only [cond_false, Option.map_eq_some_iff] at h
      obtain ⟨j, h1, h2⟩ := h
      subst h2
      simpa using idxIn_some l n j h1

theorem idxIn_nodup : ∀ {l : List Nat}, l.Nodup → ∀ {k n : Nat}, l[k]? = some n → idxIn l n = some k
  | [], _, k, n, h => by simp at h
  | x :: l, hnd, k, n, h => by
    obtain ⟨h1, h2⟩ := List.nodup_cons.1 hnd
    unfold idxIn
    cases k with
    | zero =>
      obtain rfl : x = n := by simpa using h
      simp
    | succ k =>
      have h : l[k]? = some n := by simpa using h
      have hne : x ≠ n := fun e => by subst e; exact h1 (List.mem_of_getElem? h)
      cases hb : Nat.beq x n with
      | true => exact absurd (beq_ok hb) hne
      | false => simp [idxIn_nodup h2 h]

theorem getB_selH (sel : List Nat) (H : List Blk) : ∀ (l : List Nat) (k : Nat), getB (selH sel H l) k = match l[k]? with | some i => renB sel (getB H i) | none => .dead
  | [], k => by cases k <;> rfl
  | i :: l, 0 => rfl
  | i :: l, k + 1 => by
    show getB (selH sel H l) k = _
    rw [getB_selH sel H l k]; simp
theorem length_selH (sel : List Nat) (H : List Blk) : ∀ l : List Nat, (selH sel H l).length = l.length
  | [] => rfl
  | i :: l => by simp [selH, length_selH sel H l]
theorem length_renL (sel : List Nat) : ∀ l : List V, (renL sel l).length = l.length
  | [] => rfl
  | b :: l => by simp [renL, length_renL sel l]
theorem gets_renL (sel : List Nat) : ∀ (l : List V) (j : Nat), gets (renL sel l) j = renV sel (gets l j)
  | [], j => by cases j <;> rfl
  | b :: l, 0 => rfl
  | b :: l, j + 1 => gets_renL sel l j

section
variable {sel : List Nat} {H' : List Blk}
theorem OwnAt.ren {i k z off : Nat} {a : Option Addr} {cap : Nat} (hk : sel[k]? = some i) (h : OwnAt c w i z off a cap) : OwnAt (c.ren sel) w k z off a cap := by
  obtain ⟨g, e, cur, h1, h2⟩ := h
  exact ⟨g, e, cur, by simp [Cx.ren, hk, h1], h2⟩
mutual
theorem VRel.ren (hs : ∀ k i, sel[k]? = some i → shape H' k = shape H i) : ∀ {x : V} {v : Value}, VRel c H w x v → VRel (c.ren sel) H' w (renV sel x) v
  | _, _, .undef v => .undef v
  | _, _, .int k n h1 h2 => .int k n h1 h2
  | _, _, .u8 x => .u8 x
  | _, _, .b p x h => .b p x h
  | _, _, .bt x => .bt x
  | _, _, .nope => .nope
  | _, _, .str s h => .str s h
  | _, _, .nils => .nils
  | _, _, .sl fr t xs v h => .sl fr t xs v h
  | _, _, .own t i n a cap h1 hn hc ho => by
    unfold renV
    split
    · rename_i k hk
      have hk := idxIn_some _ _ _ hk
      exact .own t k n a cap ((hs k i hk).trans h1) hn hc (ho.imp (fun h => h) (OwnAt.ren hk))
    · exact .undef _
  | _, _, .slc t i off n m a cap h1 h2 hn hc ho => by
    unfold renV
    split
    · rename_i k hk
      have hk := idxIn_some _ _ _ hk
      exact .slc t k off n m a cap ((hs k i hk).trans h1) h2 hn hc (ho.imp (fun h => h) (OwnAt.ren hk))
    · exact .undef _
  | _, _, .rp fr t x o g p es hM hd hc => .rp fr t x o g p es hM hd hc
  | _, _, .ptr i z j o g m h1 hr hi ho => by
    unfold renV
    split
    · rename_i k hk
      have hk := idxIn_some _ _ _ hk
      exact .ptr k z j o g m ((hs k i hk).trans h1) (by simp [Cx.ren, hk, hr]) hi ho
    · exact .undef _
  | _, _, .agg cs vs h => .agg _ vs (VRels.ren hs h)
  | _, _, .tup cs vs h => .tup _ vs (VRels.ren hs h)
  | _, _, .fn f cs vs h => .fn f _ vs (VRels.ren hs h)
  | _, _, .nilfn => .nilfn
  | _, _, .yld k h => .yld (c := c.ren sel) k h
  | _, _, .dat fr t x es h => .dat fr t x es h
theorem VRels.ren (hs : ∀ k i, sel[k]? = some i → shape H' k = shape H i) : ∀ {xs : List V} {vs : List Value}, VRels c H w xs vs → VRels (c.ren sel) H' w (renL sel xs) vs
  | _, _, .nil => .nil
  | _, _, .cons x v xs vs h hx => .cons _ v _ vs (VRel.ren hs h) (VRels.ren hs hx)
end
end

theorem shape_sel {sel : List Nat} {k i : Nat} (hk : sel[k]? = some i) : shape (selH sel H sel) k = shape H i := by
  unfold shape
  rw [getB_selH, hk]
  simp only
  cases getB H i <;> simp [renB, length_renL]

theorem St.ren (hN : noRef G) (h : St G base w0 c H w) {sel : List Nat} (hnd : sel.Nodup) : St G base w0 (c.ren sel) (selH sel H sel) w where
  below := h.below
  xk := h.xk.step rfl (fun hg => by simp [Cx.ren, hg]) (fun g hg => .inl hg) (fun i g hi => by
    simp only [Cx.ren, Option.bind_eq_some_iff] at hi
    obtain ⟨j, _, hj⟩ := hi
    exact .inl ⟨j, hj⟩) (fun g o ho => .inl ho)
  size := h.size
  blk k := by
    rw [getB_selH]
    split
    · rename_i i hk
      have hbk := h.blk i
      generalize getB H i = b at hbk
      cases b with
      | dead => trivial
      | row fr t xs =>
        rcases hbk with ⟨h1, h2⟩ | ⟨g, e, cur, h1, h2⟩
        · exact .inl ⟨by simp [Cx.ren, hk, h1], h2⟩
        · exact .inr ⟨g, e, cur, by simp [Cx.ren, hk, h1], h2⟩
      | cells cs =>
        rcases hbk with ⟨g, e, cur, h1, h2, h3, h4⟩ | ⟨h0, h1, h2⟩
        · refine .inl ⟨g, e, cur, by simp [Cx.ren, hk, h1], h2, by rw [length_renL]; exact h3, fun j hj => ?_⟩
          rw [length_renL] at hj
          obtain ⟨v, h5, h6, h7⟩ := h4 j hj
          rw [gets_renL]
          exact ⟨v, h5, h6, h7.ren fun k i hk => shape_sel hk⟩
        · exact .inr ⟨by simp [Cx.ren, h0, idxIn_nodup hnd hk], by simp [Cx.ren, hk, h1], h2.ren fun k i hk => shape_sel hk⟩
    · trivial
  inj i j g hi hj := by
    simp only [Cx.ren, Option.bind_eq_some_iff] at hi hj
    obtain ⟨i', hi1, hi2⟩ := hi
    obtain ⟨j', hj1, hj2⟩ := hj
    have := h.inj i' j' g hi2 hj2
    subst this
    exact (List.getElem?_inj (by exact (List.getElem?_eq_some_iff.1 hi1).1) hnd).1 (hi1.trans hj1.symm)
  own i g hi := by
    simp only [Cx.ren, Option.bind_eq_some_iff] at hi
    obtain ⟨i', hi1, hi2⟩ := hi
    obtain ⟨h1, h2, h3, _⟩ := h.own i' g hi2
    exact ⟨h1, h2, h3, by rw [length_selH]; exact (List.getElem?_eq_some_iff.1 hi1).1⟩
  imm := h.imm
  sub := h.sub
  glob g x hx := by
    obtain ⟨t, y, o, rfl⟩ := hN g x hx
    exact (h.glob g _ hx).ren fun k i hk => shape_sel hk

/-! ### the view -/
theorem picks_ok {tm : List Value} : ∀ (keep : List (Nat × Mode)) {σ : List V} {K : List V → Prop}, VRels c H w σ tm → picks σ keep K → ∃ vs, K vs ∧ VRels c H w vs (keep.map fun x => tm.getD x.1 undef)
  | [], σ, K, _, h => ⟨[], h, .nil⟩
  | (i, m) :: l, σ, K, hσ, h => by
    have h := (forceV_eq _ _).1 h
    obtain ⟨vs, h1, h2⟩ := picks_ok l hσ h
    exact ⟨_, h1, .cons _ _ _ _ (hσ.get i).nb h2⟩

theorem VRels.rev {xs : List V} {vs : List Value} (h : VRels c H w xs vs) : VRels c H w xs.reverse vs.reverse := by
  have key : ∀ (xs : List V) (vs : List Value) (ys : List V) (us : List Value), VRels c H w xs vs → VRels c H w ys us → VRels c H w (xs.reverse ++ ys) (vs.reverse ++ us) := by
    intro xs
    induction xs with
    | nil => intro vs ys us h h'; cases h; simpa using h'
    | cons x xs ih =>
      intro vs ys us h h'
      cases h with | cons _ v _ vs h hs =>
      have := ih vs (x :: ys) (v :: us) hs (.cons _ _ _ _ h h')
      simpa using this
  have := key xs vs [] [] h .nil
  simpa using this

theorem VRels.setNil {i : Nat} {x : V} (hx : VRel c H w x (.slice none 0 0)) : ∀ {cs : List V} {vs : List Value} (i : Nat), VRels c H w cs vs → gets cs i = .nils → VRels c H w (sets cs i x) vs
  | _, _, i, .nil, h => .nil
  | _, _, 0, .cons y v xs vs hy hs, h => by
    have h : y = .nils := h
    subst h
    cases hy
    exact .cons _ _ _ _ hx hs
  | _, _, i + 1, .cons y v xs vs hy hs, h => .cons _ _ _ _ hy (VRels.setNil (i := i) hx i hs h)

theorem length_sets (l : List V) : ∀ i x, (sets l i x).length = l.length := by
  intro i x; rw [sets_eq]; simp
theorem gets_sets (l : List V) (i j : Nat) (x : V) : gets (sets l i x) j = if j = i ∧ i < l.length then x else gets l j := by
  rw [sets_eq, gets_eq, gets_eq, List.getD_eq_getElem?_getD, List.getD_eq_getElem?_getD, List.getElem?_set]
  by_cases h : i = j
  · subst h
    by_cases h2 : i < l.length
    · simp [h2]
    · simp [h2]
  · rw [if_neg h, if_neg (fun e => h e.1.symm)]

theorem ext_setCells {cs cs' : List V} {id : Nat} (hb : getB H id = .cells cs) (hl : cs'.length = cs.length) : Ext c H w c (setB H id (.cells cs')) w where
  M g hg := hg
  N g hg := hg
  mem g hg := rfl
  shp j s hs := by
    refine ⟨?_, rfl⟩
    by_cases hj : j = id
    · subst hj
      have := shape_lt hs
      unfold shape at *
      rw [getB_setB, if_pos ⟨rfl, this⟩]
      rw [hb] at hs
      simpa [hl] using hs
    · rw [shape_setB_ne hj]; exact hs
  siz id s g cur e _ _ hg := ⟨cur, hg, rfl⟩
  x := rfl
  gi := rfl

theorem St.setNil (h : St G base w0 c H w) {id i : Nat} {cs : List V} (hb : getB H id = .cells cs) {x : V} (hx : VRel c H w x (.slice none 0 0)) (hi : gets cs i = .nils) : St G base w0 c (setB H id (.cells (sets cs i x))) w := by
  have he : Ext c H w c (setB H id (.cells (sets cs i x))) w := ext_setCells hb (length_sets _ _ _)
  have hlt : id < H.length := by
    rcases Nat.lt_or_ge id H.length with g | g
    · exact g
    · rw [getB_ge H id g] at hb; cases hb
  exact
  { below := h.below
    xk := h.xk
    size := h.size
    blk := fun j => by
      rw [getB_setB]
      split
      · rename_i hj
        obtain ⟨rfl, _⟩ := hj
        have hbk := h.blk j
        rw [hb] at hbk
        rcases hbk with ⟨g, e, cur, h1, h2, h3, h4⟩ | ⟨h0, h1, h2⟩
        · refine .inl ⟨g, e, cur, h1, h2, by rw [length_sets]; exact h3, fun k hk => ?_⟩
          rw [length_sets] at hk
          obtain ⟨v, h5, h6, h7⟩ := h4 k hk
          refine ⟨v, h5, h6, ?_⟩
          rw [gets_sets]
          split
          · rename_i hk2
            obtain ⟨rfl, _⟩ := hk2
            rw [hi] at h7
            cases h7
            exact hx.ext he
          · exact h7.ext he
        · exact .inr ⟨h0, h1, (VRels.setNil (i := i) hx i h2 hi).ext he⟩
      · exact BOk.keep he (fun _ => rfl) (fun g _ => rfl) (h.blk j)
    inj := h.inj
    own := fun i g hi => by
      obtain ⟨h1, h2, h3, h4⟩ := h.own i g hi
      exact ⟨h1, h2, h3, by rw [length_setB]; exact h4⟩
    imm := h.imm
    sub := h.sub
    glob := fun g x hx => (h.glob g x hx).ext he }

theorem nilC_ok {id : Nat} : ∀ (l : List (Nat × Ty)) (H : List Blk) (K : List Blk → Prop), St G base w0 c H w → nilC id l H K → ∃ H', K H' ∧ St G base w0 c H' w ∧ Ext c H w c H' w
  | [], H, K, hst, h => ⟨H, h, hst, Ext.refl _ _ _⟩
  | (i, t) :: l, H, K, hst, h => by
    unfold nilC at h
    split at h <;> try exact h.elim
    rename_i cs hb
    split at h
    · rename_i hi
      have h := (forceL_eq _ _).1 ((forceL_eq _ _).1 h)
      have hlt : id < H.length := by
        rcases Nat.lt_or_ge id H.length with g | g
        · exact g
        · rw [getB_ge H id g] at hb; cases hb
      have hb' : getB (H ++ [.row true t []]) id = .cells cs := by rw [getB_append, if_neg (by omega)]; exact hb
      have hx : VRel c (H ++ [.row true t []]) w (.own t H.length) (.slice none 0 0) := .own t H.length 0 none 0 (by simp [shape, getB_append]) (Nat.le_refl _) (by simp) (.inl rfl)
      obtain ⟨H', h1, h2, h3⟩ := nilC_ok l _ K ((hst.virt true t).setNil hb' hx hi) h
      exact ⟨H', h1, h2, ((St.ext_virt _).trans (ext_setCells hb' (length_sets _ _ _))).trans h3⟩
    · exact nilC_ok l H K hst h

theorem nilA_ok {vs : List Value} : ∀ (l : List (Nat × Ty)) (cs : List V) (H : List Blk) (K : List V → List Blk → Prop), St G base w0 c H w → VRels c H w cs vs → nilA l cs H K → ∃ cs' H', K cs' H' ∧ St G base w0 c H' w ∧ Ext c H w c H' w ∧ VRels c H' w cs' vs
  | [], cs, H, K, hst, hv, h => ⟨cs, H, h, hst, Ext.refl _ _ _, hv⟩
  | (i, t) :: l, cs, H, K, hst, hv, h => by
    unfold nilA at h
    split at h
    · rename_i hi
      have h := (forceL_eq _ _).1 ((forceL_eq _ _).1 h)
      have hx : VRel c (H ++ [.row true t []]) w (.own t H.length) (.slice none 0 0) := .own t H.length 0 none 0 (by simp [shape, getB_append]) (Nat.le_refl _) (by simp) (.inl rfl)
      obtain ⟨cs', H', h1, h2, h3, h4⟩ := nilA_ok l _ _ K (hst.virt true t) (VRels.setNil (i := i) hx i (hv.ext (St.ext_virt _)) hi) h
      exact ⟨cs', H', h1, h2, (St.ext_virt _).trans h3, h4⟩
    · exact nilA_ok l cs H K hst hv h

theorem viewA_ok (hG : GlobOk G) : ∀ (ms : List Mode) (c : Cx) (vs done : List V) (H : List Blk) (us ud : List Value) (K : List V → List Blk → Prop), St G base w0 c H w → VRels c H w vs us → VRels c H w done ud → ms.length = vs.length → viewA ms vs done H K →
    ∃ c' vs' H', K vs' H' ∧ St G base w0 c' H' w ∧ VRels c' H' w vs' (ud.reverse ++ us) ∧ (∀ g, c.M g → c'.M g) ∧ c'.gi = c.gi
  | [], c, vs, done, H, us, ud, K, hst, hv, hd, hl, h => by
    cases hv with
    | nil => exact ⟨c, _, H, h, hst, by simpa using hd.rev, fun _ h => h, rfl⟩
    | cons => simp at hl
  | m :: ms, c, [], done, H, us, ud, K, hst, hv, hd, hl, h => by simp at hl
  | m :: ms, c, v :: vs, done, H, us, ud, K, hst, hv, hd, hl, h => by
    cases hv with | cons _ u _ us hx hs =>
    have hl' : ms.length = vs.length := by simpa using hl
    have fin : ∀ {c' : Cx} {v' : V} {vs' done' : List V} {H' : List Blk}, St G base w0 c' H' w → VRels c' H' w vs' us → VRels c' H' w done' ud → VRel c' H' w v' u → (∀ g, c.M g → c'.M g) → c'.gi = c.gi → ms.length = vs'.length → viewA ms vs' (v' :: done') H' K →
        ∃ c' vs' H', K vs' H' ∧ St G base w0 c' H' w ∧ VRels c' H' w vs' (ud.reverse ++ u :: us) ∧ (∀ g, c.M g → c'.M g) ∧ c'.gi = c.gi := fun {c' v' vs' done' H'} h1 h2 h3 h4 hm hg h5 h6 => by
      obtain ⟨c2, vs2, H2, k1, k2, k3, k4, k5⟩ := viewA_ok hG ms c' vs' (v' :: done') H' us (u :: ud) K h1 h2 (.cons _ _ _ _ h4 h3) h5 h6
      exact ⟨c2, vs2, H2, k1, k2, by simpa using k3, fun g h => k4 g (hm g h), k5.trans hg⟩
    unfold viewA at h
    split at h
    · rename_i t
      cases hx
      exact fin (hst.virt true t) (hs.ext (St.ext_virt _)) (hd.ext (St.ext_virt _)) (.own t H.length 0 none 0 (by simp [shape, getB_append]) (Nat.le_refl _) (by simp) (.inl rfl)) (fun _ h => h) rfl hl' h
    · rename_i t
      cases hx
      exact fin hst hs hd (.sl _ _ _ _ ⟨none, 0, rfl, Nat.le_refl _, by simp, fun h => absurd rfl h⟩) (fun _ h => h) rfl hl' h
    · rename_i t0 t' id
      split at h
      · rename_i fr t xs hb
        obtain ⟨_, h⟩ := bif_ok h
        have hy : ∀ t v, VRel c H w (.own t id) v → VRel (c.frz id) (setB (frzH id (.sl fr _ xs) H) id .dead) w (.sl fr _ xs) v := fun t' v hv => frz_row hst hb t' v hv
        have hsh : ∀ j, j ≠ id → shape (setB (frzH id (.sl fr _ xs) H) id .dead) j = shape H j := fun j hj => shape_frz hj
        exact fin (hst.frz hG hb) (hs.frz hsh hy) (hd.frz hsh hy) (hy _ _ hx) (fun _ h => .inl h) rfl (by rw [length_frzL]; exact hl') h
      · exact h.elim
    · cases hx with | agg cs us' hr =>
      obtain ⟨cs', H', h, hst', he, hr'⟩ := nilA_ok _ _ _ _ hst hr h
      exact fin hst' (hs.ext he) (hd.ext he) (.agg _ _ hr') (fun _ h => h) rfl hl' h
    · obtain ⟨H', h, hst', he⟩ := nilC_ok _ _ _ hst h
      exact fin hst' (hs.ext he) (hd.ext he) (hx.ext he) (fun _ h => h) rfl hl' h
    · cases hx with | agg _ us' hr =>
      cases hr with | cons _ u1 _ us1 h1 h2 =>
      cases h1 with | agg _ us2 hr =>
      obtain ⟨cs', H', h, hst', he, hr'⟩ := nilA_ok _ _ _ _ hst hr h
      exact fin hst' (hs.ext he) (hd.ext he) (.agg _ _ (.cons _ _ _ _ (.agg _ _ hr') (h2.ext he))) (fun _ h => h) rfl hl' h
    · exact fin hst hs hd hx (fun _ h => h) rfl hl' h

theorem viewB_ok (hN : noRef G) {np : Nat} {ms : List Mode} {vs : List V} {us : List Value} {K : List V → List Blk → Prop} (hst : St G base w0 c H w) (hv : VRels c H w vs us) (h : viewB np ms vs H K) :
    ∃ c' vs' H', K vs' H' ∧ St G base w0 c' H' w ∧ VRels c' H' w vs' us ∧ (∀ g, c.M g → c'.M g) ∧ (∀ g, c.gi = some g → inL (upTo np [] ++ idsOf np ms vs) g = false → c'.gi = none) ∧ (c.gi = none → c'.gi = none) := by
  obtain ⟨hnd, h⟩ := h
  have h := (forceL_eq _ _).1 ((forceL_eq _ _).1 h)
  refine ⟨_, _, _, h, hst.ren hN (nodupB_iff _ hnd), hv.ren fun k i hk => shape_sel hk, fun _ h => h, fun g hg hn => ?_, fun hg => by simp [Cx.ren, hg]⟩
  simp only [Cx.ren, hg, Option.bind_some]
  cases hi : idxIn (upTo np [] ++ idsOf np ms vs) g with
  | none => rfl
  | some k =>
    have := List.mem_of_getElem? (idxIn_some _ _ _ hi)
    rw [(inL_iff _ _).2 this] at hn
    cases hn

theorem length_sprd : ∀ (f i : Nat) (keep : List (Nat × Mode)) (vs : List V), (sprd f i keep vs).length = f
  | 0, _, _, _ => rfl
  | f + 1, i, keep, vs => by
    unfold sprd
    split
    · cases Nat.beq _ i <;> simp [length_sprd f]
    · simp [length_sprd f]
theorem sprd_ok {tm : List Value} : ∀ (f i : Nat) (keep : List (Nat × Mode)) (vs : List V), VRels c H w vs (keep.map fun x => tm.getD x.1 undef) → i + f = tm.length → VRels c H w (sprd f i keep vs) (tm.drop i)
  | 0, i, keep, vs, hv, hl => by
    rw [List.drop_eq_nil_of_le (by omega)]
    exact .nil
  | f + 1, i, keep, vs, hv, hl => by
    have hi : i < tm.length := by omega
    rw [List.drop_eq_getElem_cons hi]
    unfold sprd
    split
    · rename_i j m ks v us
      cases hv with | cons _ _ _ _ hx hs =>
      cases hb : Nat.beq j i with
      | true =>
        have := Nat.eq_of_beq_eq_true hb
        subst this
        have e : tm.getD j undef = tm[j] := by simp [List.getD_eq_getElem?_getD, hi]
        rw [← e]
        exact .cons _ _ _ _ hx (sprd_ok f (j + 1) ks us hs (by omega))
      | false => exact .cons _ _ _ _ (.undef _) (sprd_ok f (i + 1) ((j, m) :: ks) (v :: us) (.cons _ _ _ _ hx hs) (by omega))
    · exact .cons _ _ _ _ (.undef _) (sprd_ok f (i + 1) [] [] .nil (by omega))
theorem sprd_all {tm : List Value} {n : Nat} (keep : List (Nat × Mode)) (vs : List V) (hn : n = tm.length) (hv : VRels c H w vs (keep.map fun x => tm.getD x.1 undef)) : VRels c H w (sprd n 0 keep vs) tm := by
  have := sprd_ok n 0 keep vs hv (by omega)
  simpa using this

theorem view_ok {E : Env} {S : Ses} (hG : GlobOk E.glob) (hN : noRef E.glob) {np : Nat} {keep : List (Nat × Mode)} {σ : List V} {K : List V → List Blk → Prop} {a : Act} (hs : Sta E S σ H a w) (h : view np keep σ H K) :
    ∃ vs H', K vs H' ∧ Sta E S (sprd σ.length 0 keep vs) H' a w := by
  obtain ⟨c, b, v, hS, hst, hσ, hd⟩ := hs
  obtain ⟨vs, h, hv⟩ := picks_ok keep hσ h
  have hl : (keep.map (·.2)).length = vs.length := by rw [hv.length]; simp
  obtain ⟨c1, vs1, H1, h, hst1, hv1, _⟩ := viewA_ok hG (keep.map (·.2)) c vs [] H _ [] _ hst hv .nil hl h
  obtain ⟨c2, vs2, H2, h, hst2, hv2, _⟩ := viewB_ok hN hst1 hv1 h
  exact ⟨vs2, H2, h, c2, b, v, hS, hst2, sprd_all keep vs2 hσ.length (by simpa using hv2), hd⟩
end
end Go.Proofs.Ytgljcfnplkcfhaa.Vc

namespace Go.Proofs.Ytgljcfnplkcfhaa.Vc
open Go Go.RowKit

def Agree (E : Env) (o : Op) (σ σ2 : List V) : Prop := ∀ x ∈ o.operands.toList, evr E σ2 x = evr E σ x
theorem ev_of_evr {E : Env} {σ σ2 : List V} {x : Operand} (h : evr E σ2 x = evr E σ x) : ev E σ2 x = ev E σ x := by
  cases x with
  | tmp t => exact congrArg V.nb h
  | _ => rfl
theorem Agree.ev {E : Env} {o : Op} {σ σ2 : List V} (h : Agree E o σ σ2) : ∀ x ∈ o.operands.toList, Vc.ev E σ2 x = Vc.ev E σ x := fun x hx => ev_of_evr (h x hx)


/-- A contract comes out in one way, and only adds to the own blocks. -/
def DetP (c : Con) : Prop := ∀ args H R, c args H R → ∃ v bs, R v (H ++ bs) ∧ ∀ R' : V → List Blk → Prop, R' v (H ++ bs) → c args H R'
/-- All that is there is there as well. -/
def HLe (H H2 : List Blk) : Prop := ∀ id, getB H id ≠ .dead → getB H2 id = getB H id
/-- Where it hands back no new block, more blocks turn nothing. -/
def MonoC (c : Con) : Prop := ∀ args H H2 v0, HLe H H2 → V.noIds v0 = true → c args H (fun v H' => v = v0 ∧ H' = H) → c args H2 fun v H' => v = v0 ∧ H' = H2
structure Det (c : Con) : Prop where
  det : DetP c
  mono : MonoC c
def DetE (E : Env) : Prop := ∀ k c, lk E.con k = some c → Det c

theorem Det.point {c : Con} (h : Det c) (args : List V) (H : List Blk) : Point (fun K : V × List Blk → Prop => c args H fun v H => K (v, H)) := fun K hk => by
  obtain ⟨v, bs, h1, h2⟩ := h.det args H _ hk
  exact ⟨(v, H ++ bs), h1, fun K' h' => h2 _ h'⟩

theorem cls0 {E : Env} {o : Op} (h : clsOp E o = some 0) (σ : List V) : ∃ F : (V → Prop) → Prop, Point F ∧ ∀ σ2 H2 (K : V → List V → List Blk → Prop), Agree E o σ σ2 → aop E σ2 H2 o K = F fun v => K v σ2 H2 := by
  cases o <;> first | (simp [clsOp] at h; done) | skip
  case move x =>
    refine ⟨fun K => forceV (evr E σ x) K, .forceV fun _ => .ret _, fun σ2 H2 K ha => ?_⟩
    unfold aop
    try dsimp only
    rw [ha x (by simp [Op.operands])]
  case assign x =>
    refine ⟨fun K => forceV (evr E σ x) K, .forceV fun _ => .ret _, fun σ2 H2 K ha => ?_⟩
    unfold aop
    try dsimp only
    rw [ha x (by simp [Op.operands])]
  case pick c a b =>
    refine ⟨fun K => match evr E σ c with | .b p => (p → forceV (evr E σ a) K) ∧ (¬p → forceV (evr E σ b) K) | .bt true => forceV (evr E σ a) K | .bt false => forceV (evr E σ b) K | _ => False, ?_, fun σ2 H2 K ha => ?_⟩
    · generalize evr E σ c = vc
      cases vc <;> first | exact .fls | exact .imps (.forceV fun _ => .ret _) (.forceV fun _ => .ret _) | (rename_i x; cases x <;> exact .forceV fun _ => .ret _)
    · unfold aop
      try dsimp only
      rw [ha c (by simp [Op.operands]), ha a (by simp [Op.operands]), ha b (by simp [Op.operands])]
      rfl
  case build T ps =>
    refine ⟨fun K => evs E σ (ps.toList.map (·.2)) fun vs => abuild E T ((ps.toList.map (·.1)).zip vs) K, .evs fun _ => .abuild, fun σ2 H2 K ha => ?_⟩
    unfold aop
    try dsimp only
    rw [evs_agree fun x hx => ha.ev x (by simpa [Op.operands] using hx)]
  case unOp op T x =>
    cases op <;> first
      | (refine ⟨fun _ => False, .fls, fun σ2 H2 K ha => ?_⟩; unfold aop; rfl)
      | skip
    refine ⟨fun K => match evr E σ x with | .b p => K (.b (¬p)) | .bt true => K (.bt false) | .bt false => K (.bt true) | _ => False, ?_, fun σ2 H2 K ha => ?_⟩
    · generalize evr E σ x = vc
      cases vc <;> first | exact .fls | exact .ret _ | (rename_i x; cases x <;> exact .ret _)
    · unfold aop
      try dsimp only
      rw [ha x (by simp [Op.operands])]
      rfl
  case convert S T x =>
    refine ⟨fun K => aconv E S T (ev E σ x) K, .aconv, fun σ2 H2 K ha => ?_⟩
    unfold aop
    try dsimp only
    rw [ha.ev x (by simp [Op.operands])]
  case makeFunc f fst caps =>
    cases f <;> first
      | (refine ⟨fun _ => False, .fls, fun σ2 H2 K ha => ?_⟩; unfold aop; rfl)
      | skip
    rename_i f
    refine ⟨fun K => match fst.toList with | [] => evs E σ caps.toList fun vs => K (.fn f vs) | _ => False, ?_, fun σ2 H2 K ha => ?_⟩
    · generalize fst.toList = l
      cases l
      · exact .evs fun _ => .ret _
      · exact .fls
    · unfold aop
      try dsimp only
      have hev := evs_agree (E := E) (σ := σ) (σ2 := σ2) (l := caps.toList) (fun x hx => ha.ev x (by simp [Op.operands]; right; simpa using hx))
      generalize fst.toList = l
      cases l
      · exact hev _
      · rfl
  case index T x i =>
    refine ⟨fun K => match lk E.ty T, ev E σ x, ev E σ i with | some .str, .str s, .int _ j => (0 ≤ j ∧ j < s.length) ∧ K (.u8 (s.getD j.toNat 0)) | some (.arr n te), .dat fr t' x, .int _ j => bif decide (t' = .arr n te) && (Nat.beq te.size 1 && !isAggB te) then (0 ≤ j ∧ j < n) ∧ forceV (getCell fr t' x j.toNat) K else False | _, _, _ => False, ?_, fun σ2 H2 K ha => ?_⟩
    · generalize ev E σ x = vc
      generalize ev E σ i = vi
      generalize lk E.ty T = r
      rcases r with _ | t
      · exact .fls
      · cases t <;> first | exact .fls | skip
        all_goals
          cases vc <;> first | exact .fls | skip
          cases vi <;> first | exact .fls | exact .and (.ret _) | exact .bif (.and (.forceV fun _ => .ret _)) .fls
    · unfold aop
      try dsimp only
      rw [ha.ev x (by simp [Op.operands]), ha.ev i (by simp [Op.operands])]
      rfl
  case extract x i =>
    refine ⟨fun K => match ev E σ x with | .tup vs => bif Nat.blt i vs.length then forceV (gets vs i) K else False | _ => False, ?_, fun σ2 H2 K ha => ?_⟩
    · generalize ev E σ x = vc
      cases vc <;> first | exact .fls | exact .bif (.forceV fun _ => .ret _) .fls
    · unfold aop
      try dsimp only
      rw [ha.ev x (by simp [Op.operands])]
      rfl
  case binOp op T x y yT =>
    have hT : ∀ t, lk E.ty T ≠ some (.sl t) := fun t ht => by simp [clsOp, ht] at h
    refine ⟨fun K => abinT E T op [] (ev E σ x) (ev E σ y) K, .abinT hT, fun σ2 H2 K ha => ?_⟩
    unfold aop
    try dsimp only
    rw [ha.ev x (by simp [Op.operands]), ha.ev y (by simp [Op.operands])]
    exact abinT_H hT _
  case call c =>
    obtain ⟨callee, args, tys⟩ := c
    cases callee <;> first | (simp [clsOp] at h; done) | skip
    rename_i b
    have key : ∀ mx : Bool, ∃ F : (V → Prop) → Prop, Point F ∧ ∀ σ2 H2 (K : V → List V → List Blk → Prop), Agree E (.call { callee := .builtin b, args, argTypes := tys }) σ σ2 →
        (match args.toList with | [x, y] => amm mx (ev E σ2 x) (ev E σ2 y) fun v => K v σ2 H2 | _ => False) = F fun v => K v σ2 H2 := fun mx => by
      refine ⟨fun K => match args.toList with | [x, y] => amm mx (ev E σ x) (ev E σ y) K | _ => False, ?_, fun σ2 H2 K ha => ?_⟩
      · generalize args.toList = l
        rcases l with _ | ⟨x, _ | ⟨y, _ | ⟨z, l⟩⟩⟩ <;> try exact .fls
        dsimp only
        generalize ev E σ x = vx
        generalize ev E σ y = vy
        cases vx <;> first | exact .fls | skip
        cases vy <;> first | exact .fls | (cases mx <;> exact .bif (.ret _) .fls)
      · have hx : ∀ x ∈ args.toList, ev E σ2 x = ev E σ x := fun x hx => ha.ev x (by simpa [Op.operands, Call.operands] using hx)
        generalize args.toList = l at hx
        rcases l with _ | ⟨x, _ | ⟨y, _ | ⟨z, l⟩⟩⟩ <;> try rfl
        dsimp only
        rw [hx x (by simp), hx y (by simp)]
    cases b <;> first | (simp [clsOp] at h; done) | exact key true | exact key false

theorem cls1 {E : Env} {o : Op} (h : clsOp E o = some 1) (σ : List V) (H : List Blk) : ∃ F : (V → Prop) → Prop, Point F ∧ ∀ σ2 (K : V → List V → List Blk → Prop), Agree E o σ σ2 → aop E σ2 H o K = F fun v => K v σ2 H := by
  cases o <;> first | (simp [clsOp] at h; done) | skip
  case load T p =>
    refine ⟨fun K => aload E H T (ev E σ p) K, .aload, fun σ2 K ha => ?_⟩
    unfold aop
    try dsimp only
    rw [ha.ev p (by simp [Op.operands])]
  case indexAddr T x i =>
    refine ⟨fun K => aindexAddr E H T (ev E σ x) (ev E σ i) K, .aindexAddr, fun σ2 K ha => ?_⟩
    unfold aop
    try dsimp only
    rw [ha.ev x (by simp [Op.operands]), ha.ev i (by simp [Op.operands])]
  case fieldAddr T x f =>
    refine ⟨fun K => afield E H T (ev E σ x) f K, .afield, fun σ2 K ha => ?_⟩
    unfold aop
    try dsimp only
    rw [ha.ev x (by simp [Op.operands])]
  case slice T x lo hi mx =>
    cases mx with
    | some m => exact ⟨fun _ => False, .fls, fun σ2 K ha => by unfold aop; rfl⟩
    | none =>
      refine ⟨fun K => aslice E H T (ev E σ x) (lo.map (ev E σ)) (hi.map (ev E σ)) K, .aslice, fun σ2 K ha => ?_⟩
      unfold aop
      try dsimp only
      have h1 : lo.map (ev E σ2) = lo.map (ev E σ) := by
        cases lo with
        | none => rfl
        | some l => simp only [Option.map_some]; rw [ha.ev l (by simp [Op.operands])]
      have h2 : hi.map (ev E σ2) = hi.map (ev E σ) := by
        cases hi with
        | none => rfl
        | some l => simp only [Option.map_some]; rw [ha.ev l (by simp [Op.operands])]
      rw [ha.ev x (by simp [Op.operands]), h1, h2]
  case binOp op T x y yT =>
    exfalso
    simp only [clsOp] at h
    split at h <;> simp at h
  case call c =>
    obtain ⟨callee, args, tys⟩ := c
    cases callee <;> first | (simp [clsOp] at h; done) | skip
    rename_i b
    cases b <;> first | (simp [clsOp] at h; done) | skip
    refine ⟨fun K => match args.toList, tys.toList with | [x], [T] => alenT E H T (ev E σ x) K | _, _ => False, ?_, fun σ2 K ha => ?_⟩
    · generalize args.toList = l
      generalize tys.toList = l'
      rcases l with _ | ⟨x, _ | ⟨y, l⟩⟩ <;> try exact .fls
      rcases l' with _ | ⟨T, _ | ⟨T', l'⟩⟩ <;> first | exact .fls | exact .alenT
    · unfold aop
      try dsimp only
      have hx : ∀ x ∈ args.toList, ev E σ2 x = ev E σ x := fun x hx => ha.ev x (by simpa [Op.operands, Call.operands] using hx)
      generalize args.toList = l at hx
      generalize tys.toList = l'
      rcases l with _ | ⟨x, _ | ⟨y, l⟩⟩ <;> try rfl
      rcases l' with _ | ⟨T, _ | ⟨T', l'⟩⟩ <;> try rfl
      dsimp only
      rw [hx x (by simp)]

/-- What an operand leads to at once. -/
def V.top : V → Nat → Prop
  | .own _ i, id => i = id
  | .slc _ i _ _, id => i = id
  | .ptr i _ _ _, id => i = id
  | _, _ => False
/-- What an operation looks at is the same. -/
def Agr1 (E : Env) (o : Op) (σ : List V) (H H2 : List Blk) : Prop := ∀ x ∈ o.operands.toList, ∀ id, (ev E σ x).top id → getB H id ≠ .dead → getB H2 id = getB H id

theorem read_H {E : Env} {o : Op} (h : clsOp E o = some 1) {σ : List V} {H H2 : List Blk} (ha : Agr1 E o σ H H2) {k : V → Prop} (hk : aop E σ H o fun v _ _ => k v) : aop E σ H2 o fun v _ _ => k v := by
  have key : ∀ x ∈ o.operands.toList, ∀ id, (ev E σ x).top id → getB H id = .dead ∨ getB H2 id = getB H id := fun x hx id ht => by
    by_cases hd : getB H id = .dead
    · exact .inl hd
    · exact .inr (ha x hx id ht hd)
  cases o <;> first | (simp [clsOp] at h; done) | skip
  case load T p =>
    have hp := key p (by simp [Op.operands])
    unfold aop at hk ⊢
    dsimp only at hk ⊢
    unfold aload at hk ⊢
    generalize ev E σ p = vp at hk hp ⊢
    generalize lk E.ty T = r at hk ⊢
    cases vp <;> first | exact hk | skip
    rename_i id z i o
    rcases r with _ | t
    · exact hk.elim
    · rcases hp id rfl with hd | he
      · cases t <;> dsimp only at hk <;> rw [hd] at hk <;> exact hk.elim
      · cases t <;> dsimp only at hk ⊢ <;> first | exact hk.elim | (rw [he]; exact hk)
  case indexAddr T x i =>
    have hp := key x (by simp [Op.operands])
    unfold aop at hk ⊢
    dsimp only at hk ⊢
    unfold aindexAddr at hk ⊢
    generalize ev E σ x = vp at hk hp ⊢
    generalize ev E σ i = vi at hk ⊢
    generalize lk E.ty T = r at hk ⊢
    rcases r with _ | t
    · exact hk.elim
    · cases vp <;> first | exact hk | skip
      case own t0 id =>
        rcases hp id rfl with hd | he
        · cases t <;> dsimp only at hk <;> first | exact hk.elim | (rw [hd] at hk; exact hk.elim)
        · cases t <;> dsimp only at hk ⊢ <;> first | exact hk.elim | (rw [he]; exact hk)
      case slc t0 id off n =>
        rcases hp id rfl with hd | he
        · cases t <;> dsimp only at hk <;> first | exact hk.elim | (rw [hd] at hk; exact hk.elim)
        · cases t <;> dsimp only at hk ⊢ <;> first | exact hk.elim | (rw [he]; exact hk)
      case ptr id z j o =>
        rcases hp id rfl with hd | he
        · cases t <;> dsimp only at hk <;> first | exact hk.elim | (rw [hd] at hk; exact hk.elim)
        · cases t <;> dsimp only at hk ⊢ <;> first | exact hk.elim | (rw [he]; exact hk)
  case fieldAddr S x f =>
    have hp := key x (by simp [Op.operands])
    unfold aop at hk ⊢
    dsimp only at hk ⊢
    unfold afield at hk ⊢
    generalize ev E σ x = vp at hk hp ⊢
    generalize lk E.ty S = r at hk ⊢
    cases vp <;> first | exact hk | skip
    rename_i id z i o
    rcases r with _ | t
    · exact hk.elim
    · cases t <;> dsimp only at hk ⊢ <;> first | exact hk.elim | skip
      rename_i t ts
      generalize getO (offs (t.cons ts) 0) f = q at hk ⊢
      rcases q with _ | ⟨o1, z1⟩
      · exact hk.elim
      · dsimp only at hk ⊢
        rcases hp id rfl with hd | he
        · rw [hd] at hk
          obtain ⟨_, hk⟩ := bif_ok hk
          exact hk.elim
        · rw [he]; exact hk
  case slice T x lo hi mx =>
    cases mx with
    | some m => exact hk.elim
    | none =>
      have hp := key x (by simp [Op.operands])
      unfold aop at hk ⊢
      dsimp only at hk ⊢
      unfold aslice at hk ⊢
      generalize ev E σ x = vp at hk hp ⊢
      generalize lk E.ty T = r at hk ⊢
      rcases r with _ | t
      · exact hk.elim
      · cases vp <;> first | exact hk | skip
        rename_i t0 id
        rcases hp id rfl with hd | he
        · cases t <;> dsimp only at hk <;> first | exact hk.elim | (rw [hd] at hk; exact hk.elim)
        · cases t <;> dsimp only at hk ⊢ <;> first | exact hk.elim | (rw [he]; exact hk)
  case binOp op T x y yT =>
    exfalso
    simp only [clsOp] at h
    split at h <;> simp at h
  case call c =>
    obtain ⟨callee, args, tys⟩ := c
    cases callee <;> first | (simp [clsOp] at h; done) | skip
    rename_i b
    cases b <;> first | (simp [clsOp] at h; done) | skip
    have hl : ∀ x ∈ args.toList, ∀ id, (ev E σ x).top id → getB H id = .dead ∨ getB H2 id = getB H id := fun x hx => key x (by simpa [Op.operands, Call.operands] using hx)
    unfold aop at hk ⊢
    dsimp only at hk ⊢
    generalize args.toList = l at hk hl ⊢
    generalize tys.toList = l' at hk ⊢
    rcases l with _ | ⟨x, _ | ⟨y, l⟩⟩ <;> try exact hk.elim
    rcases l' with _ | ⟨T, _ | ⟨T', l'⟩⟩ <;> first | exact hk.elim | skip
    have hp := hl x (by simp)
    dsimp only at hk ⊢
    unfold alenT at hk ⊢
    generalize ev E σ x = vp at hk hp ⊢
    generalize lk E.ty T = r at hk ⊢
    rcases r with _ | t
    · exact hk.elim
    · cases t <;> first | exact hk.elim | skip
      · cases vp <;> exact hk
      · cases vp <;> first | exact hk | skip
        rename_i t0 id
        unfold alen at hk ⊢
        dsimp only at hk ⊢
        rcases hp id rfl with hd | he
        · rw [hd] at hk
          exact hk.elim
        · rw [he]; exact hk

theorem cls1b {E : Env} {o : Op} (h : clsOp E o = some 1) {σ : List V} {H : List Blk} {K : V → List V → List Blk → Prop} (hk : aop E σ H o K) :
    ∃ v, K v σ H ∧ ∀ σ2 H2 (K' : V → List V → List Blk → Prop), Agree E o σ σ2 → Agr1 E o σ H H2 → K' v σ2 H2 → aop E σ2 H2 o K' := by
  obtain ⟨F, hF, he⟩ := cls1 h σ H
  rw [he σ K (fun _ _ => rfl)] at hk
  obtain ⟨v, h1, h2⟩ := hF _ hk
  refine ⟨v, h1, fun σ2 H2 K' ha hr hk' => ?_⟩
  have e1 : aop E σ H o fun v _ _ => K' v σ2 H2 := by
    rw [he σ _ (fun _ _ => rfl)]
    exact h2 _ hk'
  have e2 := read_H h hr e1
  obtain ⟨F2, _, he2⟩ := cls1 h σ H2
  rw [he2 σ _ (fun _ _ => rfl)] at e2
  rw [he2 σ2 K' ha]
  exact e2

/-- A call that hands back no new block, where more blocks are. -/
theorem cls2b {E : Env} (hd : DetE E) {o : Op} (h : clsOp E o = some 2) {σ : List V} {H : List Blk} {v : V} (hv : v.noIds = true) (hk : aop E σ H o fun v' σ' H' => v' = v ∧ H' = H) :
    ∀ σ2 H2 (K' : V → List V → List Blk → Prop), Agree E o σ σ2 → HLe H H2 → K' v σ2 H2 → aop E σ2 H2 o K' := by
  intro σ2 H2 K' ha hle hk'
  cases o <;> first | (simp [clsOp] at h; done) | skip
  case binOp op T x y yT =>
    exfalso
    simp only [clsOp] at h
    split at h <;> simp at h
  case call c =>
    obtain ⟨callee, args, tys⟩ := c
    cases callee <;> first | (simp [clsOp] at h; done) | skip
    case builtin b => cases b <;> simp [clsOp] at h
    rename_i f
    have hef := ha.ev f (by simp [Op.operands, Call.operands])
    have hev := evs_agree (E := E) (σ := σ) (σ2 := σ2) (l := args.toList) (fun x hx => ha.ev x (by simp [Op.operands, Call.operands]; right; simpa using hx))
    unfold aop at hk ⊢
    dsimp only at hk ⊢
    rw [hef]
    generalize ev E σ f = vf at hk
    cases vf <;> first | exact hk.elim | skip
    rename_i k caps
    dsimp only at hk ⊢
    generalize hlk : lk E.con k = r at hk
    rcases r with _ | c
    · exact hk.elim
    · dsimp only at hk ⊢
      rw [hev]
      have hp : Point (fun K : List V → Prop => evs E σ args.toList K) := .evs (f := fun vs K => K vs) fun vs => .ret vs
      obtain ⟨vs, h1, h2⟩ := hp _ hk
      refine h2 _ ?_
      obtain ⟨hdet, hmono⟩ := hd k c hlk
      obtain ⟨v1, bs, h3, h4⟩ := hdet _ _ _ h1
      have h3 := (forceL_eq _ _).1 ((forceV_eq _ _).1 h3)
      have e1 : c (vs ++ caps) H fun v' H' => v' = v ∧ H' = H := h4 _ h3
      have e2 := hmono _ _ _ _ hle hv e1
      obtain ⟨v2, bs2, ⟨h5, h6⟩, h7⟩ := hdet _ _ _ e2
      refine h7 _ ?_
      rw [h6, h5]
      exact (forceV_eq _ _).2 ((forceL_eq _ _).2 hk')

theorem cls2 {E : Env} (hd : DetE E) {o : Op} (h : clsOp E o = some 2) (σ : List V) (H : List Blk) : ∃ F : (V × List Blk → Prop) → Prop, Point F ∧ (∀ K, F K → ∃ v bs, K (v, H ++ bs) ∧ ∀ K' : V × List Blk → Prop, K' (v, H ++ bs) → F K') ∧ ∀ σ2 (K : V → List V → List Blk → Prop), Agree E o σ σ2 → aop E σ2 H o K = F fun p => K p.1 σ2 p.2 := by
  cases o <;> first | (simp [clsOp] at h; done) | skip
  case binOp op T x y yT =>
    exfalso
    simp only [clsOp] at h
    split at h <;> simp at h
  case call c =>
    obtain ⟨callee, args, tys⟩ := c
    cases callee <;> first | (simp [clsOp] at h; done) | skip
    case builtin b => cases b <;> simp [clsOp] at h
    rename_i f
    let F : (V × List Blk → Prop) → Prop := fun K => match ev E σ f with
      | .fn k caps => match lk E.con k with
        | some c => evs E σ args.toList fun vs => c (vs ++ caps) H fun v H => forceV v fun v => forceL H fun H => K (v, H)
        | none => False
      | _ => False
    have key : ∀ K, F K → ∃ v bs, K (v, H ++ bs) ∧ ∀ K' : V × List Blk → Prop, K' (v, H ++ bs) → F K' := by
      intro K hF
      simp only [F] at hF ⊢
      generalize ev E σ f = vf at hF
      cases vf <;> first | exact hF.elim | skip
      rename_i k caps
      dsimp only at hF ⊢
      generalize hk : lk E.con k = r at hF
      rcases r with _ | c
      · exact hF.elim
      · dsimp only at hF ⊢
        have hp : Point (fun K : List V → Prop => evs E σ args.toList K) := .evs (f := fun vs K => K vs) fun vs => .ret vs
        obtain ⟨vs, h1, h2⟩ := hp _ hF
        obtain ⟨v, bs, h3, h4⟩ := (hd k c hk).det _ _ _ h1
        exact ⟨v, bs, (forceL_eq _ _).1 ((forceV_eq _ _).1 h3), fun K' h' => h2 _ (h4 _ ((forceV_eq _ _).2 ((forceL_eq _ _).2 h')))⟩
    refine ⟨F, fun K hF => ?_, key, fun σ2 K ha => ?_⟩
    · obtain ⟨v, bs, h1, h2⟩ := key K hF
      exact ⟨_, h1, h2⟩
    · unfold aop
      try dsimp only
      rw [ha.ev f (by simp [Op.operands, Call.operands])]
      simp only [F]
      have hev := evs_agree (E := E) (σ := σ) (σ2 := σ2) (l := args.toList) (fun x hx => ha.ev x (by simp [Op.operands, Call.operands]; right; simpa using hx))
      generalize ev E σ f = vf
      cases vf <;> first | rfl | skip
      rename_i k caps
      dsimp only
      generalize lk E.con k = r
      rcases r with _ | c
      · rfl
      · exact hev _

theorem cls3 {E : Env} {o : Op} (h : clsOp E o = some 3 ∨ clsOp E o = some 5) (σ : List V) (H : List Blk) : ∃ F : (V × List Blk → Prop) → Prop, Point F ∧ ∀ σ2 (K : V → List V → List Blk → Prop), Agree E o σ σ2 → aop E σ2 H o K = F fun p => K p.1 σ2 p.2 := by
  cases o <;> first | (simp [clsOp] at h; done) | skip
  case alloc T =>
    exact ⟨fun K => aalloc E H T fun v H => K (v, H), .aalloc, fun σ2 K ha => by unfold aop; rfl⟩
  case box T x =>
    refine ⟨fun K => forceV (ev E σ x) fun v => abox E H T v fun v H => K (v, H), .forceV fun _ => .abox, fun σ2 K ha => ?_⟩
    unfold aop
    try dsimp only
    rw [ha.ev x (by simp [Op.operands])]
  case buildSlice T n ps =>
    refine ⟨fun K => bif idxOk ps.toList 0 n && Nat.ble n 1000 then evs E σ (ps.toList.map (·.2)) fun vs => abuildSlice E H T vs fun v H => K (v, H) else False, .bif (.evs fun _ => .abuildSlice) .fls, fun σ2 K ha => ?_⟩
    unfold aop
    try dsimp only
    rw [evs_agree fun x hx => ha.ev x (by simpa [Op.operands] using hx)]
  case store T p x =>
    refine ⟨fun K => forceV (ev E σ x) fun v => astore E H T (ev E σ p) v fun H => K (.undef, H), .forceV fun v => ?_, fun σ2 K ha => ?_⟩
    · exact Point.bind (g := fun H K => K (V.undef, H)) .astore fun H => .ret _
    · unfold aop
      try dsimp only
      rw [ha.ev x (by simp [Op.operands]), ha.ev p (by simp [Op.operands])]
  case makeSlice T l c =>
    refine ⟨fun K => match lk E.ty T, ev E σ l, ev E σ c with
      | some (.sl t), .int _ n, .int _ m => (n = m ∧ 0 ≤ n ∧ n ≤ 1000000000) ∧ forceL (H ++ [.row true t (List.replicate n.toNat t.dflt)]) fun H' => K (.own t H.length, H')
      | _, _, _ => False, ?_, fun σ2 K ha => ?_⟩
    · generalize ev E σ l = vc
      generalize ev E σ c = vi
      generalize lk E.ty T = r
      rcases r with _ | t
      · exact .fls
      · cases t <;> first | exact .fls | skip
        cases vc <;> first | exact .fls | skip
        cases vi <;> first | exact .fls | exact .and (.forceL fun _ => .ret _)
    · unfold aop
      try dsimp only
      rw [ha.ev l (by simp [Op.operands]), ha.ev c (by simp [Op.operands])]
      rfl
  case binOp op T x y yT =>
    exfalso
    simp only [clsOp] at h
    split at h <;> simp at h
  case call c =>
    obtain ⟨callee, args, tys⟩ := c
    cases callee <;> first | (simp [clsOp] at h; done) | skip
    rename_i b
    cases b <;> simp [clsOp] at h

theorem cls4 {E : Env} {o : Op} (h : clsOp E o = some 4) (σ : List V) (H : List Blk) : Point (fun K : V × List V × List Blk → Prop => aop E σ H o fun v σ H => K (v, σ, H)) := by
  cases o <;> first | (simp [clsOp] at h; done) | skip
  case binOp op T x y yT =>
    exfalso
    simp only [clsOp] at h
    split at h <;> simp at h
  case call c =>
    obtain ⟨callee, args, tys⟩ := c
    cases callee <;> first | (simp [clsOp] at h; done) | skip
    rename_i b
    cases b <;> first | (simp [clsOp] at h; done) | skip
    unfold aop
    try dsimp only
    generalize args.toList = l
    generalize tys.toList = l'
    rcases l with _ | ⟨x, _ | ⟨y, _ | ⟨z, l⟩⟩⟩ <;> first | exact .fls | skip
    rcases l' with _ | ⟨T, _ | ⟨T', _ | ⟨T'', l'⟩⟩⟩ <;> first | exact .fls | exact .bif .aappend .fls
theorem cls_lt {E : Env} {o : Op} {k : Nat} (h : clsOp E o = some k) : k ≤ 5 := by
  unfold clsOp at h
  split at h <;> first | (split at h <;> simp at h <;> omega) | (simp at h <;> omega)

theorem virt_pt {E : Env} {o : Op} {σ : List V} {H : List Blk} {K : V → List V → List Blk → Prop} (h : aopV E σ H o K) :
    ∃ v, K v σ H ∧ ∀ σ2 H2 (K' : V → List V → List Blk → Prop), Agree E o σ σ2 → K' v σ2 H2 → aopV E σ2 H2 o K' := by
  cases o <;> first | exact h.elim | skip
  rename_i T n ps
  have hp : Point (fun K : V → Prop => bif idxOk ps.toList 0 n then evs E σ (ps.toList.map (·.2)) fun vs => (match lk E.ty T with
    | some (.sl t) => bif Nat.ble (vs.length * t.size) 16777216 then asEls t vs fun f xs => K (.sl (t.flat || f) t xs) else False
    | _ => False) else False) := .bif (.evs fun vs => by
      generalize lk E.ty T = r
      rcases r with _ | t
      · exact .fls
      · cases t <;> first | exact .fls | exact .bif (.asEls fun f xs => .ret _) .fls) .fls
  obtain ⟨v, h1, h2⟩ := hp (fun v => K v σ H) h
  refine ⟨v, h1, fun σ2 H2 K' ha hk => ?_⟩
  have := h2 (fun v => K' v σ2 H2) hk
  unfold aopV
  dsimp only
  rw [evs_agree fun x hx => ha.ev x (by simpa [Op.operands] using hx)]
  exact this

def killO (kd : Option Nat) (σ : List V) : List V := match kd with | some id => killL id σ | none => σ
theorem noMen_ok {id : Nat} : ∀ (n : Nat) (H : List Blk) {i : Nat}, noMen id n H = true → i < n → killB id (getB H i) = getB H i
  | 0, _, i, _, hi => by omega
  | n + 1, [], i, _, _ => by cases i <;> rfl
  | n + 1, b :: H, i, h, hi => by
    unfold noMen at h
    rw [Bool.and_eq_true] at h
    cases i with
    | succ i => exact noMen_ok n H h.2 (by omega)
    | zero =>
      show killB id b = b
      cases b with
      | cells cs =>
        have h1 : V.mentionsL id cs = false := by simpa using h.1
        show Blk.cells (killL id cs) = .cells cs
        congr 1
        clear h
        induction cs with
        | nil => rfl
        | cons x cs ih =>
          rw [V.mentionsL, Bool.or_eq_false_iff] at h1
          rw [killL, h1.1, ih h1.2]; rfl
      | _ => rfl

theorem aappend_pt {E : Env} {σ : List V} {H : List Blk} {T : TypeId} {x y : V} {K : V → List V → List Blk → Prop} (h : aappend E σ H T x y K) :
    ∃ v kd H1, K v (killO kd σ) H1 ∧ (∀ id, kd = some id → ∃ t, x = .own t id) ∧ (∀ n, n ≤ H.length → (∀ id, kd = some id → n ≤ id ∧ noMen id n H = true) → ∀ i, i < n → getB H1 i = getB H i) ∧
      ∀ σ2 (K' : V → List V → List Blk → Prop), K' v (killO kd σ2) H1 → aappend E σ2 H T x y K' := by
  unfold aappend at h
  split at h
  · rename_i t hT
    have hp : Point (fun K : Bool × List t.D → Prop => asRow H t y fun f ys => (ys.length ≤ 1000000000) ∧ K (f, ys)) := .asRow fun b l => .and (.ret _)
    obtain ⟨⟨f, ys⟩, h1, h2⟩ := hp (fun p => forceL (H ++ [.row p.1 t p.2]) (K (.own t H.length) σ)) h
    simp only [forceL_eq] at h1
    refine ⟨_, none, _, h1, fun id e => (by cases e), fun n hn _ i hi => by rw [getB_append, if_neg (by omega)], fun σ2 K' hk => ?_⟩
    unfold aappend
    rw [hT]
    exact h2 (fun p => forceL (H ++ [.row p.1 t p.2]) (K' (.own t H.length) σ2)) (by simp only [forceL_eq]; exact hk)
  · rename_i t t0 id hT
    split at h
    · rename_i fr t' xs hb
      obtain ⟨ht, h⟩ := h
      have hp : Point (fun K : List t.D × Bool × List t.D → Prop => castK xs fun xs => asRow H t y fun f ys => (xs.length + ys.length ≤ 1000000000) ∧ K (xs, f, ys)) := .castK fun l => .asRow fun b l => .and (.ret _)
      obtain ⟨⟨xs2, f, ys⟩, h1, h2⟩ := hp (fun p => forceL (killL id σ) fun σ => forceL (setB (killH id H) id (.row (fr && p.2.1) t (p.1 ++ p.2.2))) (K (.own t id) σ)) h
      simp only [forceL_eq] at h1
      refine ⟨_, some id, _, h1, fun id' e => (by cases e; exact ⟨_, rfl⟩), fun n hn hk i hi => ?_, fun σ2 K' hk => ?_⟩
      · obtain ⟨g1, g2⟩ := hk id rfl
        rw [getB_setB, if_neg (by omega), getB_killH]
        exact noMen_ok n H g2 hi
      · unfold aappend
        rw [hT]
        dsimp only
        rw [hb]
        exact ⟨ht, h2 (fun p => forceL (killL id σ2) fun σ => forceL (setB (killH id H) id (.row (fr && p.2.1) t (p.1 ++ p.2.2))) (K' (.own t id) σ)) (by simp only [forceL_eq]; exact hk)⟩
    · exact h.elim
  · exact h.elim

/-- An operation that appends: it turns the slots that speak of its block, and that block. -/
theorem app_pt {E : Env} {o : Op} (hc : clsOp E o = some 4) {σ : List V} {H : List Blk} {K : V → List V → List Blk → Prop} (h : aop E σ H o K) :
    ∃ v kd H1, K v (killO kd σ) H1 ∧ (∀ id, kd = some id → kidOf E σ o = some id) ∧ (∀ n, n ≤ H.length → (∀ id, kd = some id → n ≤ id ∧ noMen id n H = true) → ∀ i, i < n → getB H1 i = getB H i) ∧
      ∀ σ2 (K' : V → List V → List Blk → Prop), Agree E o σ σ2 → K' v (killO kd σ2) H1 → aop E σ2 H o K' := by
  cases o <;> first | (simp [clsOp] at hc; done) | skip
  case binOp op T x y yT =>
    exfalso
    simp only [clsOp] at hc
    split at hc <;> simp at hc
  case call c =>
    obtain ⟨callee, args, tys⟩ := c
    cases callee <;> first | (simp [clsOp] at hc; done) | skip
    rename_i b
    cases b <;> first | (simp [clsOp] at hc; done) | skip
    have hop : ∀ z ∈ args.toList, z ∈ (Op.call ⟨.builtin .append, args, tys⟩).operands.toList := fun z hz => by simp [Op.operands, Call.operands]; simpa using hz
    unfold aop at h
    simp only [kidOf]
    dsimp only at h
    have key : ∀ l l', args.toList = l → tys.toList = l' → (match l, l' with | [x, y], [T, T'] => bif Nat.beq T T' then aappend E σ H T (ev E σ x) (ev E σ y) K else False | _, _ => False) →
      ∃ v kd H1, K v (killO kd σ) H1 ∧ (∀ id, kd = some id → (match l with | x :: _ => (match ev E σ x with | .own _ id => some id | _ => none) | _ => none) = some id) ∧
        (∀ n, n ≤ H.length → (∀ id, kd = some id → n ≤ id ∧ noMen id n H = true) → ∀ i, i < n → getB H1 i = getB H i) ∧
        ∀ σ2 (K' : V → List V → List Blk → Prop), Agree E (Op.call ⟨.builtin .append, args, tys⟩) σ σ2 → K' v (killO kd σ2) H1 → (match l, l' with | [x, y], [T, T'] => bif Nat.beq T T' then aappend E σ2 H T (ev E σ2 x) (ev E σ2 y) K' else False | _, _ => False) := by
      intro l l' hl hl' h
      rcases l with _ | ⟨x, _ | ⟨y, _ | ⟨z, l⟩⟩⟩ <;> first | exact h.elim | skip
      rcases l' with _ | ⟨T, _ | ⟨T', _ | ⟨T'', l'⟩⟩⟩ <;> first | exact h.elim | skip
      dsimp only at h
      obtain ⟨hb, h⟩ := bif_ok h
      obtain ⟨v, kd, H1, h1, h2, h3, h4⟩ := aappend_pt h
      refine ⟨v, kd, H1, h1, fun id e => ?_, h3, fun σ2 K' ha hk => ?_⟩
      · obtain ⟨t, e⟩ := h2 id e
        dsimp only
        rw [e]
      · dsimp only
        rw [hb, ha.ev x (hop x (by rw [hl]; simp)), ha.ev y (hop y (by rw [hl]; simp))]
        exact h4 σ2 K' hk
    obtain ⟨v, kd, H1, h1, h2, h3, h4⟩ := key _ _ rfl rfl h
    refine ⟨v, kd, H1, h1, h2, h3, fun σ2 K' ha hk => ?_⟩
    unfold aop
    dsimp only
    exact h4 σ2 K' ha hk
theorem clsX_lt {E : Env} {o : Op} {k : Nat} (h : clsX E o = some k) : k ≤ 5 := by
  unfold clsX at h
  cases hv : virtE E o with
  | true => rw [hv] at h; simp only [cond_true, Option.some.injEq] at h; omega
  | false => rw [hv] at h; exact cls_lt h
end Go.Proofs.Ytgljcfnplkcfhaa.Vc

namespace Go.Proofs.Ytgljcfnplkcfhaa.Vc
open Go Go.RowKit

def putV (σ : List V) (d : Option Nat) (v : V) : List V := match d with | none => σ | some d => sets σ d v
theorem setDst_eq (σ : List V) (d : Option Nat) (v : V) (K : List V → Prop) : setDst σ d v K ↔ K (putV σ d v) := by
  cases d with
  | none => exact Iff.rfl
  | some d => exact (normV_eq v fun v => forceL (sets σ d v) K).trans (forceL_eq _ _)

/-- A new block is behind the others. -/
theorem fresh_ext {E : Env} {o : Op} (h : clsOp E o = some 5) {σ : List V} {H : List Blk} {K : V → List V → List Blk → Prop} (hk : aop E σ H o K) : aop E σ H o fun v σ' H' => K v σ' H' ∧ ∃ bs, H' = H ++ bs := by
  cases o <;> first | (simp [clsOp] at h; done) | skip
  case alloc T =>
    unfold aop at hk ⊢
    dsimp only at hk ⊢
    unfold aalloc at hk ⊢
    generalize lk E.ty T = r at hk ⊢
    rcases r with _ | t
    · exact hk.elim
    · cases t <;> dsimp only at hk ⊢ <;> obtain ⟨hb, hk⟩ := bif_ok hk <;> rw [hb] <;> simp only [cond_true, forceL_eq] at hk ⊢ <;> exact ⟨hk, _, rfl⟩
  case box T x =>
    unfold aop at hk ⊢
    dsimp only at hk ⊢
    simp only [forceV_eq] at hk ⊢
    unfold abox at hk ⊢
    generalize ev E σ x = v at hk ⊢
    generalize lk E.ty T = r at hk ⊢
    rcases r with _ | t
    · exact hk.elim
    · have other : (bif v.isCell && Nat.beq t.size 1 then forceL (H ++ [.cells [v]]) (K (.ptr H.length 1 0 0) σ) else False) → (bif v.isCell && Nat.beq t.size 1 then forceL (H ++ [.cells [v]]) (fun H' => K (.ptr H.length 1 0 0) σ H' ∧ ∃ bs, H' = H ++ bs) else False) := fun hk => by
        obtain ⟨hb, hk⟩ := bif_ok hk
        rw [hb]
        simp only [cond_true, forceL_eq] at hk ⊢
        exact ⟨hk, _, rfl⟩
      have agg : ∀ cs, (bif Nat.blt 0 t.size && allCells cs && Nat.beq cs.length t.size then forceL (H ++ [.cells cs]) (K (.ptr H.length 1 0 0) σ) else False) → (bif Nat.blt 0 t.size && allCells cs && Nat.beq cs.length t.size then forceL (H ++ [.cells cs]) (fun H' => K (.ptr H.length 1 0 0) σ H' ∧ ∃ bs, H' = H ++ bs) else False) := fun cs hk => by
        obtain ⟨hb, hk⟩ := bif_ok hk
        rw [hb]
        simp only [cond_true, forceL_eq] at hk ⊢
        exact ⟨hk, _, rfl⟩
      cases t <;> dsimp only at hk ⊢ <;> first
        | (cases v <;> first | exact agg _ hk | exact other hk)
        | skip
      obtain ⟨hb, hk⟩ := bif_ok hk
      rw [hb]
      simp only [cond_true]
      unfold asArr at hk ⊢
      split at hk <;> first | exact hk.elim | skip
      rw [castK_iff] at hk ⊢
      obtain ⟨e, h1, h2⟩ := hk
      refine ⟨e, h1, ?_⟩
      simp only [forceL_eq] at h2 ⊢
      exact ⟨h2, _, rfl⟩
  case buildSlice T n ps =>
    unfold aop at hk ⊢
    dsimp only at hk ⊢
    obtain ⟨hb, hk⟩ := bif_ok hk
    rw [hb]
    simp only [cond_true]
    have hp : Point (fun K : List V → Prop => evs E σ (ps.toList.map (·.2)) K) := .evs (f := fun vs K => K vs) fun vs => .ret vs
    obtain ⟨vs, h1, h2⟩ := hp _ hk
    refine h2 _ ?_
    unfold abuildSlice at h1 ⊢
    generalize lk E.ty T = r at h1 ⊢
    rcases r with _ | t
    · exact h1.elim
    · cases t <;> first | exact h1.elim | skip
      rename_i t
      have other : (bif Nat.ble (vs.length * t.size) 16777216 then asEls t vs fun f xs => forceL (H ++ [.row (t.flat || f) t xs]) (K (.own t H.length) σ) else False) → (bif Nat.ble (vs.length * t.size) 16777216 then asEls t vs fun f xs => forceL (H ++ [.row (t.flat || f) t xs]) (fun H' => K (.own t H.length) σ H' ∧ ∃ bs, H' = H ++ bs) else False) := fun hk => by
        obtain ⟨hb, hk⟩ := bif_ok hk
        rw [hb]
        simp only [cond_true]
        have hp : Point (fun K : Bool × List t.D → Prop => asEls t vs fun f xs => K (f, xs)) := .asEls (f := fun f xs K => K (f, xs)) fun f xs => .ret _
        obtain ⟨⟨f, xs⟩, h3, h4⟩ := hp (fun p => forceL (H ++ [.row (t.flat || p.1) t p.2]) (K (.own t H.length) σ)) hk
        refine h4 (fun p => forceL (H ++ [.row (t.flat || p.1) t p.2]) (fun H' => K (.own t H.length) σ H' ∧ ∃ bs, H' = H ++ bs)) ?_
        simp only [forceL_eq] at h3 ⊢
        exact ⟨h3, _, rfl⟩
      cases t <;> first | exact other h1 | skip
      dsimp only at h1 ⊢
      obtain ⟨hb, h1⟩ := bif_ok h1
      rw [hb]
      simp only [cond_true, forceL_eq] at h1 ⊢
      exact ⟨h1, _, rfl⟩
  case makeSlice T l c =>
    unfold aop at hk ⊢
    dsimp only at hk ⊢
    split at hk <;> first | exact hk.elim | skip
    refine ⟨hk.1, ?_⟩
    have hk := hk.2
    simp only [forceL_eq] at hk ⊢
    exact ⟨hk, _, rfl⟩
  case binOp op T x y yT =>
    exfalso
    simp only [clsOp] at h
    split at h <;> simp at h
  case call c =>
    obtain ⟨callee, args, tys⟩ := c
    cases callee <;> first | (simp [clsOp] at h; done) | skip
    rename_i b
    cases b <;> simp [clsOp] at h

/-- Where an operation of this class can be done elsewhere: on the same blocks, or on others that agree in what it looks at. -/
def Else (E : Env) (o : Op) (c : Nat) (qt : Prop) (σ : List V) (H H1 H2 H3 : List Blk) : Prop :=
  (H2 = H ∧ (2 ≤ c → H3 = H1) ∧ (c ≤ 1 → H3 = H2)) ∨ (c = 0 ∧ H3 = H2) ∨ (c = 1 ∧ Agr1 E o σ H H2 ∧ H3 = H2) ∨ (c = 2 ∧ qt ∧ HLe H H2 ∧ H3 = H2)

/-- What an operation of this class turns. -/
structure Turned (E : Env) (o : Op) (c : Nat) (σ : List V) (H : List Blk) (kd : Option Nat) (H1 : List Blk) : Prop where
  kid : ∀ id, kd = some id → c = 4 ∧ kidOf E σ o = some id
  h1 : c ≤ 1 → H1 = H
  h2 : c = 2 → ∃ bs, H1 = H ++ bs
  h5 : c = 5 → ∃ bs, H1 = H ++ bs
  h4 : c = 4 → ∀ n, n ≤ H.length → (∀ id, kd = some id → n ≤ id ∧ noMen id n H = true) → ∀ i, i < n → getB H1 i = getB H i
theorem Turned.none {E : Env} {o : Op} {c : Nat} {σ : List V} {H : List Blk} : Turned E o c σ H none H :=
  ⟨fun id e => (by cases e), fun _ => rfl, fun _ => ⟨[], by simp⟩, fun _ => ⟨[], by simp⟩, fun _ _ _ _ _ _ => rfl⟩

theorem op_pt {E : Env} (hd : DetE E) {o : Op} {c : Nat} (hc : clsX E o = some c) {σ : List V} {H : List Blk} {K : V → List V → List Blk → Prop} (h : aopX E σ H o K) :
    ∃ v kd H1, K v (killO kd σ) H1 ∧ Turned E o c σ H kd H1 ∧
      ∀ σ2 H2 H3 (K' : V → List V → List Blk → Prop), Agree E o σ σ2 → Else E o c (H1 = H ∧ v.noIds = true) σ H H1 H2 H3 → K' v (killO kd σ2) H3 → aopX E σ2 H2 o K' := by
  have hself : Agree E o σ σ := fun _ _ => rfl
  unfold clsX at hc
  unfold aopX at h ⊢
  cases hv : virtE E o with
  | true =>
    rw [hv] at h hc
    simp only [cond_true, Option.some.injEq] at h hc ⊢
    subst hc
    obtain ⟨v, h1, h2⟩ := virt_pt h
    refine ⟨v, none, H, h1, .none, fun σ2 H2 H3 K' ha hel hk => h2 σ2 H2 K' ha ?_⟩
    have e : H3 = H2 := by
      rcases hel with ⟨_, _, h⟩ | ⟨_, h⟩ | ⟨h, _⟩ | ⟨h, _⟩
      · exact h (by omega)
      · exact h
      · omega
      · omega
    rw [← e]; exact hk
  | false =>
  rw [hv] at h hc
  simp only [cond_false] at h hc ⊢
  have hle := cls_lt hc
  rcases (by omega : c = 0 ∨ c = 1 ∨ c = 2 ∨ (c = 3 ∨ c = 5) ∨ c = 4) with h0 | h0 | h0 | h0 | h0
  · subst h0
    obtain ⟨F, hF, he⟩ := cls0 hc σ
    rw [he σ H K hself] at h
    obtain ⟨v, h1, h2⟩ := hF _ h
    refine ⟨v, none, H, h1, .none, fun σ2 H2 H3 K' ha hel hk => ?_⟩
    have e : H3 = H2 := by
      rcases hel with ⟨_, _, h⟩ | ⟨_, h⟩ | ⟨h, _⟩ | ⟨h, _⟩
      · exact h (by omega)
      · exact h
      · omega
      · omega
    subst e
    rw [he σ2 H3 K' ha]
    exact h2 _ hk
  · subst h0
    obtain ⟨v, h1, h2⟩ := cls1b hc h
    refine ⟨v, none, H, h1, .none, fun σ2 H2 H3 K' ha hel hk => ?_⟩
    have e : H3 = H2 ∧ Agr1 E o σ H H2 := by
      rcases hel with ⟨h, _, h'⟩ | ⟨h, _⟩ | ⟨_, h, h'⟩ | ⟨h, _⟩
      · exact ⟨h' (by omega), by rw [h]; exact fun _ _ _ _ _ => rfl⟩
      · omega
      · exact ⟨h', h⟩
      · omega
    obtain ⟨rfl, hr⟩ := e
    exact h2 σ2 _ K' ha hr hk
  · subst h0
    have hh := h
    obtain ⟨F, _, hF, he⟩ := cls2 hd hc σ H
    rw [he σ K hself] at h
    obtain ⟨v, bs, h1, h2⟩ := hF _ h
    refine ⟨v, none, H ++ bs, h1, ⟨fun id e => (by cases e), by simp, fun _ => ⟨bs, rfl⟩, by simp, by simp⟩, fun σ2 H2 H3 K' ha hel hk => ?_⟩
    rcases hel with ⟨e, h3, _⟩ | ⟨h, _⟩ | ⟨h, _⟩ | ⟨_, ⟨hq, hv⟩, hle, e⟩
    · subst e
      have := h3 (by omega)
      subst this
      rw [he σ2 K' ha]
      exact h2 _ hk
    · omega
    · omega
    · subst e
      have e1 : aop E σ H o fun v' σ' H' => v' = v ∧ H' = H := by
        rw [he σ _ hself]
        exact h2 _ ⟨rfl, hq⟩
      exact cls2b hd hc hv e1 σ2 _ K' ha hle hk
  · have hc' : clsOp E o = some 3 ∨ clsOp E o = some 5 := by rcases h0 with h0 | h0 <;> subst h0 <;> simp [hc]
    have hh : ∃ (v : V) (H1 : List Blk), K v σ H1 ∧ (c = 5 → ∃ bs, H1 = H ++ bs) ∧ ∀ σ2 (K' : V → List V → List Blk → Prop), Agree E o σ σ2 → K' v σ2 H1 → aop E σ2 H o K' := by
      obtain ⟨F, hF, he⟩ := cls3 hc' σ H
      rcases h0 with h0 | h0
      · rw [he σ K hself] at h
        obtain ⟨⟨v, H1⟩, h1, h2⟩ := hF _ h
        exact ⟨v, H1, h1, fun e => by omega, fun σ2 K' ha hk => by rw [he σ2 K' ha]; exact h2 _ hk⟩
      · subst h0
        have h := fresh_ext hc h
        rw [he σ _ hself] at h
        obtain ⟨⟨v, H1⟩, h1, h2⟩ := hF _ h
        exact ⟨v, H1, h1.1, fun _ => h1.2, fun σ2 K' ha hk => by rw [he σ2 K' ha]; exact h2 _ hk⟩
    obtain ⟨v, H1, h1, h5, h2⟩ := hh
    refine ⟨v, none, H1, h1, ⟨fun id e => (by cases e), fun hx => by omega, fun hx => by omega, h5, fun hx => by omega⟩, fun σ2 H2 H3 K' ha hel hk => ?_⟩
    rcases hel with ⟨e, h3, _⟩ | ⟨h, _⟩ | ⟨h, _⟩ | ⟨h, _⟩ <;> try omega
    subst e
    have := h3 (by omega)
    subst this
    exact h2 σ2 K' ha hk
  · subst h0
    obtain ⟨v, kd, H1, h1, h2, h3, h4⟩ := app_pt hc h
    refine ⟨v, kd, H1, h1, ⟨fun id e => ⟨rfl, h2 id e⟩, by simp, by simp, by simp, fun _ => h3⟩, fun σ2 H2 H3 K' ha hel hk => ?_⟩
    rcases hel with ⟨e, h3', _⟩ | ⟨h, _⟩ | ⟨h, _⟩ | ⟨h, _⟩ <;> try omega
    subst e
    have := h3' (by omega)
    subst this
    exact h4 σ2 K' ha hk

theorem mem_tmpsOf {t : Nat} : ∀ {l : List Operand}, Operand.tmp t ∈ l → t ∈ tmpsOf l
  | x :: l, h => by
    rcases List.mem_cons.1 h with h | h
    · subst h; simp [tmpsOf]
    · have := mem_tmpsOf h
      cases x <;> simp [tmpsOf, this]
theorem Agree.of {E : Env} {all : List Oper} {o : Oper} {σ σ2 : List V} (h : ∀ t ∈ looks all o, gets σ2 t = gets σ t) : Agree E o.op σ σ2 := fun x hx => by
  cases x with
  | tmp t =>
    refine h t ?_
    have := mem_tmpsOf hx
    unfold looks
    split
    · split
      · exact List.mem_cons_of_mem _ this
      · exact this
    · exact this
  | const v => cases v <;> rfl
  | _ => rfl

theorem oper_pt {E : Env} (hd : DetE E) {all : List Oper} {o : Oper} {c : Nat} (hc : clsX E o.op = some c) {σ : List V} {H : List Blk} {K : V → List V → List Blk → Prop} {N : Prop} (hN : N → K .nope σ H)
    (h : aguard all σ o.guard (aopX E σ H o.op K) N) :
    ∃ v kd H1, K v (killO kd σ) H1 ∧ Turned E o.op c σ H kd H1 ∧
      ∀ σ2 H2 H3 (K' : V → List V → List Blk → Prop), (∀ t ∈ looks all o, gets σ2 t = gets σ t) → Else E o.op c (H1 = H ∧ v.noIds = true) σ H H1 H2 H3 → K' v (killO kd σ2) H3 →
        aguard all σ2 o.guard (aopX E σ2 H2 o.op K') (K' .nope σ2 H2) := by
  have yes : aopX E σ H o.op K → ∃ v kd H1, K v (killO kd σ) H1 ∧ Turned E o.op c σ H kd H1 ∧
      ∀ σ2 H2 H3 (K' : V → List V → List Blk → Prop), (∀ t ∈ looks all o, gets σ2 t = gets σ t) → Else E o.op c (H1 = H ∧ v.noIds = true) σ H H1 H2 H3 → K' v (killO kd σ2) H3 → aopX E σ2 H2 o.op K' := fun h => by
    obtain ⟨v, kd, H1, h1, h2, h5⟩ := op_pt hd hc h
    exact ⟨v, kd, H1, h1, h2, fun σ2 H2 H3 K' ha => h5 σ2 H2 H3 K' (Agree.of ha)⟩
  have no : N → ∃ v kd H1, K v (killO kd σ) H1 ∧ Turned E o.op c σ H kd H1 ∧
      ∀ σ2 H2 H3 (K' : V → List V → List Blk → Prop), (∀ t ∈ looks all o, gets σ2 t = gets σ t) → Else E o.op c (H1 = H ∧ v.noIds = true) σ H H1 H2 H3 → K' v (killO kd σ2) H3 → K' .nope σ2 H2 := fun h => by
    refine ⟨.nope, none, H, hN h, .none, fun σ2 H2 H3 K' _ hel hk => ?_⟩
    have e2 : H3 = H2 := by
      rcases hel with ⟨e, h3, h4⟩ | ⟨_, h⟩ | ⟨_, _, h⟩ | ⟨_, _, _, h⟩
      · by_cases hc2 : 2 ≤ c
        · rw [h3 hc2, e]
        · exact h4 (by omega)
      · exact h
      · exact h
      · exact h
    rw [← e2]; exact hk
  unfold aguard at h ⊢
  cases hg : o.guard with
  | none => rw [hg] at h; exact yes h
  | some g =>
    obtain ⟨j, w⟩ := g
    rw [hg] at h
    dsimp only at h ⊢
    cases hj : (all[j]?).bind (·.dst) with
    | none => rw [hj] at h; exact h.elim
    | some t =>
      rw [hj] at h
      dsimp only at h ⊢
      have hlook : t ∈ looks all o := by unfold looks; rw [hg]; dsimp only; rw [hj]; exact List.mem_cons_self
      generalize ht : gets σ t = vt at h
      have same : ∀ σ2, (∀ t ∈ looks all o, gets σ2 t = gets σ t) → gets σ2 t = vt := fun σ2 h1 => by rw [h1 t hlook, ht]
      cases vt <;> first | exact h.elim | skip
      case nope =>
        obtain ⟨v, kd, H1, h1, h2, h5⟩ := no h
        exact ⟨v, kd, H1, h1, h2, fun σ2 H2 H3 K' a c d => by rw [same σ2 a]; exact h5 σ2 H2 H3 K' a c d⟩
      case bt x =>
        cases x <;> cases w <;> dsimp only at h
        · obtain ⟨v, kd, H1, h1, h2, h5⟩ := yes h
          exact ⟨v, kd, H1, h1, h2, fun σ2 H2 H3 K' a c d => by rw [same σ2 a]; exact h5 σ2 H2 H3 K' a c d⟩
        · obtain ⟨v, kd, H1, h1, h2, h5⟩ := no h
          exact ⟨v, kd, H1, h1, h2, fun σ2 H2 H3 K' a c d => by rw [same σ2 a]; exact h5 σ2 H2 H3 K' a c d⟩
        · obtain ⟨v, kd, H1, h1, h2, h5⟩ := no h
          exact ⟨v, kd, H1, h1, h2, fun σ2 H2 H3 K' a c d => by rw [same σ2 a]; exact h5 σ2 H2 H3 K' a c d⟩
        · obtain ⟨v, kd, H1, h1, h2, h5⟩ := yes h
          exact ⟨v, kd, H1, h1, h2, fun σ2 H2 H3 K' a c d => by rw [same σ2 a]; exact h5 σ2 H2 H3 K' a c d⟩
      rename_i p
      by_cases hp : p <;> cases w <;> dsimp only at h
      · obtain ⟨v, kd, H1, h1, h2, h5⟩ := no (h.2 hp)
        exact ⟨v, kd, H1, h1, h2, fun σ2 H2 H3 K' a c d => by rw [same σ2 a]; exact ⟨fun hn => absurd hp hn, fun _ => h5 σ2 H2 H3 K' a c d⟩⟩
      · obtain ⟨v, kd, H1, h1, h2, h5⟩ := yes (h.1 hp)
        exact ⟨v, kd, H1, h1, h2, fun σ2 H2 H3 K' a c d => by rw [same σ2 a]; exact ⟨fun _ => h5 σ2 H2 H3 K' a c d, fun hn => absurd hp hn⟩⟩
      · obtain ⟨v, kd, H1, h1, h2, h5⟩ := yes (h.1 hp)
        exact ⟨v, kd, H1, h1, h2, fun σ2 H2 H3 K' a c d => by rw [same σ2 a]; exact ⟨fun _ => h5 σ2 H2 H3 K' a c d, fun hn => absurd hn hp⟩⟩
      · obtain ⟨v, kd, H1, h1, h2, h5⟩ := no (h.2 hp)
        exact ⟨v, kd, H1, h1, h2, fun σ2 H2 H3 K' a c d => by rw [same σ2 a]; exact ⟨fun hn => absurd hn hp, fun _ => h5 σ2 H2 H3 K' a c d⟩⟩

theorem postD_nope (E : Env) (all : List Oper) (n k : Nat) (o : Oper) (H : List Blk) : postD E all n k o H H .nope = true := by
  unfold postD
  split <;> simp [V.older, V.noIds]
/-- One step of the lexical walk, and that it can be done elsewhere. -/
def LStep (E : Env) (all : List Oper) (n k : Nat) (σ : List V) (H : List Blk) (σ' : List V) (H' : List Blk) : Prop := ∀ o, all[k]? = some o → ∃ c v kd, clsX E o.op = some c ∧ σ' = putV (killO kd σ) o.dst v ∧ preD E all n k o σ H = true ∧ postD E all n k o H H' v = true ∧ Turned E o.op c σ H kd H' ∧
  ∀ σ2 H2 H3 (K' : List V → List Blk → Prop), (∀ t ∈ looks all o, gets σ2 t = gets σ t) → Else E o.op c (need E all k = true) σ H H' H2 H3 → K' (putV (killO kd σ2) o.dst v) H3 → aopAt E all o σ2 H2 K'

theorem quiet2 {E : Env} {all : List Oper} {n k : Nat} {o : Oper} {H H' : List Blk} {v : V} (hc : clsX E o.op = some 2) (hp : postD E all n k o H H' v = true) (hH : ∃ bs, H' = H ++ bs) (hn : need E all k = true) : H' = H ∧ v.noIds = true := by
  unfold postD at hp
  simp only [hc, hn] at hp
  simp only [Bool.not_true, Bool.false_or, Bool.and_eq_true] at hp
  obtain ⟨bs, hbs⟩ := hH
  have := beq_ok hp.1
  rw [hbs, List.length_append] at this
  have : bs = [] := List.eq_nil_of_length_eq_zero (by omega)
  exact ⟨by rw [hbs, this, List.append_nil], hp.2⟩

theorem trace {E : Env} (hd : DetE E) {all : List Oper} {n : Nat} : ∀ (l : List Oper) (k : Nat) (σ : List V) (H : List Blk) (K : List V → List Blk → Prop), (∀ j, l[j]? = all[k + j]?) → (∀ o ∈ l, clsX E o.op ≠ none) → aopsD E all n k l σ H K →
    ∃ (S : Nat → List V) (Hs : Nat → List Blk), S k = σ ∧ Hs k = H ∧ K (S (k + l.length)) (Hs (k + l.length)) ∧ ∀ j, k ≤ j → j < k + l.length → LStep E all n j (S j) (Hs j) (S (j + 1)) (Hs (j + 1))
  | [], k, σ, H, K, _, _, h => ⟨fun _ => σ, fun _ => H, rfl, rfl, h, fun j h1 h2 => by simp at h2; omega⟩
  | o :: l, k, σ, H, K, hl, hcl, h => by
    have h0 : all[k]? = some o := by simpa using (hl 0).symm
    cases hc : clsX E o.op with
    | none => exact absurd hc (hcl o (by simp))
    | some c =>
    have hstep : ∃ v kd H1, aopsD E all n (k + 1) l (putV (killO kd σ) o.dst v) H1 K ∧ LStep E all n k σ H (putV (killO kd σ) o.dst v) H1 := by
      unfold aopsD at h
      obtain ⟨hpre, h⟩ := bif_ok h
      obtain ⟨v, kd, H1, h1, h2, h5⟩ := oper_pt hd hc (fun hn => by
        rw [postD_nope]
        exact hn) h
      obtain ⟨hpost, hk⟩ := bif_ok h1
      refine ⟨v, kd, H1, (setDst_eq _ _ _ _).1 hk, fun o' ho' => ?_⟩
      have : o' = o := Option.some.inj (ho'.symm.trans h0)
      subst this
      refine ⟨c, v, kd, hc, rfl, hpre, hpost, h2, fun σ2 H2 H3 K' a c' d => ?_⟩
      unfold aopAt
      refine h5 σ2 H2 H3 (fun v σ H => setDst σ o'.dst v fun σ => K' σ H) a ?_ ?_
      · rcases c' with c' | c' | c' | ⟨c1, c2, c3⟩
        · exact .inl c'
        · exact .inr (.inl c')
        · exact .inr (.inr (.inl c'))
        · subst c1
          exact .inr (.inr (.inr ⟨rfl, quiet2 hc hpost (h2.h2 rfl) c2, c3⟩))
      · exact (setDst_eq _ _ _ _).2 d
    obtain ⟨v, kd, H1, hr, hs⟩ := hstep
    obtain ⟨S, Hs, e1, e2, e3, e4⟩ := trace hd l (k + 1) _ _ K (fun j => by have := hl (j + 1); simpa [Nat.add_assoc, Nat.add_comm 1 j] using this) (fun o ho => hcl o (by simp [ho])) hr
    refine ⟨fun j => if j ≤ k then σ else S j, fun j => if j ≤ k then H else Hs j, by simp, by simp, ?_, fun j h1 h2 => ?_⟩
    · have : ¬ (k + (o :: l).length ≤ k) := by simp
      dsimp only
      rw [if_neg this, if_neg this]
      have e : k + (o :: l).length = k + 1 + l.length := by simp; omega
      rw [e]
      exact e3
    · by_cases hj : j = k
      · subst hj
        simp only [Nat.le_refl, if_true]
        rw [if_neg (by omega), if_neg (by omega), e1, e2]
        exact hs
      · dsimp only
        rw [if_neg (by omega), if_neg (by omega), if_neg (by omega), if_neg (by omega)]
        exact e4 j (by omega) (by simp at h2; omega)

/-! ### The check -/
/-- Closed under what an operation waits for. -/
def Clo (all : List Oper) (L : Nat → Prop) : Prop := ∀ j o, all[j]? = some o → L j → ∀ e ∈ o.after, Region.binds .any e = true → L e.on
def Bef (all : List Oper) (i j : Nat) : Prop := ∀ L, Clo all L → L j → L i

theorem edgeM_ok {all : List Oper} {acc : List Nat} (ha : ∀ j i, Nat.testBit (getN acc j) i = true → Bef all i j) {k : Nat} {o : Oper} (ho : all[k]? = some o) : ∀ (l : List Edge), (∀ e ∈ l, e ∈ o.after) → ∀ i, Nat.testBit (edgeM acc l) i = true → Bef all i k
  | [], _, i, h => by simp [edgeM] at h
  | e :: l, hl, i, h => by
    unfold edgeM at h
    cases hb : Region.binds .any e with
    | false => rw [hb] at h; exact edgeM_ok ha ho l (fun e he => hl e (by simp [he])) i h
    | true =>
      rw [hb] at h
      simp only [cond_true] at h
      have h' : Nat.testBit ((2 ^ e.on ||| getN acc e.on) ||| edgeM acc l) i = true := h
      rw [Nat.testBit_or, Nat.testBit_or, Bool.or_eq_true, Bool.or_eq_true] at h'
      have hon : Bef all e.on k := fun L hL hk => hL k o ho hk e (hl e (by simp)) hb
      rcases h' with (h' | h') | h'
      · have : e.on = i := by
          by_cases hh : e.on = i
          · exact hh
          · rw [Nat.testBit_two_pow_of_ne hh] at h'; cases h'
        subst this
        exact hon
      · exact fun L hL hk => ha _ _ h' L hL (hon L hL hk)
      · exact edgeM_ok ha ho l (fun e he => hl e (by simp [he])) i h'

theorem getN_append (l : List Nat) (x : Nat) : ∀ j, getN (l ++ [x]) j = if j = l.length then x else getN l j := by
  induction l with
  | nil => intro j; cases j <;> simp [getN]
  | cons y l ih => intro j; cases j with
    | zero => simp [getN]
    | succ j => simp [getN, ih]

theorem masksGo_ok {all : List Oper} : ∀ (l : List Oper) (acc : List Nat), (∀ j, l[j]? = all[acc.length + j]?) → (∀ j i, Nat.testBit (getN acc j) i = true → Bef all i j) → ∀ j i, Nat.testBit (getN (masksGo l acc) j) i = true → Bef all i j
  | [], acc, _, ha => ha
  | o :: l, acc, hl, ha => by
    have h0 : all[acc.length]? = some o := by simpa using (hl 0).symm
    refine masksGo_ok l _ (fun j => by have := hl (j + 1); simpa [Nat.add_assoc, Nat.add_comm 1 j] using this) fun j i h => ?_
    rw [getN_append] at h
    by_cases hj : j = acc.length
    · subst hj
      rw [if_pos rfl] at h
      exact edgeM_ok ha h0 _ (fun e he => by simpa using he) i h
    · rw [if_neg hj] at h
      exact ha j i h
theorem bef_ok {all : List Oper} {i j : Nat} (h : bef (masksGo all []) i j = true) : Bef all i j :=
  masksGo_ok all [] (by simp) (fun j i h => by cases j <;> simp [getN] at h) j i h

theorem inL_ok {l : List Nat} {n : Nat} : inL l n = false → n ∉ l := by
  induction l with
  | nil => simp
  | cons x l ih =>
    intro h
    simp only [inL, Bool.or_eq_false_iff] at h
    have h2 := ih h.2
    intro hm
    rcases List.mem_cons.1 hm with e | e
    · subst e
      rw [Nat.beq_refl] at h
      simp at h
    · exact h2 e

structure Pair (E : Env) (all : List Oper) (i : Nat) (x : Oper) (j : Nat) (y : Oper) : Prop where
  nb : bef (masksGo all []) i j = false
  q : (clsX E x.op ≠ some 4 ∧ clsX E y.op ≠ some 4 ∧ (clsX E x.op = some 0 ∨ clsX E y.op = some 0 ∨ (quietB E all i x = true ∧ quietB E all j y = true) ∨ (quietB E all i x = true ∧ clsX E y.op = some 5) ∨ (clsX E x.op = some 5 ∧ clsX E y.op = some 1))) ∨
    (clsX E x.op = some 4 ∧ (clsX E y.op = some 0 ∨ clsX E y.op = some 1)) ∨ ((clsX E x.op = some 0 ∨ clsX E x.op = some 1) ∧ clsX E y.op = some 4)
  a1 : ∀ d, x.dst = some d → d ∉ looks all y
  a2 : ∀ d, x.dst = some d → y.dst ≠ some d
  a3 : ∀ d, y.dst = some d → d ∉ looks all x

theorem isT_ok {E : Env} {o : Oper} (h : isT E o = true) : clsX E o.op = some 0 := by
  unfold isT at h
  split at h
  · assumption
  · cases h
theorem isF_ok {E : Env} {o : Oper} (h : isF E o = true) : clsX E o.op = some 5 := by
  unfold isF at h
  split at h
  · assumption
  · cases h
theorem is1_ok {E : Env} {o : Oper} (h : is1 E o = true) : clsX E o.op = some 1 := by
  unfold is1 at h
  split at h
  · assumption
  · cases h
theorem is01_ok {E : Env} {o : Oper} (h : is01 E o = true) : clsX E o.op = some 0 ∨ clsX E o.op = some 1 := by
  unfold is01 at h
  split at h
  · exact .inl (by assumption)
  · exact .inr (by assumption)
  · cases h
theorem isBar_ok {E : Env} {o : Oper} (h : isBar E o = true) : clsX E o.op = some 4 := by
  unfold isBar at h
  split at h
  · assumption
  · cases h
theorem isBar_no {E : Env} {o : Oper} (h : isBar E o = false) : clsX E o.op ≠ some 4 := fun h' => by simp [isBar, h'] at h

theorem pairOk_ok {E : Env} {all : List Oper} {i j : Nat} {x y : Oper} (h : pairOk E all (masksGo all []) i x j y = true) : Bef all i j ∨ Pair E all i x j y := by
  unfold pairOk at h
  cases hb : bef (masksGo all []) i j with
  | true => exact .inl (bef_ok hb)
  | false =>
    rw [hb] at h
    simp only [Bool.false_or, Bool.and_eq_true, Bool.or_eq_true, Bool.not_eq_true'] at h
    obtain ⟨h3, h4⟩ := h
    unfold apartB at h4
    rw [Bool.and_eq_true] at h4
    obtain ⟨h4, h5⟩ := h4
    refine .inr ⟨hb, ?_, fun d hx => ?_, fun d hx hy => ?_, fun d hy => ?_⟩
    · rcases h3 with (⟨⟨h1, h2⟩, h3⟩ | h3) | h3
      · refine .inl ⟨isBar_no h1, isBar_no h2, ?_⟩
        rcases h3 with (((h3 | h3) | h3) | h3) | h3
        · exact .inl (isT_ok h3)
        · exact .inr (.inl (isT_ok h3))
        · exact .inr (.inr (.inl h3))
        · exact .inr (.inr (.inr (.inl ⟨h3.1, isF_ok h3.2⟩)))
        · exact .inr (.inr (.inr (.inr ⟨isF_ok h3.1, is1_ok h3.2⟩)))
      · exact .inr (.inl ⟨isBar_ok h3.1, is01_ok h3.2⟩)
      · exact .inr (.inr ⟨is01_ok h3.1, isBar_ok h3.2⟩)
    · rw [hx] at h4
      simp only [Bool.and_eq_true, Bool.not_eq_true'] at h4
      exact inL_ok h4.1
    · rw [hx, hy] at h4
      simp only [Bool.and_eq_true, Bool.not_eq_true'] at h4
      rw [Nat.beq_refl] at h4
      simp at h4
    · rw [hy] at h5
      simp only [Bool.not_eq_true'] at h5
      exact inL_ok h5

theorem pairsI_ok {E : Env} {all : List Oper} {ms : List Nat} {j : Nat} {y : Oper} : ∀ (l : List Oper) (i0 : Nat), (∀ k, l[k]? = all[i0 + k]?) → pairsI E all ms j y i0 l = true → ∀ i x, i0 ≤ i → i < j → all[i]? = some x → pairOk E all ms i x j y = true
  | [], i0, hl, _, i, x, h1, h2, hx => by
    have := hl (i - i0)
    rw [show i0 + (i - i0) = i by omega, hx] at this
    simp at this
  | z :: l, i0, hl, h, i, x, h1, h2, hx => by
    unfold pairsI at h
    cases hb : Nat.beq i0 j with
    | true => have := beq_ok hb; omega
    | false =>
      rw [hb] at h
      simp only [cond_false, Bool.and_eq_true] at h
      by_cases hi : i = i0
      · subst hi
        have : all[i]? = some z := by simpa using (hl 0).symm
        have : x = z := Option.some.inj (hx.symm.trans this)
        subst this
        exact h.1
      · exact pairsI_ok l (i0 + 1) (fun k => by have := hl (k + 1); simpa [Nat.add_assoc, Nat.add_comm 1 k] using this) h.2 i x (by omega) h2 hx

theorem edgesOk_ok {j : Nat} : ∀ {l : List Edge}, edgesOk j l = true → ∀ e ∈ l, Region.binds .any e = true → e.on < j
  | e :: l, h, e', he => by
    simp only [edgesOk, Bool.and_eq_true] at h
    rcases List.mem_cons.1 he with h' | h'
    · subst h'
      intro hb
      have := h.1
      rw [hb] at this
      simpa [Nat.blt_eq] using this
    · exact edgesOk_ok h.2 e' h'

theorem pairsJ_ok {E : Env} {all : List Oper} {ms : List Nat} : ∀ (l : List Oper) (j0 : Nat), (∀ k, l[k]? = all[j0 + k]?) → pairsJ E all ms j0 l = true → ∀ j y, j0 ≤ j → all[j]? = some y →
    clsX E y.op ≠ none ∧ (∀ e ∈ y.after, Region.binds .any e = true → e.on < j) ∧ ∀ i x, i < j → all[i]? = some x → pairOk E all ms i x j y = true
  | [], j0, hl, _, j, y, h1, hy => by
    have := hl (j - j0)
    rw [show j0 + (j - j0) = j by omega, hy] at this
    simp at this
  | z :: l, j0, hl, h, j, y, h1, hy => by
    unfold pairsJ at h
    simp only [Bool.and_eq_true] at h
    obtain ⟨⟨⟨ha, hb⟩, hc⟩, hd⟩ := h
    by_cases hj : j = j0
    · subst hj
      have : all[j]? = some z := by simpa using (hl 0).symm
      have : y = z := Option.some.inj (hy.symm.trans this)
      subst this
      exact ⟨fun hn => by rw [hn] at ha; simp at ha, fun e he => edgesOk_ok hb e (by simpa using he), fun i x hi hx => pairsI_ok all 0 (by simp) hc i x (by omega) hi hx⟩
    · exact pairsJ_ok l (j0 + 1) (fun k => by have := hl (k + 1); simpa [Nat.add_assoc, Nat.add_comm 1 k] using this) hd j y (by omega) hy
end Go.Proofs.Ytgljcfnplkcfhaa.Vc

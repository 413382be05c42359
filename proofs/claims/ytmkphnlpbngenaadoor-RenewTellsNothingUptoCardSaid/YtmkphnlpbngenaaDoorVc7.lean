/- Texts of this claim: Vc.XA, Vc.X, Vc.Y, Vc.Z, Vc.ZA, Vc.ZB, Vc.ZD, Vc.ZE, Vc.ZF. -/
import Derived.Test.YtmkphnlpbngenaaDoorVc6
import Derived.Scope
import Derived.RangeFuncOwn
set_option linter.unusedVariables false
set_option linter.unusedSimpArgs false
namespace Go.Proofs.YtmkphnlpbngenaaDoor.Vc
open Go Go.RowKit

/-- A program, with the contracts that are known of it. -/
structure Known (P : Program) (E : Env) : Prop where
  glob : GlobOk E.glob
  noref : noRef E.glob
  env : EnvOk P E
  det : DetE E
  mixed : P.follows .mixedOrders = true

theorem Known.inR {P : Program} {E : Env} (h : Known P E) : Known P E.inR := ⟨h.glob, h.noref, ⟨h.env.con, h.env.seq, h.env.ty, h.env.eq⟩, h.det, h.mixed⟩

/-- What a state is measured by, where there is a loop over a function. -/
def RfLaw (S : Ses) : Prop :=
  ∀ b v, S b v → (∀ k X w, v.J k X w) ∧ v.gh = [] ∧ ∀ D X mks, (∀ g o, v.D g = some o → D g = some o) → (∀ g, v.X g → X g) → (∀ g, mks g → v.mks g ∨ v.D g = none) → S b { v with D := D, X := X, mks := mks }

theorem wpInMono {F : Fence} {n : Nat} {P : Program} {a : Act} {w : World} {c : Code} {Q Q' : Exit → Act → World → Prop} (hq : ∀ e a w, Q e a w → Q' e a w) (h : c.wpIn F n P Q a w) : c.wpIn F n P Q' a w := wpIn_mono h hq

theorem setPs_ok {c : Cx} {H : List Blk} {w : World} : ∀ (ps : List Nat) (xs : List V) (us : List Value) (σ : List V) (tm : Array Value), VRels c H w xs us → VRels c H w σ tm.toList →
    VRels c H w (setPs ps xs σ) ((ps.zip us).foldl (fun t (p, u) => t.setIfInBounds p u) tm).toList
  | [], xs, us, σ, tm, _, h => by cases xs <;> simpa [setPs] using h
  | p :: ps, xs, us, σ, tm, hx, h => by
    cases hx with
    | nil => simpa [setPs] using h
    | cons x u xs us hx hs =>
      simp only [setPs, List.zip_cons_cons, List.foldl_cons]
      refine setPs_ok ps xs us _ _ hs ?_
      simpa using h.set hx p

theorem undefs_rel {c : Cx} {H : List Blk} {w : World} : ∀ (tm : List Value), VRels c H w (List.replicate tm.length .undef) tm
  | [] => .nil
  | _ :: tm => .cons _ _ _ _ (.undef _) (undefs_rel tm)

section
variable {E : Env} {P : Program} {S : Ses}

/-- The blocks around a round that are kept. -/
noncomputable def Dr (c : Cx) (w : World) : Nat → Option Obj := fun g => @ite _ (∃ i, c.ρ i = some g) (Classical.propDecidable _) none w.heap[g]?

theorem Dr_some {c : Cx} {w : World} {g : Nat} {o : Obj} (h : Dr c w g = some o) : w.heap[g]? = some o ∧ ∀ i, c.ρ i ≠ some g := by
  unfold Dr at h
  split at h
  · cases h
  · rename_i hn; exact ⟨h, fun i hi => hn ⟨i, hi⟩⟩
theorem Dr_of {c : Cx} {w : World} {g : Nat} {o : Obj} (h : w.heap[g]? = some o) (hn : ∀ i, c.ρ i ≠ some g) : Dr c w g = some o := by
  unfold Dr
  rw [if_neg fun ⟨i, hi⟩ => hn i hi]; exact h

theorem range_ok (hk : Known P E) (hR : RfLaw S) {f : Operand} {ps : Array Tmp} {as body : Code} {Q : Ex → List V → List Blk → Prop} {σ : List V} {H : List Blk} {a : Act} {w : World} (hs : Sta E S σ H a w)
    (h : awp E (.rangeFunc f ps as body) Q σ H)
    (IHa : ∀ (ro : Option Nat) (S : Ses) (Q : Ex → List V → List Blk → Prop) (σ : List V) (H : List Blk) (a : Act) (w : World), awp E.inR as Q σ H → Sta E.inR S σ H a w → as.wpIn (Fen ro) 0 P (Post E.inR S Q) a w)
    (IHb : ∀ (ro : Option Nat) (S : Ses) (Q : Ex → List V → List Blk → Prop) (σ : List V) (H : List Blk) (a : Act) (w : World), awp E.inR body Q σ H → Sta E.inR S σ H a w → body.wpIn (Fen ro) 0 P (Post E.inR S Q) a w) :
    (Code.rangeFunc f ps as body).wpIn (Fen none) 0 P (Post E S Q) a w := by
  obtain ⟨c00, b, v, hS, hst00, hσ0, hmk⟩ := hs
  obtain ⟨hJt, hgh, hSg⟩ := hR b v hS
  obtain ⟨_, h⟩ := h
  have hf := ev_ok hst00 hσ0 f
  generalize ev E σ f = vf at h hf
  generalize haf : a.eval f = af at hf
  split at h <;> try exact h.elim
  rename_i k caps
  split at h <;> try exact h.elim
  rename_i ks spec hseq
  cases hf with | fn _ _ cvs hcap0 =>
  obtain ⟨c0, caps, σ, H, h, hst0, _, _, hcap, hσ⟩ := capsK_ok hk.glob ks c00 _ [] _ _ _ [] _ _ hst00 hcap0 .nil hσ0 h
  have hcap : VRels c0 H w caps cvs := by simpa using hcap
  have hgi0 := hst0.xk.gi hgh
  have h := (forceL_eq _ _).1 h
  -- what was captured, as data
  have hcalm : St E.glob w.heap.size ⟨w, fun _ => none, fun _ => none, fun _ => False, fun _ => False, fun _ _ _ => True, [], c0.x.l⟩ (Cx.of c0.M ⟨[], none, c0.x.l⟩) [] w :=
    hst0.calm hk.noref (fun g hg => hg) (fun _ _ => rfl) (Below.refl _ _)
      { keep := fun g o h => by cases h
        siz := fun g n h => by cases h
        cnt := trivial
        gh := rfl
        l := rfl
        dis := fun _ _ h => h
        xb := fun _ h => h.elim
        mks := fun _ h => h.elim
        gi := fun _ => rfl } (Nat.le_refl _) hst0.imm
  have hcap' : VRels (Cx.of c0.M ⟨[], none, c0.x.l⟩) [] w (yL none caps) cvs :=
    VRels.y (c := c0) (c' := Cx.of c0.M ⟨[], none, c0.x.l⟩) (fun g hg => hg) (fun g hg => (hst0.sub g hg).1) (fun _ _ => rfl) rfl rfl hcap
  obtain ⟨ds, h, hds⟩ := asArgs_ok (U := c0.M) hcalm (fun g hg => hg) (fun i g hi => by cases hi) ks _ _ _ h hcap'
  split at h <;> try exact h.elim
  rename_i p L hsp
  obtain ⟨⟨hp, hlen⟩, np, keep, I, hv, hround, hdone⟩ := h
  -- what is kept in view
  obtain ⟨vs1, h1, hv1⟩ := picks_ok keep hσ hv
  have hl1 : (keep.map (·.2)).length = vs1.length := by rw [hv1.length]; simp
  obtain ⟨c1, vs2, H1, h1, hst1, hv2, hM1, hg1⟩ := viewA_ok hk.glob (keep.map (·.2)) c0 vs1 [] H _ [] _ hst0 hv1 .nil hl1 h1
  obtain ⟨c2, vs3, H2, hI0, hst2, hv3, hM2, _, _⟩ := viewB_ok hk.noref hst1 hv2 h1
  simp only [List.reverse_nil, List.nil_append] at hv3
  generalize hkv : (keep.map fun x => a.tmps.toList.getD x.1 undef) = kv at hv3
  refine wpIn_rangeFunc ?_
  intro fn hfn
  obtain ⟨rec, hrec⟩ : ∃ rec : LoopState → Option Code → Loop, rec = fun st pe => { state := st, pending := pe, fn, tmps := a.tmps, params := ps, assign := as, body, defers := w.heap.size } := ⟨_, rfl⟩
  obtain ⟨W1, hW1⟩ : ∃ W1, (w.alloc (.deferred (some []))).alloc (.loop (rec .ready none)) = W1 := ⟨_, rfl⟩
  obtain ⟨l, hl⟩ : ∃ l, l = w.heap.size + 1 := ⟨_, rfl⟩
  obtain ⟨Dn, hDn⟩ : ∃ Dn, Dn = w.heap.size := ⟨_, rfl⟩
  have hL1 : W1.heap[l]? = some (.loop (rec .ready none)) := by
    rw [← hW1, hl]; have := World.alloc_heap_new (w.alloc (.deferred (some []))) (.loop (rec .ready none)); rwa [World.size_alloc] at this
  have hK1 : W1.heap[Dn]? = some (.deferred (some [])) := by
    rw [← hW1, hDn]; exact (Below.heap_alloc _ _ _ (by simp)).trans (World.alloc_heap_new w _)
  have hB1 : Below w.heap.size w W1 := by rw [← hW1]; exact (((Below.refl _ w).alloc (Nat.le_refl _) _).alloc (by simp) _)
  have hsz1 : W1.heap.size = w.heap.size + 2 := by rw [← hW1]; simp
  -- what the states between the rounds are measured by
  let D1 : Loop → Nat → Option Obj := fun r k => if k = l then some (.loop r) else if k = Dn then some (.deferred (some [])) else v.D k
  let v1 : Loop → W0 := fun r => { v with D := D1 r, X := fun k => v.X k ∨ k = Dn ∨ k = l, mks := fun k => v.mks k ∨ k = Dn }
  have hD1l : ∀ r, D1 r l = some (.loop r) := fun r => if_pos rfl
  have hD1D : ∀ r, D1 r Dn = some (.deferred (some [])) := fun r => by
    show (if Dn = l then _ else if Dn = Dn then _ else _) = _
    rw [if_neg (by omega), if_pos rfl]
  have hD1o : ∀ r k, k ≠ l → k ≠ Dn → D1 r k = v.D k := fun r k h1 h2 => by simp only [D1]; rw [if_neg h1, if_neg h2]
  have hvlt : ∀ k o, v.D k = some o → k < w.heap.size := fun k o h => (Array.getElem?_eq_some_iff.1 (hst0.xk.keep k o h).1).1
  have hvD : ∀ r k o, v.D k = some o → D1 r k = some o := fun r k o h => by
    have := hvlt k o h
    rw [hD1o r k (by omega) (by omega)]; exact h
  have hbD : b ≤ Dn := by rw [hDn]; exact hst0.size
  have hst3 : St E.glob b (v1 (rec .ready none)) c2 H2 W1 := by
    have hw := hst2.world hB1
    refine hw.other hw.below
      { keep := fun g o h => ?_
        siz := hw.xk.siz
        cnt := hJt _ _ _
        gh := hw.xk.gh
        l := hw.xk.l
        dis := fun g hg hX => ?_
        xb := fun g hX => ?_
        mks := fun g hg => ?_
        gi := hw.xk.gi }
    · by_cases e1 : g = l
      · subst e1
        rw [show (v1 (rec .ready none)).D g = D1 (rec .ready none) g from rfl, hD1l] at h
        cases h
        exact ⟨hL1, fun i hi => by have := (hst2.own i g hi).2.1; omega⟩
      · by_cases e2 : g = Dn
        · subst e2
          rw [show (v1 (rec .ready none)).D g = D1 (rec .ready none) g from rfl, hD1D] at h
          cases h
          exact ⟨hK1, fun i hi => by have := (hst2.own i g hi).2.1; omega⟩
        · rw [show (v1 (rec .ready none)).D g = D1 (rec .ready none) g from rfl, hD1o _ _ e1 e2] at h
          exact hw.xk.keep g o h
    · have := hst2.imm g hg
      rcases hX with hX | hX | hX
      · exact hw.xk.dis g hg hX
      · omega
      · omega
    · rcases hX with hX | hX | hX
      · exact hw.xk.xb g hX
      · exact ⟨by omega, fun i hi => by have := (hst2.own i g hi).2.1; omega⟩
      · exact ⟨by omega, fun i hi => by have := (hst2.own i g hi).2.1; omega⟩
    · rcases hg with hg | hg
      · obtain ⟨h1, h2, h3⟩ := hw.xk.mks g hg
        exact ⟨h1, .inl h2, hvD _ _ _ h3⟩
      · subst hg
        exact ⟨hbD, .inr (.inl rfl), hD1D _⟩
  have hv4 : VRels c2 H2 W1 vs3 kv := hv3.ext (hst2.ext_world hB1)
  have hXl : ∀ r, (v1 r).X l := fun r => .inr (.inr rfl)
  have hbl : b ≤ l := by omega
  let Qj : Code → List V → List Blk → Prop := fun jump vs H => (jump = .ret ∧ Q .ret (sprd σ.length 0 keep vs) H) ∨ ∃ i, jump = .exit i ∧ Q (.exit i) (sprd σ.length 0 keep vs) H
  let J : Option Nat → (Nat → Prop) → World → Prop := fun q X W => (∀ r g, (v1 r).X g → X g) ∧ match q with
    | some n => ∃ c vs H, I n vs H ∧ St E.glob b (v1 (rec .ready none)) c H W ∧ VRels c H W vs kv ∧ ∀ i g, c.ρ i = some g → X g
    | none => ∃ c vs H jump, Qj jump vs H ∧ St E.glob b (v1 (rec .done (some jump))) c H W ∧ VRels c H W vs kv
  obtain ⟨hent, hcall⟩ := hk.env.seq k _ hseq
  refine ⟨l, [{ target := .collected w.heap.size, args := #[] }], W1, { target := .fn (.func k) cvs.toArray, args := #[.func (.yield l) #[] #[]] }, W1, k,
    #[.func (.yield l) #[] #[]] ++ cvs.toArray, W1, ?_, ?_, fun _ _ => trivial, ?_, (fun h => by cases h), ?_⟩
  · rw [← hW1, hrec, hl]; exact run_enterLoop_outer _ _ _ _ _
  · simp only [resolve, haf]
    simp [go_sem]
  · simp [invoke, go_sem, hent]
  have hσe : ∀ (c : Cx) (H' : List Blk) (w' : World) (vs : List V), VRels c H' w' vs kv → VRels c H' w' (sprd σ.length 0 keep vs) a.tmps.toList := fun c H' w' vs h =>
    sprd_all keep vs hσ.length (by rw [hkv]; exact h)
  have hend : ∀ (r : Loop) (c : Cx) (H' : List Blk) (w' : World) (ob : Obj), St E.glob b (v1 r) c H' w' → ∃ ve, S b ve ∧ St E.glob b ve c H' (w'.putObj l ob) ∧ Marks ve ([{ target := .collected w.heap.size, args := #[] }] ++ a.defers) := by
    intro r c H' w' ob hst
    let De : Nat → Option Obj := fun k => if k = l then none else D1 r k
    have hDe : ∀ k, k ≠ l → De k = D1 r k := fun k h => if_neg h
    have hml : ¬ v.mks l := fun h => by
      have := hvlt l _ (hst0.xk.mks l h).2.2
      omega
    refine ⟨{ v1 r with D := De, mks := (v1 r).mks }, hSg De (v1 r).X (v1 r).mks (fun g o h => ?_) (fun g h => .inl h) (fun g h => ?_), ?_, ?_⟩
    · have := hvlt g o h
      rw [hDe g (by omega)]; exact hvD r g o h
    · rcases h with h | h
      · exact .inl h
      · refine .inr ?_
        cases hd : v.D g with
        | none => rfl
        | some o => have := hvlt g o hd; omega
    · refine hst.put (g := l) (hXl r) hbl ob rfl (Xk.put (v := v1 r) hst.xk (g := l) (hXl r) (hD1l r) rfl ob (fun k x hk => ?_) fun k hk => ?_)
      · by_cases e : k = l
        · subst e; simp [De] at hk
        · rw [hDe k e] at hk; exact .inr ⟨e, hk⟩
      · have e : k ≠ l := fun e => by
          subst e
          rcases hk with hk | hk
          · exact hml hk
          · omega
        exact ⟨hk, e, hDe k e⟩
    · obtain ⟨gs, g1, g2, g3⟩ := hmk
      refine ⟨Dn :: gs, List.nodup_cons.2 ⟨fun hm => ?_, g1⟩, by rw [g2, hDn]; rfl, fun g hg => ?_⟩
      · have := hvlt Dn _ (hst0.xk.mks Dn (g3 Dn hm)).2.2
        omega
      · rcases List.mem_cons.1 hg with rfl | hg
        · exact .inr rfl
        · exact .inl (g3 g hg)
  have hcl := hcall c0.M W1 ds cvs p L hsp hp (fun g hg => by have := hst0.imm g hg; omega) (glob_of hk.noref (hst0.world hB1) fun g hg => hg)
    (fun xt => (hds xt).ext (ext_of fun g hg => hB1.block g (hst0.imm g hg))) l J
  refine CallsIn.mono (hcl ?_ ?_ ?_) ?_
  · -- growth
    rintro q X W W' ⟨hX, hq⟩ hB
    refine ⟨hX, ?_⟩
    cases q with
    | some n =>
      obtain ⟨c, vs, Hn, hI, hst, hvs, hρ⟩ := hq
      exact ⟨c, vs, Hn, hI, hst.world hB, hvs.ext (hst.ext_world hB), hρ⟩
    | none =>
      obtain ⟨c, vs, Hn, jump, hI, hst, hvs⟩ := hq
      exact ⟨c, vs, Hn, jump, hI, hst.world hB, hvs.ext (hst.ext_world hB)⟩
  · -- one round
    rintro n X W U us ⟨hX1, c, vs, Hn, hI, hst, hvs, hρ⟩ hn hU hus
    have hlw : W.heap[l]? = some (.loop (rec .ready none)) := (hst.xk.keep l _ (hD1l _)).1
    have hrl : ∀ i, c.ρ i ≠ some l := (hst.xk.keep l _ (hD1l _)).2
    have hgic := hst.xk.gi hgh
    have hargs : us.length = ps.size := by
      rw [← (hus ⟨[], none, 0⟩).length]
      exact hlen n hn
    have hy := run_yield (P := P) (args := us.toArray) hlw (by rw [hrec]; simpa using hargs)
    refine ⟨_, _, _, _, hy, roundIn_of_wpIn (F := Fence.wide) trivial ?_⟩
    have hra : (rec .ready none).assign = as := by rw [hrec]
    have hrb : (rec .ready none).body = body := by rw [hrec]
    have hrp : (rec .ready none).params = ps := by rw [hrec]
    have hrt : (rec .ready none).tmps = a.tmps := by rw [hrec]
    rw [hra, hrb, hrp, hrt]
    -- the round's own state
    let gh : List Value := .tuple #[] :: kv
    let Dv : Loop → Nat → Option Obj := fun r k => if k = l then some (.loop r) else Dr c W k
    let vr : Loop → W0 := fun r => ⟨W, Dv r, v.Z, (v1 (rec .ready none)).X, fun _ => False, fun _ _ _ => True, gh, v.l⟩
    have hDvl : ∀ r, Dv r l = some (.loop r) := fun r => if_pos rfl
    have hDvo : ∀ r k, k ≠ l → Dv r k = Dr c W k := fun r k h => if_neg h
    have hstr : St E.glob b (vr (rec .ready none)) (c.opn U gh Hn.length) (Hn ++ [.cells (.tup [] :: vs)]) W := by
      refine hst.open hgic (fun g hg => ⟨(hU g hg).2, fun i hi => (hU g hg).1 (hρ i g hi)⟩) (.cons _ _ _ _ (VRel.tup [] [] .nil) hvs) (Below.refl _ _)
        { keep := fun g o h => ?_
          siz := hst.xk.siz
          cnt := trivial
          gh := rfl
          l := hst.xk.l
          dis := fun g hg hX => ?_
          xb := hst.xk.xb
          mks := fun _ h => h.elim
          gi := fun h => by cases h }
      · by_cases e1 : g = l
        · subst e1
          rw [show (vr (rec .ready none)).D g = Dv (rec .ready none) g from rfl, hDvl] at h
          cases h
          exact ⟨hlw, hrl⟩
        · rw [show (vr (rec .ready none)).D g = Dv (rec .ready none) g from rfl, hDvo _ _ e1] at h
          exact Dr_some h
      · rcases hg with hg | hg
        · exact hst.xk.dis g hg hX
        · exact (hU g hg).1 (hX1 (rec .ready none) g hX)
    have hσr : VRels (c.opn U gh Hn.length) (Hn ++ [.cells (.tup [] :: vs)]) W (setPs ps.toList (L.2 n) (sprd σ.length 0 keep vs)) ((ps.zip us.toArray).foldl (fun t (p, u) => t.setIfInBounds p u) a.tmps).toList := by
      have e : (ps.zip us.toArray).foldl (fun t (p, u) => t.setIfInBounds p u) a.tmps = (ps.toList.zip us).foldl (fun t (p, u) => t.setIfInBounds p u) a.tmps := by
        rw [← Array.foldl_toList, Array.toList_zip]
      rw [e]
      refine setPs_ok _ _ _ _ _ ((hus ⟨gh, c.x.k, c.x.l⟩).wk (c := Cx.of U ⟨gh, c.x.k, c.x.l⟩) (H := []) (c' := c.opn U gh Hn.length) (fun g hg => .inr hg) (fun g hg => hg.elim) rfl rfl fun id s h => by cases id <;> cases h) ?_
      refine sprd_all keep vs hσ.length ?_
      rw [hkv]
      exact hvs.wk (c' := c.opn U gh Hn.length) (fun g hg => .inl hg) (fun g hg => hg) rfl rfl fun id s h => ⟨shape_append h, rfl⟩
    have hrd := (forceL_eq _ _).1 ((forceL_eq _ _).1 (hround n vs Hn hI hn))
    have hXr : (vr (rec .ready none)).X l := hXl (rec .ready none)
    have hra2 : (rec .busy none) = { rec .ready none with state := .busy } := by rw [hrec]
    -- what is left by a round
    have fin : ∀ (jump : Option Code) (KK : List V → List Blk → Prop) (c3 : Cx) (H3 : List Blk) (w3 : World), St E.glob b (vr (rec .busy none)) c3 H3 w3 → rview np (keep.map (·.2)) Hn.length H3 KK →
        ∃ W4, (Instr.endRound l jump).run P w3 = .ok (.bool jump.isNone) W4 ∧ W.heap.size ≤ W4.heap.size ∧ (∀ g, g < W.heap.size → ¬ X g → W4.heap[g]? = W.heap[g]?) ∧
          ∃ c5 vs5 H5, KK vs5 H5 ∧ St E.glob b (v1 (rec (if jump.isNone then .ready else .done) jump)) c5 H5 W4 ∧ VRels c5 H5 W4 vs5 kv ∧ ∀ i g, c5.ρ i = some g → X g ∨ (W.heap.size ≤ g ∧ g < W4.heap.size) := by
      intro jump KK c3 H3 w3 hst3 hview
      obtain ⟨r4, hr4⟩ : ∃ r4, r4 = rec (if jump.isNone then .ready else .done) jump := ⟨_, rfl⟩
      have hl3 : w3.heap[l]? = some (.loop (rec .busy none)) := (hst3.xk.keep l _ (hDvl _)).1
      have hrun := run_endRound (P := P) jump hl3
      have hre : ({ rec .busy none with state := if jump.isNone then .ready else .done, pending := jump } : Loop) = r4 := by rw [hr4, hrec]
      rw [hre] at hrun
      have hst4 : St E.glob b (vr r4) c3 H3 (w3.putObj l (.loop r4)) := hst3.put (g := l) hXr hbl _ rfl
        (Xk.put (v := vr (rec .busy none)) hst3.xk (g := l) hXr (hDvl _) rfl _ (D := Dv r4) (mks := fun _ => False) (fun k x hk => by
          by_cases e : k = l
          · subst e; rw [hDvl] at hk; cases hk; exact .inl ⟨rfl, rfl⟩
          · rw [hDvo _ _ e] at hk
            exact .inr ⟨e, (hDvo _ _ e).trans hk⟩) fun _ h => h.elim)
      unfold rview at hview
      split at hview <;> try exact hview.elim
      rename_i vs' hgb
      have hbk := hst4.blk Hn.length
      rw [hgb] at hbk
      have hgh3 : c3.gi = some Hn.length ∧ VRels c3 H3 (w3.putObj l (.loop r4)) vs' kv := by
        rcases hbk with ⟨g, e, cur, h1, h2, h3, h4⟩ | ⟨h1, _, h2⟩
        · exfalso
          obtain ⟨u, h5, h6, h7⟩ := h4 0 (by simp)
          cases h7 with | tup _ us _ => cases h6
        · rw [show c3.x.gh = gh from hst4.xk.gh] at h2
          have h2 : VRels c3 H3 (w3.putObj l (.loop r4)) (.tup [] :: vs') (.tuple #[] :: kv) := h2
          cases h2 with | cons _ _ _ _ _ h3 => exact ⟨h1, h3⟩
      obtain ⟨hgi3, hvs'⟩ := hgh3
      have hl' : (keep.map (·.2)).length = vs'.length := by rw [hvs'.length, ← hkv]; simp
      obtain ⟨c4, vs4, H4, hview, hst5, hv5, hM5, hg5⟩ := viewA_ok hk.glob (keep.map (·.2)) c3 vs' [] H3 _ [] _ hst4 hvs' .nil hl' hview
      obtain ⟨hnin, hview⟩ := hview
      obtain ⟨c5, vs5, H5, hKK, hst6, hv6, hM6, hg6, _⟩ := viewB_ok hk.noref hst5 hv5 hview
      simp only [List.reverse_nil, List.nil_append] at hv6
      have hgi6 : c5.gi = none := hg6 _ (hg5.trans hgi3) hnin
      have hkeepW : ∀ g o, W.heap[g]? = some o → (∀ i, c.ρ i ≠ some g) → g ≠ l → (w3.putObj l (.loop r4)).heap[g]? = some o ∧ ∀ i, c5.ρ i ≠ some g := fun g o h1 h2 h3 => hst6.xk.keep g o ((hDvo _ _ h3).trans (Dr_of h1 h2))
      refine ⟨_, hrun, hst6.below.size, fun g hg hX => ?_, c5.sht [], vs5, H5, hKK, ?_, ?_, ?_⟩
      · have h1 := Array.getElem?_eq_getElem hg
        rw [h1]
        exact (hkeepW g _ h1 (fun i hi => hX (hρ i g hi)) (fun e => by subst e; exact hX (hX1 (rec .ready none) _ (hXl _)))).1
      · rw [← hr4]
        refine hst6.shut hgi6 (hst.below.trans hst6.below)
          { keep := fun g o h => ?_
            siz := hst6.xk.siz
            cnt := hJt _ _ _
            gh := hgh.symm
            l := hst6.xk.l
            dis := hst6.xk.dis
            xb := hst6.xk.xb
            mks := fun g hg => ?_
            gi := fun _ => hgi6 }
        · by_cases e1 : g = l
          · subst e1
            rw [show (v1 r4).D g = D1 r4 g from rfl, hD1l] at h
            exact hst6.xk.keep g o ((hDvl _).trans h)
          · have h' : D1 (rec .ready none) g = some o := by
              have : D1 r4 g = some o := h
              simp only [D1] at this ⊢
              rw [if_neg e1] at this ⊢
              exact this
            obtain ⟨h1, h2⟩ := hst.xk.keep g o h'
            exact hkeepW g o h1 h2 e1
        · obtain ⟨h1, h2, h3⟩ := hst.xk.mks g hg
          refine ⟨h1, h2, ?_⟩
          have e1 : g ≠ l := fun e => by
            subst e
            rw [show (v1 (rec .ready none)).D g = D1 (rec .ready none) g from rfl, hD1l] at h3
            cases h3
          have h3' : D1 (rec .ready none) g = some (.deferred (some [])) := h3
          show D1 r4 g = _
          simp only [D1] at h3' ⊢
          rw [if_neg e1] at h3' ⊢
          exact h3'
      · exact hv6.wk (c := c5) (c' := c5.sht []) (fun g hg => hg) (fun g hg => hg) rfl rfl fun id s h => ⟨h, rfl⟩
      · intro i g hi
        have hi : c5.ρ i = some g := hi
        have hlt := (hst6.own i g hi).2.1
        rcases Nat.lt_or_ge g W.heap.size with hg | hg
        · refine .inl ?_
          by_cases hown : ∃ j, c.ρ j = some g
          · obtain ⟨j, hj⟩ := hown; exact hρ j g hj
          · by_cases e1 : g = l
            · subst e1; exact hX1 (rec .ready none) _ (hXl _)
            · exact absurd hi ((hkeepW g _ (Array.getElem?_eq_getElem hg) (fun j hj => hown ⟨j, hj⟩) e1).2 i)
        · exact .inr ⟨hg, hlt⟩
    refine wpInMono ?_ (IHa (some l) (fun b' v' => b' = b ∧ v' = vr (rec .ready none)) _ _ _ _ W hrd ⟨_, _, _, ⟨rfl, rfl⟩, hstr, hσr, Marks.nil⟩)
    intro e a1 w1 hp1
    cases e with
    | normal =>
      obtain ⟨σ1, H1', hq, c1', b1, v1', ⟨rfl, rfl⟩, hst1', hσ1, hmk1⟩ := hp1
      have hl1 : w1.heap[l]? = some (.loop (rec .ready none)) := (hst1'.xk.keep l _ (hDvl _)).1
      refine ⟨_, run_beginRound hl1 (by rw [hrec]), ?_⟩
      rw [← hra2]
      have hst2' : St E.glob b1 (vr (rec .busy none)) c1' H1' (w1.putObj l (.loop (rec .busy none))) := hst1'.put (g := l) hXr hbl _ rfl
        (Xk.put (v := vr (rec .ready none)) hst1'.xk (g := l) hXr (hDvl _) rfl _ (D := Dv (rec .busy none)) (mks := fun _ => False) (fun k x hk => by
          by_cases e : k = l
          · subst e; rw [hDvl] at hk; cases hk; exact .inl ⟨rfl, rfl⟩
          · rw [hDvo _ _ e] at hk
            exact .inr ⟨e, (hDvo _ _ e).trans hk⟩) fun _ h => h.elim)
      refine wpInMono ?_ (IHb (some l) (fun b' v' => b' = b1 ∧ v' = vr (rec .busy none)) _ _ _ _ _ hq ⟨c1', b1, _, ⟨rfl, rfl⟩, hst2', hσ1.ext (hst1'.ext_put hXr _), hmk1⟩)
      have hXg : ∀ (W4 : World) r g, (v1 r).X g → X g ∨ (W.heap.size ≤ g ∧ g < W4.heap.size) := fun W4 r g hg => .inl (hX1 r g hg)
      intro e a3 w3 hp3
      cases e with
      | normal =>
        obtain ⟨σ3, H3, hq3, c3, b3, v3, ⟨rfl, rfl⟩, hst3', _⟩ := hp3
        obtain ⟨W4, h1, h2, h3, c5, vs5, H5, h4, h5, h6, h7⟩ := fin none _ _ _ _ hst3' hq3
        exact ⟨_, W4, h1, true, rfl, h2, h3, hXg W4, c5, vs5, H5, h4, h5, h6, h7⟩
      | ret =>
        obtain ⟨σ3, H3, hq3, c3, b3, v3, ⟨rfl, rfl⟩, hst3', _⟩ := hp3
        obtain ⟨W4, h1, h2, h3, c5, vs5, H5, h4, h5, h6, h7⟩ := fin (some .ret) _ _ _ _ hst3' hq3
        exact ⟨_, W4, h1, false, rfl, h2, h3, hXg W4, c5, vs5, H5, .ret, .inl ⟨rfl, (forceL_eq _ (fun σ => Q .ret σ H5)).1 h4⟩, h5, h6⟩
      | exit i =>
        obtain ⟨σ3, H3, hq3, c3, b3, v3, ⟨rfl, rfl⟩, hst3', _⟩ := hp3
        obtain ⟨W4, h1, h2, h3, c5, vs5, H5, h4, h5, h6, h7⟩ := fin (some (.exit i)) _ _ _ _ hst3' hq3
        exact ⟨_, W4, h1, false, rfl, h2, h3, hXg W4, c5, vs5, H5, .exit i, .inr ⟨i, rfl, (forceL_eq _ (fun σ => Q (.exit i) σ H5)).1 h4⟩, h5, h6⟩
      | goto l => exact hp3.elim
      | panic ch => exact hp3.elim
      | outgrown => exact hp3.elim
    | exit i => obtain ⟨_, _, hq, _⟩ := hp1; exact hq.elim
    | ret => obtain ⟨_, _, hq, _⟩ := hp1; exact hq.elim
    | goto l => exact hp1.elim
    | panic ch => exact hp1.elim
    | outgrown => exact hp1.elim
  · -- at the beginning
    refine ⟨fun r g hg => ?_, c2, vs3, H2, hI0, hst3, hv4, fun i g hi => ?_⟩
    · refine ⟨(hst3.xk.xb g hg).1, fun hm => hst3.xk.dis g (hM2 g (hM1 g hm)) hg⟩
    · exact ⟨(hst3.own i g hi).2.1, fun hm => (hst3.own i g hi).2.2.1 (hM2 g (hM1 g hm))⟩
  · -- behind it
    rintro e W2 ⟨⟨u, rfl⟩, X, ⟨_, c, vs, H', hI, hst, hvs, _⟩ | ⟨_, c, vs, H', jump, hq, hst, hvs⟩⟩
    · have hle : W2.heap[l]? = some (.loop (rec .ready none)) := (hst.xk.keep l _ (hD1l _)).1
      obtain ⟨ob, hob⟩ : ∃ ob, (Instr.endLoop l).run P W2 = .ok none (W2.putObj l ob) := ⟨_, by have := run_endLoop (P := P) hle (by rw [hrec]; simp); rw [show (rec .ready none).pending = none by rw [hrec]] at this; exact this⟩
      refine ⟨none, _, hob, ?_⟩
      obtain ⟨ve, hSe, hste, hmke⟩ := hend _ _ _ _ ob hst
      exact ⟨_, _, (forceL_eq _ _).1 ((forceL_eq _ _).1 (hdone vs H' hI)), c, b, ve, hSe, hste, hσe c H' _ vs (hvs.ext (hst.ext_put (hXl _) _)), hmke⟩
    · have hle : W2.heap[l]? = some (.loop (rec .done (some jump))) := (hst.xk.keep l _ (hD1l _)).1
      obtain ⟨ob, hob⟩ : ∃ ob, (Instr.endLoop l).run P W2 = .ok (some jump) (W2.putObj l ob) := ⟨_, by have := run_endLoop (P := P) hle (by rw [hrec]; simp); rw [show (rec .done (some jump)).pending = some jump by rw [hrec]] at this; exact this⟩
      refine ⟨some jump, _, hob, ?_⟩
      obtain ⟨ve, hSe, hste, hmke⟩ := hend _ _ _ _ ob hst
      have hfin := hσe c H' _ vs (hvs.ext (hst.ext_put (hXl _) ob))
      rcases hq with ⟨rfl, hq⟩ | ⟨i, rfl, hq⟩
      · exact wpIn_ret ⟨_, _, hq, c, b, ve, hSe, hste, hfin, hmke⟩
      · exact wpIn_exit ⟨_, _, hq, c, b, ve, hSe, hste, hfin, hmke⟩
end
end Go.Proofs.YtmkphnlpbngenaaDoor.Vc

namespace Go.Proofs.YtmkphnlpbngenaaDoor.Vc
open Go Go.RowKit

theorem wpIn_scope_straight {F : Fence} {n : Nat} {P : Program} {Q : Exit → Act → World → Prop} {a : Act} {w : World} {c : Code} (h : c.wpIn F n P (Exit.noGoto Q) a w) : (Code.scope c).wpIn F n P Q a w := by
  intro b k cs hro hb hr
  have h0 : (lone (b.atR a (.code (.scope c) :: k)) cs w).fenced P F := fenced_calm hb hr rfl
  have h1 : step P (lone (b.atR a (.code (.scope c) :: k)) cs w) = .next (lone (b.atR a (.code c :: .inScope c :: k)) cs w) := step_lone_go (by simp [stepG, stepG.exec, Frame.atR])
  have h2 : ∀ a w, step P (lone (b.atR a (.inScope c :: k)) cs w) = .next (lone (b.atR a k) cs w) := fun a w => step_lone_go (by simp [stepG, stepG.exec, Frame.atR])
  obtain ⟨e, a₁, w₁, hq, harr⟩ := h b (.inScope c :: k) cs hro hb hr
  cases e with
  | normal => exact ⟨.normal, a₁, w₁, hq, .head h0 h1 (StepsIn.trans harr (.one (fenced_calm hb hr rfl) (h2 _ _)))⟩
  | exit id =>
    have hx : exitTo id (.inScope c :: k) = exitTo id k := by simp [exitTo]
    exact ⟨.exit id, a₁, w₁, hq, fun k' hk => .head h0 h1 (harr.1 k' (by rw [hx]; exact hk)), fun hr' hk => let ⟨k₁, e1, e2⟩ := harr.2 hr' (by rw [hx]; exact hk); ⟨k₁, e1, .head h0 h1 e2⟩⟩
  | goto l => exact hq.elim
  | ret => exact ⟨_, a₁, w₁, hq, .of_steps (.one h0 h1) harr⟩
  | panic ch => exact ⟨_, a₁, w₁, hq, .of_steps (.one h0 h1) harr⟩
  | outgrown => exact ⟨_, a₁, w₁, hq, .of_steps (.one h0 h1) harr⟩

theorem awp_ok {P : Program} : ∀ (x : Code) {E : Env} {S : Ses} {ro : Option Nat}, Known P E → (∀ q, E.yl = some q → ro = none ∧ YLaw P S q.2) → (E.rf = true → ro = none ∧ RfLaw S) →
    ∀ (Q : Ex → List V → List Blk → Prop) (σ : List V) (H : List Blk) (a : Act) (w : World), awp E x Q σ H → Sta E S σ H a w → x.wpIn (Fen ro) 0 P (Post E S Q) a w
  | .skip, E, S, ro, hk, hY, hR, Q, σ, H, a, w, h, hs => wpIn_skip ⟨σ, H, h, hs⟩
  | .region id ops draw, E, S, ro, hk, hY, hR, Q, σ, H, a, w, h, hs => by
    cases draw with
    | false => exact wpIn_region_list (aops_ok hk.glob hk.noref hk.env hY _ _ _ _ _ _ hs h fun σ' H' a' w' hk hs' => ⟨σ', H', hk, hs'⟩)
    | true => exact draw_ok hk.glob hk.env hk.det hk.mixed ops id S ro σ H _ a w _ h.1 hs ((forceL_eq _ _).1 h.2) fun σ' H' a' w' hk hs' => ⟨σ', H', hk, hs'⟩
  | .seq x y, E, S, ro, hk, hY, hR, Q, σ, H, a, w, h, hs => by
    refine wpIn_seq (wpInMono ?_ (awp_ok x hk hY hR _ σ H a w h hs))
    intro e a' w' hp
    cases e with
    | normal =>
      obtain ⟨σ', H', hq, hs'⟩ := hp
      exact awp_ok y hk hY hR Q σ' H' a' w' hq hs'
    | exit i => exact hp
    | ret => exact hp
    | goto l => exact hp.elim
    | panic ch => exact hp.elim
    | outgrown => exact hp.elim
  | .cond ce x y, E, S, ro, hk, hY, hR, Q, σ, H, a, w, h, hs => by
    obtain ⟨c, b0, v0, hS, hst, hσ, hd⟩ := hs
    have hc := evr_ok hst hσ ce
    unfold awp at h
    generalize evr E σ ce = vc at h hc
    generalize hae : a.eval ce = ve at hc
    cases hc <;> try exact h.elim
    case b p b hb =>
      cases ce with
      | tmp t =>
        have hx : a.tmps.toList.getD t undef = .bool b := by
          rw [← hae]; simp [Act.eval, Array.getD_eq_getD_getElem?]
        have hs' := Sta.settle (E := E) (S := S) ⟨c, b0, v0, hS, hst, hσ, hd⟩ hx
        cases b with
        | true => exact wpIn_cond hae (awp_ok x hk hY hR Q _ H a w ((forceL_eq _ (fun σ => awp E x Q σ H)).1 (h.1 (hb.1 rfl))) hs')
        | false => exact wpIn_cond hae (awp_ok y hk hY hR Q _ H a w ((forceL_eq _ (fun σ => awp E y Q σ H)).1 (h.2 fun hp => by simpa using hb.2 hp)) hs')
      | _ =>
        cases b with
        | true => exact wpIn_cond hae (awp_ok x hk hY hR Q σ H a w (h.1 (hb.1 rfl)) ⟨c, b0, v0, hS, hst, hσ, hd⟩)
        | false => exact wpIn_cond hae (awp_ok y hk hY hR Q σ H a w (h.2 fun hp => by simpa using hb.2 hp) ⟨c, b0, v0, hS, hst, hσ, hd⟩)
    case bt b =>
      cases b with
      | true => exact wpIn_cond hae (awp_ok x hk hY hR Q σ H a w h ⟨c, b0, v0, hS, hst, hσ, hd⟩)
      | false => exact wpIn_cond hae (awp_ok y hk hY hR Q σ H a w h ⟨c, b0, v0, hS, hst, hσ, hd⟩)
  | .block id x, E, S, ro, hk, hY, hR, Q, σ, H, a, w, h, hs => by
    refine wpIn_block (wpInMono ?_ (awp_ok x hk hY hR _ σ H a w h hs))
    intro e a' w' hp
    cases e with
    | normal => exact hp
    | exit i =>
      obtain ⟨σ', H', hq, hs'⟩ := hp
      simp only [Exit.inBlock]
      by_cases hi : i = id
      · subst hi
        rw [if_pos rfl]
        refine ⟨σ', H', ?_, hs'⟩
        have : Nat.beq i i = true := Nat.beq_refl i
        simp only [this, cond_true] at hq
        exact hq
      · rw [if_neg hi]
        have : Nat.beq i id = false := by
          cases hb : Nat.beq i id with
          | false => rfl
          | true => exact absurd (beq_ok hb) hi
        simp only [this, cond_false] at hq
        exact ⟨σ', H', hq, hs'⟩
    | ret => exact hp
    | goto l => exact hp.elim
    | panic ch => exact hp.elim
    | outgrown => exact hp.elim
  | .loop x, E, S, ro, hk, hY, hR, Q, σ, H, a, w, h, hs => by
    have h : loopI (awp E x) Q σ H ∨ unr (awp E x) Q 64 σ H := by
      unfold awp at h
      cases hf : inL E.frz 1000001 with
      | true => rw [hf] at h; exact h
      | false => rw [hf] at h; exact .inl h
    have hmin : ∀ p : Nat → Prop, (∃ n, p n) → ∃ n, p n ∧ ∀ m, p m → n ≤ m := fun p ⟨n, hn⟩ => by
      induction n using Nat.strongRecOn with
      | _ n ih =>
        by_cases hx : ∃ m, m < n ∧ p m
        · obtain ⟨m, h1, h2⟩ := hx; exact ih m h1 h2
        · exact ⟨n, hn, fun m hm => Nat.le_of_not_lt fun hlt => hx ⟨m, hlt, hm⟩⟩
    rcases h with h | h
    rotate_left
    · let p : Act → World → Nat → Prop := fun a w n => ∃ σ H, unr (awp E x) Q n σ H ∧ Sta E S σ H a w
      let μ : Act → World → Nat := fun a w => @dite _ (∃ n, p a w n) (Classical.propDecidable _) (fun h => Classical.choose (hmin _ h)) (fun _ => 0)
      have hμ : ∀ a w n, p a w n → p a w (μ a w) ∧ μ a w ≤ n := fun a w n hn => by
        have hex : ∃ n, p a w n := ⟨n, hn⟩
        have e : μ a w = Classical.choose (hmin _ hex) := dif_pos hex
        rw [e]
        have := Classical.choose_spec (hmin _ hex)
        exact ⟨this.1, this.2 n hn⟩
      refine wpIn_loop (fun a w => ∃ n, p a w n) μ ⟨64, σ, H, h, hs⟩ ?_
      rintro a w ⟨n0, hn0⟩
      obtain ⟨⟨σ1, H1, hi, hs'⟩, _⟩ := hμ a w n0 hn0
      generalize hm : μ a w = m at hi
      cases m with
      | zero => exact hi.elim
      | succ k =>
        refine wpInMono ?_ (awp_ok x hk hY hR _ σ1 H1 a w hi hs')
        intro e a' w' hp
        cases e with
        | normal =>
          obtain ⟨σ2, H2, hv, hs2⟩ := hp
          have hp3 : p a' w' k := ⟨σ2, H2, hv, hs2⟩
          have := (hμ a' w' k hp3).2
          exact ⟨⟨k, hp3⟩, by omega⟩
        | exit i => exact hp
        | ret => exact hp
        | goto l => exact hp.elim
        | panic ch => exact hp.elim
        | outgrown => exact hp.elim
    obtain ⟨np, keep, I, h0, hr⟩ := h
    let p : Act → World → Nat → Prop := fun a w n => ∃ vs H, I n vs H ∧ Sta E S (sprd σ.length 0 keep vs) H a w
    let μ : Act → World → Nat := fun a w => @dite _ (∃ n, p a w n) (Classical.propDecidable _) (fun h => Classical.choose (hmin _ h)) (fun _ => 0)
    have hμ : ∀ a w n, p a w n → p a w (μ a w) ∧ μ a w ≤ n := fun a w n hn => by
      have hex : ∃ n, p a w n := ⟨n, hn⟩
      have e : μ a w = Classical.choose (hmin _ hex) := dif_pos hex
      rw [e]
      have := Classical.choose_spec (hmin _ hex)
      exact ⟨this.1, this.2 n hn⟩
    refine wpIn_loop (fun a w => ∃ n, p a w n) μ ?_ ?_
    · obtain ⟨vs, H', ⟨n, hi⟩, hs'⟩ := view_ok hk.glob hk.noref hs h0
      exact ⟨n, vs, H', hi, hs'⟩
    · rintro a w ⟨n0, hn0⟩
      obtain ⟨⟨vs, H', hi, hs'⟩, _⟩ := hμ a w n0 hn0
      have hb := (forceL_eq _ _).1 ((forceL_eq _ _).1 (hr _ vs H' hi))
      refine wpInMono ?_ (awp_ok x hk hY hR _ _ _ a w hb hs')
      intro e a' w' hp
      cases e with
      | normal =>
        obtain ⟨σ2, H2, hv, hs2⟩ := hp
        obtain ⟨hl2, hv⟩ := bif_ok hv
        have hl2 := beq_ok hl2
        obtain ⟨vs3, H3, ⟨m, hm, hi3⟩, hs3⟩ := view_ok hk.glob hk.noref hs2 hv
        rw [hl2] at hs3
        have hp3 : p a' w' m := ⟨vs3, H3, hi3, hs3⟩
        have := (hμ a' w' m hp3).2
        exact ⟨⟨m, hp3⟩, by omega⟩
      | exit i => exact hp
      | ret => exact hp
      | goto l => exact hp.elim
      | panic ch => exact hp.elim
      | outgrown => exact hp.elim
  | .exit i, E, S, ro, hk, hY, hR, Q, σ, H, a, w, h, hs => wpIn_exit ⟨σ, H, h, hs⟩
  | .ret, E, S, ro, hk, hY, hR, Q, σ, H, a, w, h, hs => wpIn_ret ⟨σ, H, h, hs⟩
  | .scope x, E, S, ro, hk, hY, hR, Q, σ, H, a, w, h, hs => by
    refine wpIn_scope_straight (wpInMono ?_ (awp_ok x hk hY hR Q σ H a w h hs))
    intro e a' w' hp
    cases e with
    | normal => exact hp
    | exit i => exact hp
    | ret => exact hp
    | goto l => exact hp.elim
    | panic ch => exact hp.elim
    | outgrown => exact hp.elim
  | .label l, E, S, ro, hk, hY, hR, Q, σ, H, a, w, h, hs => wpIn_label ⟨σ, H, h, hs⟩
  | .goto l, E, S, ro, hk, hY, hR, Q, σ, H, a, w, h, hs => h.elim
  | .rangeFunc f ps as c, E, S, ro, hk, hY, hR, Q, σ, H, a, w, h, hs => by
    obtain ⟨rfl, hRf⟩ := hR h.1
    exact range_ok hk hRf hs h (fun ro S Q σ H a w h hs => awp_ok as hk.inR (fun q hq => by cases hq) (fun hr => by cases hr) Q σ H a w h hs) (fun ro S Q σ H a w h hs => awp_ok c hk.inR (fun q hq => by cases hq) (fun hr => by cases hr) Q σ H a w h hs)
  | .refuse _, E, S, ro, hk, hY, hR, Q, σ, H, a, w, h, hs => h.elim
end Go.Proofs.YtmkphnlpbngenaaDoor.Vc

namespace Go.Proofs.YtmkphnlpbngenaaDoor.Vc
open Go Go.RowKit

section
variable {E : Env} {P : Program} {G : List (Nat × V)} {base : Nat} {w0 : W0}

/-- A load that changes nothing: its value. -/
theorem aload_ok (hE : EnvOk P E) {c : Cx} {H : List Blk} {w : World} {a : Act} (hst : St E.glob base w0 c H w) {T : TypeId} {p : Nat} {vp : V} {K : V → Prop} (hp : VRel c H w vp (a.tmps.getD p undef)) (h : aload E H T vp K) :
    ∃ x v, K x ∧ VRel c H w x v ∧ (Instr.loadAt T (a.tmps.getD p undef)).run P w = .ok v w := by
  obtain ⟨x, v, h1, h2, h3⟩ := load_run (P := P) (a := a) (o := { dst := none, op := .load T (.tmp p), type := 0, pos := "", after := #[], guard := none }) hE hst T (.tmp p) rfl rfl (by exact hp) h
  refine ⟨x, v, h1, h2, ?_⟩
  simp only [execOp, Sem.run_bind] at h3
  have he : a.eval (.tmp p) = a.tmps.getD p undef := rfl
  rw [he] at h3
  cases hr : (Instr.loadAt T (a.tmps.getD p undef)).run P w with
  | ok u w' =>
    rw [hr] at h3
    simp only [Result.andThen_ok, Sem.run_pure, Result.ok.injEq, Next.value.injEq] at h3
    rw [h3.1, h3.2]
  | halt e w' => rw [hr] at h3; simp at h3

def resSem (tm : Array Value) : ResultVar → Sem Value
  | .tmp t => pure (tm.getD t undef)
  | .cell p t => do loadVar t (← asAddr (tm.getD p undef))

theorem resK_ok (hE : EnvOk P E) {c : Cx} {H : List Blk} {w : World} {σ : List V} {a : Act} (hst : St E.glob base w0 c H w) (hσ : VRels c H w σ a.tmps.toList) {r : ResultVar} {K : V → Prop} (h : resK E σ H r K) :
    ∃ x v, K x ∧ VRel c H w x v ∧ (resSem a.tmps r).run P w = .ok v w := by
  cases r with
  | tmp t =>
    have h := (forceV_eq _ _).1 h
    exact ⟨_, _, h, (hσ.get t).nb, by simp [resSem, Array.getD_eq_getD_getElem?]⟩
  | cell p T =>
    have hp := hσ.get p
    have hpe : a.tmps.toList.getD p undef = a.tmps.getD p undef := by simp [Array.getD_eq_getD_getElem?]
    rw [hpe] at hp
    simp only [resK] at h
    split at h
    · rename_i id z i o hv
      rw [hv] at hp
      obtain ⟨x, v, h1, h2, h3⟩ := aload_ok hE (a := a) hst hp h
      have h1 := (forceV_eq _ _).1 h1
      refine ⟨x, v, h1, h2, ?_⟩
      show (do loadVar T (← asAddr (a.tmps.getD p undef)) : Sem Value).run P w = _
      generalize a.tmps.getD p undef = u at hp h3 ⊢
      cases hp with | ptr _ _ _ _ g m hs hr hi ho =>
      simpa [resSem, Instr.loadAt, Instr.sureAddr, asAddr] using h3
    · exact h.elim

theorem resKs_ok (hE : EnvOk P E) {c : Cx} {H : List Blk} {w : World} {σ : List V} {a : Act} (hst : St E.glob base w0 c H w) (hσ : VRels c H w σ a.tmps.toList) : ∀ (l : List ResultVar) {K : List V → Prop}, resKs E σ H l K →
    ∃ xs vs, K xs ∧ VRels c H w xs vs ∧ (l.mapM (resSem a.tmps)).run P w = .ok vs w ∧ vs.length = l.length
  | [], K, h => ⟨[], [], h, .nil, rfl, rfl⟩
  | r :: l, K, h => by
    obtain ⟨x, v, h, h2, h3⟩ := resK_ok hE hst hσ h
    obtain ⟨xs, vs, h, h4, h5, h6⟩ := resKs_ok hE hst hσ l h
    exact ⟨_, _, h, .cons _ _ _ _ h2 h4, by simp [List.mapM_cons, h3, h5], by simp [h6]⟩

theorem results_ok (hE : EnvOk P E) {c : Cx} {H : List Blk} {w : World} {σ : List V} {a : Act} (fn : Func) (hst : St E.glob base w0 c H w) (hσ : VRels c H w σ a.tmps.toList) {K : V → Prop} (h : resultsK E fn σ H K) :
    ∃ x v, K x ∧ VRel c H w x v ∧ (results fn a.tmps).run P w = .ok v w := by
  have hm : ∀ vs : List Value, (fn.results.toList.mapM (resSem a.tmps)).run P w = .ok vs w → (results fn a.tmps).run P w = .ok (if h : vs.toArray.size = 1 then vs.toArray[0] else .tuple vs.toArray) w := fun vs hv => by
    have e : results fn a.tmps = (do
        let vs ← fn.results.mapM (resSem a.tmps)
        pure (if h : vs.size = 1 then vs[0] else .tuple vs)) := by
      have : resSem a.tmps = (fun | .tmp t => pure (a.tmps.getD t undef) | .cell p t => do loadVar t (← asAddr (a.tmps.getD p undef)) : ResultVar → Sem Value) := by
        funext r; cases r <;> rfl
      rw [this]; rfl
    rw [e, Array.mapM_eq_mapM_toList]
    simp [hv]
  unfold resultsK at h
  split at h
  · rename_i r hr
    obtain ⟨x, v, h1, h2, h3⟩ := resK_ok hE hst hσ h
    refine ⟨x, v, h1, h2, ?_⟩
    have := hm [v] (by rw [hr]; simp [List.mapM_cons, h3])
    simpa using this
  · rename_i hne
    obtain ⟨xs, vs, h1, h2, h3, h4⟩ := resKs_ok hE hst hσ _ h
    refine ⟨_, _, h1, VRel.tup _ _ h2, ?_⟩
    have := hm vs h3
    have hl : vs.length ≠ 1 := fun hl => by
      rw [hl] at h4
      obtain ⟨r, hr⟩ := List.length_eq_one_iff.1 h4.symm
      exact hne r hr
    rw [this]
    simp [hl]

/-- By what the state of a function is measured. -/
def Sf (base : Nat) (w0 : W0) : Ses := fun b v => b = base ∧ v.w = w0.w ∧ v.Z = w0.Z ∧ v.J = w0.J ∧ v.gh = w0.gh ∧ v.l = w0.l ∧ (∀ g o, w0.D g = some o → v.D g = some o) ∧ (∀ g, w0.X g → v.X g) ∧ ∀ g, v.mks g → w0.D g = none

theorem Sf.law {base : Nat} {w0 : W0} (hJ : ∀ k X w, w0.J k X w) (hgh : w0.gh = []) : RfLaw (Sf base w0) := by
  rintro b v ⟨h1, h2, h3, h4, h5, h6, h7, h8, h9⟩
  refine ⟨by rw [h4]; exact hJ, h5.trans hgh, fun D X mks hD hX hm => ⟨h1, h2, h3, h4, h5, h6, fun g o h => hD g o (h7 g o h), fun g h => hX g (h8 g h), fun g h => ?_⟩⟩
  rcases hm g h with h | h
  · exact h9 g h
  · cases hd : w0.D g with
    | none => rfl
    | some o => rw [h7 g o hd] at h; cases h

/-- The marks are given back; what was said of the state at the beginning is left. -/
theorem leave_ok (hE : EnvOk P E) (hJ : ∀ k X w, w0.J k X w) (hmk0 : ∀ g, ¬ w0.mks g) {fn : Func} {c : Cx} {H : List Blk} {σ : List V} {tmps : Array Value} {R : V → List Blk → Prop} (h : resultsK E fn σ H fun v => R v H) : ∀ (gs : List Nat) (v : W0) (w : World), Sf base w0 base v → gs.Nodup → (∀ g ∈ gs, v.mks g) →
    St E.glob base v c H w → VRels c H w σ tmps.toList →
    LeavesInM Fence.wide 0 P fn tmps (fun e w' => ∃ x v H' c', e = .returned v ∧ R x H' ∧ VRel c' H' w' x v ∧ St E.glob base w0 c' H' w') (gs.map fun g => { target := .collected g, args := #[] }) .returning w
  | [], v, w, hS, _, _, hst, hσ => by
    obtain ⟨_, h2, h3, h4, h5, h6, h7, h8, h9⟩ := hS
    have hx := (hst.xk.less (D := w0.D) (Z := w0.Z) (X := w0.X) (mks := w0.mks) (fun k x hk => h7 k x hk) (fun k n hk => by rw [h3]; exact hk) h8 (fun k hk => absurd hk (hmk0 k)) (by rw [h4]; exact hJ _ _ _))
    have hst' : St E.glob base w0 c H w := hst.other (by rw [← h2]; exact hst.below) ⟨hx.keep, hx.siz, hJ _ _ _, hst.xk.gh.trans h5, hst.xk.l.trans h6, hx.dis, hx.xb, hx.mks, fun hg => hst.xk.gi (h5.trans hg)⟩
    obtain ⟨x, u, h1, h2, h3⟩ := results_ok (a := { tmps := tmps, defers := [] }) hE fn hst' hσ h
    exact ⟨u, h3, x, u, H, c, rfl, h1, h2, hst'⟩
  | g :: gs, v, w, hS, hnd, hm, hst, hσ => by
    obtain ⟨hg, hnd⟩ := List.nodup_cons.1 hnd
    obtain ⟨m1, m2, m3⟩ := hst.xk.mks g (hm g (by simp))
    obtain ⟨_, h2, h3, h4, h5, h6, h7, h8, h9⟩ := hS
    refine ⟨by simp, .inl ⟨g, w.putObj g (.deferred none), rfl, run_takeDeferred (hst.xk.keep g _ m3).1, ?_⟩⟩
    let D : Nat → Option Obj := fun k => if k = g then none else v.D k
    have hDo : ∀ k, k ≠ g → D k = v.D k := fun k h => if_neg h
    refine leave_ok hE hJ hmk0 h gs { v with D := D, mks := fun k => v.mks k ∧ k ≠ g } _ ⟨rfl, h2, h3, h4, h5, h6, fun k o hk => ?_, h8, fun k hk => h9 k hk.1⟩ hnd (fun k hk => ⟨hm k (by simp [hk]), fun e => by subst e; exact hg hk⟩) ?_ (hσ.ext (hst.ext_put m2 _))
    · have : k ≠ g := fun e => by subst e; rw [h9 k (hm k (by simp))] at hk; cases hk
      exact (hDo k this).trans (h7 k o hk)
    · exact hst.put (g := g) m2 m1 _ rfl (Xk.put (v := v) hst.xk (g := g) m2 m3 rfl _ (fun k x hk => by
        by_cases e : k = g
        · subst e; simp [D] at hk
        · exact .inr ⟨e, (hDo k e).symm.trans hk⟩) fun k hk => ⟨hk.1, hk.2, hDo k hk.2⟩)

/-- A function whose body shows what is asked. -/
theorem body_ok (hk : Known P E) (hyl : E.yl = none) (hJ : ∀ k X w, w0.J k X w) (hgh : w0.gh = []) (hmk0 : ∀ g, ¬ w0.mks g) {f : FuncId} {fn : Func} (hf : P.funcs[f]? = some fn) {c : Cx} {H : List Blk} {w : World} {args : List V} {vs : List Value} {R : V → List Blk → Prop}
    (hst : St E.glob base w0 c H w) (hv : VRels c H w args vs) (h : body E fn args H R) :
    Calls P f vs.toArray w fun e w' => ∃ x v H' c', e = .returned v ∧ R x H' ∧ VRel c' H' w' x v ∧ St E.glob base w0 c' H' w' := by
  unfold body at h
  split at h
  · rename_i code hb
    rw [awpR_eq] at h
    have hs : Sta E (Sf base w0) (args ++ List.replicate (fn.ntmps - args.length) .undef) H { tmps := vs.toArray ++ Array.replicate (fn.ntmps - vs.toArray.size) undef, defers := [] } w :=
      ⟨c, base, w0, ⟨rfl, rfl, rfl, rfl, rfl, rfl, fun _ _ h => h, fun _ h => h, fun g h => absurd h (hmk0 g)⟩, hst, by
        simp only [Array.toList_append, Array.toList_replicate, List.size_toArray]
        rw [hv.length]
        exact hv.append (VRels.undefs undef _), Marks.nil⟩
    refine (callsIn_wide (n := 0)).1 (callsIn_of_wp_marks hf hb trivial (wpInMono ?_ (awp_ok code hk (ro := none) (fun q hq => by rw [hyl] at hq; cases hq) (fun _ => ⟨rfl, Sf.law hJ hgh⟩) _ _ H _ w h hs)))
    have fin : ∀ (a : Act) (w' : World), (∃ σ H, resultsK E fn σ H (fun v => R v H) ∧ Sta E (Sf base w0) σ H a w') →
        LeavesInM Fence.wide 0 P fn a.tmps (fun e w' => ∃ x v H' c', e = .returned v ∧ R x H' ∧ VRel c' H' w' x v ∧ St E.glob base w0 c' H' w') a.defers .returning w' := by
      rintro a w' ⟨σ, H, hq, c', b, v, hS, hst', hσ', gs, g1, g2, g3⟩
      obtain rfl := hS.1
      rw [g2]
      exact leave_ok hk.env hJ hmk0 hq gs v w' hS g1 g3 hst' hσ'
    intro e a w' hp
    cases e with
    | normal => exact fin a w' hp
    | ret => exact fin a w' hp
    | exit i => obtain ⟨_, _, hq, _⟩ := hp; exact hq.elim
    | goto l => exact hp.elim
    | panic ch => exact hp.elim
    | outgrown => exact hp.elim
  · exact h.elim

/-- What the body of a function that is ranged over has to show. -/
def bodyS (E : Env) (fn : Func) (ds : List V) (ks : List PK) (L : (Nat × (Nat → List V))) : Prop :=
  match fn.body with
  | some c => (fn.results.toList = []) ∧ awpR { E with yl := some (ks, L) } c (fun e σ _ => match e with
      | .exit _ => False
      | _ => match gets σ 0 with | .yld (some n) => n = L.1 | .yld none => True | _ => False) (.yld (some 0) :: ds ++ List.replicate (fn.ntmps - (ds.length + 1)) .undef) []
  | none => False

/-- THE CONTRACT OF A FUNCTION THAT IS RANGED OVER. -/
theorem holds_seq (hk : Known P E) (hrf : E.rf = false) {f : FuncId} {fn : Func} (hf : P.funcs[f]? = some fn) (hent : ∀ args w, (callFunc f args).run P w = .ok (.enter f args) w) {ks : List PK} {spec : List V → Option (Prop × Nat × (Nat → List V))} (yks : List PK)
    (h : ∀ ds p L, spec ds = some (p, L) → p → bodyS E fn ds yks L) : SeqHolds P E.glob f (ks, spec) := by
  refine ⟨hent, fun M w ds us p L hsp hp hM hglob hds l J hJ hR hJ0 => ?_⟩
  have hb := h ds p L hsp hp
  unfold bodyS at hb
  split at hb
  · rename_i code hbd
    obtain ⟨hres, hb⟩ := hb
    rw [awpR_eq] at hb
    let S : Ses := fun b v => b = v.w.heap.size ∧ v.D = (fun _ => none) ∧ v.Z = (fun _ => none) ∧ v.mks = (fun _ => False) ∧ v.gh = [] ∧ v.J = J ∧ v.l = l
    let xt : Xt := ⟨[], some 0, l⟩
    have hk' : Known P { E with yl := some (yks, L) } := ⟨hk.glob, hk.noref, ⟨hk.env.con, hk.env.seq, hk.env.ty, hk.env.eq⟩, hk.det, hk.mixed⟩
    have hst : St E.glob w.heap.size ⟨w, fun _ => none, fun _ => none, fun g => g < w.heap.size ∧ ¬ M g, fun _ => False, J, [], l⟩ (Cx.of M xt) [] w :=
      { below := Below.refl _ _
        xk :=
          { keep := fun g o h => by cases h
            siz := fun g n h => by cases h
            cnt := hJ0
            gh := rfl
            l := rfl
            dis := fun g hg hX => hX.2 hg
            xb := fun g hX => ⟨hX.1, fun i hi => by cases hi⟩
            mks := fun _ h => h.elim
            gi := fun _ => rfl }
        size := Nat.le_refl _
        blk := fun id => by cases id <;> trivial
        inj := fun i j g hi => by cases hi
        own := fun i g hi => by cases hi
        imm := hM
        sub := fun g hg => hg.elim
        glob := fun g x hx => hglob g x hx xt }
    have hlen := (hds xt).length
    have hs : Sta { E with yl := some (yks, L) } S (.yld (some 0) :: ds ++ List.replicate (fn.ntmps - (ds.length + 1)) .undef) [] { tmps := (#[.func (.yield l) #[] #[]] ++ us.toArray) ++ Array.replicate (fn.ntmps - (#[.func (.yield l) #[] #[]] ++ us.toArray : Array Value).size) undef, defers := [] } w := by
      refine ⟨Cx.of M xt, w.heap.size, _, ⟨rfl, rfl, rfl, rfl, rfl, rfl, rfl⟩, hst, ?_, Marks.nil⟩
      have e : (#[Value.func (.yield l) #[] #[]] ++ us.toArray : Array Value).toList = .func (.yield l) #[] #[] :: us := by simp
      simp only [Array.toList_append, Array.toList_replicate, Array.size_append, List.size_toArray, List.length_cons, List.length_nil]
      rw [show 0 + 1 + us.length = ds.length + 1 by omega]
      exact (VRels.cons _ _ _ _ (VRel.yld (c := Cx.of M xt) (some 0) rfl) (hds xt)).append (VRels.undefs undef _)
    refine callsIn_of_wp (F := Fence.wide) hf hbd trivial (wpInMono ?_ (awp_ok code hk' (ro := none) (fun q hq => ⟨rfl, ?_⟩) (fun hr => by rw [hrf] at hr; cases hr) _ _ [] _ w hb hs))
    · have fin : ∀ (a : Act) (w' : World), (∃ σ H, (match gets σ 0 with | .yld (some n) => n = L.1 | .yld none => True | _ => False) ∧ Sta { E with yl := some (yks, L) } S σ H a w') →
          a.defers = [] ∧ ∃ v, (results fn a.tmps).run P w' = .ok v w' ∧ (∃ u, Ending.returned v = .returned u) ∧ ∃ X, J (some L.1) X w' ∨ J none X w' := by
        rintro a w' ⟨σ, H, hq, c', b, v, ⟨hb, hD, hZ, hmk, hgh, hJv, hl⟩, hst', hσ', gs, g1, g2, g3⟩
        have hgs : gs = [] := by
          cases gs with
          | nil => rfl
          | cons g gs => have := g3 g (by simp); rw [hmk] at this; exact this.elim
        subst hgs
        have hrun : (results fn a.tmps).run P w' = .ok (.tuple #[]) w' := by
          have : fn.results = #[] := by rw [← Array.toArray_toList (xs := fn.results), hres]
          unfold results
          rw [this]
          simp
        refine ⟨g2, _, hrun, ⟨_, rfl⟩, v.X, ?_⟩
        have hrel := hσ'.get 0
        have hcnt := hst'.xk.cnt
        have hbel := hst'.below
        rw [hb] at hbel
        generalize a.tmps.toList.getD 0 undef = fv at hrel
        generalize gets σ 0 = y at hq hrel
        cases hrel <;> try exact hq.elim
        rename_i kk hkk
        rw [← hkk, hJv] at hcnt
        have := hJ _ _ _ _ hcnt hbel
        cases kk with
        | some n => obtain rfl : n = L.1 := hq; exact .inl this
        | none => exact .inr this
      intro e a w' hp
      cases e with
      | normal => exact fin a w' hp
      | ret => exact fin a w' hp
      | exit i => obtain ⟨_, _, hq, _⟩ := hp; exact hq.elim
      | goto l => exact hp.elim
      | panic ch => exact hp.elim
      | outgrown => exact hp.elim
    · obtain rfl : (yks, L) = q := Option.some.inj hq
      rintro b v ⟨hb, hD, hZ, hmk, hgh, hJv, hl⟩
      exact ⟨hb, fun g => by rw [hD], fun g => by rw [hZ], fun g h => by rw [hmk] at h; exact h, hgh, by rw [hJv]; exact hJ, by rw [hJv, hl]; exact hR, fun X W => ⟨rfl, hD, hZ, hmk, hgh, hJv, hl⟩⟩
  · exact hb.elim
end
end Go.Proofs.YtmkphnlpbngenaaDoor.Vc

namespace Go.Proofs.YtmkphnlpbngenaaDoor.Vc
open Go Go.RowKit

section
variable {E : Env} {P : Program} {G : List (Nat × V)} {base : Nat} {w0 : W0} {c : Cx} {H : List Blk} {w : World}

def W0.all (w : World) : W0 := ⟨w, fun _ => none, fun _ => none, fun _ => False, fun _ => False, fun _ _ _ => True, [], 0⟩

theorem St.all (hN : noRef G) (hst : St G base w0 c H w) : St G w.heap.size (W0.all w) (Cx.all w) [] w :=
  hst.calm hN hst.imm (fun _ _ => rfl) (Below.refl _ _)
    { keep := fun g o h => by cases h
      siz := fun g n h => by cases h
      cnt := trivial
      gh := rfl
      l := rfl
      dis := fun _ _ h => h
      xb := fun _ h => h.elim
      mks := fun _ h => h.elim
      gi := fun _ => rfl } (Nat.le_refl _) fun _ h => h

/-! ### what goes out, among the caller's -/
section
variable {G : List (Nat × V)} {base : Nat} {w0 : W0} {c : Cx} {H : List Blk} {w : World}

def Cx.join (c cE : Cx) (n : Nat) : Cx := ⟨fun g => c.M g ∨ cE.N g, fun g => c.N g ∨ cE.N g, fun i => if i < n then c.ρ i else cE.ρ (i - n), c.x, c.gi⟩

theorem getB_app (H L : List Blk) : ∀ id, getB (H ++ L) id = if id < H.length then getB H id else getB L (id - H.length) := by
  induction H with
  | nil => intro id; simp
  | cons x H ih =>
    intro id
    cases id with
    | zero => simp [getB]
    | succ id => simp [getB, ih]
theorem getB_shH (n : Nat) : ∀ (L : List Blk) (j : Nat), getB (shH n L) j = shB n (getB L j)
  | [], j => by cases j <;> rfl
  | b :: L, 0 => rfl
  | b :: L, j + 1 => getB_shH n L j
theorem length_shH (n : Nat) : ∀ L : List Blk, (shH n L).length = L.length
  | [] => rfl
  | b :: L => by simp [shH, length_shH n L]
theorem length_shL (n : Nat) : ∀ l : List V, (shL n l).length = l.length
  | [] => rfl
  | b :: l => by simp [shL, length_shL n l]
theorem gets_shL (n : Nat) : ∀ (l : List V) (j : Nat), gets (shL n l) j = shV n (gets l j)
  | [], j => by cases j <;> rfl
  | b :: l, 0 => rfl
  | b :: l, j + 1 => gets_shL n l j
theorem shape_join (H L : List Blk) (i : Nat) : shape (H ++ shH H.length L) (H.length + i) = shape L i := by
  unfold shape
  rw [getB_app, if_neg (by omega), Nat.add_sub_cancel_left, getB_shH]
  cases getB L i <;> simp [shB, length_shL]

theorem OwnAt.join {cE : Cx} {w' : World} {i z off n : Nat} {a : Option Addr} {cap : Nat} (h : OwnAt cE w' i z off a cap) : OwnAt (c.join cE n) w' (n + i) z off a cap := by
  obtain ⟨g, e, cur, h1, h2⟩ := h
  exact ⟨g, e, cur, by simp only [Cx.join]; rw [if_neg (by omega), Nat.add_sub_cancel_left]; exact h1, h2⟩

section
variable {cE : Cx} {L : List Blk} {w' : World}
mutual
theorem VRel.join : ∀ {x : V} {v : Value}, VRel cE L w' x v → x.fresh = true → VRel (c.join cE H.length) (H ++ shH H.length L) w' (shV H.length x) v
  | _, _, .undef v, _ => .undef v
  | _, _, .int k n h1 h2, _ => .int k n h1 h2
  | _, _, .u8 x, _ => .u8 x
  | _, _, .b p x h, _ => .b p x h
  | _, _, .bt x, _ => .bt x
  | _, _, .nope, _ => .nope
  | _, _, .str s h, _ => .str s h
  | _, _, .nils, _ => .nils
  | _, _, .sl fr t xs v h, hf => by
    have hf : fr = true := hf
    subst hf
    exact .sl true t xs v (DRel.ext (M := cE.N) (fun g hg => .inr hg) (fun _ _ => rfl) _ _ _ h)
  | _, _, .own t i n a cap h1 hn hc ho, _ => .own t (H.length + i) n a cap ((shape_join H L i).trans h1) hn hc (ho.imp (fun h => h) OwnAt.join)
  | _, _, .slc t i off n m a cap h1 h2 hn hc ho, _ => .slc t (H.length + i) off n m a cap ((shape_join H L i).trans h1) h2 hn hc (ho.imp (fun h => h) OwnAt.join)
  | _, _, .rp fr t x o g p es hM hd hc, hf => by simp [V.fresh] at hf
  | _, _, .ptr i z j o g m h1 hr hi ho, _ => .ptr (H.length + i) z j o g m ((shape_join H L i).trans h1) (by simp only [Cx.join]; rw [if_neg (by omega), Nat.add_sub_cancel_left]; exact hr) hi ho
  | _, _, .agg cs vs h, hf => .agg _ vs (VRels.join h hf)
  | _, _, .tup cs vs h, hf => .tup _ vs (VRels.join h hf)
  | _, _, .fn f cs vs h, hf => .fn f _ vs (VRels.join h hf)
  | _, _, .nilfn, _ => .nilfn
  | _, _, .yld k h, hf => by simp [V.fresh] at hf
  | _, _, .dat fr t x es h, hf => .dat fr t x es (by
    simp only [V.fresh, Bool.or_eq_true] at hf
    rcases hf with hf | hf
    · subst hf; exact DRel.ext (M := cE.N) (fun g hg => .inr hg) (fun _ _ => rfl) _ _ _ h
    · exact DRel.flat _ _ _ hf h)
theorem VRels.join : ∀ {xs : List V} {vs : List Value}, VRels cE L w' xs vs → V.freshL xs = true → VRels (c.join cE H.length) (H ++ shH H.length L) w' (shL H.length xs) vs
  | _, _, .nil, _ => .nil
  | _, _, .cons x v xs vs h hx, hf => by
    simp only [V.freshL, Bool.and_eq_true] at hf
    exact .cons _ v _ vs (VRel.join h hf.1) (VRels.join hx hf.2)
end
end

theorem freshH_at : ∀ (L : List Blk) (i : Nat), freshH L = true → (getB L i).fresh = true
  | [], i, _ => by cases i <;> rfl
  | b :: L, 0, h => by simp only [freshH, Bool.and_eq_true] at h; exact h.1
  | b :: L, i + 1, h => by simp only [freshH, Bool.and_eq_true] at h; exact freshH_at L i h.2
theorem freshL_at : ∀ (l : List V) (i : Nat), V.freshL l = true → (gets l i).fresh = true
  | [], i, _ => by cases i <;> rfl
  | b :: L, 0, h => by simp only [V.freshL, Bool.and_eq_true] at h; exact h.1
  | b :: L, i + 1, h => by simp only [V.freshL, Bool.and_eq_true] at h; exact freshL_at L i h.2

theorem ext_join (hst : St G base w0 c H w) {cE : Cx} {L : List Blk} {w' : World} (he : St G w.heap.size (W0.all w) cE L w') : Ext c H w (c.join cE H.length) (H ++ shH H.length L) w' where
  M g hg := .inl hg
  N g hg := .inl hg
  mem g hg := he.below.block g (hst.imm g (hg.elim id fun hn => (hst.sub g hn).1))
  shp id s hs := by
    have hlt := shape_lt hs
    refine ⟨?_, by simp [Cx.join, hlt]⟩
    unfold shape at *
    rw [getB_app, if_pos hlt]; exact hs
  siz id s g cur e hs hr hg := ⟨cur, (he.below.block g (hst.own id g hr).2.1).trans hg, rfl⟩
  x := rfl
  gi := rfl

theorem St.join (hst : St G base w0 c H w) {cE : Cx} {L : List Blk} {w' : World} (he : St G w.heap.size (W0.all w) cE L w') (hf : freshH L = true) : St G base w0 (c.join cE H.length) (H ++ shH H.length L) w' where
  below := hst.below.trans (he.below.mono hst.size)
  xk := hst.xk.step rfl (fun h => h) (fun g hg => hg.imp (fun h => h) fun hN => .inr (he.sub g hN).2) (fun i g hi => by
    simp only [Cx.join] at hi
    split at hi
    · exact .inl ⟨i, hi⟩
    · exact .inr (he.own _ g hi).1) (fun g o ho => .inl ((he.below.block g (Array.getElem?_eq_some_iff.1 ho).1).trans ho))
  size := Nat.le_trans hst.size he.size
  blk id := by
    rw [getB_app]
    split
    · rename_i hlt
      exact BOk.keep (ext_join hst he) (fun _ => by simp [Cx.join, hlt]) (fun g hg => he.below.block g (hst.own id g hg).2.1) (hst.blk id)
    · rename_i hge
      have hid : id = H.length + (id - H.length) := by omega
      have hbk := he.blk (id - H.length)
      have hfr := freshH_at L (id - H.length) hf
      have hrho : (c.join cE H.length).ρ id = cE.ρ (id - H.length) := by simp [Cx.join, hge]
      rw [getB_shH]
      generalize getB L (id - H.length) = b at hbk hfr
      cases b with
      | dead => trivial
      | row fr t xs =>
        rcases hbk with ⟨h1, h2⟩ | ⟨g, e, cur, h1, h2, h3, h4⟩
        · exact .inl ⟨hrho.trans h1, h2⟩
        · refine .inr ⟨g, e, cur, hrho.trans h1, h2, h3, fun i x hi => ?_⟩
          obtain ⟨es, e1, e2⟩ := h4 i x hi
          refine ⟨es, ?_, e2⟩
          simp only [Blk.fresh, Bool.or_eq_true] at hfr
          rcases hfr with hfr | hfr
          · subst hfr; exact DRel.ext (M := cE.N) (fun g hg => .inr hg) (fun _ _ => rfl) _ _ _ e1
          · exact DRel.flat _ _ _ hfr e1
      | cells cs =>
        rcases hbk with ⟨g, e, cur, h1, h2, h3, h4⟩ | ⟨h0, _⟩
        · refine .inl ⟨g, e, cur, hrho.trans h1, h2, by rw [length_shL]; exact h3, fun j hj => ?_⟩
          rw [length_shL] at hj
          obtain ⟨v, h5, h6, h7⟩ := h4 j hj
          rw [gets_shL]
          exact ⟨v, h5, h6, h7.join (freshL_at cs j hfr)⟩
        · rw [he.xk.gi rfl] at h0; cases h0
  inj i j g hi hj := by
    simp only [Cx.join] at hi hj
    split at hi <;> split at hj
    · exact hst.inj i j g hi hj
    · have h1 := (hst.own i g hi).2.1
      have h2 := (he.own _ g hj).1
      omega
    · have h1 := (hst.own j g hj).2.1
      have h2 := (he.own _ g hi).1
      omega
    · have := he.inj _ _ g hi hj; omega
  own i g hi := by
    simp only [Cx.join] at hi
    split at hi
    · obtain ⟨h1, h2, h3, h4⟩ := hst.own i g hi
      refine ⟨h1, Nat.lt_of_lt_of_le h2 he.size, fun hm => ?_, by rw [List.length_append]; omega⟩
      rcases hm with hm | hm
      · exact h3 hm
      · have := (he.sub g hm).2; omega
    · obtain ⟨h1, h2, h3, h4⟩ := he.own _ g hi
      have := hst.size
      refine ⟨by omega, h2, fun hm => ?_, by rw [List.length_append, length_shH]; omega⟩
      rcases hm with hm | hm
      · have := hst.imm g hm; omega
      · exact h3 (he.sub g hm).1
  imm g hg := by
    rcases hg with hg | hg
    · exact Nat.lt_of_lt_of_le (hst.imm g hg) he.size
    · exact he.imm g (he.sub g hg).1
  sub g hg := by
    rcases hg with hg | hg
    · exact ⟨.inl (hst.sub g hg).1, (hst.sub g hg).2⟩
    · have := hst.size
      exact ⟨.inr hg, Nat.le_trans this (he.sub g hg).2⟩
  glob g x hx := (hst.glob g x hx).ext (ext_join hst he)

theorem retK_ok (hG : GlobOk G) (hN : noRef G) {ms : List Mode} {v : V} {x : Value} {K : V → List Blk → Prop} (hst : St G base w0 c H w) (hx : VRel c H w v x) (h : retK ms v H K) :
    ∃ c' v' H', K v' H' ∧ St G base w0 c' H' w ∧ VRel c' H' w v' x := by
  unfold retK at h
  obtain ⟨hl, h⟩ := bif_ok h
  have hl := beq_ok hl
  have hview : ∀ us, VRels c H w (comps v) us → ∃ c' vs' H', K (uncomps v vs') H' ∧ St G base w0 c' H' w ∧ VRels c' H' w vs' us := fun us hu => by
    obtain ⟨c1, vs1, H1, h, hst1, hv1, _⟩ := viewA_ok hG ms c (comps v) [] H us [] _ hst hu .nil hl h
    obtain ⟨c2, vs2, H2, h, hst2, hv2, _⟩ := viewB_ok hN hst1 hv1 h
    exact ⟨c2, vs2, H2, h, hst2, by simpa using hv2⟩
  have single : (∀ l, v ≠ .tup l) → (∀ l, v ≠ .agg l) → ∃ c' v' H', K v' H' ∧ St G base w0 c' H' w ∧ VRel c' H' w v' x := fun h1 h2 => by
    have hc : comps v = [v] := by cases v <;> first | rfl | exact (h1 _ rfl).elim | exact (h2 _ rfl).elim
    have hu : ∀ vs, uncomps v vs = gets vs 0 := fun vs => by cases v <;> first | rfl | exact (h1 _ rfl).elim | exact (h2 _ rfl).elim
    obtain ⟨c', vs', H', hk, hst', hr⟩ := hview [x] (by rw [hc]; exact .cons _ _ _ _ hx .nil)
    rw [hu] at hk
    exact ⟨c', _, H', hk, hst', by simpa using hr.get 0⟩
  cases hx with
  | agg cs vs hr =>
    obtain ⟨c', vs', H', hk, hst', hr'⟩ := hview _ hr
    exact ⟨c', _, H', hk, hst', .agg _ _ hr'⟩
  | tup cs vs hr =>
    obtain ⟨c', vs', H', hk, hst', hr'⟩ := hview _ hr
    exact ⟨c', _, H', hk, hst', .tup _ _ hr'⟩
  | _ => exact single (fun _ h => by cases h) (fun _ h => by cases h)
end

/-- THE CONTRACT OF A FUNCTION THAT ONLY READS WHAT IT GETS. -/
theorem holds_pure {E : Env} {P : Program} (hk : Known P E) (hyl : E.yl = none) {f : FuncId} {fn : Func} (hf : P.funcs[f]? = some fn) (hent : ∀ args w, (callFunc f args).run P w = .ok (.enter f args) w)
    {ks : List PK} {spec : List V → Option (Prop × V × List Blk)} (ms : List Mode) (h : ∀ ds p v bs, spec ds = some (p, v, bs) → p → bodyP E fn ms ds v bs) : Holds P E.glob f (pureC ks spec) := by
  refine ⟨hent, fun base w0 c H w args vs hst hv R hc => ?_⟩
  obtain ⟨ds, hk, hd⟩ := asArgs_ok (U := Mall w) hst hst.imm (fun i g hi => (hst.own i g hi).2.1) ks args vs _ hc hv
  cases hs : spec ds with
  | none => rw [hs] at hk; exact hk.elim
  | some q =>
    obtain ⟨p, v, bs⟩ := q
    rw [hs] at hk
    obtain ⟨hp, hR⟩ := hk
    have hR := (nrm_eq _ _ _).1 hR
    refine (body_ok hk hyl (fun _ _ _ => trivial) rfl (fun _ h => h) hf (hst.all hk.noref) (hd _) (h ds p v bs hs hp)).mono ?_
    rintro e w' ⟨x, v', H', c', rfl, hq, hx, hst'⟩
    obtain ⟨c2, v2, H2, ⟨hfr, rfl, rfl⟩, hst2, hx2⟩ := retK_ok hk.glob hk.noref hst' hx hq
    simp only [Bool.and_eq_true] at hfr
    exact ⟨_, v', _, _, rfl, hR, hx2.join hfr.1, hst.join hst2 hfr.2, ext_join hst hst2⟩
end
end Go.Proofs.YtmkphnlpbngenaaDoor.Vc

namespace Go.Proofs.YtmkphnlpbngenaaDoor.Vc
open Go Go.RowKit

def AllTy (P : Program) : List (Nat × Ty) → Prop
  | [] => True
  | (T, t) :: l => (TyOk P T t ∧ eqTyOk P T t = true) ∧ AllTy P l
theorem AllTy.ok {P : Program} : ∀ {l : List (Nat × Ty)}, AllTy P l → ∀ T t, lk l T = some t → TyOk P T t ∧ eqTyOk P T t = true
  | [], _, T, t, h => by simp [lk] at h
  | (k, x) :: l, hl, T, t, h => by
    unfold lk at h
    cases hb : Nat.beq k T with
    | true =>
      rw [hb] at h
      simp only [cond_true, Option.some.injEq] at h
      have := beq_ok hb
      subst this h
      exact hl.1
    | false =>
      rw [hb] at h
      exact AllTy.ok hl.2 T t h

/-- An environment. -/
abbrev En (l : List (Nat × Con)) (tys : List (Nat × Ty)) (G : List (Nat × V)) (q : List (Nat × SeqC)) (z : List Nat := []) : Env := ⟨l, tys, G, q, none, true, z⟩

theorem EnvOk.nil {z : List Nat} {P : Program} {tys : List (Nat × Ty)} {G : List (Nat × V)} (h : ∀ T t, lk tys T = some t → TyOk P T t ∧ eqTyOk P T t = true) : EnvOk P (En [] tys G [] z) :=
  ⟨fun K c h => by simp [lk] at h, fun K c h => by simp [lk] at h, fun T t ht => (h T t ht).1, fun T t ht => (h T t ht).2⟩
theorem EnvOk.cons {z : List Nat} {P : Program} {tys : List (Nat × Ty)} {G : List (Nat × V)} {l : List (Nat × Con)} {q : List (Nat × SeqC)} {k : Nat} {c : Con} (h : Holds P G k c) (hE : EnvOk P (En l tys G q z)) : EnvOk P (En ((k, c) :: l) tys G q z) :=
  ⟨fun K c' hc => by
    simp only [lk] at hc
    cases hb : Nat.beq k K with
    | true =>
      rw [hb] at hc
      simp only [cond_true, Option.some.injEq] at hc
      have := beq_ok hb
      subst this hc
      exact h
    | false =>
      rw [hb] at hc
      exact hE.con K c' hc, hE.seq, hE.ty, hE.eq⟩
theorem EnvOk.consSeq {z : List Nat} {P : Program} {tys : List (Nat × Ty)} {G : List (Nat × V)} {l : List (Nat × Con)} {q : List (Nat × SeqC)} {k : Nat} {c : SeqC} (h : SeqHolds P G k c) (hE : EnvOk P (En l tys G q z)) : EnvOk P (En l tys G ((k, c) :: q) z) :=
  ⟨hE.con, fun K c' hc => by
    simp only [lk] at hc
    cases hb : Nat.beq k K with
    | true =>
      rw [hb] at hc
      simp only [cond_true, Option.some.injEq] at hc
      have := beq_ok hb
      subst this hc
      exact h
    | false =>
      rw [hb] at hc
      exact hE.seq K c' hc, hE.ty, hE.eq⟩
end Go.Proofs.YtmkphnlpbngenaaDoor.Vc

namespace Go.Proofs.YtmkphnlpbngenaaDoor.Vc
open Go Go.RowKit

theorem Point.asCells {H : List Blk} {α : Type} : ∀ {t : Ty} {l : List V} {f : t.D → List V → (α → Prop) → Prop}, (∀ x l, Point (f x l)) → Point (fun K => asCells H t l fun x l => f x l K)
  | .nil, l, f, hf => hf _ _
  | .cons t ts, l, f, hf => Point.asCells (t := t) (l := l) (f := fun x l K => Vc.asCells H ts l fun y l => f (x, y) l K) fun x l => Point.asCells (t := ts) fun y l => hf (x, y) l
  | .arr _ _, l, f, hf => .fls
  | .u8, [], f, hf => .fls
  | .u8, v :: l, f, hf => .asD (f := fun x K => f x l K) fun x => hf x l
  | .int _, [], f, hf => .fls
  | .int _, v :: l, f, hf => .asD (f := fun x K => f x l K) fun x => hf x l
  | .bool, [], f, hf => .fls
  | .bool, v :: l, f, hf => .asD (f := fun x K => f x l K) fun x => hf x l
  | .str, [], f, hf => .fls
  | .str, v :: l, f, hf => .asD (f := fun x K => f x l K) fun x => hf x l
  | .sl _, [], f, hf => .fls
  | .sl _, v :: l, f, hf => .asD (f := fun x K => f x l K) fun x => hf x l

theorem Point.asArg1 {H : List Blk} {k : PK} {v : V} {α : Type} {f : V → (α → Prop) → Prop} (hf : ∀ x, Point (f x)) : Point (fun K => asArg1 H k v fun d => f d K) := by
  cases k with
  | fn alts => exact .fls
  | v t =>
    cases t with
    | cons t ts =>
      cases v <;> first | exact .fls | skip
      unfold Vc.asArg1
      dsimp only
      refine .asCells (f := fun x l K => match l with | [] => f (dV (.cons t ts) x) K | _ => False) fun x l => ?_
      cases l
      · exact hf _
      · exact .fls
    | bool => cases v <;> first | exact .fls | exact hf _
    | arr n t =>
      cases v <;> first | exact .fls | skip
      unfold Vc.asArg1
      dsimp only
      exact .dite fun h => hf _
    | _ => unfold Vc.asArg1; exact .asD (f := fun x K => f (dV _ x) K) fun x => hf (dV _ x)
  | ref t =>
    cases v <;> first | exact .fls | skip
    · unfold Vc.asArg1
      dsimp only
      rename_i fr t' x o
      refine .dite fun h => ?_
      cases o
      · exact hf _
      · exact .fls
    · unfold Vc.asArg1
      dsimp only
      rename_i id z i o
      generalize getB H id = b
      cases b <;> first | exact .fls | skip
      cases i <;> first | exact .fls | skip
      cases o <;> first | exact .fls | skip
      refine .asCells (f := fun x l K => match l with | [] => f (.rp false t x 0) K | _ => False) fun x l => ?_
      cases l
      · exact hf _
      · exact .fls

theorem Point.asArgs1 {H : List Blk} {α : Type} : ∀ {ks : List PK} {vs : List V} {f : List V → (α → Prop) → Prop}, (∀ x, Point (f x)) → Point (fun K => asArgs1 H ks vs fun ds => f ds K)
  | [], [], f, hf => hf _
  | [], _ :: _, f, hf => .fls
  | _ :: _, [], f, hf => .fls
  | k :: ks, v :: vs, f, hf => .asArg1 (f := fun d K => Vc.asArgs1 H ks vs fun ds => f (d :: ds) K) fun d => Point.asArgs1 (f := fun ds K => f (d :: ds) K) fun ds => hf _

theorem Point.asArg {H : List Blk} {k : PK} {v : V} {α : Type} {f : V → (α → Prop) → Prop} (hf : ∀ x, Point (f x)) : Point (fun K => asArg H k v fun d => f d K) := by
  cases k with
  | fn alts =>
    cases v <;> first | exact .fls | skip
    rename_i g cs
    unfold Vc.asArg
    dsimp only
    generalize lk alts g = r
    cases r with
    | none => exact .fls
    | some ks => exact Point.asArgs1 (f := fun ds K => f (.fn g ds) K) fun ds => hf _
  | v t => show Point (fun K => Vc.asArg1 H (.v t) v fun d => f d K); exact Point.asArg1 hf
  | ref t => show Point (fun K => Vc.asArg1 H (.ref t) v fun d => f d K); exact Point.asArg1 hf
theorem Point.asArgs {H : List Blk} {α : Type} : ∀ {ks : List PK} {vs : List V} {f : List V → (α → Prop) → Prop}, (∀ x, Point (f x)) → Point (fun K => asArgs H ks vs fun ds => f ds K)
  | [], [], f, hf => hf _
  | [], _ :: _, f, hf => .fls
  | _ :: _, [], f, hf => .fls
  | k :: ks, v :: vs, f, hf => .asArg (f := fun d K => Vc.asArgs H ks vs fun ds => f (d :: ds) K) fun d => Point.asArgs (f := fun ds K => f (d :: ds) K) fun ds => hf _

/-! ### more blocks turn nothing -/
theorem asRows_up {H H2 : List Blk} (hle : HLe H H2) {t : Ty} : ∀ {vs : List V} {K : List (List t.D) → Prop}, asRows H t vs K → asRows H2 t vs K
  | [], K, h => h
  | v :: vs, K, h => by
    unfold asRows at h ⊢
    have hp : Point (fun K : Bool × List t.D → Prop => asRow H t v fun f xs => K (f, xs)) := .asRow (f := fun f xs K => K (f, xs)) fun _ _ => .ret _
    obtain ⟨⟨f, xs⟩, h1, h2⟩ := hp (fun p => asRows H t vs fun xss => K (p.2 :: xss)) h
    exact asRow_up hle (h2 (fun p => asRows H2 t vs fun xss => K (p.2 :: xss)) (asRows_up hle h1))
theorem asD_up {H H2 : List Blk} (hle : HLe H H2) {t : Ty} {v : V} {K : t.D → Prop} (h : asD H t v K) : asD H2 t v K := by
  unfold asD at h ⊢
  cases t <;> first | exact h | skip
  rename_i t
  cases t <;> dsimp only at h ⊢ <;> first | exact asRow_up hle h | skip
  cases v <;> dsimp only at h ⊢ <;> first | exact asRow_up hle h | skip
  rename_i t1 t0 id
  split at h
  · rename_i cs hb
    rw [hle _ (by rw [hb]; simp), hb]
    exact asRows_up hle h
  · rename_i fr t2 xs hb
    rw [hle _ (by rw [hb]; simp), hb]
    exact h
  · exact h.elim
theorem asCells_up {H H2 : List Blk} (hle : HLe H H2) : ∀ {t : Ty} {l : List V} {K K2 : t.D → List V → Prop}, (∀ x l, K x l → K2 x l) → asCells H t l K → asCells H2 t l K2
  | .nil, l, K, K2, hk, h => hk _ _ h
  | .cons t ts, l, K, K2, hk, h => asCells_up (t := t) hle (fun x l => asCells_up (t := ts) hle fun y l => hk (x, y) l) h
  | .arr _ _, l, K, K2, hk, h => h.elim
  | .u8, [], K, K2, hk, h => h.elim
  | .u8, v :: l, K, K2, hk, h => by
    have h : asD H .u8 v fun x => K x l := h
    show asD H2 .u8 v fun x => K2 x l
    have hp : Point (fun K : UInt8 → Prop => asD H .u8 v K) := .asD (t := .u8) (f := fun x K => K x) fun x => .ret x
    obtain ⟨x, h1, h2⟩ := hp _ h
    exact asD_up hle (h2 (fun x => K2 x l) (hk x l h1))
  | .int k, [], K, K2, hk, h => h.elim
  | .int k, v :: l, K, K2, hk, h => by
    have h : asD H (.int k) v fun x => K x l := h
    show asD H2 (.int k) v fun x => K2 x l
    have hp : Point (fun K : Int → Prop => asD H (.int k) v K) := .asD (t := .int k) (f := fun x K => K x) fun x => .ret x
    obtain ⟨x, h1, h2⟩ := hp _ h
    exact asD_up hle (h2 (fun x => K2 x l) (hk x l h1))
  | .bool, [], K, K2, hk, h => h.elim
  | .bool, v :: l, K, K2, hk, h => by
    have h : asD H .bool v fun x => K x l := h
    show asD H2 .bool v fun x => K2 x l
    have hp : Point (fun K : Bool → Prop => asD H .bool v K) := .asD (t := .bool) (f := fun x K => K x) fun x => .ret x
    obtain ⟨x, h1, h2⟩ := hp _ h
    exact asD_up hle (h2 (fun x => K2 x l) (hk x l h1))
  | .str, [], K, K2, hk, h => h.elim
  | .str, v :: l, K, K2, hk, h => by
    have h : asD H .str v fun x => K x l := h
    show asD H2 .str v fun x => K2 x l
    have hp : Point (fun K : List UInt8 → Prop => asD H .str v K) := .asD (t := .str) (f := fun x K => K x) fun x => .ret x
    obtain ⟨x, h1, h2⟩ := hp _ h
    exact asD_up hle (h2 (fun x => K2 x l) (hk x l h1))
  | .sl t, [], K, K2, hk, h => h.elim
  | .sl t, v :: l, K, K2, hk, h => by
    have h : asD H (.sl t) v fun x => K x l := h
    show asD H2 (.sl t) v fun x => K2 x l
    have hp : Point (fun K : List t.D → Prop => asD H (.sl t) v K) := .asD (t := .sl t) (f := fun x K => K x) fun x => .ret x
    obtain ⟨x, h1, h2⟩ := hp _ h
    exact asD_up hle (h2 (fun x => K2 x l) (hk x l h1))
theorem asArg1_up {H H2 : List Blk} (hle : HLe H H2) {k : PK} {v : V} {K : V → Prop} (h : asArg1 H k v K) : asArg1 H2 k v K := by
  cases k with
  | fn alts => exact h.elim
  | v t =>
    unfold asArg1 at h ⊢
    cases t with
    | cons t ts =>
      cases v <;> dsimp only at h ⊢ <;> first | exact h | skip
      exact asCells_up hle (fun x l hx => hx) h
    | bool => exact h
    | arr n t => exact h
    | _ => exact asD_up hle h
  | ref t =>
    unfold asArg1 at h ⊢
    cases v <;> dsimp only at h ⊢ <;> first | exact h | skip
    rename_i id z i o
    split at h <;> first | exact h.elim | skip
    rename_i hb
    rw [hle _ (by rw [hb]; simp), hb]
    exact asCells_up hle (fun x l hx => hx) h
theorem asArgs1_up {H H2 : List Blk} (hle : HLe H H2) : ∀ {ks : List PK} {vs : List V} {K : List V → Prop}, asArgs1 H ks vs K → asArgs1 H2 ks vs K
  | [], [], K, h => h
  | [], _ :: _, K, h => h.elim
  | _ :: _, [], K, h => h.elim
  | k :: ks, v :: vs, K, h => by
    have h : asArg1 H k v fun d => asArgs1 H ks vs fun ds => K (d :: ds) := h
    show asArg1 H2 k v fun d => asArgs1 H2 ks vs fun ds => K (d :: ds)
    have hp : Point (fun K : V → Prop => asArg1 H k v K) := .asArg1 (f := fun x K => K x) fun x => .ret x
    obtain ⟨x, h1, h2⟩ := hp _ h
    exact asArg1_up hle (h2 (fun d => asArgs1 H2 ks vs fun ds => K (d :: ds)) (asArgs1_up hle h1))

theorem asArg_up {H H2 : List Blk} (hle : HLe H H2) {k : PK} {v : V} {K : V → Prop} (h : asArg H k v K) : asArg H2 k v K := by
  cases k with
  | fn alts =>
    cases v <;> first | exact h.elim | skip
    unfold asArg at h ⊢
    dsimp only at h ⊢
    rename_i g cs
    generalize lk alts g = r at h ⊢
    cases r with
    | none => exact h.elim
    | some ks => exact asArgs1_up hle h
  | v t => have h : asArg1 H (.v t) v K := h; show asArg1 H2 (.v t) v K; exact asArg1_up hle h
  | ref t => have h : asArg1 H (.ref t) v K := h; show asArg1 H2 (.ref t) v K; exact asArg1_up hle h
theorem asArgs_up {H H2 : List Blk} (hle : HLe H H2) : ∀ {ks : List PK} {vs : List V} {K : List V → Prop}, asArgs H ks vs K → asArgs H2 ks vs K
  | [], [], K, h => h
  | [], _ :: _, K, h => h.elim
  | _ :: _, [], K, h => h.elim
  | k :: ks, v :: vs, K, h => by
    have h : asArg H k v fun d => asArgs H ks vs fun ds => K (d :: ds) := h
    show asArg H2 k v fun d => asArgs H2 ks vs fun ds => K (d :: ds)
    have hp : Point (fun K : V → Prop => asArg H k v K) := .asArg (f := fun x K => K x) fun x => .ret x
    obtain ⟨x, h1, h2⟩ := hp _ h
    exact asArg_up hle (h2 (fun d => asArgs H2 ks vs fun ds => K (d :: ds)) (asArgs_up hle h1))

mutual
theorem shV_noIds (n n' : Nat) : ∀ v : V, (shV n v).noIds = true → shV n' v = shV n v
  | .own _ _, h => by simp [shV, V.noIds] at h
  | .slc _ _ _ _, h => by simp [shV, V.noIds] at h
  | .ptr _ _ _ _, h => by simp [shV, V.noIds] at h
  | .agg cs, h => by
    simp only [shV, V.noIds] at h ⊢
    rw [shL_noIds n n' cs h]
  | .tup cs, h => by
    simp only [shV, V.noIds] at h ⊢
    rw [shL_noIds n n' cs h]
  | .fn f cs, h => by
    simp only [shV, V.noIds] at h ⊢
    rw [shL_noIds n n' cs h]
  | .undef, _ => rfl
  | .nope, _ => rfl
  | .int _ _, _ => rfl
  | .u8 _, _ => rfl
  | .b _, _ => rfl
  | .bt _, _ => rfl
  | .str _, _ => rfl
  | .nils, _ => rfl
  | .sl _ _ _, _ => rfl
  | .rp _ _ _ _, _ => rfl
  | .nilfn, _ => rfl
  | .yld _, _ => rfl
  | .dat _ _ _, _ => rfl
theorem shL_noIds (n n' : Nat) : ∀ l : List V, V.noIdsL (shL n l) = true → shL n' l = shL n l
  | [], _ => rfl
  | x :: l, h => by
    simp only [shL, V.noIdsL, Bool.and_eq_true] at h ⊢
    rw [shV_noIds n n' x h.1, shL_noIds n n' l h.2]
end

theorem DetP.pure (ks : List PK) (spec : List V → Option (Prop × V × List Blk)) : DetP (pureC ks spec) := fun args H R h => by
  have hp : Point (fun K : List V → Prop => asArgs H ks args K) := .asArgs (f := fun ds K => K ds) fun ds => .ret ds
  obtain ⟨ds, h1, h2⟩ := hp _ h
  generalize hs : spec ds = r at h1
  rcases r with _ | ⟨p, v, bs⟩
  · exact h1.elim
  · exact ⟨_, _, (nrm_eq _ _ _).1 h1.2, fun R' h' => h2 _ (by rw [hs]; exact ⟨h1.1, (nrm_eq _ _ _).2 h'⟩)⟩
theorem sh_mono {H H2 : List Blk} {v v0 : V} {bs : List Blk} (hv : v0.noIds = true) (h : shV H.length v = v0 ∧ H ++ shH H.length bs = H) : shV H2.length v = v0 ∧ H2 ++ shH H2.length bs = H2 := by
  obtain ⟨h1, h2⟩ := h
  have : bs = [] := by
    have := congrArg List.length h2
    rw [List.length_append, length_shH] at this
    exact List.eq_nil_of_length_eq_zero (by omega)
  subst this
  exact ⟨by rw [← h1]; exact shV_noIds _ _ v (by rw [h1]; exact hv), by simp [shH]⟩
theorem Det.pure (ks : List PK) (spec : List V → Option (Prop × V × List Blk)) : Det (pureC ks spec) := ⟨.pure ks spec, fun args H H2 v0 hle hv h => by
  have hp : Point (fun K : List V → Prop => asArgs H ks args K) := .asArgs (f := fun ds K => K ds) fun ds => .ret ds
  obtain ⟨ds, h1, h2⟩ := hp _ h
  generalize hs : spec ds = r at h1
  rcases r with _ | ⟨p, v, bs⟩
  · exact h1.elim
  · exact asArgs_up hle (h2 _ (by rw [hs]; exact ⟨h1.1, (nrm_eq _ _ _).2 (sh_mono hv ((nrm_eq _ _ _).1 h1.2))⟩)), fun args H F R R2 hF hk h => by
  have hp : Point (fun K : List V → Prop => asArgs H ks args K) := .asArgs (f := fun ds K => K ds) fun ds => .ret ds
  obtain ⟨ds, h1, h2⟩ := hp _ h
  generalize hs : spec ds = r at h1
  rcases r with _ | ⟨p, v, bs⟩
  · exact h1.elim
  · exact asArgs_up hF.le (h2 _ (by rw [hs]; exact ⟨h1.1, (nrm_eq _ _ _).2 (by rw [length_fillH, push_fill hF]; exact hk _ _ ((nrm_eq _ _ _).1 h1.2))⟩))⟩

theorem Known.start {z : List Nat} {P : Program} {tys : List (Nat × Ty)} {G : List (Nat × V)} (hG : GlobOk G) (hN : noRef G) (hm : P.follows .mixedOrders = true) (h : ∀ T t, lk tys T = some t → TyOk P T t ∧ eqTyOk P T t = true) : Known P (En [] tys G [] z) :=
  ⟨hG, hN, .nil h, fun k c hc => by simp [lk] at hc, hm⟩

theorem Known.add {z : List Nat} {P : Program} {tys : List (Nat × Ty)} {G : List (Nat × V)} {l : List (Nat × Con)} {q : List (Nat × SeqC)} (h : Known P (En l tys G q z)) {f : Nat} {fn : Func} (hf : P.funcs[f]? = some fn) (hent : ∀ args w, (callFunc f args).run P w = .ok (.enter f args) w)
    {ks : List PK} {spec : List V → Option (Prop × V × List Blk)} (ms : List Mode) (hb : ∀ ds p v bs, spec ds = some (p, v, bs) → p → bodyP (En l tys G q z) fn ms ds v bs) : Known P (En ((f, pureC ks spec) :: l) tys G q z) where
  glob := h.glob
  noref := h.noref
  env := .cons (holds_pure h rfl hf hent ms hb) h.env
  det := fun k c hc => by
    simp only [lk] at hc
    cases hb : Nat.beq f k with
    | true =>
      rw [hb] at hc
      simp only [cond_true, Option.some.injEq] at hc
      subst hc
      exact .pure _ _
    | false =>
      rw [hb] at hc
      exact h.det k c hc
  mixed := h.mixed

/-- One more function that is ranged over. -/
theorem Known.addSeq {z : List Nat} {P : Program} {tys : List (Nat × Ty)} {G : List (Nat × V)} {l : List (Nat × Con)} {q : List (Nat × SeqC)} (h : Known P (En l tys G q z)) {f : Nat} {fn : Func} (hf : P.funcs[f]? = some fn) (hent : ∀ args w, (callFunc f args).run P w = .ok (.enter f args) w)
    {ks : List PK} {spec : List V → Option (Prop × Nat × (Nat → List V))} (yks : List PK) (hb : ∀ ds p L, spec ds = some (p, L) → p → bodyS (En l tys G q z).inR fn ds yks L) : Known P (En l tys G ((f, ks, spec) :: q) z) where
  glob := h.glob
  noref := h.noref
  env := .consSeq (holds_seq h.inR rfl hf hent yks hb) h.env
  det := h.det
  mixed := h.mixed
end Go.Proofs.YtmkphnlpbngenaaDoor.Vc

namespace Go.Proofs.YtmkphnlpbngenaaDoor.Vc
open Go Go.RowKit

mutual
/-- There is no yield in it. -/
def V.noY : V → Bool
  | .yld _ => false
  | .agg cs => V.noYL cs
  | .tup cs => V.noYL cs
  | .fn _ cs => V.noYL cs
  | _ => true
def V.noYL : List V → Bool
  | [] => true
  | x :: l => x.noY && V.noYL l
end
def Blk.noY : Blk → Bool
  | .cells cs => V.noYL cs
  | _ => true
def noYH : List Blk → Bool
  | [] => true
  | b :: l => b.noY && noYH l

/-- A contract: for these arguments, all of it data that came in, it returns this value, which may lead to them; these blocks are new. -/
def immC (ks : List PK) (spec : List V → Option (Prop × V × List Blk)) : Con := fun args H R =>
  forceL (yL none args) fun args => asArgs [] ks args fun ds => match spec ds with
    | some (p, v, bs) => p ∧ R (shV H.length v) (H ++ shH H.length bs)
    | none => False

/-- What a function has to show for such a contract. -/
def bodyI (E : Env) (fn : Func) (ms : List Mode) (ds : List V) (v : V) (bs : List Blk) : Prop :=
  body E fn ds [] fun v' H' => retK ms v' H' fun v' H' => (v'.noY && noYH H') = true ∧ v' = v ∧ H' = bs

section
variable {G : List (Nat × V)} {base : Nat} {w0 v0 : W0} {c : Cx} {H : List Blk} {w : World}

def Cx.joinM (c cE : Cx) (n : Nat) : Cx := ⟨fun g => c.M g ∨ cE.M g, fun g => c.N g ∨ cE.N g, fun i => if i < n then c.ρ i else cE.ρ (i - n), c.x, c.gi⟩

theorem OwnAt.joinM {cE : Cx} {w' : World} {i z off n : Nat} {a : Option Addr} {cap : Nat} (h : OwnAt cE w' i z off a cap) : OwnAt (c.joinM cE n) w' (n + i) z off a cap := by
  obtain ⟨g, e, cur, h1, h2⟩ := h
  exact ⟨g, e, cur, by simp only [Cx.joinM]; rw [if_neg (by omega), Nat.add_sub_cancel_left]; exact h1, h2⟩

theorem im_joinM {cE : Cx} {n : Nat} (fr : Bool) : ∀ g, cE.im fr g → (c.joinM cE n).im fr g := by
  cases fr
  · exact fun g hg => .inr hg
  · exact fun g hg => .inr hg

section
variable {cE : Cx} {L : List Blk} {w' : World}
mutual
theorem VRel.joinM : ∀ {x : V} {v : Value}, VRel cE L w' x v → x.noY = true → VRel (c.joinM cE H.length) (H ++ shH H.length L) w' (shV H.length x) v
  | _, _, .undef v, _ => .undef v
  | _, _, .int k n h1 h2, _ => .int k n h1 h2
  | _, _, .u8 x, _ => .u8 x
  | _, _, .b p x h, _ => .b p x h
  | _, _, .bt x, _ => .bt x
  | _, _, .nope, _ => .nope
  | _, _, .str s h, _ => .str s h
  | _, _, .nils, _ => .nils
  | _, _, .sl fr t xs v h, _ => .sl fr t xs v (DRel.ext (M := cE.im fr) (im_joinM fr) (fun _ _ => rfl) _ _ _ h)
  | _, _, .own t i n a cap h1 hn hc ho, _ => .own t (H.length + i) n a cap ((shape_join H L i).trans h1) hn hc (ho.imp (fun h => h) OwnAt.joinM)
  | _, _, .slc t i off n m a cap h1 h2 hn hc ho, _ => .slc t (H.length + i) off n m a cap ((shape_join H L i).trans h1) h2 hn hc (ho.imp (fun h => h) OwnAt.joinM)
  | _, _, .rp fr t x o g p es hM hd hc, _ => .rp fr t x o g p es (im_joinM fr g hM) (DRel.ext (M := cE.im fr) (im_joinM fr) (fun _ _ => rfl) _ _ _ hd) hc
  | _, _, .ptr i z j o g m h1 hr hi ho, _ => .ptr (H.length + i) z j o g m ((shape_join H L i).trans h1) (by simp only [Cx.joinM]; rw [if_neg (by omega), Nat.add_sub_cancel_left]; exact hr) hi ho
  | _, _, .agg cs vs h, hf => .agg _ vs (VRels.joinM h hf)
  | _, _, .tup cs vs h, hf => .tup _ vs (VRels.joinM h hf)
  | _, _, .fn f cs vs h, hf => .fn f _ vs (VRels.joinM h hf)
  | _, _, .nilfn, _ => .nilfn
  | _, _, .yld k h, hf => by simp [V.noY] at hf
  | _, _, .dat fr t x es h, _ => .dat fr t x es (DRel.ext (M := cE.im fr) (im_joinM fr) (fun _ _ => rfl) _ _ _ h)
theorem VRels.joinM : ∀ {xs : List V} {vs : List Value}, VRels cE L w' xs vs → V.noYL xs = true → VRels (c.joinM cE H.length) (H ++ shH H.length L) w' (shL H.length xs) vs
  | _, _, .nil, _ => .nil
  | _, _, .cons x v xs vs h hx, hf => by
    simp only [V.noYL, Bool.and_eq_true] at hf
    exact .cons _ v _ vs (VRel.joinM h hf.1) (VRels.joinM hx hf.2)
end
end

theorem noYH_at : ∀ (L : List Blk) (i : Nat), noYH L = true → (getB L i).noY = true
  | [], i, _ => by cases i <;> rfl
  | b :: L, 0, h => by simp only [noYH, Bool.and_eq_true] at h; exact h.1
  | b :: L, i + 1, h => by simp only [noYH, Bool.and_eq_true] at h; exact noYH_at L i h.2
theorem noYL_at : ∀ (l : List V) (i : Nat), V.noYL l = true → (gets l i).noY = true
  | [], i, _ => by cases i <;> rfl
  | b :: L, 0, h => by simp only [V.noYL, Bool.and_eq_true] at h; exact h.1
  | b :: L, i + 1, h => by simp only [V.noYL, Bool.and_eq_true] at h; exact noYL_at L i h.2

theorem ext_joinM (hst : St G base w0 c H w) {cE : Cx} {L : List Blk} {w' : World} (hv : v0.w = w) (he : St G w.heap.size v0 cE L w') : Ext c H w (c.joinM cE H.length) (H ++ shH H.length L) w' where
  M g hg := .inl hg
  N g hg := .inl hg
  mem g hg := by have := he.below; rw [hv] at this; exact this.block g (hst.imm g (hg.elim id fun hn => (hst.sub g hn).1))
  shp id s hs := by
    have hlt := shape_lt hs
    refine ⟨?_, by simp [Cx.joinM, hlt]⟩
    unfold shape at *
    rw [getB_app, if_pos hlt]; exact hs
  siz id s g cur e hs hr hg := ⟨cur, by have := he.below; rw [hv] at this; exact (this.block g (hst.own id g hr).2.1).trans hg, rfl⟩
  x := rfl
  gi := rfl

theorem St.joinM (hst : St G base w0 c H w) {cE : Cx} {L : List Blk} {w' : World} (hv : v0.w = w) (hX : ∀ g, g < w.heap.size → ¬ c.M g → v0.X g) (hgh : v0.gh = []) (he : St G w.heap.size v0 cE L w') (hf : noYH L = true) : St G base w0 (c.joinM cE H.length) (H ++ shH H.length L) w' := by
  have hbe := he.below
  rw [hv] at hbe
  have hM : ∀ g, cE.M g → c.M g ∨ w.heap.size ≤ g := fun g hg => by
    have hd := he.xk.dis g hg
    rcases Nat.lt_or_ge g w.heap.size with h | h
    · exact .inl (Classical.byContradiction fun hn => hd (hX g h hn))
    · exact .inr h
  exact
  { below := hst.below.trans (hbe.mono hst.size)
    xk := hst.xk.step rfl (fun h => h) (fun g hg => hg.elim .inl fun hN => (hM g hN).elim .inl fun h => .inr (.inr h)) (fun i g hi => by
      simp only [Cx.joinM] at hi
      split at hi
      · exact .inl ⟨i, hi⟩
      · exact .inr (he.own _ g hi).1) (fun g o ho => .inl ((hbe.block g (Array.getElem?_eq_some_iff.1 ho).1).trans ho))
    size := Nat.le_trans hst.size he.size
    blk := fun id => by
      rw [getB_app]
      split
      · rename_i hlt
        exact BOk.keep (ext_joinM hst hv he) (fun _ => by simp [Cx.joinM, hlt]) (fun g hg => hbe.block g (hst.own id g hg).2.1) (hst.blk id)
      · rename_i hge
        have hid : id = H.length + (id - H.length) := by omega
        have hbk := he.blk (id - H.length)
        have hfr := noYH_at L (id - H.length) hf
        have hrho : (c.joinM cE H.length).ρ id = cE.ρ (id - H.length) := by simp [Cx.joinM, hge]
        rw [getB_shH]
        generalize getB L (id - H.length) = b at hbk hfr
        cases b with
        | dead => trivial
        | row fr t xs =>
          rcases hbk with ⟨h1, h2⟩ | ⟨g, e, cur, h1, h2, h3, h4⟩
          · exact .inl ⟨hrho.trans h1, h2⟩
          · refine .inr ⟨g, e, cur, hrho.trans h1, h2, h3, fun i x hi => ?_⟩
            obtain ⟨es, e1, e2⟩ := h4 i x hi
            exact ⟨es, DRel.ext (M := cE.im fr) (im_joinM fr) (fun _ _ => rfl) _ _ _ e1, e2⟩
        | cells cs =>
          rcases hbk with ⟨g, e, cur, h1, h2, h3, h4⟩ | ⟨h0, _⟩
          · refine .inl ⟨g, e, cur, hrho.trans h1, h2, by rw [length_shL]; exact h3, fun j hj => ?_⟩
            rw [length_shL] at hj
            obtain ⟨v, h5, h6, h7⟩ := h4 j hj
            rw [gets_shL]
            exact ⟨v, h5, h6, h7.joinM (noYL_at cs j hfr)⟩
          · rw [he.xk.gi hgh] at h0; cases h0
    inj := fun i j g hi hj => by
      simp only [Cx.joinM] at hi hj
      split at hi <;> split at hj
      · exact hst.inj i j g hi hj
      · have h1 := (hst.own i g hi).2.1
        have h2 := (he.own _ g hj).1
        omega
      · have h1 := (hst.own j g hj).2.1
        have h2 := (he.own _ g hi).1
        omega
      · have := he.inj _ _ g hi hj; omega
    own := fun i g hi => by
      simp only [Cx.joinM] at hi
      split at hi
      · obtain ⟨h1, h2, h3, h4⟩ := hst.own i g hi
        refine ⟨h1, Nat.lt_of_lt_of_le h2 he.size, fun hm => ?_, by rw [List.length_append]; omega⟩
        rcases hm with hm | hm
        · exact h3 hm
        · rcases hM g hm with hm | hm
          · exact h3 hm
          · omega
      · obtain ⟨h1, h2, h3, h4⟩ := he.own _ g hi
        have := hst.size
        refine ⟨by omega, h2, fun hm => ?_, by rw [List.length_append, length_shH]; omega⟩
        rcases hm with hm | hm
        · have := hst.imm g hm; omega
        · exact h3 hm
    imm := fun g hg => by
      rcases hg with hg | hg
      · exact Nat.lt_of_lt_of_le (hst.imm g hg) he.size
      · exact he.imm g hg
    sub := fun g hg => by
      rcases hg with hg | hg
      · exact ⟨.inl (hst.sub g hg).1, (hst.sub g hg).2⟩
      · have := hst.size
        exact ⟨.inr (he.sub g hg).1, Nat.le_trans this (he.sub g hg).2⟩
    glob := fun g x hx => (hst.glob g x hx).ext (ext_joinM hst hv he) }
end

theorem holds_imm {E : Env} {P : Program} (hk : Known P E) (hyl : E.yl = none) {f : FuncId} {fn : Func} (hf : P.funcs[f]? = some fn) (hent : ∀ args w, (callFunc f args).run P w = .ok (.enter f args) w)
    {ks : List PK} {spec : List V → Option (Prop × V × List Blk)} (ms : List Mode) (h : ∀ ds p v bs, spec ds = some (p, v, bs) → p → bodyI E fn ms ds v bs) : Holds P E.glob f (immC ks spec) := by
  refine ⟨hent, fun base w0 c H w args vs hst hv R hc => ?_⟩
  have hc := (forceL_eq _ _).1 hc
  let w1 : W0 := ⟨w, fun _ => none, fun _ => none, fun g => g < w.heap.size ∧ ¬ c.M g, fun _ => False, fun _ _ _ => True, [], c.x.l⟩
  have hcalm : St E.glob w.heap.size w1 (Cx.of c.M ⟨[], none, c.x.l⟩) [] w :=
    hst.calm hk.noref (fun g hg => hg) (fun _ _ => rfl) (Below.refl _ _)
      { keep := fun g o h => by cases h
        siz := fun g n h => by cases h
        cnt := trivial
        gh := rfl
        l := rfl
        dis := fun g hg hX => hX.2 hg
        xb := fun g hX => ⟨hX.1, fun i hi => by cases hi⟩
        mks := fun _ h => h.elim
        gi := fun _ => rfl } (Nat.le_refl _) hst.imm
  have hargs : VRels (Cx.of c.M ⟨[], none, c.x.l⟩) [] w (yL none args) vs :=
    VRels.y (c := c) (c' := Cx.of c.M ⟨[], none, c.x.l⟩) (fun g hg => hg) (fun g hg => (hst.sub g hg).1) (fun _ _ => rfl) rfl rfl hv
  obtain ⟨ds, hkk, hd⟩ := asArgs_ok (U := c.M) hcalm (fun g hg => hg) (fun i g hi => by cases hi) ks _ vs _ hc hargs
  cases hs : spec ds with
  | none => rw [hs] at hkk; exact hkk.elim
  | some q =>
    obtain ⟨p, v, bs⟩ := q
    rw [hs] at hkk
    obtain ⟨hp, hR⟩ := hkk
    refine (body_ok hk hyl (fun _ _ _ => trivial) rfl (fun _ h => h) hf hcalm (hd _) (h ds p v bs hs hp)).mono ?_
    rintro e w' ⟨x, v', H', c', rfl, hq, hx, hst'⟩
    obtain ⟨c2, v2, H2, ⟨hfr, rfl, rfl⟩, hst2, hx2⟩ := retK_ok hk.glob hk.noref hst' hx hq
    simp only [Bool.and_eq_true] at hfr
    exact ⟨_, v', _, _, rfl, hR, hx2.joinM hfr.1, hst.joinM (v0 := w1) rfl (fun g h1 h2 => ⟨h1, h2⟩) rfl hst2 hfr.2, ext_joinM (v0 := w1) hst rfl hst2⟩

theorem DetP.imm (ks : List PK) (spec : List V → Option (Prop × V × List Blk)) : DetP (immC ks spec) := fun args H R h => by
  have h := (forceL_eq _ _).1 h
  have hp : Point (fun K : List V → Prop => asArgs [] ks (yL none args) K) := .asArgs (f := fun ds K => K ds) fun ds => .ret ds
  obtain ⟨ds, h1, h2⟩ := hp _ h
  generalize hs : spec ds = r at h1
  rcases r with _ | ⟨p, v, bs⟩
  · exact h1.elim
  · exact ⟨_, _, h1.2, fun R' h' => (forceL_eq _ _).2 (h2 _ (by rw [hs]; exact ⟨h1.1, h'⟩))⟩

theorem Det.imm (ks : List PK) (spec : List V → Option (Prop × V × List Blk)) : Det (immC ks spec) := ⟨.imm ks spec, fun args H H2 v0 hle hv h => by
  have h := (forceL_eq _ _).1 h
  have hp : Point (fun K : List V → Prop => asArgs [] ks (yL none args) K) := .asArgs (f := fun ds K => K ds) fun ds => .ret ds
  obtain ⟨ds, h1, h2⟩ := hp _ h
  generalize hs : spec ds = r at h1
  rcases r with _ | ⟨p, v, bs⟩
  · exact h1.elim
  · exact (forceL_eq _ _).2 (h2 _ (by rw [hs]; exact ⟨h1.1, sh_mono hv h1.2⟩)), fun args H F R R2 hF hk h => by
  have h := (forceL_eq _ _).1 h
  have hp : Point (fun K : List V → Prop => asArgs [] ks (yL none args) K) := .asArgs (f := fun ds K => K ds) fun ds => .ret ds
  obtain ⟨ds, h1, h2⟩ := hp _ h
  generalize hs : spec ds = r at h1
  rcases r with _ | ⟨p, v, bs⟩
  · exact h1.elim
  · exact (forceL_eq _ _).2 (h2 _ (by rw [hs]; exact ⟨h1.1, by rw [length_fillH, push_fill hF]; exact hk _ _ h1.2⟩))⟩

/-- One more function that hands back what leads to what it got. -/
theorem Known.addI {z : List Nat} {P : Program} {tys : List (Nat × Ty)} {G : List (Nat × V)} {l : List (Nat × Con)} {q : List (Nat × SeqC)} (h : Known P (En l tys G q z)) {f : Nat} {fn : Func} (hf : P.funcs[f]? = some fn) (hent : ∀ args w, (callFunc f args).run P w = .ok (.enter f args) w)
    {ks : List PK} {spec : List V → Option (Prop × V × List Blk)} (ms : List Mode) (hb : ∀ ds p v bs, spec ds = some (p, v, bs) → p → bodyI (En l tys G q z) fn ms ds v bs) : Known P (En ((f, immC ks spec) :: l) tys G q z) where
  glob := h.glob
  noref := h.noref
  env := .cons (holds_imm h rfl hf hent ms hb) h.env
  det := fun k c hc => by
    simp only [lk] at hc
    cases hb : Nat.beq f k with
    | true =>
      rw [hb] at hc
      simp only [cond_true, Option.some.injEq] at hc
      subst hc
      exact .imm _ _
    | false =>
      rw [hb] at hc
      exact h.det k c hc
  mixed := h.mixed
end Go.Proofs.YtmkphnlpbngenaaDoor.Vc

namespace Go.Proofs.YtmkphnlpbngenaaDoor.Vc
open Go Go.RowKit

/-- A contract for arguments of a lesser measure. -/
def recS (μ : List V → Nat) (n : Nat) (spec : List V → Option (Prop × V × List Blk)) : List V → Option (Prop × V × List Blk) := fun d =>
  match spec d with
  | some (p, v, bs) => some (p ∧ μ d < n, v, bs)
  | none => none

/-- The contract for arguments of just this measure. -/
def recE (μ : List V → Nat) (n : Nat) (spec : List V → Option (Prop × V × List Blk)) : List V → Option (Prop × V × List Blk) := fun d => if μ d = n then spec d else none

/-- Both kinds of contract. -/
structure Kind where
  con : List PK → (List V → Option (Prop × V × List Blk)) → Con
  body : Env → Func → List Mode → List V → V → List Blk → Prop
  det : ∀ ks spec, Det (con ks spec)
  pt : ∀ ks args H (spec : List V → Option (Prop × V × List Blk)) R, con ks spec args H R → ∃ ds p v bs, spec ds = some (p, v, bs) ∧ p ∧ ∀ spec' : List V → Option (Prop × V × List Blk), (∃ p', spec' ds = some (p', v, bs) ∧ p') → con ks spec' args H R
  holds : ∀ {E : Env} {P : Program}, Known P E → E.yl = none → ∀ {f : FuncId} {fn : Func}, P.funcs[f]? = some fn → (∀ args w, (callFunc f args).run P w = .ok (.enter f args) w) →
    ∀ {ks : List PK} {spec : List V → Option (Prop × V × List Blk)} (ms : List Mode), (∀ ds p v bs, spec ds = some (p, v, bs) → p → body E fn ms ds v bs) → Holds P E.glob f (con ks spec)

def kPure : Kind where
  con := pureC
  body := bodyP
  det := .pure
  pt ks args H spec R h := by
    have hp : Point (fun K : List V → Prop => asArgs H ks args K) := .asArgs (f := fun ds K => K ds) fun ds => .ret ds
    obtain ⟨ds, h1, h2⟩ := hp _ h
    generalize hs : spec ds = r at h1
    rcases r with _ | ⟨p, v, bs⟩
    · exact h1.elim
    · exact ⟨ds, p, v, bs, hs, h1.1, fun spec' ⟨p', e, hp'⟩ => h2 _ (by rw [e]; exact ⟨hp', h1.2⟩)⟩
  holds := by intro E P hk hyl f fn hf hent ks spec ms h; exact holds_pure hk hyl hf hent ms h

def kImm : Kind where
  con := immC
  body := bodyI
  det := .imm
  pt ks args H spec R h := by
    have h := (forceL_eq _ _).1 h
    have hp : Point (fun K : List V → Prop => asArgs [] ks (yL none args) K) := .asArgs (f := fun ds K => K ds) fun ds => .ret ds
    obtain ⟨ds, h1, h2⟩ := hp _ h
    generalize hs : spec ds = r at h1
    rcases r with _ | ⟨p, v, bs⟩
    · exact h1.elim
    · exact ⟨ds, p, v, bs, hs, h1.1, fun spec' ⟨p', e, hp'⟩ => (forceL_eq _ _).2 (h2 _ (by rw [e]; exact ⟨hp', h1.2⟩))⟩
  holds := by intro E P hk hyl f fn hf hent ks spec ms h; exact holds_imm hk hyl hf hent ms h

theorem Known.cons {z : List Nat} {P : Program} {tys : List (Nat × Ty)} {G : List (Nat × V)} {l : List (Nat × Con)} {q : List (Nat × SeqC)} (h : Known P (En l tys G q z)) {f : Nat} {c : Con} (hc : Holds P G f c) (hd : Det c) : Known P (En ((f, c) :: l) tys G q z) where
  glob := h.glob
  noref := h.noref
  env := .cons hc h.env
  det := fun k c' hc' => by
    simp only [lk] at hc'
    cases hb : Nat.beq f k with
    | true =>
      rw [hb] at hc'
      simp only [cond_true, Option.some.injEq] at hc'
      subst hc'
      exact hd
    | false =>
      rw [hb] at hc'
      exact h.det k c' hc'
  mixed := h.mixed

theorem Known.addRecK (k : Kind) {z : List Nat} {P : Program} {tys : List (Nat × Ty)} {G : List (Nat × V)} {l : List (Nat × Con)} {q : List (Nat × SeqC)} (h : Known P (En l tys G q z)) {f : Nat} {fn : Func} (hf : P.funcs[f]? = some fn) (hent : ∀ args w, (callFunc f args).run P w = .ok (.enter f args) w)
    {ks : List PK} {spec : List V → Option (Prop × V × List Blk)} (ms : List Mode) (μ : List V → Nat)
    (hb : ∀ ds p v bs, spec ds = some (p, v, bs) → p → k.body (En ((f, k.con ks (recS μ (μ ds) spec)) :: l) tys G q z) fn ms ds v bs) : Known P (En ((f, k.con ks spec) :: l) tys G q z) := by
  have key : ∀ n, Holds P G f (k.con ks (recS μ n spec)) := by
    intro n
    induction n using Nat.strongRecOn with
    | _ n ih =>
      refine ⟨hent, fun base w0 c H w args vs hst hv R hc => ?_⟩
      obtain ⟨ds, p, v, bs, hs, hp, hto⟩ := k.pt ks args H _ R hc
      unfold recS at hs
      cases hsd : spec ds with
      | none => rw [hsd] at hs; cases hs
      | some r =>
        obtain ⟨p1, v1, bs1⟩ := r
        rw [hsd] at hs
        simp only [Option.some.injEq, Prod.mk.injEq] at hs
        obtain ⟨rfl, rfl, rfl⟩ := hs
        have hkn : Known P (En ((f, k.con ks (recS μ (μ ds) spec)) :: l) tys G q z) := h.cons (ih (μ ds) hp.2) (k.det _ _)
        have hh : Holds P G f (k.con ks (recE μ (μ ds) spec)) := k.holds hkn rfl hf hent ms fun ds' p' v' bs' hs' hp' => by
          unfold recE at hs'
          split at hs'
          · rename_i e
            rw [← e]
            exact hb ds' p' v' bs' hs' hp'
          · cases hs'
        exact hh.2 base w0 c H w args vs hst hv R (hto _ ⟨p1, by unfold recE; rw [if_pos rfl]; exact hsd, hp.1⟩)
  refine h.cons ⟨hent, fun base w0 c H w args vs hst hv R hc => ?_⟩ (k.det _ _)
  obtain ⟨ds, p, v, bs, hs, hp, hto⟩ := k.pt ks args H _ R hc
  exact (key (μ ds + 1)).2 base w0 c H w args vs hst hv R (hto _ ⟨p ∧ μ ds < μ ds + 1, by unfold recS; rw [hs], hp, by omega⟩)

theorem Known.addRec {z : List Nat} {P : Program} {tys : List (Nat × Ty)} {G : List (Nat × V)} {l : List (Nat × Con)} {q : List (Nat × SeqC)} (h : Known P (En l tys G q z)) {f : Nat} {fn : Func} (hf : P.funcs[f]? = some fn) (hent : ∀ args w, (callFunc f args).run P w = .ok (.enter f args) w)
    {ks : List PK} {spec : List V → Option (Prop × V × List Blk)} (ms : List Mode) (μ : List V → Nat)
    (hb : ∀ ds p v bs, spec ds = some (p, v, bs) → p → bodyP (En ((f, pureC ks (recS μ (μ ds) spec)) :: l) tys G q z) fn ms ds v bs) : Known P (En ((f, pureC ks spec) :: l) tys G q z) := Known.addRecK kPure h hf hent ms μ hb

theorem Known.addRecI {z : List Nat} {P : Program} {tys : List (Nat × Ty)} {G : List (Nat × V)} {l : List (Nat × Con)} {q : List (Nat × SeqC)} (h : Known P (En l tys G q z)) {f : Nat} {fn : Func} (hf : P.funcs[f]? = some fn) (hent : ∀ args w, (callFunc f args).run P w = .ok (.enter f args) w)
    {ks : List PK} {spec : List V → Option (Prop × V × List Blk)} (ms : List Mode) (μ : List V → Nat)
    (hb : ∀ ds p v bs, spec ds = some (p, v, bs) → p → bodyI (En ((f, immC ks (recS μ (μ ds) spec)) :: l) tys G q z) fn ms ds v bs) : Known P (En ((f, immC ks spec) :: l) tys G q z) := Known.addRecK kImm h hf hent ms μ hb
/-- Which functions ask that what they get is given up is a matter of the walk alone. -/
theorem Known.frz {z : List Nat} {P : Program} {tys : List (Nat × Ty)} {G : List (Nat × V)} {l : List (Nat × Con)} {q : List (Nat × SeqC)} (h : Known P (En l tys G q z)) (z' : List Nat) : Known P (En l tys G q z') := ⟨h.glob, h.noref, ⟨h.env.con, h.env.seq, h.env.ty, h.env.eq⟩, h.det, h.mixed⟩
theorem Known.frz0 {z : List Nat} {P : Program} {tys : List (Nat × Ty)} {G : List (Nat × V)} {l : List (Nat × Con)} {q : List (Nat × SeqC)} (h : Known P (En l tys G q z)) : Known P (En l tys G q []) := h.frz []
end Go.Proofs.YtmkphnlpbngenaaDoor.Vc

namespace Go.Proofs.YtmkphnlpbngenaaDoor.Vc
open Go

def bodyOf (fn : Func) : Code := match fn.body with | some c => c | none => .skip
def cfs : Code → Code | .seq x _ => x | c => c
def csd : Code → Code | .seq _ y => y | c => c
def csc : Code → Code | .scope x => x | c => c
def ccx : Code → Code | .cond _ x _ => x | c => c
def ccy : Code → Code | .cond _ _ y => y | c => c
noncomputable def qs (E : Env) (d : Code) (Q : Ex → List V → List Blk → Prop) : Ex → List V → List Blk → Prop := fun e σ H => match e with
  | .normal => awpR E d Q σ H
  | .exit i => Q (.exit i) σ H
  | .ret => Q .ret σ H
def postP (E : Env) (fn : Func) (ms : List Mode) (v : V) (bs : List Blk) : Ex → List V → List Blk → Prop := fun e σ H => match e with
  | .exit _ => False
  | .normal => resultsK E fn σ H fun v' => retK ms v' H fun v' H' => (v'.fresh && freshH H') = true ∧ v' = v ∧ H' = bs
  | .ret => resultsK E fn σ H fun v' => retK ms v' H fun v' H' => (v'.fresh && freshH H') = true ∧ v' = v ∧ H' = bs
end Go.Proofs.YtmkphnlpbngenaaDoor.Vc

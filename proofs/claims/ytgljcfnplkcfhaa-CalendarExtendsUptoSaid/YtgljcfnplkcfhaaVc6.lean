/- Texts of this claim: Vc.Y, Vc.Z, Vc.ZA, Vc.ZB, Vc.ZD, Vc.ZE, Vc.ZF, Vc.ZC. -/
import Derived.Test.YtgljcfnplkcfhaaVc5
import Derived.Carry
import Derived.OpenShut
import Derived.ChangeArms
import Derived.Lib.LaidTab
set_option linter.unusedVariables false
set_option linter.unusedSimpArgs false
namespace Go.Proofs.Ytgljcfnplkcfhaa.Vc
open Go Go.RowKit

section
variable {E : Env} {P : Program} {G : List (Nat × V)} {base : Nat} {w0 : W0}

/-- A load that changes nothing: its value. -/
theorem aload_ok (hE : EnvOk P E) {c : Cx} {H : List Blk} {w : World} {a : Act} (hst : St E.glob base w0 c H w) {T : TypeId} {p : Nat} {vp : V} {K : V → Prop} (hp : VRel c H w vp (a.tmps.getD p undef)) (h : aload E H T vp K) :
    ∃ x v, K x ∧ VRel c H w x v ∧ (Instr.loadAt T (a.tmps.getD p undef)).run P w = .ok v w := by
  obtain ⟨x, v, h1, h2, h3⟩ := load_run (P := P) (a := a) (o := { dst := none, op := .load T (.tmp p), type := 0, pos := "", after := #[], guard := none }) hE hst T (.tmp p) rfl rfl (by exact hp) h
  refine ⟨x, v, h1, h2, ?_⟩
  simp only [execOp, Sem.run_bind] at h3
  have he : a.eval (.tmp p) = a.tmps.getD p undef := rfl
  rw [he] at h3
  cases hr : (Instr.loadAt T (a.tmps.getD p undef)).run P w with
  | ok u w' =>
    rw [hr] at h3
    simp only [Result.andThen_ok, Sem.run_pure, Result.ok.injEq, Next.value.injEq] at h3
    rw [h3.1, h3.2]
  | halt e w' => rw [hr] at h3; simp at h3

def resSem (tm : Array Value) : ResultVar → Sem Value
  | .tmp t => pure (tm.getD t undef)
  | .cell p t => do loadVar t (← asAddr (tm.getD p undef))

theorem resK_ok (hE : EnvOk P E) {c : Cx} {H : List Blk} {w : World} {σ : List V} {a : Act} (hst : St E.glob base w0 c H w) (hσ : VRels c H w σ a.tmps.toList) {r : ResultVar} {K : V → Prop} (h : resK E σ H r K) :
    ∃ x v, K x ∧ VRel c H w x v ∧ (resSem a.tmps r).run P w = .ok v w := by
  cases r with
  | tmp t =>
    have h := (forceV_eq _ _).1 h
    exact ⟨_, _, h, (hσ.get t).nb, by simp [resSem, Array.getD_eq_getD_getElem?]⟩
  | cell p T =>
    have hp := hσ.get p
    have hpe : a.tmps.toList.getD p undef = a.tmps.getD p undef := by simp [Array.getD_eq_getD_getElem?]
    rw [hpe] at hp
    simp only [resK] at h
    split at h
    · rename_i id z i o hv
      rw [hv] at hp
      obtain ⟨x, v, h1, h2, h3⟩ := aload_ok hE (a := a) hst hp h
      have h1 := (forceV_eq _ _).1 h1
      refine ⟨x, v, h1, h2, ?_⟩
      show (do loadVar T (← asAddr (a.tmps.getD p undef)) : Sem Value).run P w = _
      generalize a.tmps.getD p undef = u at hp h3 ⊢
      cases hp with | ptr _ _ _ _ g m hs hr hi ho =>
      simpa [resSem, Instr.loadAt, Instr.sureAddr, asAddr] using h3
    · exact h.elim

theorem resKs_ok (hE : EnvOk P E) {c : Cx} {H : List Blk} {w : World} {σ : List V} {a : Act} (hst : St E.glob base w0 c H w) (hσ : VRels c H w σ a.tmps.toList) : ∀ (l : List ResultVar) {K : List V → Prop}, resKs E σ H l K →
    ∃ xs vs, K xs ∧ VRels c H w xs vs ∧ (l.mapM (resSem a.tmps)).run P w = .ok vs w ∧ vs.length = l.length
  | [], K, h => ⟨[], [], h, .nil, rfl, rfl⟩
  | r :: l, K, h => by
    obtain ⟨x, v, h, h2, h3⟩ := resK_ok hE hst hσ h
    obtain ⟨xs, vs, h, h4, h5, h6⟩ := resKs_ok hE hst hσ l h
    exact ⟨_, _, h, .cons _ _ _ _ h2 h4, by simp [List.mapM_cons, h3, h5], by simp [h6]⟩

theorem results_ok (hE : EnvOk P E) {c : Cx} {H : List Blk} {w : World} {σ : List V} {a : Act} (fn : Func) (hst : St E.glob base w0 c H w) (hσ : VRels c H w σ a.tmps.toList) {K : V → Prop} (h : resultsK E fn σ H K) :
    ∃ x v, K x ∧ VRel c H w x v ∧ (results fn a.tmps).run P w = .ok v w := by
  have hm : ∀ vs : List Value, (fn.results.toList.mapM (resSem a.tmps)).run P w = .ok vs w → (results fn a.tmps).run P w = .ok (if h : vs.toArray.size = 1 then vs.toArray[0] else .tuple vs.toArray) w := fun vs hv => by
    have e : results fn a.tmps = (do
        let vs ← fn.results.mapM (resSem a.tmps)
        pure (if h : vs.size = 1 then vs[0] else .tuple vs)) := by
      have : resSem a.tmps = (fun | .tmp t => pure (a.tmps.getD t undef) | .cell p t => do loadVar t (← asAddr (a.tmps.getD p undef)) : ResultVar → Sem Value) := by
        funext r; cases r <;> rfl
      rw [this]; rfl
    rw [e, Array.mapM_eq_mapM_toList]
    simp [hv]
  unfold resultsK at h
  split at h
  · rename_i r hr
    obtain ⟨x, v, h1, h2, h3⟩ := resK_ok hE hst hσ h
    refine ⟨x, v, h1, h2, ?_⟩
    have := hm [v] (by rw [hr]; simp [List.mapM_cons, h3])
    simpa using this
  · rename_i hne
    obtain ⟨xs, vs, h1, h2, h3, h4⟩ := resKs_ok hE hst hσ _ h
    refine ⟨_, _, h1, VRel.tup _ _ h2, ?_⟩
    have := hm vs h3
    have hl : vs.length ≠ 1 := fun hl => by
      rw [hl] at h4
      obtain ⟨r, hr⟩ := List.length_eq_one_iff.1 h4.symm
      exact hne r hr
    rw [this]
    simp [hl]

/-- By what the state of a function is measured. -/
def Sf (base : Nat) (w0 : W0) : Ses := fun b v => b = base ∧ v.w = w0.w ∧ v.Z = w0.Z ∧ v.J = w0.J ∧ v.gh = w0.gh ∧ v.l = w0.l ∧ (∀ g o, w0.D g = some o → v.D g = some o) ∧ (∀ g, w0.X g → v.X g) ∧ ∀ g, v.mks g → w0.D g = none

theorem Sf.law {base : Nat} {w0 : W0} (hJ : ∀ k X w, w0.J k X w) (hgh : w0.gh = []) : RfLaw (Sf base w0) := by
  rintro b v ⟨h1, h2, h3, h4, h5, h6, h7, h8, h9⟩
  refine ⟨by rw [h4]; exact hJ, h5.trans hgh, fun D X mks hD hX hm => ⟨h1, h2, h3, h4, h5, h6, fun g o h => hD g o (h7 g o h), fun g h => hX g (h8 g h), fun g h => ?_⟩⟩
  rcases hm g h with h | h
  · exact h9 g h
  · cases hd : w0.D g with
    | none => rfl
    | some o => rw [h7 g o hd] at h; cases h

/-- The marks are given back; what was said of the state at the beginning is left. -/
theorem leave_ok (hE : EnvOk P E) (hJ : ∀ k X w, w0.J k X w) (hmk0 : ∀ g, ¬ w0.mks g) {fn : Func} {c : Cx} {H : List Blk} {σ : List V} {tmps : Array Value} {R : V → List Blk → Prop} (h : resultsK E fn σ H fun v => R v H) : ∀ (gs : List Nat) (v : W0) (w : World), Sf base w0 base v → gs.Nodup → (∀ g ∈ gs, v.mks g) →
    St E.glob base v c H w → VRels c H w σ tmps.toList →
    LeavesInM Fence.wide 0 P fn tmps (fun e w' => ∃ x v H' c', e = .returned v ∧ R x H' ∧ VRel c' H' w' x v ∧ St E.glob base w0 c' H' w') (gs.map fun g => { target := .collected g, args := #[] }) .returning w
  | [], v, w, hS, _, _, hst, hσ => by
    obtain ⟨_, h2, h3, h4, h5, h6, h7, h8, h9⟩ := hS
    have hx := (hst.xk.less (D := w0.D) (Z := w0.Z) (X := w0.X) (mks := w0.mks) (fun k x hk => h7 k x hk) (fun k n hk => by rw [h3]; exact hk) h8 (fun k hk => absurd hk (hmk0 k)) (by rw [h4]; exact hJ _ _ _))
    have hst' : St E.glob base w0 c H w := hst.other (by rw [← h2]; exact hst.below) ⟨hx.keep, hx.siz, hJ _ _ _, hst.xk.gh.trans h5, hst.xk.l.trans h6, hx.dis, hx.xb, hx.mks, fun hg => hst.xk.gi (h5.trans hg)⟩
    obtain ⟨x, u, h1, h2, h3⟩ := results_ok (a := { tmps := tmps, defers := [] }) hE fn hst' hσ h
    exact ⟨u, h3, x, u, H, c, rfl, h1, h2, hst'⟩
  | g :: gs, v, w, hS, hnd, hm, hst, hσ => by
    obtain ⟨hg, hnd⟩ := List.nodup_cons.1 hnd
    obtain ⟨m1, m2, m3⟩ := hst.xk.mks g (hm g (by simp))
    obtain ⟨_, h2, h3, h4, h5, h6, h7, h8, h9⟩ := hS
    refine ⟨by simp, .inl ⟨g, w.putObj g (.deferred none), rfl, run_takeDeferred (hst.xk.keep g _ m3).1, ?_⟩⟩
    let D : Nat → Option Obj := fun k => if k = g then none else v.D k
    have hDo : ∀ k, k ≠ g → D k = v.D k := fun k h => if_neg h
    refine leave_ok hE hJ hmk0 h gs { v with D := D, mks := fun k => v.mks k ∧ k ≠ g } _ ⟨rfl, h2, h3, h4, h5, h6, fun k o hk => ?_, h8, fun k hk => h9 k hk.1⟩ hnd (fun k hk => ⟨hm k (by simp [hk]), fun e => by subst e; exact hg hk⟩) ?_ (hσ.ext (hst.ext_put m2 _))
    · have : k ≠ g := fun e => by subst e; rw [h9 k (hm k (by simp))] at hk; cases hk
      exact (hDo k this).trans (h7 k o hk)
    · exact hst.put (g := g) m2 m1 _ rfl (Xk.put (v := v) hst.xk (g := g) m2 m3 rfl _ (fun k x hk => by
        by_cases e : k = g
        · subst e; simp [D] at hk
        · exact .inr ⟨e, (hDo k e).symm.trans hk⟩) fun k hk => ⟨hk.1, hk.2, hDo k hk.2⟩)

/-- A function whose body shows what is asked. -/
theorem body_ok (hk : Known P E) (hyl : E.yl = none) (hJ : ∀ k X w, w0.J k X w) (hgh : w0.gh = []) (hmk0 : ∀ g, ¬ w0.mks g) {f : FuncId} {fn : Func} (hf : P.funcs[f]? = some fn) {c : Cx} {H : List Blk} {w : World} {args : List V} {vs : List Value} {R : V → List Blk → Prop}
    (hst : St E.glob base w0 c H w) (hv : VRels c H w args vs) (h : body E fn args H R) :
    Calls P f vs.toArray w fun e w' => ∃ x v H' c', e = .returned v ∧ R x H' ∧ VRel c' H' w' x v ∧ St E.glob base w0 c' H' w' := by
  unfold body at h
  split at h
  · rename_i code hb
    have hs : Sta E (Sf base w0) (args ++ List.replicate (fn.ntmps - args.length) .undef) H { tmps := vs.toArray ++ Array.replicate (fn.ntmps - vs.toArray.size) undef, defers := [] } w :=
      ⟨c, base, w0, ⟨rfl, rfl, rfl, rfl, rfl, rfl, fun _ _ h => h, fun _ h => h, fun g h => absurd h (hmk0 g)⟩, hst, by
        simp only [Array.toList_append, Array.toList_replicate, List.size_toArray]
        rw [hv.length]
        exact hv.append (VRels.undefs undef _), Marks.nil⟩
    refine (callsIn_wide (n := 0)).1 (callsIn_of_wp_marks hf hb trivial (wpInMono ?_ (awp_ok code hk (ro := none) (fun q hq => by rw [hyl] at hq; cases hq) (fun _ => ⟨rfl, Sf.law hJ hgh⟩) _ _ H _ w h hs)))
    have fin : ∀ (a : Act) (w' : World), (∃ σ H, resultsK E fn σ H (fun v => R v H) ∧ Sta E (Sf base w0) σ H a w') →
        LeavesInM Fence.wide 0 P fn a.tmps (fun e w' => ∃ x v H' c', e = .returned v ∧ R x H' ∧ VRel c' H' w' x v ∧ St E.glob base w0 c' H' w') a.defers .returning w' := by
      rintro a w' ⟨σ, H, hq, c', b, v, hS, hst', hσ', gs, g1, g2, g3⟩
      obtain rfl := hS.1
      rw [g2]
      exact leave_ok hk.env hJ hmk0 hq gs v w' hS g1 g3 hst' hσ'
    intro e a w' hp
    cases e with
    | normal => exact fin a w' hp
    | ret => exact fin a w' hp
    | exit i => obtain ⟨_, _, hq, _⟩ := hp; exact hq.elim
    | goto l => exact hp.elim
    | panic ch => exact hp.elim
    | outgrown => exact hp.elim
  · exact h.elim

/-- What the body of a function that is ranged over has to show. -/
def bodyS (E : Env) (fn : Func) (ds : List V) (ks : List PK) (L : (Nat × (Nat → List V))) : Prop :=
  match fn.body with
  | some c => (fn.results.toList = []) ∧ awp { E with yl := some (ks, L) } c (fun e σ _ => match e with
      | .exit _ => False
      | _ => match gets σ 0 with | .yld (some n) => n = L.1 | .yld none => True | _ => False) (.yld (some 0) :: ds ++ List.replicate (fn.ntmps - (ds.length + 1)) .undef) []
  | none => False

/-- THE CONTRACT OF A FUNCTION THAT IS RANGED OVER. -/
theorem holds_seq (hk : Known P E) (hrf : E.rf = false) {f : FuncId} {fn : Func} (hf : P.funcs[f]? = some fn) (hent : ∀ args w, (callFunc f args).run P w = .ok (.enter f args) w) {ks : List PK} {spec : List V → Option (Prop × Nat × (Nat → List V))} (yks : List PK)
    (h : ∀ ds p L, spec ds = some (p, L) → p → bodyS E fn ds yks L) : SeqHolds P E.glob f (ks, spec) := by
  refine ⟨hent, fun M w ds us p L hsp hp hM hglob hds l J hJ hR hJ0 => ?_⟩
  have hb := h ds p L hsp hp
  unfold bodyS at hb
  split at hb
  · rename_i code hbd
    obtain ⟨hres, hb⟩ := hb
    let S : Ses := fun b v => b = v.w.heap.size ∧ v.D = (fun _ => none) ∧ v.Z = (fun _ => none) ∧ v.mks = (fun _ => False) ∧ v.gh = [] ∧ v.J = J ∧ v.l = l
    let xt : Xt := ⟨[], some 0, l⟩
    have hk' : Known P { E with yl := some (yks, L) } := ⟨hk.glob, hk.noref, ⟨hk.env.con, hk.env.seq, hk.env.ty⟩, hk.det, hk.mixed⟩
    have hst : St E.glob w.heap.size ⟨w, fun _ => none, fun _ => none, fun g => g < w.heap.size ∧ ¬ M g, fun _ => False, J, [], l⟩ (Cx.of M xt) [] w :=
      { below := Below.refl _ _
        xk :=
          { keep := fun g o h => by cases h
            siz := fun g n h => by cases h
            cnt := hJ0
            gh := rfl
            l := rfl
            dis := fun g hg hX => hX.2 hg
            xb := fun g hX => ⟨hX.1, fun i hi => by cases hi⟩
            mks := fun _ h => h.elim
            gi := fun _ => rfl }
        size := Nat.le_refl _
        blk := fun id => by cases id <;> trivial
        inj := fun i j g hi => by cases hi
        own := fun i g hi => by cases hi
        imm := hM
        sub := fun g hg => hg.elim
        glob := fun g x hx => hglob g x hx xt }
    have hlen := (hds xt).length
    have hs : Sta { E with yl := some (yks, L) } S (.yld (some 0) :: ds ++ List.replicate (fn.ntmps - (ds.length + 1)) .undef) [] { tmps := (#[.func (.yield l) #[] #[]] ++ us.toArray) ++ Array.replicate (fn.ntmps - (#[.func (.yield l) #[] #[]] ++ us.toArray : Array Value).size) undef, defers := [] } w := by
      refine ⟨Cx.of M xt, w.heap.size, _, ⟨rfl, rfl, rfl, rfl, rfl, rfl, rfl⟩, hst, ?_, Marks.nil⟩
      have e : (#[Value.func (.yield l) #[] #[]] ++ us.toArray : Array Value).toList = .func (.yield l) #[] #[] :: us := by simp
      simp only [Array.toList_append, Array.toList_replicate, Array.size_append, List.size_toArray, List.length_cons, List.length_nil]
      rw [show 0 + 1 + us.length = ds.length + 1 by omega]
      exact (VRels.cons _ _ _ _ (VRel.yld (c := Cx.of M xt) (some 0) rfl) (hds xt)).append (VRels.undefs undef _)
    refine callsIn_of_wp (F := Fence.wide) hf hbd trivial (wpInMono ?_ (awp_ok code hk' (ro := none) (fun q hq => ⟨rfl, ?_⟩) (fun hr => by rw [hrf] at hr; cases hr) _ _ [] _ w hb hs))
    · have fin : ∀ (a : Act) (w' : World), (∃ σ H, (match gets σ 0 with | .yld (some n) => n = L.1 | .yld none => True | _ => False) ∧ Sta { E with yl := some (yks, L) } S σ H a w') →
          a.defers = [] ∧ ∃ v, (results fn a.tmps).run P w' = .ok v w' ∧ (∃ u, Ending.returned v = .returned u) ∧ ∃ X, J (some L.1) X w' ∨ J none X w' := by
        rintro a w' ⟨σ, H, hq, c', b, v, ⟨hb, hD, hZ, hmk, hgh, hJv, hl⟩, hst', hσ', gs, g1, g2, g3⟩
        have hgs : gs = [] := by
          cases gs with
          | nil => rfl
          | cons g gs => have := g3 g (by simp); rw [hmk] at this; exact this.elim
        subst hgs
        have hrun : (results fn a.tmps).run P w' = .ok (.tuple #[]) w' := by
          have : fn.results = #[] := by rw [← Array.toArray_toList (xs := fn.results), hres]
          unfold results
          rw [this]
          simp
        refine ⟨g2, _, hrun, ⟨_, rfl⟩, v.X, ?_⟩
        have hrel := hσ'.get 0
        have hcnt := hst'.xk.cnt
        have hbel := hst'.below
        rw [hb] at hbel
        generalize a.tmps.toList.getD 0 undef = fv at hrel
        generalize gets σ 0 = y at hq hrel
        cases hrel <;> try exact hq.elim
        rename_i kk hkk
        rw [← hkk, hJv] at hcnt
        have := hJ _ _ _ _ hcnt hbel
        cases kk with
        | some n => obtain rfl : n = L.1 := hq; exact .inl this
        | none => exact .inr this
      intro e a w' hp
      cases e with
      | normal => exact fin a w' hp
      | ret => exact fin a w' hp
      | exit i => obtain ⟨_, _, hq, _⟩ := hp; exact hq.elim
      | goto l => exact hp.elim
      | panic ch => exact hp.elim
      | outgrown => exact hp.elim
    · obtain rfl : (yks, L) = q := Option.some.inj hq
      rintro b v ⟨hb, hD, hZ, hmk, hgh, hJv, hl⟩
      exact ⟨hb, fun g => by rw [hD], fun g => by rw [hZ], fun g h => by rw [hmk] at h; exact h, hgh, by rw [hJv]; exact hJ, by rw [hJv, hl]; exact hR, fun X W => ⟨rfl, hD, hZ, hmk, hgh, hJv, hl⟩⟩
  · exact hb.elim
end
end Go.Proofs.Ytgljcfnplkcfhaa.Vc

namespace Go.Proofs.Ytgljcfnplkcfhaa.Vc
open Go Go.RowKit

section
variable {E : Env} {P : Program} {G : List (Nat × V)} {base : Nat} {w0 : W0} {c : Cx} {H : List Blk} {w : World}

def W0.all (w : World) : W0 := ⟨w, fun _ => none, fun _ => none, fun _ => False, fun _ => False, fun _ _ _ => True, [], 0⟩

theorem St.all (hN : noRef G) (hst : St G base w0 c H w) : St G w.heap.size (W0.all w) (Cx.all w) [] w :=
  hst.calm hN hst.imm (fun _ _ => rfl) (Below.refl _ _)
    { keep := fun g o h => by cases h
      siz := fun g n h => by cases h
      cnt := trivial
      gh := rfl
      l := rfl
      dis := fun _ _ h => h
      xb := fun _ h => h.elim
      mks := fun _ h => h.elim
      gi := fun _ => rfl } (Nat.le_refl _) fun _ h => h

/-! ### what goes out, among the caller's -/
section
variable {G : List (Nat × V)} {base : Nat} {w0 : W0} {c : Cx} {H : List Blk} {w : World}

def Cx.join (c cE : Cx) (n : Nat) : Cx := ⟨fun g => c.M g ∨ cE.N g, fun g => c.N g ∨ cE.N g, fun i => if i < n then c.ρ i else cE.ρ (i - n), c.x, c.gi⟩

theorem getB_app (H L : List Blk) : ∀ id, getB (H ++ L) id = if id < H.length then getB H id else getB L (id - H.length) := by
  induction H with
  | nil => intro id; simp
  | cons x H ih =>
    intro id
    cases id with
    | zero => simp [getB]
    | succ id => simp [getB, ih]
theorem getB_shH (n : Nat) : ∀ (L : List Blk) (j : Nat), getB (shH n L) j = shB n (getB L j)
  | [], j => by cases j <;> rfl
  | b :: L, 0 => rfl
  | b :: L, j + 1 => getB_shH n L j
theorem length_shH (n : Nat) : ∀ L : List Blk, (shH n L).length = L.length
  | [] => rfl
  | b :: L => by simp [shH, length_shH n L]
theorem length_shL (n : Nat) : ∀ l : List V, (shL n l).length = l.length
  | [] => rfl
  | b :: l => by simp [shL, length_shL n l]
theorem gets_shL (n : Nat) : ∀ (l : List V) (j : Nat), gets (shL n l) j = shV n (gets l j)
  | [], j => by cases j <;> rfl
  | b :: l, 0 => rfl
  | b :: l, j + 1 => gets_shL n l j
theorem shape_join (H L : List Blk) (i : Nat) : shape (H ++ shH H.length L) (H.length + i) = shape L i := by
  unfold shape
  rw [getB_app, if_neg (by omega), Nat.add_sub_cancel_left, getB_shH]
  cases getB L i <;> simp [shB, length_shL]

theorem OwnAt.join {cE : Cx} {w' : World} {i z off n : Nat} {a : Option Addr} {cap : Nat} (h : OwnAt cE w' i z off a cap) : OwnAt (c.join cE n) w' (n + i) z off a cap := by
  obtain ⟨g, e, cur, h1, h2⟩ := h
  exact ⟨g, e, cur, by simp only [Cx.join]; rw [if_neg (by omega), Nat.add_sub_cancel_left]; exact h1, h2⟩

section
variable {cE : Cx} {L : List Blk} {w' : World}
mutual
theorem VRel.join : ∀ {x : V} {v : Value}, VRel cE L w' x v → x.fresh = true → VRel (c.join cE H.length) (H ++ shH H.length L) w' (shV H.length x) v
  | _, _, .undef v, _ => .undef v
  | _, _, .int k n h1 h2, _ => .int k n h1 h2
  | _, _, .u8 x, _ => .u8 x
  | _, _, .b p x h, _ => .b p x h
  | _, _, .bt x, _ => .bt x
  | _, _, .nope, _ => .nope
  | _, _, .str s h, _ => .str s h
  | _, _, .nils, _ => .nils
  | _, _, .sl fr t xs v h, hf => by
    have hf : fr = true := hf
    subst hf
    exact .sl true t xs v (DRel.ext (M := cE.N) (fun g hg => .inr hg) (fun _ _ => rfl) _ _ _ h)
  | _, _, .own t i n a cap h1 hn hc ho, _ => .own t (H.length + i) n a cap ((shape_join H L i).trans h1) hn hc (ho.imp (fun h => h) OwnAt.join)
  | _, _, .slc t i off n m a cap h1 h2 hn hc ho, _ => .slc t (H.length + i) off n m a cap ((shape_join H L i).trans h1) h2 hn hc (ho.imp (fun h => h) OwnAt.join)
  | _, _, .rp fr t x o g p es hM hd hc, hf => by simp [V.fresh] at hf
  | _, _, .ptr i z j o g m h1 hr hi ho, _ => .ptr (H.length + i) z j o g m ((shape_join H L i).trans h1) (by simp only [Cx.join]; rw [if_neg (by omega), Nat.add_sub_cancel_left]; exact hr) hi ho
  | _, _, .agg cs vs h, hf => .agg _ vs (VRels.join h hf)
  | _, _, .tup cs vs h, hf => .tup _ vs (VRels.join h hf)
  | _, _, .fn f cs vs h, hf => .fn f _ vs (VRels.join h hf)
  | _, _, .nilfn, _ => .nilfn
  | _, _, .yld k h, hf => by simp [V.fresh] at hf
  | _, _, .dat fr t x es h, hf => .dat fr t x es (by
    simp only [V.fresh, Bool.or_eq_true] at hf
    rcases hf with hf | hf
    · subst hf; exact DRel.ext (M := cE.N) (fun g hg => .inr hg) (fun _ _ => rfl) _ _ _ h
    · exact DRel.flat _ _ _ hf h)
theorem VRels.join : ∀ {xs : List V} {vs : List Value}, VRels cE L w' xs vs → V.freshL xs = true → VRels (c.join cE H.length) (H ++ shH H.length L) w' (shL H.length xs) vs
  | _, _, .nil, _ => .nil
  | _, _, .cons x v xs vs h hx, hf => by
    simp only [V.freshL, Bool.and_eq_true] at hf
    exact .cons _ v _ vs (VRel.join h hf.1) (VRels.join hx hf.2)
end
end

theorem freshH_at : ∀ (L : List Blk) (i : Nat), freshH L = true → (getB L i).fresh = true
  | [], i, _ => by cases i <;> rfl
  | b :: L, 0, h => by simp only [freshH, Bool.and_eq_true] at h; exact h.1
  | b :: L, i + 1, h => by simp only [freshH, Bool.and_eq_true] at h; exact freshH_at L i h.2
theorem freshL_at : ∀ (l : List V) (i : Nat), V.freshL l = true → (gets l i).fresh = true
  | [], i, _ => by cases i <;> rfl
  | b :: L, 0, h => by simp only [V.freshL, Bool.and_eq_true] at h; exact h.1
  | b :: L, i + 1, h => by simp only [V.freshL, Bool.and_eq_true] at h; exact freshL_at L i h.2

theorem ext_join (hst : St G base w0 c H w) {cE : Cx} {L : List Blk} {w' : World} (he : St G w.heap.size (W0.all w) cE L w') : Ext c H w (c.join cE H.length) (H ++ shH H.length L) w' where
  M g hg := .inl hg
  N g hg := .inl hg
  mem g hg := he.below.block g (hst.imm g (hg.elim id fun hn => (hst.sub g hn).1))
  shp id s hs := by
    have hlt := shape_lt hs
    refine ⟨?_, by simp [Cx.join, hlt]⟩
    unfold shape at *
    rw [getB_app, if_pos hlt]; exact hs
  siz id s g cur e hs hr hg := ⟨cur, (he.below.block g (hst.own id g hr).2.1).trans hg, rfl⟩
  x := rfl
  gi := rfl

theorem St.join (hst : St G base w0 c H w) {cE : Cx} {L : List Blk} {w' : World} (he : St G w.heap.size (W0.all w) cE L w') (hf : freshH L = true) : St G base w0 (c.join cE H.length) (H ++ shH H.length L) w' where
  below := hst.below.trans (he.below.mono hst.size)
  xk := hst.xk.step rfl (fun h => h) (fun g hg => hg.imp (fun h => h) fun hN => .inr (he.sub g hN).2) (fun i g hi => by
    simp only [Cx.join] at hi
    split at hi
    · exact .inl ⟨i, hi⟩
    · exact .inr (he.own _ g hi).1) (fun g o ho => .inl ((he.below.block g (Array.getElem?_eq_some_iff.1 ho).1).trans ho))
  size := Nat.le_trans hst.size he.size
  blk id := by
    rw [getB_app]
    split
    · rename_i hlt
      exact BOk.keep (ext_join hst he) (fun _ => by simp [Cx.join, hlt]) (fun g hg => he.below.block g (hst.own id g hg).2.1) (hst.blk id)
    · rename_i hge
      have hid : id = H.length + (id - H.length) := by omega
      have hbk := he.blk (id - H.length)
      have hfr := freshH_at L (id - H.length) hf
      have hrho : (c.join cE H.length).ρ id = cE.ρ (id - H.length) := by simp [Cx.join, hge]
      rw [getB_shH]
      generalize getB L (id - H.length) = b at hbk hfr
      cases b with
      | dead => trivial
      | row fr t xs =>
        rcases hbk with ⟨h1, h2⟩ | ⟨g, e, cur, h1, h2, h3, h4⟩
        · exact .inl ⟨hrho.trans h1, h2⟩
        · refine .inr ⟨g, e, cur, hrho.trans h1, h2, h3, fun i x hi => ?_⟩
          obtain ⟨es, e1, e2⟩ := h4 i x hi
          refine ⟨es, ?_, e2⟩
          simp only [Blk.fresh, Bool.or_eq_true] at hfr
          rcases hfr with hfr | hfr
          · subst hfr; exact DRel.ext (M := cE.N) (fun g hg => .inr hg) (fun _ _ => rfl) _ _ _ e1
          · exact DRel.flat _ _ _ hfr e1
      | cells cs =>
        rcases hbk with ⟨g, e, cur, h1, h2, h3, h4⟩ | ⟨h0, _⟩
        · refine .inl ⟨g, e, cur, hrho.trans h1, h2, by rw [length_shL]; exact h3, fun j hj => ?_⟩
          rw [length_shL] at hj
          obtain ⟨v, h5, h6, h7⟩ := h4 j hj
          rw [gets_shL]
          exact ⟨v, h5, h6, h7.join (freshL_at cs j hfr)⟩
        · rw [he.xk.gi rfl] at h0; cases h0
  inj i j g hi hj := by
    simp only [Cx.join] at hi hj
    split at hi <;> split at hj
    · exact hst.inj i j g hi hj
    · have h1 := (hst.own i g hi).2.1
      have h2 := (he.own _ g hj).1
      omega
    · have h1 := (hst.own j g hj).2.1
      have h2 := (he.own _ g hi).1
      omega
    · have := he.inj _ _ g hi hj; omega
  own i g hi := by
    simp only [Cx.join] at hi
    split at hi
    · obtain ⟨h1, h2, h3, h4⟩ := hst.own i g hi
      refine ⟨h1, Nat.lt_of_lt_of_le h2 he.size, fun hm => ?_, by rw [List.length_append]; omega⟩
      rcases hm with hm | hm
      · exact h3 hm
      · have := (he.sub g hm).2; omega
    · obtain ⟨h1, h2, h3, h4⟩ := he.own _ g hi
      have := hst.size
      refine ⟨by omega, h2, fun hm => ?_, by rw [List.length_append, length_shH]; omega⟩
      rcases hm with hm | hm
      · have := hst.imm g hm; omega
      · exact h3 (he.sub g hm).1
  imm g hg := by
    rcases hg with hg | hg
    · exact Nat.lt_of_lt_of_le (hst.imm g hg) he.size
    · exact he.imm g (he.sub g hg).1
  sub g hg := by
    rcases hg with hg | hg
    · exact ⟨.inl (hst.sub g hg).1, (hst.sub g hg).2⟩
    · have := hst.size
      exact ⟨.inr hg, Nat.le_trans this (he.sub g hg).2⟩
  glob g x hx := (hst.glob g x hx).ext (ext_join hst he)

theorem retK_ok (hG : GlobOk G) (hN : noRef G) {ms : List Mode} {v : V} {x : Value} {K : V → List Blk → Prop} (hst : St G base w0 c H w) (hx : VRel c H w v x) (h : retK ms v H K) :
    ∃ c' v' H', K v' H' ∧ St G base w0 c' H' w ∧ VRel c' H' w v' x := by
  unfold retK at h
  obtain ⟨hl, h⟩ := bif_ok h
  have hl := beq_ok hl
  have hview : ∀ us, VRels c H w (comps v) us → ∃ c' vs' H', K (uncomps v vs') H' ∧ St G base w0 c' H' w ∧ VRels c' H' w vs' us := fun us hu => by
    obtain ⟨c1, vs1, H1, h, hst1, hv1, _⟩ := viewA_ok hG ms c (comps v) [] H us [] _ hst hu .nil hl h
    obtain ⟨c2, vs2, H2, h, hst2, hv2, _⟩ := viewB_ok hN hst1 hv1 h
    exact ⟨c2, vs2, H2, h, hst2, by simpa using hv2⟩
  have single : (∀ l, v ≠ .tup l) → (∀ l, v ≠ .agg l) → ∃ c' v' H', K v' H' ∧ St G base w0 c' H' w ∧ VRel c' H' w v' x := fun h1 h2 => by
    have hc : comps v = [v] := by cases v <;> first | rfl | exact (h1 _ rfl).elim | exact (h2 _ rfl).elim
    have hu : ∀ vs, uncomps v vs = gets vs 0 := fun vs => by cases v <;> first | rfl | exact (h1 _ rfl).elim | exact (h2 _ rfl).elim
    obtain ⟨c', vs', H', hk, hst', hr⟩ := hview [x] (by rw [hc]; exact .cons _ _ _ _ hx .nil)
    rw [hu] at hk
    exact ⟨c', _, H', hk, hst', by simpa using hr.get 0⟩
  cases hx with
  | agg cs vs hr =>
    obtain ⟨c', vs', H', hk, hst', hr'⟩ := hview _ hr
    exact ⟨c', _, H', hk, hst', .agg _ _ hr'⟩
  | tup cs vs hr =>
    obtain ⟨c', vs', H', hk, hst', hr'⟩ := hview _ hr
    exact ⟨c', _, H', hk, hst', .tup _ _ hr'⟩
  | _ => exact single (fun _ h => by cases h) (fun _ h => by cases h)
end

/-- THE CONTRACT OF A FUNCTION THAT ONLY READS WHAT IT GETS. -/
theorem holds_pure {E : Env} {P : Program} (hk : Known P E) (hyl : E.yl = none) {f : FuncId} {fn : Func} (hf : P.funcs[f]? = some fn) (hent : ∀ args w, (callFunc f args).run P w = .ok (.enter f args) w)
    {ks : List PK} {spec : List V → Option (Prop × V × List Blk)} (ms : List Mode) (h : ∀ ds p v bs, spec ds = some (p, v, bs) → p → bodyP E fn ms ds v bs) : Holds P E.glob f (pureC ks spec) := by
  refine ⟨hent, fun base w0 c H w args vs hst hv R hc => ?_⟩
  obtain ⟨ds, hk, hd⟩ := asArgs_ok (U := Mall w) hst hst.imm (fun i g hi => (hst.own i g hi).2.1) ks args vs _ hc hv
  cases hs : spec ds with
  | none => rw [hs] at hk; exact hk.elim
  | some q =>
    obtain ⟨p, v, bs⟩ := q
    rw [hs] at hk
    obtain ⟨hp, hR⟩ := hk
    refine (body_ok hk hyl (fun _ _ _ => trivial) rfl (fun _ h => h) hf (hst.all hk.noref) (hd _) (h ds p v bs hs hp)).mono ?_
    rintro e w' ⟨x, v', H', c', rfl, hq, hx, hst'⟩
    obtain ⟨c2, v2, H2, ⟨hfr, rfl, rfl⟩, hst2, hx2⟩ := retK_ok hk.glob hk.noref hst' hx hq
    simp only [Bool.and_eq_true] at hfr
    exact ⟨_, v', _, _, rfl, hR, hx2.join hfr.1, hst.join hst2 hfr.2, ext_join hst hst2⟩
end
end Go.Proofs.Ytgljcfnplkcfhaa.Vc

namespace Go.Proofs.Ytgljcfnplkcfhaa.Vc
open Go Go.RowKit

def AllTy (P : Program) : List (Nat × Ty) → Prop
  | [] => True
  | (T, t) :: l => TyOk P T t ∧ AllTy P l
theorem AllTy.ok {P : Program} : ∀ {l : List (Nat × Ty)}, AllTy P l → ∀ T t, lk l T = some t → TyOk P T t
  | [], _, T, t, h => by simp [lk] at h
  | (k, x) :: l, hl, T, t, h => by
    unfold lk at h
    cases hb : Nat.beq k T with
    | true =>
      rw [hb] at h
      simp only [cond_true, Option.some.injEq] at h
      have := beq_ok hb
      subst this h
      exact hl.1
    | false =>
      rw [hb] at h
      exact AllTy.ok hl.2 T t h

/-- An environment. -/
abbrev En (l : List (Nat × Con)) (tys : List (Nat × Ty)) (G : List (Nat × V)) (q : List (Nat × SeqC)) (z : List Nat := []) : Env := ⟨l, tys, G, q, none, true, z⟩

theorem EnvOk.nil {z : List Nat} {P : Program} {tys : List (Nat × Ty)} {G : List (Nat × V)} (h : ∀ T t, lk tys T = some t → TyOk P T t) : EnvOk P (En [] tys G [] z) :=
  ⟨fun K c h => by simp [lk] at h, fun K c h => by simp [lk] at h, h⟩
theorem EnvOk.cons {z : List Nat} {P : Program} {tys : List (Nat × Ty)} {G : List (Nat × V)} {l : List (Nat × Con)} {q : List (Nat × SeqC)} {k : Nat} {c : Con} (h : Holds P G k c) (hE : EnvOk P (En l tys G q z)) : EnvOk P (En ((k, c) :: l) tys G q z) :=
  ⟨fun K c' hc => by
    simp only [lk] at hc
    cases hb : Nat.beq k K with
    | true =>
      rw [hb] at hc
      simp only [cond_true, Option.some.injEq] at hc
      have := beq_ok hb
      subst this hc
      exact h
    | false =>
      rw [hb] at hc
      exact hE.con K c' hc, hE.seq, hE.ty⟩
theorem EnvOk.consSeq {z : List Nat} {P : Program} {tys : List (Nat × Ty)} {G : List (Nat × V)} {l : List (Nat × Con)} {q : List (Nat × SeqC)} {k : Nat} {c : SeqC} (h : SeqHolds P G k c) (hE : EnvOk P (En l tys G q z)) : EnvOk P (En l tys G ((k, c) :: q) z) :=
  ⟨hE.con, fun K c' hc => by
    simp only [lk] at hc
    cases hb : Nat.beq k K with
    | true =>
      rw [hb] at hc
      simp only [cond_true, Option.some.injEq] at hc
      have := beq_ok hb
      subst this hc
      exact h
    | false =>
      rw [hb] at hc
      exact hE.seq K c' hc, hE.ty⟩
end Go.Proofs.Ytgljcfnplkcfhaa.Vc

namespace Go.Proofs.Ytgljcfnplkcfhaa.Vc
open Go Go.RowKit

theorem Point.asCells {H : List Blk} {α : Type} : ∀ {t : Ty} {l : List V} {f : t.D → List V → (α → Prop) → Prop}, (∀ x l, Point (f x l)) → Point (fun K => asCells H t l fun x l => f x l K)
  | .nil, l, f, hf => hf _ _
  | .cons t ts, l, f, hf => Point.asCells (t := t) (l := l) (f := fun x l K => Vc.asCells H ts l fun y l => f (x, y) l K) fun x l => Point.asCells (t := ts) fun y l => hf (x, y) l
  | .arr _ _, l, f, hf => .fls
  | .u8, [], f, hf => .fls
  | .u8, v :: l, f, hf => .asD (f := fun x K => f x l K) fun x => hf x l
  | .int _, [], f, hf => .fls
  | .int _, v :: l, f, hf => .asD (f := fun x K => f x l K) fun x => hf x l
  | .bool, [], f, hf => .fls
  | .bool, v :: l, f, hf => .asD (f := fun x K => f x l K) fun x => hf x l
  | .str, [], f, hf => .fls
  | .str, v :: l, f, hf => .asD (f := fun x K => f x l K) fun x => hf x l
  | .sl _, [], f, hf => .fls
  | .sl _, v :: l, f, hf => .asD (f := fun x K => f x l K) fun x => hf x l

theorem Point.asArg {H : List Blk} {k : PK} {v : V} {α : Type} {f : V → (α → Prop) → Prop} (hf : ∀ x, Point (f x)) : Point (fun K => asArg H k v fun d => f d K) := by
  cases k with
  | v t =>
    cases t with
    | cons t ts =>
      cases v <;> first | exact .fls | skip
      unfold Vc.asArg
      dsimp only
      refine .asCells (f := fun x l K => match l with | [] => f (dV (.cons t ts) x) K | _ => False) fun x l => ?_
      cases l
      · exact hf _
      · exact .fls
    | bool => cases v <;> first | exact .fls | exact hf _
    | arr n t =>
      cases v <;> first | exact .fls | skip
      unfold Vc.asArg
      dsimp only
      exact .dite fun h => hf _
    | _ => unfold Vc.asArg; exact .asD (f := fun x K => f (dV _ x) K) fun x => hf (dV _ x)
  | ref t =>
    cases v <;> first | exact .fls | skip
    · unfold Vc.asArg
      dsimp only
      rename_i fr t' x o
      refine .dite fun h => ?_
      cases o
      · exact hf _
      · exact .fls
    · unfold Vc.asArg
      dsimp only
      rename_i id z i o
      generalize getB H id = b
      cases b <;> first | exact .fls | skip
      cases i <;> first | exact .fls | skip
      cases o <;> first | exact .fls | skip
      refine .asCells (f := fun x l K => match l with | [] => f (.rp false t x 0) K | _ => False) fun x l => ?_
      cases l
      · exact hf _
      · exact .fls

theorem Point.asArgs {H : List Blk} {α : Type} : ∀ {ks : List PK} {vs : List V} {f : List V → (α → Prop) → Prop}, (∀ x, Point (f x)) → Point (fun K => asArgs H ks vs fun ds => f ds K)
  | [], [], f, hf => hf _
  | [], _ :: _, f, hf => .fls
  | _ :: _, [], f, hf => .fls
  | k :: ks, v :: vs, f, hf => .asArg (f := fun d K => Vc.asArgs H ks vs fun ds => f (d :: ds) K) fun d => Point.asArgs (f := fun ds K => f (d :: ds) K) fun ds => hf _

/-! ### more blocks turn nothing -/
theorem asRow_up {H H2 : List Blk} (hle : HLe H H2) {t : Ty} {v : V} {K : Bool → List t.D → Prop} (h : asRow H t v K) : asRow H2 t v K := by
  unfold asRow at h ⊢
  cases v <;> first | exact h | skip
  case own t0 id =>
    dsimp only at h ⊢
    split at h <;> first | exact h.elim | skip
    rename_i hb
    rw [hle _ (by rw [hb]; simp), hb]
    exact h
  case slc t0 id off n =>
    dsimp only at h ⊢
    split at h <;> first | exact h.elim | skip
    rename_i hb
    rw [hle _ (by rw [hb]; simp), hb]
    exact h
theorem asRows_up {H H2 : List Blk} (hle : HLe H H2) {t : Ty} : ∀ {vs : List V} {K : List (List t.D) → Prop}, asRows H t vs K → asRows H2 t vs K
  | [], K, h => h
  | v :: vs, K, h => by
    unfold asRows at h ⊢
    have hp : Point (fun K : Bool × List t.D → Prop => asRow H t v fun f xs => K (f, xs)) := .asRow (f := fun f xs K => K (f, xs)) fun _ _ => .ret _
    obtain ⟨⟨f, xs⟩, h1, h2⟩ := hp (fun p => asRows H t vs fun xss => K (p.2 :: xss)) h
    exact asRow_up hle (h2 (fun p => asRows H2 t vs fun xss => K (p.2 :: xss)) (asRows_up hle h1))
theorem asD_up {H H2 : List Blk} (hle : HLe H H2) {t : Ty} {v : V} {K : t.D → Prop} (h : asD H t v K) : asD H2 t v K := by
  unfold asD at h ⊢
  cases t <;> first | exact h | skip
  rename_i t
  cases t <;> dsimp only at h ⊢ <;> first | exact asRow_up hle h | skip
  cases v <;> dsimp only at h ⊢ <;> first | exact asRow_up hle h | skip
  rename_i t1 t0 id
  split at h
  · rename_i cs hb
    rw [hle _ (by rw [hb]; simp), hb]
    exact asRows_up hle h
  · rename_i fr t2 xs hb
    rw [hle _ (by rw [hb]; simp), hb]
    exact h
  · exact h.elim
theorem asCells_up {H H2 : List Blk} (hle : HLe H H2) : ∀ {t : Ty} {l : List V} {K K2 : t.D → List V → Prop}, (∀ x l, K x l → K2 x l) → asCells H t l K → asCells H2 t l K2
  | .nil, l, K, K2, hk, h => hk _ _ h
  | .cons t ts, l, K, K2, hk, h => asCells_up (t := t) hle (fun x l => asCells_up (t := ts) hle fun y l => hk (x, y) l) h
  | .arr _ _, l, K, K2, hk, h => h.elim
  | .u8, [], K, K2, hk, h => h.elim
  | .u8, v :: l, K, K2, hk, h => by
    have h : asD H .u8 v fun x => K x l := h
    show asD H2 .u8 v fun x => K2 x l
    have hp : Point (fun K : UInt8 → Prop => asD H .u8 v K) := .asD (t := .u8) (f := fun x K => K x) fun x => .ret x
    obtain ⟨x, h1, h2⟩ := hp _ h
    exact asD_up hle (h2 (fun x => K2 x l) (hk x l h1))
  | .int k, [], K, K2, hk, h => h.elim
  | .int k, v :: l, K, K2, hk, h => by
    have h : asD H (.int k) v fun x => K x l := h
    show asD H2 (.int k) v fun x => K2 x l
    have hp : Point (fun K : Int → Prop => asD H (.int k) v K) := .asD (t := .int k) (f := fun x K => K x) fun x => .ret x
    obtain ⟨x, h1, h2⟩ := hp _ h
    exact asD_up hle (h2 (fun x => K2 x l) (hk x l h1))
  | .bool, [], K, K2, hk, h => h.elim
  | .bool, v :: l, K, K2, hk, h => by
    have h : asD H .bool v fun x => K x l := h
    show asD H2 .bool v fun x => K2 x l
    have hp : Point (fun K : Bool → Prop => asD H .bool v K) := .asD (t := .bool) (f := fun x K => K x) fun x => .ret x
    obtain ⟨x, h1, h2⟩ := hp _ h
    exact asD_up hle (h2 (fun x => K2 x l) (hk x l h1))
  | .str, [], K, K2, hk, h => h.elim
  | .str, v :: l, K, K2, hk, h => by
    have h : asD H .str v fun x => K x l := h
    show asD H2 .str v fun x => K2 x l
    have hp : Point (fun K : List UInt8 → Prop => asD H .str v K) := .asD (t := .str) (f := fun x K => K x) fun x => .ret x
    obtain ⟨x, h1, h2⟩ := hp _ h
    exact asD_up hle (h2 (fun x => K2 x l) (hk x l h1))
  | .sl t, [], K, K2, hk, h => h.elim
  | .sl t, v :: l, K, K2, hk, h => by
    have h : asD H (.sl t) v fun x => K x l := h
    show asD H2 (.sl t) v fun x => K2 x l
    have hp : Point (fun K : List t.D → Prop => asD H (.sl t) v K) := .asD (t := .sl t) (f := fun x K => K x) fun x => .ret x
    obtain ⟨x, h1, h2⟩ := hp _ h
    exact asD_up hle (h2 (fun x => K2 x l) (hk x l h1))
theorem asArg_up {H H2 : List Blk} (hle : HLe H H2) {k : PK} {v : V} {K : V → Prop} (h : asArg H k v K) : asArg H2 k v K := by
  cases k with
  | v t =>
    unfold asArg at h ⊢
    cases t with
    | cons t ts =>
      cases v <;> dsimp only at h ⊢ <;> first | exact h | skip
      exact asCells_up hle (fun x l hx => hx) h
    | bool => exact h
    | arr n t => exact h
    | _ => exact asD_up hle h
  | ref t =>
    unfold asArg at h ⊢
    cases v <;> dsimp only at h ⊢ <;> first | exact h | skip
    rename_i id z i o
    split at h <;> first | exact h.elim | skip
    rename_i hb
    rw [hle _ (by rw [hb]; simp), hb]
    exact asCells_up hle (fun x l hx => hx) h
theorem asArgs_up {H H2 : List Blk} (hle : HLe H H2) : ∀ {ks : List PK} {vs : List V} {K : List V → Prop}, asArgs H ks vs K → asArgs H2 ks vs K
  | [], [], K, h => h
  | [], _ :: _, K, h => h.elim
  | _ :: _, [], K, h => h.elim
  | k :: ks, v :: vs, K, h => by
    have h : asArg H k v fun d => asArgs H ks vs fun ds => K (d :: ds) := h
    show asArg H2 k v fun d => asArgs H2 ks vs fun ds => K (d :: ds)
    have hp : Point (fun K : V → Prop => asArg H k v K) := .asArg (f := fun x K => K x) fun x => .ret x
    obtain ⟨x, h1, h2⟩ := hp _ h
    exact asArg_up hle (h2 (fun d => asArgs H2 ks vs fun ds => K (d :: ds)) (asArgs_up hle h1))

mutual
theorem shV_noIds (n n' : Nat) : ∀ v : V, (shV n v).noIds = true → shV n' v = shV n v
  | .own _ _, h => by simp [shV, V.noIds] at h
  | .slc _ _ _ _, h => by simp [shV, V.noIds] at h
  | .ptr _ _ _ _, h => by simp [shV, V.noIds] at h
  | .agg cs, h => by
    simp only [shV, V.noIds] at h ⊢
    rw [shL_noIds n n' cs h]
  | .tup cs, h => by
    simp only [shV, V.noIds] at h ⊢
    rw [shL_noIds n n' cs h]
  | .fn f cs, h => by
    simp only [shV, V.noIds] at h ⊢
    rw [shL_noIds n n' cs h]
  | .undef, _ => rfl
  | .nope, _ => rfl
  | .int _ _, _ => rfl
  | .u8 _, _ => rfl
  | .b _, _ => rfl
  | .bt _, _ => rfl
  | .str _, _ => rfl
  | .nils, _ => rfl
  | .sl _ _ _, _ => rfl
  | .rp _ _ _ _, _ => rfl
  | .nilfn, _ => rfl
  | .yld _, _ => rfl
  | .dat _ _ _, _ => rfl
theorem shL_noIds (n n' : Nat) : ∀ l : List V, V.noIdsL (shL n l) = true → shL n' l = shL n l
  | [], _ => rfl
  | x :: l, h => by
    simp only [shL, V.noIdsL, Bool.and_eq_true] at h ⊢
    rw [shV_noIds n n' x h.1, shL_noIds n n' l h.2]
end

theorem DetP.pure (ks : List PK) (spec : List V → Option (Prop × V × List Blk)) : DetP (pureC ks spec) := fun args H R h => by
  have hp : Point (fun K : List V → Prop => asArgs H ks args K) := .asArgs (f := fun ds K => K ds) fun ds => .ret ds
  obtain ⟨ds, h1, h2⟩ := hp _ h
  generalize hs : spec ds = r at h1
  rcases r with _ | ⟨p, v, bs⟩
  · exact h1.elim
  · exact ⟨_, _, h1.2, fun R' h' => h2 _ (by rw [hs]; exact ⟨h1.1, h'⟩)⟩
theorem sh_mono {H H2 : List Blk} {v v0 : V} {bs : List Blk} (hv : v0.noIds = true) (h : shV H.length v = v0 ∧ H ++ shH H.length bs = H) : shV H2.length v = v0 ∧ H2 ++ shH H2.length bs = H2 := by
  obtain ⟨h1, h2⟩ := h
  have : bs = [] := by
    have := congrArg List.length h2
    rw [List.length_append, length_shH] at this
    exact List.eq_nil_of_length_eq_zero (by omega)
  subst this
  exact ⟨by rw [← h1]; exact shV_noIds _ _ v (by rw [h1]; exact hv), by simp [shH]⟩
theorem Det.pure (ks : List PK) (spec : List V → Option (Prop × V × List Blk)) : Det (pureC ks spec) := ⟨.pure ks spec, fun args H H2 v0 hle hv h => by
  have hp : Point (fun K : List V → Prop => asArgs H ks args K) := .asArgs (f := fun ds K => K ds) fun ds => .ret ds
  obtain ⟨ds, h1, h2⟩ := hp _ h
  generalize hs : spec ds = r at h1
  rcases r with _ | ⟨p, v, bs⟩
  · exact h1.elim
  · exact asArgs_up hle (h2 _ (by rw [hs]; exact ⟨h1.1, sh_mono hv h1.2⟩))⟩

theorem Known.start {z : List Nat} {P : Program} {tys : List (Nat × Ty)} {G : List (Nat × V)} (hG : GlobOk G) (hN : noRef G) (hm : P.follows .mixedOrders = true) (h : ∀ T t, lk tys T = some t → TyOk P T t) : Known P (En [] tys G [] z) :=
  ⟨hG, hN, .nil h, fun k c hc => by simp [lk] at hc, hm⟩

theorem Known.add {z : List Nat} {P : Program} {tys : List (Nat × Ty)} {G : List (Nat × V)} {l : List (Nat × Con)} {q : List (Nat × SeqC)} (h : Known P (En l tys G q z)) {f : Nat} {fn : Func} (hf : P.funcs[f]? = some fn) (hent : ∀ args w, (callFunc f args).run P w = .ok (.enter f args) w)
    {ks : List PK} {spec : List V → Option (Prop × V × List Blk)} (ms : List Mode) (hb : ∀ ds p v bs, spec ds = some (p, v, bs) → p → bodyP (En l tys G q z) fn ms ds v bs) : Known P (En ((f, pureC ks spec) :: l) tys G q z) where
  glob := h.glob
  noref := h.noref
  env := .cons (holds_pure h rfl hf hent ms hb) h.env
  det := fun k c hc => by
    simp only [lk] at hc
    cases hb : Nat.beq f k with
    | true =>
      rw [hb] at hc
      simp only [cond_true, Option.some.injEq] at hc
      subst hc
      exact .pure _ _
    | false =>
      rw [hb] at hc
      exact h.det k c hc
  mixed := h.mixed

/-- One more function that is ranged over. -/
theorem Known.addSeq {z : List Nat} {P : Program} {tys : List (Nat × Ty)} {G : List (Nat × V)} {l : List (Nat × Con)} {q : List (Nat × SeqC)} (h : Known P (En l tys G q z)) {f : Nat} {fn : Func} (hf : P.funcs[f]? = some fn) (hent : ∀ args w, (callFunc f args).run P w = .ok (.enter f args) w)
    {ks : List PK} {spec : List V → Option (Prop × Nat × (Nat → List V))} (yks : List PK) (hb : ∀ ds p L, spec ds = some (p, L) → p → bodyS (En l tys G q z).inR fn ds yks L) : Known P (En l tys G ((f, ks, spec) :: q) z) where
  glob := h.glob
  noref := h.noref
  env := .consSeq (holds_seq h.inR rfl hf hent yks hb) h.env
  det := h.det
  mixed := h.mixed
end Go.Proofs.Ytgljcfnplkcfhaa.Vc

namespace Go.Proofs.Ytgljcfnplkcfhaa.Vc
open Go Go.RowKit

mutual
/-- There is no yield in it. -/
def V.noY : V → Bool
  | .yld _ => false
  | .agg cs => V.noYL cs
  | .tup cs => V.noYL cs
  | .fn _ cs => V.noYL cs
  | _ => true
def V.noYL : List V → Bool
  | [] => true
  | x :: l => x.noY && V.noYL l
end
def Blk.noY : Blk → Bool
  | .cells cs => V.noYL cs
  | _ => true
def noYH : List Blk → Bool
  | [] => true
  | b :: l => b.noY && noYH l

/-- A contract: for these arguments, all of it data that came in, it returns this value, which may lead to them; these blocks are new. -/
def immC (ks : List PK) (spec : List V → Option (Prop × V × List Blk)) : Con := fun args H R =>
  forceL (yL none args) fun args => asArgs [] ks args fun ds => match spec ds with
    | some (p, v, bs) => p ∧ R (shV H.length v) (H ++ shH H.length bs)
    | none => False

/-- What a function has to show for such a contract. -/
def bodyI (E : Env) (fn : Func) (ms : List Mode) (ds : List V) (v : V) (bs : List Blk) : Prop :=
  body E fn ds [] fun v' H' => retK ms v' H' fun v' H' => (v'.noY && noYH H') = true ∧ v' = v ∧ H' = bs

section
variable {G : List (Nat × V)} {base : Nat} {w0 v0 : W0} {c : Cx} {H : List Blk} {w : World}

def Cx.joinM (c cE : Cx) (n : Nat) : Cx := ⟨fun g => c.M g ∨ cE.M g, fun g => c.N g ∨ cE.N g, fun i => if i < n then c.ρ i else cE.ρ (i - n), c.x, c.gi⟩

theorem OwnAt.joinM {cE : Cx} {w' : World} {i z off n : Nat} {a : Option Addr} {cap : Nat} (h : OwnAt cE w' i z off a cap) : OwnAt (c.joinM cE n) w' (n + i) z off a cap := by
  obtain ⟨g, e, cur, h1, h2⟩ := h
  exact ⟨g, e, cur, by simp only [Cx.joinM]; rw [if_neg (by omega), Nat.add_sub_cancel_left]; exact h1, h2⟩

theorem im_joinM {cE : Cx} {n : Nat} (fr : Bool) : ∀ g, cE.im fr g → (c.joinM cE n).im fr g := by
  cases fr
  · exact fun g hg => .inr hg
  · exact fun g hg => .inr hg

section
variable {cE : Cx} {L : List Blk} {w' : World}
mutual
theorem VRel.joinM : ∀ {x : V} {v : Value}, VRel cE L w' x v → x.noY = true → VRel (c.joinM cE H.length) (H ++ shH H.length L) w' (shV H.length x) v
  | _, _, .undef v, _ => .undef v
  | _, _, .int k n h1 h2, _ => .int k n h1 h2
  | _, _, .u8 x, _ => .u8 x
  | _, _, .b p x h, _ => .b p x h
  | _, _, .bt x, _ => .bt x
  | _, _, .nope, _ => .nope
  | _, _, .str s h, _ => .str s h
  | _, _, .nils, _ => .nils
  | _, _, .sl fr t xs v h, _ => .sl fr t xs v (DRel.ext (M := cE.im fr) (im_joinM fr) (fun _ _ => rfl) _ _ _ h)
  | _, _, .own t i n a cap h1 hn hc ho, _ => .own t (H.length + i) n a cap ((shape_join H L i).trans h1) hn hc (ho.imp (fun h => h) OwnAt.joinM)
  | _, _, .slc t i off n m a cap h1 h2 hn hc ho, _ => .slc t (H.length + i) off n m a cap ((shape_join H L i).trans h1) h2 hn hc (ho.imp (fun h => h) OwnAt.joinM)
  | _, _, .rp fr t x o g p es hM hd hc, _ => .rp fr t x o g p es (im_joinM fr g hM) (DRel.ext (M := cE.im fr) (im_joinM fr) (fun _ _ => rfl) _ _ _ hd) hc
  | _, _, .ptr i z j o g m h1 hr hi ho, _ => .ptr (H.length + i) z j o g m ((shape_join H L i).trans h1) (by simp only [Cx.joinM]; rw [if_neg (by omega), Nat.add_sub_cancel_left]; exact hr) hi ho
  | _, _, .agg cs vs h, hf => .agg _ vs (VRels.joinM h hf)
  | _, _, .tup cs vs h, hf => .tup _ vs (VRels.joinM h hf)
  | _, _, .fn f cs vs h, hf => .fn f _ vs (VRels.joinM h hf)
  | _, _, .nilfn, _ => .nilfn
  | _, _, .yld k h, hf => by simp [V.noY] at hf
  | _, _, .dat fr t x es h, _ => .dat fr t x es (DRel.ext (M := cE.im fr) (im_joinM fr) (fun _ _ => rfl) _ _ _ h)
theorem VRels.joinM : ∀ {xs : List V} {vs : List Value}, VRels cE L w' xs vs → V.noYL xs = true → VRels (c.joinM cE H.length) (H ++ shH H.length L) w' (shL H.length xs) vs
  | _, _, .nil, _ => .nil
  | _, _, .cons x v xs vs h hx, hf => by
    simp only [V.noYL, Bool.and_eq_true] at hf
    exact .cons _ v _ vs (VRel.joinM h hf.1) (VRels.joinM hx hf.2)
end
end

theorem noYH_at : ∀ (L : List Blk) (i : Nat), noYH L = true → (getB L i).noY = true
  | [], i, _ => by cases i <;> rfl
  | b :: L, 0, h => by simp only [noYH, Bool.and_eq_true] at h; exact h.1
  | b :: L, i + 1, h => by simp only [noYH, Bool.and_eq_true] at h; exact noYH_at L i h.2
theorem noYL_at : ∀ (l : List V) (i : Nat), V.noYL l = true → (gets l i).noY = true
  | [], i, _ => by cases i <;> rfl
  | b :: L, 0, h => by simp only [V.noYL, Bool.and_eq_true] at h; exact h.1
  | b :: L, i + 1, h => by simp only [V.noYL, Bool.and_eq_true] at h; exact noYL_at L i h.2

theorem ext_joinM (hst : St G base w0 c H w) {cE : Cx} {L : List Blk} {w' : World} (hv : v0.w = w) (he : St G w.heap.size v0 cE L w') : Ext c H w (c.joinM cE H.length) (H ++ shH H.length L) w' where
  M g hg := .inl hg
  N g hg := .inl hg
  mem g hg := by have := he.below; rw [hv] at this; exact this.block g (hst.imm g (hg.elim id fun hn => (hst.sub g hn).1))
  shp id s hs := by
    have hlt := shape_lt hs
    refine ⟨?_, by simp [Cx.joinM, hlt]⟩
    unfold shape at *
    rw [getB_app, if_pos hlt]; exact hs
  siz id s g cur e hs hr hg := ⟨cur, by have := he.below; rw [hv] at this; exact (this.block g (hst.own id g hr).2.1).trans hg, rfl⟩
  x := rfl
  gi := rfl

theorem St.joinM (hst : St G base w0 c H w) {cE : Cx} {L : List Blk} {w' : World} (hv : v0.w = w) (hX : ∀ g, g < w.heap.size → ¬ c.M g → v0.X g) (hgh : v0.gh = []) (he : St G w.heap.size v0 cE L w') (hf : noYH L = true) : St G base w0 (c.joinM cE H.length) (H ++ shH H.length L) w' := by
  have hbe := he.below
  rw [hv] at hbe
  have hM : ∀ g, cE.M g → c.M g ∨ w.heap.size ≤ g := fun g hg => by
    have hd := he.xk.dis g hg
    rcases Nat.lt_or_ge g w.heap.size with h | h
    · exact .inl (Classical.byContradiction fun hn => hd (hX g h hn))
    · exact .inr h
  exact
  { below := hst.below.trans (hbe.mono hst.size)
    xk := hst.xk.step rfl (fun h => h) (fun g hg => hg.elim .inl fun hN => (hM g hN).elim .inl fun h => .inr (.inr h)) (fun i g hi => by
      simp only [Cx.joinM] at hi
      split at hi
      · exact .inl ⟨i, hi⟩
      · exact .inr (he.own _ g hi).1) (fun g o ho => .inl ((hbe.block g (Array.getElem?_eq_some_iff.1 ho).1).trans ho))
    size := Nat.le_trans hst.size he.size
    blk := fun id => by
      rw [getB_app]
      split
      · rename_i hlt
        exact BOk.keep (ext_joinM hst hv he) (fun _ => by simp [Cx.joinM, hlt]) (fun g hg => hbe.block g (hst.own id g hg).2.1) (hst.blk id)
      · rename_i hge
        have hid : id = H.length + (id - H.length) := by omega
        have hbk := he.blk (id - H.length)
        have hfr := noYH_at L (id - H.length) hf
        have hrho : (c.joinM cE H.length).ρ id = cE.ρ (id - H.length) := by simp [Cx.joinM, hge]
        rw [getB_shH]
        generalize getB L (id - H.length) = b at hbk hfr
        cases b with
        | dead => trivial
        | row fr t xs =>
          rcases hbk with ⟨h1, h2⟩ | ⟨g, e, cur, h1, h2, h3, h4⟩
          · exact .inl ⟨hrho.trans h1, h2⟩
          · refine .inr ⟨g, e, cur, hrho.trans h1, h2, h3, fun i x hi => ?_⟩
            obtain ⟨es, e1, e2⟩ := h4 i x hi
            exact ⟨es, DRel.ext (M := cE.im fr) (im_joinM fr) (fun _ _ => rfl) _ _ _ e1, e2⟩
        | cells cs =>
          rcases hbk with ⟨g, e, cur, h1, h2, h3, h4⟩ | ⟨h0, _⟩
          · refine .inl ⟨g, e, cur, hrho.trans h1, h2, by rw [length_shL]; exact h3, fun j hj => ?_⟩
            rw [length_shL] at hj
            obtain ⟨v, h5, h6, h7⟩ := h4 j hj
            rw [gets_shL]
            exact ⟨v, h5, h6, h7.joinM (noYL_at cs j hfr)⟩
          · rw [he.xk.gi hgh] at h0; cases h0
    inj := fun i j g hi hj => by
      simp only [Cx.joinM] at hi hj
      split at hi <;> split at hj
      · exact hst.inj i j g hi hj
      · have h1 := (hst.own i g hi).2.1
        have h2 := (he.own _ g hj).1
        omega
      · have h1 := (hst.own j g hj).2.1
        have h2 := (he.own _ g hi).1
        omega
      · have := he.inj _ _ g hi hj; omega
    own := fun i g hi => by
      simp only [Cx.joinM] at hi
      split at hi
      · obtain ⟨h1, h2, h3, h4⟩ := hst.own i g hi
        refine ⟨h1, Nat.lt_of_lt_of_le h2 he.size, fun hm => ?_, by rw [List.length_append]; omega⟩
        rcases hm with hm | hm
        · exact h3 hm
        · rcases hM g hm with hm | hm
          · exact h3 hm
          · omega
      · obtain ⟨h1, h2, h3, h4⟩ := he.own _ g hi
        have := hst.size
        refine ⟨by omega, h2, fun hm => ?_, by rw [List.length_append, length_shH]; omega⟩
        rcases hm with hm | hm
        · have := hst.imm g hm; omega
        · exact h3 hm
    imm := fun g hg => by
      rcases hg with hg | hg
      · exact Nat.lt_of_lt_of_le (hst.imm g hg) he.size
      · exact he.imm g hg
    sub := fun g hg => by
      rcases hg with hg | hg
      · exact ⟨.inl (hst.sub g hg).1, (hst.sub g hg).2⟩
      · have := hst.size
        exact ⟨.inr (he.sub g hg).1, Nat.le_trans this (he.sub g hg).2⟩
    glob := fun g x hx => (hst.glob g x hx).ext (ext_joinM hst hv he) }
end

theorem holds_imm {E : Env} {P : Program} (hk : Known P E) (hyl : E.yl = none) {f : FuncId} {fn : Func} (hf : P.funcs[f]? = some fn) (hent : ∀ args w, (callFunc f args).run P w = .ok (.enter f args) w)
    {ks : List PK} {spec : List V → Option (Prop × V × List Blk)} (ms : List Mode) (h : ∀ ds p v bs, spec ds = some (p, v, bs) → p → bodyI E fn ms ds v bs) : Holds P E.glob f (immC ks spec) := by
  refine ⟨hent, fun base w0 c H w args vs hst hv R hc => ?_⟩
  have hc := (forceL_eq _ _).1 hc
  let w1 : W0 := ⟨w, fun _ => none, fun _ => none, fun g => g < w.heap.size ∧ ¬ c.M g, fun _ => False, fun _ _ _ => True, [], c.x.l⟩
  have hcalm : St E.glob w.heap.size w1 (Cx.of c.M ⟨[], none, c.x.l⟩) [] w :=
    hst.calm hk.noref (fun g hg => hg) (fun _ _ => rfl) (Below.refl _ _)
      { keep := fun g o h => by cases h
        siz := fun g n h => by cases h
        cnt := trivial
        gh := rfl
        l := rfl
        dis := fun g hg hX => hX.2 hg
        xb := fun g hX => ⟨hX.1, fun i hi => by cases hi⟩
        mks := fun _ h => h.elim
        gi := fun _ => rfl } (Nat.le_refl _) hst.imm
  have hargs : VRels (Cx.of c.M ⟨[], none, c.x.l⟩) [] w (yL none args) vs :=
    VRels.y (c := c) (c' := Cx.of c.M ⟨[], none, c.x.l⟩) (fun g hg => hg) (fun g hg => (hst.sub g hg).1) (fun _ _ => rfl) rfl rfl hv
  obtain ⟨ds, hkk, hd⟩ := asArgs_ok (U := c.M) hcalm (fun g hg => hg) (fun i g hi => by cases hi) ks _ vs _ hc hargs
  cases hs : spec ds with
  | none => rw [hs] at hkk; exact hkk.elim
  | some q =>
    obtain ⟨p, v, bs⟩ := q
    rw [hs] at hkk
    obtain ⟨hp, hR⟩ := hkk
    refine (body_ok hk hyl (fun _ _ _ => trivial) rfl (fun _ h => h) hf hcalm (hd _) (h ds p v bs hs hp)).mono ?_
    rintro e w' ⟨x, v', H', c', rfl, hq, hx, hst'⟩
    obtain ⟨c2, v2, H2, ⟨hfr, rfl, rfl⟩, hst2, hx2⟩ := retK_ok hk.glob hk.noref hst' hx hq
    simp only [Bool.and_eq_true] at hfr
    exact ⟨_, v', _, _, rfl, hR, hx2.joinM hfr.1, hst.joinM (v0 := w1) rfl (fun g h1 h2 => ⟨h1, h2⟩) rfl hst2 hfr.2, ext_joinM (v0 := w1) hst rfl hst2⟩

theorem DetP.imm (ks : List PK) (spec : List V → Option (Prop × V × List Blk)) : DetP (immC ks spec) := fun args H R h => by
  have h := (forceL_eq _ _).1 h
  have hp : Point (fun K : List V → Prop => asArgs [] ks (yL none args) K) := .asArgs (f := fun ds K => K ds) fun ds => .ret ds
  obtain ⟨ds, h1, h2⟩ := hp _ h
  generalize hs : spec ds = r at h1
  rcases r with _ | ⟨p, v, bs⟩
  · exact h1.elim
  · exact ⟨_, _, h1.2, fun R' h' => (forceL_eq _ _).2 (h2 _ (by rw [hs]; exact ⟨h1.1, h'⟩))⟩

theorem Det.imm (ks : List PK) (spec : List V → Option (Prop × V × List Blk)) : Det (immC ks spec) := ⟨.imm ks spec, fun args H H2 v0 hle hv h => by
  have h := (forceL_eq _ _).1 h
  have hp : Point (fun K : List V → Prop => asArgs [] ks (yL none args) K) := .asArgs (f := fun ds K => K ds) fun ds => .ret ds
  obtain ⟨ds, h1, h2⟩ := hp _ h
  generalize hs : spec ds = r at h1
  rcases r with _ | ⟨p, v, bs⟩
  · exact h1.elim
  · exact (forceL_eq _ _).2 (h2 _ (by rw [hs]; exact ⟨h1.1, sh_mono hv h1.2⟩))⟩

/-- One more function that hands back what leads to what it got. -/
theorem Known.addI {z : List Nat} {P : Program} {tys : List (Nat × Ty)} {G : List (Nat × V)} {l : List (Nat × Con)} {q : List (Nat × SeqC)} (h : Known P (En l tys G q z)) {f : Nat} {fn : Func} (hf : P.funcs[f]? = some fn) (hent : ∀ args w, (callFunc f args).run P w = .ok (.enter f args) w)
    {ks : List PK} {spec : List V → Option (Prop × V × List Blk)} (ms : List Mode) (hb : ∀ ds p v bs, spec ds = some (p, v, bs) → p → bodyI (En l tys G q z) fn ms ds v bs) : Known P (En ((f, immC ks spec) :: l) tys G q z) where
  glob := h.glob
  noref := h.noref
  env := .cons (holds_imm h rfl hf hent ms hb) h.env
  det := fun k c hc => by
    simp only [lk] at hc
    cases hb : Nat.beq f k with
    | true =>
      rw [hb] at hc
      simp only [cond_true, Option.some.injEq] at hc
      subst hc
      exact .imm _ _
    | false =>
      rw [hb] at hc
      exact h.det k c hc
  mixed := h.mixed
end Go.Proofs.Ytgljcfnplkcfhaa.Vc

namespace Go.Proofs.Ytgljcfnplkcfhaa.Vc
open Go Go.RowKit

/-- A contract for arguments of a lesser measure. -/
def recS (μ : List V → Nat) (n : Nat) (spec : List V → Option (Prop × V × List Blk)) : List V → Option (Prop × V × List Blk) := fun d =>
  match spec d with
  | some (p, v, bs) => some (p ∧ μ d < n, v, bs)
  | none => none

/-- The contract for arguments of just this measure. -/
def recE (μ : List V → Nat) (n : Nat) (spec : List V → Option (Prop × V × List Blk)) : List V → Option (Prop × V × List Blk) := fun d => if μ d = n then spec d else none

/-- Both kinds of contract. -/
structure Kind where
  con : List PK → (List V → Option (Prop × V × List Blk)) → Con
  body : Env → Func → List Mode → List V → V → List Blk → Prop
  det : ∀ ks spec, Det (con ks spec)
  pt : ∀ ks args H (spec : List V → Option (Prop × V × List Blk)) R, con ks spec args H R → ∃ ds p v bs, spec ds = some (p, v, bs) ∧ p ∧ ∀ spec' : List V → Option (Prop × V × List Blk), (∃ p', spec' ds = some (p', v, bs) ∧ p') → con ks spec' args H R
  holds : ∀ {E : Env} {P : Program}, Known P E → E.yl = none → ∀ {f : FuncId} {fn : Func}, P.funcs[f]? = some fn → (∀ args w, (callFunc f args).run P w = .ok (.enter f args) w) →
    ∀ {ks : List PK} {spec : List V → Option (Prop × V × List Blk)} (ms : List Mode), (∀ ds p v bs, spec ds = some (p, v, bs) → p → body E fn ms ds v bs) → Holds P E.glob f (con ks spec)

def kPure : Kind where
  con := pureC
  body := bodyP
  det := .pure
  pt ks args H spec R h := by
    have hp : Point (fun K : List V → Prop => asArgs H ks args K) := .asArgs (f := fun ds K => K ds) fun ds => .ret ds
    obtain ⟨ds, h1, h2⟩ := hp _ h
    generalize hs : spec ds = r at h1
    rcases r with _ | ⟨p, v, bs⟩
    · exact h1.elim
    · exact ⟨ds, p, v, bs, hs, h1.1, fun spec' ⟨p', e, hp'⟩ => h2 _ (by rw [e]; exact ⟨hp', h1.2⟩)⟩
  holds := by intro E P hk hyl f fn hf hent ks spec ms h; exact holds_pure hk hyl hf hent ms h

def kImm : Kind where
  con := immC
  body := bodyI
  det := .imm
  pt ks args H spec R h := by
    have h := (forceL_eq _ _).1 h
    have hp : Point (fun K : List V → Prop => asArgs [] ks (yL none args) K) := .asArgs (f := fun ds K => K ds) fun ds => .ret ds
    obtain ⟨ds, h1, h2⟩ := hp _ h
    generalize hs : spec ds = r at h1
    rcases r with _ | ⟨p, v, bs⟩
    · exact h1.elim
    · exact ⟨ds, p, v, bs, hs, h1.1, fun spec' ⟨p', e, hp'⟩ => (forceL_eq _ _).2 (h2 _ (by rw [e]; exact ⟨hp', h1.2⟩))⟩
  holds := by intro E P hk hyl f fn hf hent ks spec ms h; exact holds_imm hk hyl hf hent ms h

theorem Known.cons {z : List Nat} {P : Program} {tys : List (Nat × Ty)} {G : List (Nat × V)} {l : List (Nat × Con)} {q : List (Nat × SeqC)} (h : Known P (En l tys G q z)) {f : Nat} {c : Con} (hc : Holds P G f c) (hd : Det c) : Known P (En ((f, c) :: l) tys G q z) where
  glob := h.glob
  noref := h.noref
  env := .cons hc h.env
  det := fun k c' hc' => by
    simp only [lk] at hc'
    cases hb : Nat.beq f k with
    | true =>
      rw [hb] at hc'
      simp only [cond_true, Option.some.injEq] at hc'
      subst hc'
      exact hd
    | false =>
      rw [hb] at hc'
      exact h.det k c' hc'
  mixed := h.mixed

theorem Known.addRecK (k : Kind) {z : List Nat} {P : Program} {tys : List (Nat × Ty)} {G : List (Nat × V)} {l : List (Nat × Con)} {q : List (Nat × SeqC)} (h : Known P (En l tys G q z)) {f : Nat} {fn : Func} (hf : P.funcs[f]? = some fn) (hent : ∀ args w, (callFunc f args).run P w = .ok (.enter f args) w)
    {ks : List PK} {spec : List V → Option (Prop × V × List Blk)} (ms : List Mode) (μ : List V → Nat)
    (hb : ∀ ds p v bs, spec ds = some (p, v, bs) → p → k.body (En ((f, k.con ks (recS μ (μ ds) spec)) :: l) tys G q z) fn ms ds v bs) : Known P (En ((f, k.con ks spec) :: l) tys G q z) := by
  have key : ∀ n, Holds P G f (k.con ks (recS μ n spec)) := by
    intro n
    induction n using Nat.strongRecOn with
    | _ n ih =>
      refine ⟨hent, fun base w0 c H w args vs hst hv R hc => ?_⟩
      obtain ⟨ds, p, v, bs, hs, hp, hto⟩ := k.pt ks args H _ R hc
      unfold recS at hs
      cases hsd : spec ds with
      | none => rw [hsd] at hs; cases hs
      | some r =>
        obtain ⟨p1, v1, bs1⟩ := r
        rw [hsd] at hs
        simp only [Option.some.injEq, Prod.mk.injEq] at hs
        obtain ⟨rfl, rfl, rfl⟩ := hs
        have hkn : Known P (En ((f, k.con ks (recS μ (μ ds) spec)) :: l) tys G q z) := h.cons (ih (μ ds) hp.2) (k.det _ _)
        have hh : Holds P G f (k.con ks (recE μ (μ ds) spec)) := k.holds hkn rfl hf hent ms fun ds' p' v' bs' hs' hp' => by
          unfold recE at hs'
          split at hs'
          · rename_i e
            rw [← e]
            exact hb ds' p' v' bs' hs' hp'
          · cases hs'
        exact hh.2 base w0 c H w args vs hst hv R (hto _ ⟨p1, by unfold recE; rw [if_pos rfl]; exact hsd, hp.1⟩)
  refine h.cons ⟨hent, fun base w0 c H w args vs hst hv R hc => ?_⟩ (k.det _ _)
  obtain ⟨ds, p, v, bs, hs, hp, hto⟩ := k.pt ks args H _ R hc
  exact (key (μ ds + 1)).2 base w0 c H w args vs hst hv R (hto _ ⟨p ∧ μ ds < μ ds + 1, by unfold recS; rw [hs], hp, by omega⟩)

theorem Known.addRec {z : List Nat} {P : Program} {tys : List (Nat × Ty)} {G : List (Nat × V)} {l : List (Nat × Con)} {q : List (Nat × SeqC)} (h : Known P (En l tys G q z)) {f : Nat} {fn : Func} (hf : P.funcs[f]? = some fn) (hent : ∀ args w, (callFunc f args).run P w = .ok (.enter f args) w)
    {ks : List PK} {spec : List V → Option (Prop × V × List Blk)} (ms : List Mode) (μ : List V → Nat)
    (hb : ∀ ds p v bs, spec ds = some (p, v, bs) → p → bodyP (En ((f, pureC ks (recS μ (μ ds) spec)) :: l) tys G q z) fn ms ds v bs) : Known P (En ((f, pureC ks spec) :: l) tys G q z) := Known.addRecK kPure h hf hent ms μ hb

theorem Known.addRecI {z : List Nat} {P : Program} {tys : List (Nat × Ty)} {G : List (Nat × V)} {l : List (Nat × Con)} {q : List (Nat × SeqC)} (h : Known P (En l tys G q z)) {f : Nat} {fn : Func} (hf : P.funcs[f]? = some fn) (hent : ∀ args w, (callFunc f args).run P w = .ok (.enter f args) w)
    {ks : List PK} {spec : List V → Option (Prop × V × List Blk)} (ms : List Mode) (μ : List V → Nat)
    (hb : ∀ ds p v bs, spec ds = some (p, v, bs) → p → bodyI (En ((f, immC ks (recS μ (μ ds) spec)) :: l) tys G q z) fn ms ds v bs) : Known P (En ((f, immC ks spec) :: l) tys G q z) := Known.addRecK kImm h hf hent ms μ hb
end Go.Proofs.Ytgljcfnplkcfhaa.Vc

namespace Go.Proofs.Ytgljcfnplkcfhaa.Vc
open Go

def bodyOf (fn : Func) : Code := match fn.body with | some c => c | none => .skip
def cfs : Code → Code | .seq x _ => x | c => c
def csd : Code → Code | .seq _ y => y | c => c
def csc : Code → Code | .scope x => x | c => c
def ccx : Code → Code | .cond _ x _ => x | c => c
def ccy : Code → Code | .cond _ _ y => y | c => c
def qs (E : Env) (d : Code) (Q : Ex → List V → List Blk → Prop) : Ex → List V → List Blk → Prop := fun e σ H => match e with
  | .normal => awp E d Q σ H
  | .exit i => Q (.exit i) σ H
  | .ret => Q .ret σ H
def postP (E : Env) (fn : Func) (ms : List Mode) (v : V) (bs : List Blk) : Ex → List V → List Blk → Prop := fun e σ H => match e with
  | .exit _ => False
  | .normal => resultsK E fn σ H fun v' => retK ms v' H fun v' H' => (v'.fresh && freshH H') = true ∧ v' = v ∧ H' = bs
  | .ret => resultsK E fn σ H fun v' => retK ms v' H fun v' H' => (v'.fresh && freshH H') = true ∧ v' = v ∧ H' = bs
end Go.Proofs.Ytgljcfnplkcfhaa.Vc

namespace Go.Proofs.Ytgljcfnplkcfhaa.Vc
open Go Go.RowKit Go.WideShapes

/-- A type, down to its parts. -/
def Deep (P : Program) : Ty → TypeId ⊕ (List Field × Nat) → Prop
  | .u8, .inl T => P.underlying T = some (.int .u8)
  | .int k, .inl T => P.underlying T = some (.int k)
  | .bool, .inl T => P.underlying T = some .bool
  | .str, .inl T => P.underlying T = some .string
  | .sl t, .inl T => ∃ e, P.underlying T = some (.slice e) ∧ P.cellsOf e = t.size ∧ 0 < t.size ∧ Deep P t (.inl e)
  | .arr n t, .inl T => ∃ e, P.underlying T = some (.array n e) ∧ P.cellsOf T = n * t.size ∧ P.cellsOf e = t.size ∧ Deep P t (.inl e)
  | .cons t ts, .inl T => ∃ fs f fs', P.underlying T = some (.struct fs) ∧ fs.toList = f :: fs' ∧ P.cellsOf T = t.size + ts.size ∧ f.offset = 0 ∧ P.cellsOf f.type = t.size ∧ Deep P t (.inl f.type) ∧ Deep P ts (.inr (fs', t.size))
  | .cons t ts, .inr (f :: fs, o) => f.offset = o ∧ P.cellsOf f.type = t.size ∧ Deep P t (.inl f.type) ∧ Deep P ts (.inr (fs, o + t.size))
  | .nil, .inr ([], _) => True
  | _, _ => False

/-- How much there is in it. -/
def wt : (t : Ty) → t.D → Nat
  | .str, s => s.length + 1
  | .sl t, xs => (xs.map (wt t)).sum + 1
  | .cons t ts, x => wt t x.1 + wt ts x.2
  | .arr _ t, xs => (xs.map (wt t)).sum
  | .nil, _ => 0
  | _, _ => 1

/-- Every number fits its kind. -/
def WfD : (t : Ty) → t.D → Prop
  | .int k, n => k.min ≤ n ∧ n ≤ k.max
  | .sl t, xs => ∀ x ∈ (xs : List t.D), WfD t x
  | .arr n t, xs => (xs : List t.D).length = n ∧ ∀ x ∈ (xs : List t.D), WfD t x
  | .cons t ts, x => WfD t x.1 ∧ WfD ts x.2
  | _, _ => True
theorem DRel.wf {w : World} {M : Nat → Prop} : ∀ (t : Ty) (x : t.D) (cs : List Value), DRel w M t x cs → WfD t x
  | .u8, _, _, _ => trivial
  | .int _, _, _, h => h.2
  | .bool, _, _, _ => trivial
  | .str, _, _, _ => trivial
  | .nil, _, _, _ => trivial
  | .sl t, xs, cs, h => fun x hx => by
    obtain ⟨a, cap, _, _, _, h4⟩ := h
    obtain ⟨i, hi, rfl⟩ := List.mem_iff_getElem.1 hx
    obtain ⟨g, o, _, _, h5⟩ := h4 (List.ne_nil_of_mem hx)
    obtain ⟨es, he, _⟩ := h5 i _ (List.getElem?_eq_getElem hi)
    exact DRel.wf t _ es he
  | .arr n t, xs, cs, h => ⟨h.1, fun x hx => by
    obtain ⟨h0, ess, h1, h2, h3⟩ := h
    obtain ⟨i, hi, rfl⟩ := List.mem_iff_getElem.1 hx
    exact DRel.wf t _ _ (h3 i _ _ (List.getElem?_eq_getElem hi) (List.getElem?_eq_getElem (by omega)))⟩
  | .cons t ts, x, cs, h => by
    obtain ⟨c1, c2, _, h1, h2⟩ := h
    exact ⟨DRel.wf t _ _ h1, DRel.wf ts _ _ h2⟩
theorem wt_bytes (xs : List UInt8) : wt (.sl .u8) xs = xs.length + 1 := by
  show (xs.map fun _ => 1).sum + 1 = _
  induction xs with
  | nil => rfl
  | cons x xs ih => simp only [List.map_cons, List.sum_cons, List.length_cons]; omega
theorem wt_ints (k : IntKind) (xs : List Int) : wt (.sl (.int k)) xs = xs.length + 1 := by
  show (xs.map fun _ => 1).sum + 1 = _
  induction xs with
  | nil => rfl
  | cons x xs ih => simp only [List.map_cons, List.sum_cons, List.length_cons]; omega
structure Bulk {H : Type} (bk : DataW H → Nat) : Prop where
  one : ∀ d, 1 ≤ bk d
  str : ∀ b, b.length + 1 ≤ bk (.lit (.string b))
  sl : ∀ es sp, (es.map bk).sum + 1 ≤ bk (.slice es sp)
  agg : ∀ ps, (ps.map bk).sum ≤ bk (.agg ps)

theorem pick_list {α : Type} {Q : Nat → α → Prop} : ∀ {n : Nat}, (∀ i, i < n → ∃ x, Q i x) → ∃ xs : List α, xs.length = n ∧ ∀ i x, xs[i]? = some x → Q i x
  | 0, _ => ⟨[], rfl, fun i x h => by simp at h⟩
  | n + 1, h => by
    obtain ⟨xs, h1, h2⟩ := pick_list (Q := fun i => Q i) (n := n) fun i hi => h i (by omega)
    obtain ⟨y, hy⟩ := h n (by omega)
    refine ⟨xs ++ [y], by simp [h1], fun i x hx => ?_⟩
    rcases Nat.lt_or_ge i n with g | g
    · rw [List.getElem?_append_left (by omega)] at hx
      exact h2 i x hx
    · by_cases e : i = n
      · subst e
        rw [List.getElem?_append_right (by omega), h1, Nat.sub_self] at hx
        simp at hx
        subst hx
        exact hy
      · rw [List.getElem?_eq_none (by simp [h1]; omega)] at hx
        cases hx
theorem sum_le {α β : Type} (f : α → Nat) (g : β → Nat) : ∀ (xs : List α) (ys : List β), xs.length = ys.length → (∀ (i : Nat) (x : α) (y : β), xs[i]? = some x → ys[i]? = some y → f x ≤ g y) → (xs.map f).sum ≤ (ys.map g).sum
  | [], [], _, _ => Nat.le_refl _
  | x :: xs, y :: ys, hl, h => by
    have h0 := h 0 x y rfl rfl
    have := sum_le f g xs ys (by simpa using hl) fun i a b ha hb => h (i + 1) a b ha hb
    simp only [List.map_cons, List.sum_cons]
    omega
  | [], _ :: _, hl, _ => by simp at hl
  | _ :: _, [], hl, _ => by simp at hl

section
variable {H : Type} {enc : TypeId × Value → H} {P : Program} {w : World} {sp : Nat → Bool} {held : Bool} {bk : DataW H → Nat}

def Inh (w : World) (g : Nat) : Prop := g < w.heap.size

theorem cells_at {a : Addr} {n : Nat} {es : List Value} (h : w.cells? 0 a n = some es) : es.length = n ∧ ∀ j v, es[j]? = some v → w.cell? (a.add j) = some v := by
  obtain ⟨_, hl, hc⟩ := World.cells?_some h
  refine ⟨hl, fun j v hj => ?_⟩
  have hjn : j < n := by
    rcases Nat.lt_or_ge j es.length with g | g
    · omega
    · rw [List.getElem?_eq_none g] at hj; cases hj
  have := hc j hjn
  rw [hj] at this
  exact this
theorem add_none {a : Addr} (h : a.spot = none) (n : Nat) : a.add n = ⟨a.block, a.off + n, none⟩ := by
  unfold Addr.add
  split
  · rename_i h0
    subst h0
    cases a; simp at h; subst h; rfl
  · rfl
theorem add_zero (a : Addr) : a.add 0 = a := by simp [Addr.add]
theorem spot_none {a : Addr} {v : Value} (h : w.cell? a = some v) : a.spot = none ∧ a.block < w.heap.size := by
  unfold World.cell? at h
  split at h
  · rename_i c _ _ hh
    cases hs : a.spot with
    | none => exact ⟨rfl, (Array.getElem?_eq_some_iff.1 hh).1⟩
    | some s => rw [hs] at h; simp at h
  · cases h

/-- The fields of a struct, read one by one. -/
def FieldsRead (enc : TypeId × Value → H) (P : Program) (w : World) (sp : Nat → Bool) (held : Bool) (n : Nat) (fs : List Field) (cs : List Value) (xs : List (DataW H × List MemPlace)) : Prop :=
  xs.length = fs.length ∧ ∀ (i : Nat) (f : Field), fs[i]? = some f → DataW.trod enc P w 0 sp held n f.type ((cs.drop f.offset).take (P.cellsOf f.type)) = xs[i]?

theorem read_ok (hb : Bulk bk) : ∀ (t : Ty) (s : TypeId ⊕ (List Field × Nat)), Deep P t s → (match s with
    | .inl T => ∀ fuel cs d ps, DataW.trod enc P w 0 sp held fuel T cs = some (d, ps) → ∃ x : t.D, DRel w (Inh w) t x cs ∧ wt t x ≤ bk d
    | .inr (fs, o) => ∀ n cs xs, FieldsRead enc P w sp held n fs cs xs → cs.length = o + t.size → ∃ x : t.D, DRel w (Inh w) t x (cs.drop o) ∧ wt t x ≤ (xs.map fun y => bk y.1).sum)
  | .u8, .inl T, h => fun fuel cs d ps hd => by
    obtain ⟨n, rfl, hx, hw⟩ := DataW.trod_int h hd
    have hn : 0 ≤ n ∧ n ≤ 255 := by
      simp [Lit.wf, IntKind.min, IntKind.max, IntKind.signed, IntKind.bits] at hw
      omega
    refine ⟨UInt8.ofNat n.toNat, ?_, hb.one _⟩
    show [Value.int .u8 n] = [.int .u8 ((UInt8.ofNat n.toNat).toNat : Int)]
    rw [UInt8.toNat_ofNat_of_lt' (by show n.toNat < 256; omega)]
    congr 2
    omega
  | .int k, .inl T, h => fun fuel cs d ps hd => by
    obtain ⟨n, rfl, hx, hw⟩ := DataW.trod_int h hd
    refine ⟨n, ⟨rfl, ?_⟩, hb.one _⟩
    simpa [Lit.wf] using hw
  | .bool, .inl T, h => fun fuel cs d ps hd => by
    obtain ⟨b, rfl, hx⟩ := DataW.trod_bool h hd
    exact ⟨b, rfl, hb.one _⟩
  | .str, .inl T, h => fun fuel cs d ps hd => by
    obtain ⟨s, rfl, hx, hs⟩ := DataW.trod_string h hd
    obtain ⟨rfl, rfl⟩ := Prod.mk.inj hx
    exact ⟨s.data.toList, ⟨rfl, hs⟩, hb.str _⟩
  | .sl t, .inl T, h => fun fuel cs d ps hd => by
    obtain ⟨e, hu, hce, hpos, hdeep⟩ := h
    rcases DataW.trod_slice hu hd with ⟨rfl, hx⟩ | ⟨a, len, cap, elems, rest, n, rfl, rfl, hx, _, h2, h3, h4, h5, _⟩
    · exact ⟨[], ⟨none, 0, rfl, Nat.le_refl _, Nat.zero_le _, fun h => absurd rfl h⟩, hb.one _⟩
    · obtain ⟨rfl, _⟩ := Prod.mk.inj hx
      have key : ∀ i, i < len → ∃ x : t.D, (∃ es, DRel w (Inh w) t x es ∧ es.length = t.size ∧ (∀ j v, es[j]? = some v → w.cell? ((a.add (i * t.size)).add j) = some v)) ∧ ∃ y, elems[i]? = some y ∧ wt t x ≤ bk y.1 := fun i hi => by
        have h6 := h5 i hi
        obtain ⟨y, hy⟩ : ∃ y, elems[i]? = some y := ⟨_, List.getElem?_eq_getElem (by omega)⟩
        rw [hy, Option.bind_eq_some_iff] at h6
        obtain ⟨es, he, ht⟩ := h6
        obtain ⟨x, h7, h8⟩ := read_ok hb t (.inl e) hdeep n es y.1 y.2 ht
        rw [hce] at he
        obtain ⟨hl, hc⟩ := cells_at he
        exact ⟨x, ⟨es, h7, hl, fun j v hj => hc j v hj⟩, y, hy, h8⟩
      obtain ⟨xs, hl, hxs⟩ := pick_list key
      refine ⟨xs, ⟨some a, cap, by rw [hl], by omega, h3, fun hne => ?_⟩, ?_⟩
      · have h0 : 0 < xs.length := List.length_pos_iff.2 hne
        obtain ⟨⟨es, _, hel, hcell⟩, _⟩ := hxs 0 xs[0] (List.getElem?_eq_getElem h0)
        have hs := hcell 0 es[0] (List.getElem?_eq_getElem (by omega))
        rw [Nat.zero_mul, add_zero, add_zero] at hs
        have hs := spot_none hs
        refine ⟨a.block, a.off, ?_, hs.2, fun i x hi => ?_⟩
        · have hsp : a.spot = none := hs.1
          cases a; simp at hsp; subst hsp; rfl
        · obtain ⟨⟨es, h1, _, hcell⟩, _⟩ := hxs i x hi
          have hsp : a.spot = none := hs.1
          exact ⟨es, h1, fun j v hj => by have := hcell j v hj; rwa [add_none hsp, add_none rfl] at this⟩
      · show (xs.map (wt t)).sum + 1 ≤ _
        have := sum_le (wt t) (fun y : DataW H × List MemPlace => bk y.1) xs elems (by omega) fun i x y hx hy => by
          obtain ⟨_, y', hy', hw⟩ := hxs i x hx
          rw [hy] at hy'; cases hy'; exact hw
        have h6 := hb.sl (elems.map (·.1)) (rest.map (·.1))
        rw [List.map_map] at h6
        exact Nat.le_trans (Nat.succ_le_succ this) h6
  | .arr n t, .inl T, h => fun fuel cs d ps hd => by
    obtain ⟨e, hu, hcT, hce, hdeep⟩ := h
    obtain ⟨ys, m, rfl, hx, hcl, hyl, hel⟩ := DataW.trod_array hu hd
    obtain ⟨rfl, _⟩ := Prod.mk.inj hx
    have key : ∀ i, i < n → ∃ x : t.D, DRel w (Inh w) t x ((cs.drop (i * t.size)).take t.size) ∧ ∃ y, ys[i]? = some y ∧ wt t x ≤ bk y.1 := fun i hi => by
      have h6 := hel i hi
      obtain ⟨y, hy⟩ : ∃ y, ys[i]? = some y := ⟨_, List.getElem?_eq_getElem (by omega)⟩
      rw [hy, hce] at h6
      obtain ⟨x, h7, h8⟩ := read_ok hb t (.inl e) hdeep m _ y.1 y.2 h6
      exact ⟨x, h7, y, hy, h8⟩
    obtain ⟨xs, hl, hxs⟩ := pick_list key
    refine ⟨xs, ⟨hl, (List.range n).map fun i => (cs.drop (i * t.size)).take t.size, ?_, by simp, fun i x es hi he => ?_⟩, ?_⟩
    · have hcut : ∀ (n : Nat) (cs : List Value), cs.length = n * t.size → cs = ((List.range n).map fun i => (cs.drop (i * t.size)).take t.size).flatten := fun n => by
        induction n with
        | zero => intro cs h; simpa using h
        | succ n ih =>
          intro cs h
          rw [Nat.succ_mul] at h
          have h1 := ih (cs.drop t.size) (by rw [List.length_drop]; omega)
          rw [List.range_succ_eq_map, List.map_cons, List.flatten_cons, List.map_map]
          have e : ((fun i => List.take t.size (List.drop (i * t.size) cs)) ∘ Nat.succ) = fun i => List.take t.size (List.drop (i * t.size) (cs.drop t.size)) := by
            funext i
            simp only [Function.comp, List.drop_drop]
            congr 2
            rw [Nat.succ_mul, Nat.add_comm]
          rw [e, ← h1]
          simp
      exact hcut n cs (by rw [hcl, hcT])
    · rw [List.getElem?_map] at he
      have hin : i < n := by
        rcases Nat.lt_or_ge i xs.length with g | g
        · omega
        · rw [List.getElem?_eq_none g] at hi; cases hi
      rw [List.getElem?_range hin] at he
      simp only [Option.map_some, Option.some.injEq] at he
      subst he
      exact (hxs i x hi).1
    · show (xs.map (wt t)).sum ≤ _
      have := sum_le (wt t) (fun y : DataW H × List MemPlace => bk y.1) xs ys (by omega) fun i x y hx hy => by
        obtain ⟨_, y', hy', hw⟩ := hxs i x hx
        rw [hy] at hy'; cases hy'; exact hw
      have h6 := hb.agg (ys.map (·.1))
      rw [List.map_map] at h6
      exact Nat.le_trans this h6
  | .cons t ts, .inl T, h => fun fuel cs d ps hd => by
    obtain ⟨fs, f, fs', hu, hfs, hcT, hf0, hcf, hd1, hd2⟩ := h
    obtain ⟨ys, m, rfl, hx, hcl, hyl, hel⟩ := DataW.trod_struct hu hd
    obtain ⟨rfl, _⟩ := Prod.mk.inj hx
    have hread : ∀ (i : Nat) (g : Field), (f :: fs')[i]? = some g → DataW.trod enc P w 0 sp held m g.type ((cs.drop g.offset).take (P.cellsOf g.type)) = ys[i]? := fun i g hg => by
      rw [← hfs] at hg
      exact hel i g (by simpa using hg)
    cases ys with
    | nil =>
      have : fs.size = (f :: fs').length := by rw [← hfs]; simp
      simp [this] at hyl
    | cons y ys =>
      have h0 := hread 0 f rfl
      rw [hf0, hcf] at h0
      obtain ⟨x, hx1, hx2⟩ := read_ok hb t (.inl f.type) hd1 m _ y.1 y.2 h0
      obtain ⟨x', hy1, hy2⟩ := read_ok hb ts (.inr (fs', t.size)) hd2 m cs ys ⟨by
        have : fs.size = (f :: fs').length := by rw [← hfs]; simp
        rw [this] at hyl; simpa using hyl, fun i g hg => hread (i + 1) g hg⟩ (by rw [hcl, hcT])
      refine ⟨(x, x'), ⟨cs.take t.size, cs.drop t.size, (List.take_append_drop _ _).symm, hx1, hy1⟩, ?_⟩
      show wt t x + wt ts x' ≤ _
      have h6 := hb.agg ((y :: ys).map (·.1))
      rw [List.map_map] at h6
      refine Nat.le_trans ?_ h6
      simp only [List.map_cons, List.sum_cons, Function.comp]
      exact Nat.add_le_add hx2 hy2
  | .cons t ts, .inr (f :: fs, o), h => fun n cs xs hr hl => by
    obtain ⟨hf0, hcf, hd1, hd2⟩ := h
    obtain ⟨h1, h2⟩ := hr
    cases xs with
    | nil => simp at h1
    | cons y ys =>
      have h0 := h2 0 f rfl
      rw [hf0, hcf] at h0
      obtain ⟨x, hx1, hx2⟩ := read_ok hb t (.inl f.type) hd1 n _ y.1 y.2 h0
      obtain ⟨x', hy1, hy2⟩ := read_ok hb ts (.inr (fs, o + t.size)) hd2 n cs ys ⟨by simpa using h1, fun i g hg => h2 (i + 1) g hg⟩ (by rw [hl]; show o + (t.size + ts.size) = _; omega)
      refine ⟨(x, x'), ⟨(cs.drop o).take t.size, (cs.drop o).drop t.size, (List.take_append_drop _ _).symm, hx1, ?_⟩, ?_⟩
      · rw [List.drop_drop]; exact hy1
      · show wt t x + wt ts x' ≤ _
        simp only [List.map_cons, List.sum_cons]
        exact Nat.add_le_add hx2 hy2
  | .nil, .inr ([], o), h => fun n cs xs hr hl => by
    refine ⟨(), ?_, Nat.zero_le _⟩
    show cs.drop o = []
    exact List.drop_eq_nil_of_le (by rw [hl]; exact Nat.le_refl _)
  | .cons _ _, .inr ([], _), h => h.elim
  | .nil, .inl _, h => h.elim
  | .nil, .inr (_ :: _, _), h => h.elim
  | .u8, .inr _, h => h.elim
  | .int _, .inr _, h => h.elim
  | .bool, .inr _, h => h.elim
  | .str, .inr _, h => h.elim
  | .sl _, .inr _, h => h.elim
  | .arr _ _, .inr _, h => h.elim

/-- All that came in stays as it is. -/
abbrev c0 (w : World) : Cx := Cx.of (Inh w) ⟨[], none, 0⟩
theorem st0 {G : List (Nat × V)} (hg : ∀ g x, lk G g = some x → VRel (c0 w) [] w x (.pointer (some ⟨g, 0, none⟩))) : St G w.heap.size (W0.all w) (c0 w) [] w where
  below := .refl _ _
  xk :=
    { keep := fun g o h => by cases h
      siz := fun g n h => by cases h
      cnt := trivial
      gh := rfl
      l := rfl
      dis := fun _ _ h => h
      xb := fun _ h => h.elim
      mks := fun _ h => h.elim
      gi := fun _ => rfl }
  size := Nat.le_refl _
  blk _ := trivial
  inj _ _ _ h := by cases h
  own _ _ h := by cases h
  imm _ h := h
  sub _ h := h.elim
  glob := hg

theorem arg_ok (hb : Bulk bk) {t : Ty} {T : TypeId} {v : Value} {d : DataW H} {ps : List MemPlace} {r : Reach} {b : Nat} (hd : Deep P t (.inl T)) (hval : Value.okWide P w r b T v) (h : DataW.Trod enc P w 0 sp held T v d ps) :
    ∃ x : t.D, VRel (c0 w) [] w (dV t x) v ∧ wt t x ≤ bk d ∧ WfD t x := by
  obtain ⟨fuel, hf⟩ := h
  obtain ⟨x, hx, hw⟩ := read_ok hb t (.inl T) hd fuel _ d ps hf
  refine ⟨x, ?_, hw, DRel.wf _ _ _ hx⟩
  cases t with
  | u8 =>
    obtain ⟨n, rfl⟩ := okWide_int hd hval
    have hx : [Value.int .u8 n] = [.int .u8 (x.toNat : Int)] := hx
    simp only [List.cons.injEq, Value.int.injEq, true_and, and_true] at hx
    subst hx
    exact .u8 x
  | int k =>
    obtain ⟨n, rfl⟩ := okWide_int hd hval
    obtain ⟨hx, h1, h2⟩ := hx
    have hx : [Value.int k n] = [.int k x] := hx
    simp only [List.cons.injEq, Value.int.injEq, true_and, and_true] at hx
    subst hx
    exact .int k _ h1 h2
  | bool =>
    obtain ⟨n, rfl⟩ := okWide_bool hd hval
    have hx : [Value.bool n] = [.bool x] := hx
    simp only [List.cons.injEq, Value.bool.injEq, and_true] at hx
    subst hx
    exact .b _ _ Iff.rfl
  | str =>
    obtain ⟨s, rfl⟩ := okWide_string hd hval
    obtain ⟨hx, h1⟩ := hx
    have hx : [Value.string s] = [.string ⟨x.toArray⟩] := hx
    simp only [List.cons.injEq, Value.string.injEq, and_true] at hx
    subst hx
    exact .str x h1
  | sl t =>
    obtain ⟨e, hu, _⟩ := hd
    obtain ⟨a, len, cap, rfl⟩ := okWide_slice hu hval
    exact .sl false t x _ hx
  | nil => exact hd.elim
  | arr n t =>
    obtain ⟨e, hu, _⟩ := hd
    unfold Value.okWide at hval
    rw [hu] at hval
    obtain ⟨cs, rfl, hsz, _⟩ := hval
    have := VRel.dat (c := c0 w) (H := []) (w := w) false (.arr n t) x _ hx
    exact id (α := VRel (c0 w) [] w (.dat false (.arr n t) x) (.agg cs)) (by simpa [Value.cells] using this)
  | cons t ts =>
    obtain ⟨fs, f, fs', hu, _⟩ := hd
    obtain ⟨cs, rfl, hsz⟩ := okWide_struct hu hval
    have hl := DRel.length _ _ _ hx
    have := getCells_ok (c := c0 w) (H := []) (fr := false) hx (Ty.cons t ts).size 0 (by rw [Nat.zero_add, hl]; exact Nat.le_refl _)
    rw [List.drop_zero, List.take_of_length_le (by rw [hl]; exact Nat.le_refl _)] at this
    have := VRel.agg _ _ this
    exact id (α := VRel (c0 w) [] w (.agg (getCells false _ x 0 _)) (.agg cs)) (by simpa [Value.cells] using this)

/-- A law whose body comes to true, called. -/
theorem law_ok {E : Env} {f : FuncId} {fn : Func} {args : List V} {vs : List Value} (hk : Known P E) (hyl : E.yl = none) (hf : P.funcs[f]? = some fn) (hV : VRels (c0 w) [] w args vs)
    (hg : ∀ g x, lk E.glob g = some x → VRel (c0 w) [] w x (.pointer (some ⟨g, 0, none⟩))) (hb : bodyP E fn [.k] args (.b True) []) :
    Calls P f vs.toArray w fun e w' => e = .returned (.bool true) ∧ Below w.heap.size w w' := by
  refine (body_ok hk hyl (fun _ _ _ => trivial) rfl (fun _ h => h) hf (st0 hg) hV hb).mono ?_
  rintro e w' ⟨x, v, H', c', rfl, hq, hx, hst⟩
  obtain ⟨c2, v2, H2, ⟨_, rfl, _⟩, hst2, hx2⟩ := retK_ok hk.glob hk.noref hst hx hq
  cases hx2 with | b _ y hy =>
  have : y = true := hy.2 trivial
  subst this
  exact ⟨rfl, hst.below⟩

/-- A table of bytes at a package's variable. -/
theorem tab_ok {g : Nat} {zs : List UInt8} (hsz : g < w.heap.size) (h : ∀ i, i < zs.length → w.cell? ⟨g, i, none⟩ = some (.int .u8 ((zs.getD i 0).toNat : Int))) {n : Nat} (hn : zs.length = n) : VRel (c0 w) [] w (.rp false (.arr n .u8) zs 0) (.pointer (some ⟨g, 0, none⟩)) := by
  refine .rp false (.arr n .u8) zs 0 g 0 (zs.map fun z => .int .u8 (z.toNat : Int)) hsz ⟨hn, zs.map fun z => [.int .u8 (z.toNat : Int)], ?_, by simp [hn], fun i x es hi he => ?_⟩ fun j v hj => ?_
  · clear h hn
    induction zs with
    | nil => rfl
    | cons z zs ih => simp only [List.map_cons, List.flatten_cons, ← ih]; rfl
  · rw [List.getElem?_map, hi] at he
    simp only [Option.map_some, Option.some.injEq] at he
    exact he.symm
  · rw [List.getElem?_map] at hj
    rcases Nat.lt_or_ge j zs.length with g1 | g1
    · rw [List.getElem?_eq_getElem g1] at hj
      simp only [Option.map_some, Option.some.injEq] at hj
      have := h j g1
      rw [List.getD_eq_getElem?_getD, List.getElem?_eq_getElem g1, Option.getD_some, hj] at this
      rwa [Nat.zero_add]
    · rw [List.getElem?_eq_none g1] at hj; cases hj
end
end Go.Proofs.Ytgljcfnplkcfhaa.Vc

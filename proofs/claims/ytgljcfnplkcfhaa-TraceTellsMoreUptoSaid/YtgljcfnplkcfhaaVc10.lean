/- Texts of this claim: Vc.ZH, Vc.ZC. -/
import Derived.Test.YtgljcfnplkcfhaaVc9
import Derived.Carry
import Derived.OpenShut
import Derived.ChangeArms
import Derived.Lib.LaidTab
set_option linter.unusedVariables false
set_option linter.unusedSimpArgs false
namespace Go.Proofs.Ytgljcfnplkcfhaa.Vc
open Go Go.RowKit

section
variable {c c' : Cx} {H H' : List Blk} {w w' : World}
theorem VRel.ptr_inv {id z i o : Nat} {v : Value} (h : VRel c H w (.ptr id z i o) v) : ∃ g m, shape H id = some (m, z) ∧ c.ρ id = some g ∧ i < m ∧ o < z ∧ v = .pointer (some ⟨g, c.β id + (i * z + o), none⟩) := by
  cases h with | ptr _ _ _ _ g m h1 h2 h3 h4 => exact ⟨g, m, h1, h2, h3, h4, rfl⟩
theorem VRel.own_inv {t : Ty} {id : Nat} {v : Value} (h : VRel c H w (.own t id) v) : ∃ n a cap, shape H id = some (n, t.size) ∧ n ≤ cap ∧ cap ≤ maxLen ∧ (cap = 0 ∨ OwnAt c w id t.size 0 a cap) ∧ v = .slice a n cap := by
  cases h with | own _ _ n a cap h1 h2 h3 h4 => exact ⟨n, a, cap, h1, h2, h3, h4, rfl⟩
theorem VRel.fn_inv {f : Nat} {cs : List V} {v : Value} (h : VRel c H w (.fn f cs) v) : ∃ vs, VRels c H w cs vs ∧ v = .func (.func f) #[] vs.toArray := by
  cases h with | fn _ _ vs h => exact ⟨vs, h, rfl⟩
theorem VRel.tup0_inv {v : Value} (h : VRel c H w (.tup []) v) : v = .tuple #[] := by
  cases h with | tup _ vs h => cases h; rfl
theorem VRels.cons_inv {x : V} {xs : List V} {vs : List Value} (h : VRels c H w (x :: xs) vs) : ∃ v us, vs = v :: us ∧ VRel c H w x v ∧ VRels c H w xs us := by
  cases h with | cons _ v _ us h1 h2 => exact ⟨v, us, rfl, h1, h2⟩
theorem VRels.nil_inv {vs : List Value} (h : VRels c H w [] vs) : vs = [] := by cases h; rfl
theorem VRel.fnrp {g : Nat} {T : Ty} {x : T.D} {v : Value} (hM : ∀ g, c.M g → c'.M g) (hw : ∀ g, c.M g → w'.heap[g]? = w.heap[g]?) (h : VRel c H w (.fn g [.rp false T x 0]) v) : VRel c' H' w' (.fn g [.rp false T x 0]) v := by
  obtain ⟨vs, hv, rfl⟩ := h.fn_inv
  obtain ⟨u, us, rfl, h1, h2⟩ := hv.cons_inv
  obtain rfl := h2.nil_inv
  refine .fn _ _ _ (.cons _ _ _ _ ?_ .nil)
  cases h1 with | rp _ _ _ _ k p es hk hd hc =>
  exact .rp false T x 0 k p es (hM k hk) (DRel.ext (M := c.M) hM hw _ _ _ hd) fun j v hj => (World.cell?_of_block (w := w) (hw k hk)).trans (hc j v hj)
end

section
variable {E : Env} {P : Program} {base : Nat} {w0 : W0}
theorem body_ok2 (hk : Known P E) (hyl : E.yl = none) (hrf : E.rf = false) (hJ : ∀ k X w, w0.J k X w) (hmk0 : ∀ g, ¬ w0.mks g) {f : FuncId} {fn : Func} (hf : P.funcs[f]? = some fn) {c : Cx} {H : List Blk} {w : World} {args : List V} {vs : List Value} {R : V → List Blk → Prop}
    (hst : St E.glob base w0 c H w) (hv : VRels c H w args vs) (h : body E fn args H R) :
    Calls P f vs.toArray w fun e w' => ∃ x v H' c', e = .returned v ∧ R x H' ∧ VRel c' H' w' x v ∧ St E.glob base w0 c' H' w' := by
  unfold body at h
  split at h
  · rename_i code hb
    rw [awpR_eq] at h
    have hs : Sta E (Sf base w0) (args ++ List.replicate (fn.ntmps - args.length) .undef) H { tmps := vs.toArray ++ Array.replicate (fn.ntmps - vs.toArray.size) undef, defers := [] } w :=
      ⟨c, base, w0, ⟨rfl, rfl, rfl, rfl, rfl, rfl, fun _ _ h => h, fun _ h => h, fun g h => absurd h (hmk0 g)⟩, hst, by
        simp only [Array.toList_append, Array.toList_replicate, List.size_toArray]
        rw [hv.length]
        exact hv.append (VRels.undefs undef _), Marks.nil⟩
    refine (callsIn_wide (n := 0)).1 (callsIn_of_wp_marks hf hb trivial (wpInMono ?_ (awp_ok code hk (ro := none) (fun q hq => by rw [hyl] at hq; cases hq) (fun hr => by rw [hrf] at hr; cases hr) _ _ H _ w h hs)))
    have fin : ∀ (a : Act) (w' : World), (∃ σ H, resultsK E fn σ H (fun v => R v H) ∧ Sta E (Sf base w0) σ H a w') →
        LeavesInM Fence.wide 0 P fn a.tmps (fun e w' => ∃ x v H' c', e = .returned v ∧ R x H' ∧ VRel c' H' w' x v ∧ St E.glob base w0 c' H' w') a.defers .returning w' := by
      rintro a w' ⟨σ, H, hq, c', b, v, hS, hst', hσ', gs, g1, g2, g3⟩
      obtain rfl := hS.1
      rw [g2]
      exact leave_ok hk.env hJ hmk0 hq gs v w' hS g1 g3 hst' hσ'
    intro e a w' hp
    cases e with
    | normal => exact fin a w' hp
    | ret => exact fin a w' hp
    | exit i => obtain ⟨_, _, hq, _⟩ := hp; exact hq.elim
    | goto l => exact hp.elim
    | panic ch => exact hp.elim
    | outgrown => exact hp.elim
  · exact h.elim

def turnC (f : Nat) (T : Ty) (spec : Nat → T.D → Int → List Bool → Option (Prop × List Bool)) : Con := fun args H R =>
  match args with
  | [.int .i64 k, .ptr a 1 0 0, .ptr b 1 0 0, .ptr d 1 0 0] =>
    (match getB H a, getB H b, getB H d with
    | .cells [.fn g [.rp false T' x 0]], .cells [.own .bool r], .cells [.fn f' [.ptr a' 1 0 0, .ptr b' 1 0 0, .ptr d' 1 0 0]] =>
      (match getB H r with
      | .row true .bool xs => if h : T' = T then (match spec g (h ▸ x) k xs with
        | some (p, ys) => (f' = f ∧ a' = a ∧ b' = b ∧ d' = d ∧ g ≠ f ∧ 0 < xs.length ∧ ys.length = xs.length) ∧ p ∧ R (.tup []) (setB H r (.row true .bool ys))
        | none => False) else False
      | _ => False)
    | _, _, _ => False)
  | _ => False
@[reducible] def turnH (f g : Nat) (T : Ty) (x : T.D) (xs : List Bool) : List Blk :=
  [.cells [.fn g [.rp false T x 0]], .cells [.own .bool 3], .cells [.fn f [.ptr 0 1 0 0, .ptr 1 1 0 0, .ptr 2 1 0 0]], .row true .bool xs, .cells [.tup [], .ptr 0 1 0 0, .ptr 1 1 0 0, .ptr 2 1 0 0, .own .bool 3]]

theorem turn_at (hk : Known P E) (hyl : E.yl = none) (hrf : E.rf = false) {f : FuncId} {fn : Func} (hf : P.funcs[f]? = some fn) {c : Cx} {H : List Blk} {w : World} {vs : List Value}
    {k : Int} {a b d r g : Nat} {T : Ty} {x : T.D} {xs ys : List Bool} (hst : St E.glob base w0 c H w) (hv : VRels c H w [.int .i64 k, .ptr a 1 0 0, .ptr b 1 0 0, .ptr d 1 0 0] vs)
    (hA : getB H a = .cells [.fn g [.rp false T x 0]]) (hB : getB H b = .cells [.own .bool r]) (hD : getB H d = .cells [.fn f [.ptr a 1 0 0, .ptr b 1 0 0, .ptr d 1 0 0]]) (hR : getB H r = .row true .bool xs)
    (hgf : g ≠ f) (hne : 0 < xs.length) (hlen : ys.length = xs.length)
    (hb : body E fn [.int .i64 k, .ptr 0 1 0 0, .ptr 1 1 0 0, .ptr 2 1 0 0] (turnH f g T x xs) (fun v H => v = .tup [] ∧ ∃ L, H = turnH f g T x ys ++ L)) :
    Calls P f vs.toArray w fun e w' => ∃ v c', e = .returned v ∧ VRel c' (setB H r (.row true .bool ys)) w' (.tup []) v ∧ St E.glob base w0 c' (setB H r (.row true .bool ys)) w' ∧ Ext c H w c' (setB H r (.row true .bool ys)) w' := by
  obtain ⟨v0, _, rfl, hv0, hv⟩ := hv.cons_inv
  obtain ⟨pa, _, rfl, hva, hv⟩ := hv.cons_inv
  obtain ⟨pb, _, rfl, hvb, hv⟩ := hv.cons_inv
  obtain ⟨pd, _, rfl, hvd, hv⟩ := hv.cons_inv
  obtain rfl := hv.nil_inv
  obtain ⟨ga, ma, sa, ra, ia, oa, hpa⟩ := hva.ptr_inv
  obtain ⟨gb, mb, sb, rb, ib, ob, hpb⟩ := hvb.ptr_inv
  obtain ⟨gd, md, sd, rd, id_, od, hpd⟩ := hvd.ptr_inv
  have hka := hst.blk a; have hkb := hst.blk b; have hkd := hst.blk d; have hkr := hst.blk r
  rw [hA] at hka; rw [hB] at hkb; rw [hD] at hkd; rw [hR] at hkr
  rcases hka with ⟨_, ea, cura, q, wa, ⟨ba, la⟩, ca⟩ | ⟨_, q, _⟩
  case inr => rw [ra] at q; cases q
  rw [ra] at q; cases q
  rcases hkb with ⟨_, eb, curb, q, wb, ⟨bb, lb⟩, cb⟩ | ⟨_, q, _⟩
  case inr => rw [rb] at q; cases q
  rw [rb] at q; cases q
  rcases hkd with ⟨_, ed, curd, q, wd, ⟨bd, ld⟩, cd⟩ | ⟨_, q, _⟩
  case inr => rw [rd] at q; cases q
  rw [rd] at q; cases q
  obtain ⟨vA, a1, a2, a3⟩ := ca 0 (by simp)
  obtain ⟨vB, b1, b2, b3⟩ := cb 0 (by simp)
  obtain ⟨vD, d1, d2, d3⟩ := cd 0 (by simp)
  replace a3 : VRel c H w (.fn g [.rp false T x 0]) vA := a3
  replace b3 : VRel c H w (.own .bool r) vB := b3
  replace d3 : VRel c H w (.fn f [.ptr a 1 0 0, .ptr b 1 0 0, .ptr d 1 0 0]) vD := d3
  obtain ⟨n, ad, cap, sr, hnc, hcm, ho, hvB⟩ := b3.own_inv
  have hsr : shape H r = some (xs.length, 1) := by unfold shape; rw [hR]; rfl
  have hn : n = xs.length := by rw [hsr] at sr; cases sr; rfl
  obtain ⟨gr, er, curr, rr, had, wr, hcap⟩ := ho.resolve_left (by omega)
  have hkr2 : ∀ (i : Nat) (x : Bool), xs[i]? = some x → ∃ es : List Value, DRel w (c.im true) .bool x es ∧ ∀ (j : Nat) (v : Value), es[j]? = some v → curr[c.β r + (i * 1 + j)]? = some v := by
    rcases hkr with ⟨q, _⟩ | ⟨_, _, _, q1, q2, _, q3⟩
    · rw [rr] at q; cases q
    · rw [rr] at q1; cases q1; rw [wr] at q2; cases q2; exact q3
  have hrl : c.β r + xs.length * 1 ≤ curr.size := by
    have : c.β r + 0 + cap * Ty.bool.size ≤ curr.size := hcap
    simp only [Ty.size] at this
    omega
  have nab : a ≠ b := fun e => by rw [e, hB] at hA; simp at hA
  have nad : a ≠ d := fun e => by rw [e, hD] at hA; simp at hA
  have nbd : b ≠ d := fun e => by rw [e, hD] at hB; simp at hB
  have nra : r ≠ a := fun e => by rw [e, hA] at hR; cases hR
  have nrb : r ≠ b := fun e => by rw [e, hB] at hR; cases hR
  have nrd : r ≠ d := fun e => by rw [e, hD] at hR; cases hR
  have gab : ga ≠ gb := fun e => nab (hst.inj a b ga ra (e ▸ rb))
  have gad : ga ≠ gd := fun e => nad (hst.inj a d ga ra (e ▸ rd))
  have gbd : gb ≠ gd := fun e => nbd (hst.inj b d gb rb (e ▸ rd))
  have gra : gr ≠ ga := fun e => nra (hst.inj r a gr rr (e ▸ ra))
  have grb : gr ≠ gb := fun e => nrb (hst.inj r b gr rr (e ▸ rb))
  have grd : gr ≠ gd := fun e => nrd (hst.inj r d gr rr (e ▸ rd))
  -- what it is walked with
  let gh0 : List Value := [.tuple #[], pa, pb, pd, vB]
  let four : Nat → Prop := fun g => g = ga ∨ g = gb ∨ g = gd ∨ g = gr
  let hid : Nat → Prop := fun g => (∃ i, c.ρ i = some g) ∧ ¬ four g
  let D' : Nat → Option Obj := fun g => @ite _ (four g) (Classical.propDecidable _) none w.heap[g]?
  let Z' : Nat → Option (Nat × TypeId) := fun g => if g = ga then some (cura.size, ea) else if g = gb then some (curb.size, eb) else if g = gd then some (curd.size, ed) else if g = gr then some (curr.size, er) else none
  let w1 : W0 := ⟨w0.w, D', Z', fun g => w0.X g ∨ hid g, fun _ => False, fun _ _ _ => True, gh0, w0.l⟩
  let c0 : Cx := { M := c.M, N := c.N, ρ := fun i => match i with | 0 => some ga | 1 => some gb | 2 => some gd | 3 => some gr | _ => none, β := fun i => match i with | 3 => c.β r | _ => 0, x := ⟨gh0, c.x.k, c.x.l⟩, gi := some 4 }
  have hρ0 : ∀ i g, c0.ρ i = some g → (i = 0 ∧ g = ga) ∨ (i = 1 ∧ g = gb) ∨ (i = 2 ∧ g = gd) ∨ (i = 3 ∧ g = gr) := fun i g h => by
    match i with
    | 0 => exact .inl ⟨rfl, (Option.some.inj h).symm⟩
    | 1 => exact .inr (.inl ⟨rfl, (Option.some.inj h).symm⟩)
    | 2 => exact .inr (.inr (.inl ⟨rfl, (Option.some.inj h).symm⟩))
    | 3 => exact .inr (.inr (.inr ⟨rfl, (Option.some.inj h).symm⟩))
    | _ + 4 => cases h
  have h4own : ∀ g, four g → ∃ i, c.ρ i = some g := fun g h => by
    rcases h with rfl | rfl | rfl | rfl
    · exact ⟨a, ra⟩
    · exact ⟨b, rb⟩
    · exact ⟨d, rd⟩
    · exact ⟨r, rr⟩
  have hρf : ∀ i g, c0.ρ i = some g → four g := fun i g h => by
    rcases hρ0 i g h with ⟨_, h⟩ | ⟨_, h⟩ | ⟨_, h⟩ | ⟨_, h⟩
    · exact .inl h
    · exact .inr (.inl h)
    · exact .inr (.inr (.inl h))
    · exact .inr (.inr (.inr h))
  have hZ4 : ∀ g m, Z' g = some m → ∃ cur, w.heap[g]? = some (.cells cur m.2 (0, 0)) ∧ cur.size = m.1 := fun g m h => by
    simp only [Z'] at h
    split at h
    · rename_i e; subst e; cases h; exact ⟨cura, wa, rfl⟩
    split at h
    · rename_i e; subst e; cases h; exact ⟨curb, wb, rfl⟩
    split at h
    · rename_i e; subst e; cases h; exact ⟨curd, wd, rfl⟩
    split at h
    · rename_i e; subst e; cases h; exact ⟨curr, wr, rfl⟩
    · cases h
  have zr : c0.β 3 = c.β r := rfl
  have hpa0 : pa = .pointer (some ⟨ga, 0 + (0 * 1 + 0), none⟩) := by rw [hpa, ba]
  have hpb0 : pb = .pointer (some ⟨gb, 0 + (0 * 1 + 0), none⟩) := by rw [hpb, bb]
  have hpd0 : pd = .pointer (some ⟨gd, 0 + (0 * 1 + 0), none⟩) := by rw [hpd, bd]
  have ha0 : VRel c0 (turnH f g T x xs) w (.ptr 0 1 0 0) pa := by rw [hpa0]; exact .ptr 0 1 0 0 ga 1 rfl rfl (by omega) (by omega)
  have hb0 : VRel c0 (turnH f g T x xs) w (.ptr 1 1 0 0) pb := by rw [hpb0]; exact .ptr 1 1 0 0 gb 1 rfl rfl (by omega) (by omega)
  have hd0 : VRel c0 (turnH f g T x xs) w (.ptr 2 1 0 0) pd := by rw [hpd0]; exact .ptr 2 1 0 0 gd 1 rfl rfl (by omega) (by omega)
  have hr0 : VRel c0 (turnH f g T x xs) w (.own .bool 3) vB := by
    rw [hvB, hn]
    exact .own .bool 3 xs.length ad cap rfl (by omega) hcm (.inr ⟨gr, er, curr, rfl, had, wr, hcap⟩)
  have hst0 : St E.glob base w1 c0 (turnH f g T x xs) w :=
    { below := hst.below
      xk :=
        { keep := fun k o h => by
            have h : D' k = some o := h
            simp only [D'] at h
            split at h
            · cases h
            · rename_i h4; exact ⟨h, fun i hi => h4 (hρf i k hi)⟩
          siz := hZ4
          cnt := trivial
          gh := rfl
          l := hst.xk.l
          dis := fun k hk hX => hX.elim (hst.xk.dis k hk) fun h => by obtain ⟨i, hi⟩ := h.1; exact (hst.own i k hi).2.2.1 hk
          xb := fun k hX => by
            rcases hX with hX | hX
            · exact ⟨(hst.xk.xb k hX).1, fun i hi => by obtain ⟨j, hj⟩ := h4own k (hρf i k hi); exact (hst.xk.xb k hX).2 j hj⟩
            · obtain ⟨i, hi⟩ := hX.1
              exact ⟨(hst.own i k hi).2.1, fun j hj => hX.2 (hρf j k hj)⟩
          mks := fun _ h => h.elim
          gi := fun h => by cases h }
      size := hst.size
      blk := fun i => by
        match i with
        | 0 => exact .inl ⟨ga, ea, cura, rfl, wa, ⟨rfl, la⟩, fun j hj => by
            obtain rfl : j = 0 := by simp at hj; omega
            exact ⟨vA, by rw [ba] at a1; exact a1, a2, VRel.fnrp (c := c) (fun _ h => h) (fun _ _ => rfl) a3⟩⟩
        | 1 => exact .inl ⟨gb, eb, curb, rfl, wb, ⟨rfl, lb⟩, fun j hj => by
            obtain rfl : j = 0 := by simp at hj; omega
            exact ⟨vB, by rw [bb] at b1; exact b1, b2, hr0⟩⟩
        | 2 => exact .inl ⟨gd, ed, curd, rfl, wd, ⟨rfl, ld⟩, fun j hj => by
            obtain rfl : j = 0 := by simp at hj; omega
            refine ⟨vD, by rw [bd] at d1; exact d1, d2, ?_⟩
            obtain ⟨us, hu, rfl⟩ := d3.fn_inv
            obtain ⟨u1, _, rfl, h1, hu⟩ := hu.cons_inv
            obtain ⟨u2, _, rfl, h2, hu⟩ := hu.cons_inv
            obtain ⟨u3, _, rfl, h3, hu⟩ := hu.cons_inv
            obtain rfl := hu.nil_inv
            have e1 : u1 = pa := by obtain ⟨_, _, _, q, _, _, rfl⟩ := h1.ptr_inv; rw [ra] at q; cases q; rw [hpa]
            have e2 : u2 = pb := by obtain ⟨_, _, _, q, _, _, rfl⟩ := h2.ptr_inv; rw [rb] at q; cases q; rw [hpb]
            have e3 : u3 = pd := by obtain ⟨_, _, _, q, _, _, rfl⟩ := h3.ptr_inv; rw [rd] at q; cases q; rw [hpd]
            rw [e1, e2, e3]
            exact .fn f _ _ (.cons _ _ _ _ ha0 (.cons _ _ _ _ hb0 (.cons _ _ _ _ hd0 .nil)))⟩
        | 3 => exact .inr ⟨gr, er, curr, rfl, wr, hrl, hkr2⟩
        | 4 => exact .inr ⟨rfl, rfl, .cons _ _ _ _ (.tup [] [] .nil) (.cons _ _ _ _ ha0 (.cons _ _ _ _ hb0 (.cons _ _ _ _ hd0 (.cons _ _ _ _ hr0 .nil))))⟩
        | _ + 5 => trivial
      inj := fun i j k hi hj => by
        rcases hρ0 i k hi with ⟨_, h⟩ | ⟨_, h⟩ | ⟨_, h⟩ | ⟨_, h⟩ <;> rcases hρ0 j k hj with ⟨_, h'⟩ | ⟨_, h'⟩ | ⟨_, h'⟩ | ⟨_, h'⟩ <;> omega
      own := fun i k hi => by
        obtain ⟨j, hj⟩ := h4own k (hρf i k hi)
        obtain ⟨o1, o2, o3, _⟩ := hst.own j k hj
        refine ⟨o1, o2, o3, ?_⟩
        have : (turnH f g T x xs).length = 5 := rfl
        rcases hρ0 i k hi with ⟨h, _⟩ | ⟨h, _⟩ | ⟨h, _⟩ | ⟨h, _⟩ <;> omega
      imm := hst.imm
      sub := hst.sub
      glob := fun k y hy => by
        obtain ⟨t, z, o, rfl⟩ := hk.noref k y hy
        have := hst.glob k _ hy
        generalize Value.pointer (some ⟨k, 0, none⟩) = u at this
        cases this with | rp _ _ _ _ k p es hk hd hc => exact .rp false t z o k p es hk hd hc }
  have hv1 : VRels c0 (turnH f g T x xs) w [.int .i64 k, .ptr 0 1 0 0, .ptr 1 1 0 0, .ptr 2 1 0 0] [v0, pa, pb, pd] := by
    refine .cons _ _ _ _ ?_ (.cons _ _ _ _ ha0 (.cons _ _ _ _ hb0 (.cons _ _ _ _ hd0 .nil)))
    cases hv0 with | int _ _ h1 h2 => exact .int _ _ h1 h2
  refine (body_ok2 hk hyl hrf (fun _ _ _ => trivial) (fun _ h => h) hf hst0 hv1 hb).mono ?_
  rintro e w' ⟨x', v', H', c', rfl, ⟨rfl, L, rfl⟩, hx, hst'⟩
  -- the same places as before
  have hk4 : BOk c' (turnH f g T x ys ++ L) w' 4 (.cells [.tup [], .ptr 0 1 0 0, .ptr 1 1 0 0, .ptr 2 1 0 0, .own .bool 3]) := hst'.blk 4
  rcases hk4 with ⟨_, _, _, _, _, _, h4⟩ | ⟨_, _, h4⟩
  · obtain ⟨v, _, h5, h6⟩ := h4 0 (by simp)
    have h6 : VRel c' (turnH f g T x ys ++ L) w' (.tup []) v := h6
    rw [h6.tup0_inv] at h5; cases h5
  rw [hst'.xk.gh] at h4
  have h4 : VRels c' (turnH f g T x ys ++ L) w' [.tup [], .ptr 0 1 0 0, .ptr 1 1 0 0, .ptr 2 1 0 0, .own .bool 3] [.tuple #[], pa, pb, pd, vB] := h4
  obtain ⟨_, _, q, _, h4⟩ := h4.cons_inv; cases q
  obtain ⟨_, _, q, ha', h4⟩ := h4.cons_inv; cases q
  obtain ⟨_, _, q, hb', h4⟩ := h4.cons_inv; cases q
  obtain ⟨_, _, q, hd', h4⟩ := h4.cons_inv; cases q
  obtain ⟨_, _, q, hr', _⟩ := h4.cons_inv; cases q
  obtain ⟨ga', _, _, ra', _, _, q⟩ := ha'.ptr_inv
  obtain rfl : ga' = ga := by rw [hpa0] at q; injection q with q; injection q with q; injection q with q1 q2 q3; exact q1.symm
  obtain ⟨gb', _, _, rb', _, _, q⟩ := hb'.ptr_inv
  obtain rfl : gb' = gb := by rw [hpb0] at q; injection q with q; injection q with q; injection q with q1 q2 q3; exact q1.symm
  obtain ⟨gd', _, _, rd', _, _, q⟩ := hd'.ptr_inv
  obtain rfl : gd' = gd := by rw [hpd0] at q; injection q with q; injection q with q; injection q with q1 q2 q3; exact q1.symm
  obtain ⟨n', ad', cap', _, hnc', _, ho', q⟩ := hr'.own_inv
  rw [hvB] at q
  injection q with q1 q2 q3
  subst q1 q2 q3
  obtain ⟨gr', _, _, rr', had', _, _⟩ := ho'.resolve_left (by omega)
  obtain ⟨rfl, hβ3⟩ : gr' = gr ∧ c'.β 3 = c.β r := by
    rw [had] at had'; injection had' with q; injection q with q1 q2 q3
    exact ⟨q1.symm, by omega⟩
  have keepf : ∀ k, ¬ four k → k < w.heap.size → w'.heap[k]? = w.heap[k]? := fun k h4 hlt => by
    have h1 : w.heap[k]? = some (w.heap[k]'hlt) := Array.getElem?_eq_getElem hlt
    rw [h1]
    refine (hst'.xk.keep k _ ?_).1
    show D' k = _
    simp only [D']
    rw [if_neg h4]; exact h1
  have sizf : ∀ k, four k → ∃ cur e cur', w.heap[k]? = some (.cells cur e (0, 0)) ∧ w'.heap[k]? = some (.cells cur' e (0, 0)) ∧ cur'.size = cur.size := fun k h4 => by
    have hz : ∃ m, Z' k = some m := by
      simp only [Z']
      rcases h4 with rfl | rfl | rfl | rfl
      · exact ⟨_, if_pos rfl⟩
      · exact ⟨_, by rw [if_neg gab.symm, if_pos rfl]⟩
      · exact ⟨_, by rw [if_neg gad.symm, if_neg gbd.symm, if_pos rfl]⟩
      · exact ⟨_, by rw [if_neg gra, if_neg grb, if_neg grd, if_pos rfl]⟩
    obtain ⟨m, hm⟩ := hz
    obtain ⟨cur, h1, h2⟩ := hZ4 k m hm
    obtain ⟨cur', h3, h5⟩ := hst'.xk.siz k m hm
    exact ⟨cur, m.2, cur', h1, h3, h5.trans h2.symm⟩
  have ltf : ∀ k, k < w.heap.size → k < w'.heap.size := fun k hk => by
    rcases Classical.em (four k) with h4 | h4
    · obtain ⟨_, _, _, _, h, _⟩ := sizf k h4; exact (Array.getElem?_eq_some_iff.1 h).1
    · have := keepf k h4 hk
      rw [Array.getElem?_eq_getElem hk] at this
      exact (Array.getElem?_eq_some_iff.1 this).1
  let c2 : Cx := { M := fun g => c.M g ∨ c'.M g, N := c.N, ρ := c.ρ, β := c.β, x := c.x, gi := c.gi }
  have hM4 : ∀ k, c.M k → ¬ four k := fun k hk h4 => by obtain ⟨i, hi⟩ := h4own k h4; exact (hst.own i k hi).2.2.1 hk
  have hrlt : r < H.length := shape_lt hsr
  have hshp : ∀ i s, shape H i = some s → shape (setB H r (.row true .bool ys)) i = some s := fun i s hs => by
    by_cases hi : i = r
    · subst hi
      rw [hsr] at hs
      unfold shape
      rw [getB_setB, if_pos ⟨rfl, hrlt⟩, ← hs]
      simp [hlen, Ty.size]
    · unfold shape at *
      rw [getB_setB, if_neg (by simp [hi])]
      exact hs
  have hext : Ext c H w c2 (setB H r (.row true .bool ys)) w' :=
    { M := fun _ h => .inl h
      N := fun _ h => h
      mem := fun k hk => keepf k (hM4 k (hk.elim (fun h => h) fun h => (hst.sub k h).1)) (hst.imm k (hk.elim (fun h => h) fun h => (hst.sub k h).1))
      shp := fun i s hs => ⟨hshp i s hs, rfl⟩
      siz := fun i s k cur e _ hr hg => by
        rcases Classical.em (four k) with h4 | h4
        · obtain ⟨cu, e', cur', h1, h2, h3⟩ := sizf k h4
          rw [hg] at h1; cases h1
          exact ⟨cur', h2, h3⟩
        · exact ⟨cur, (keepf k h4 (hst.own i k hr).2.1).trans hg, rfl⟩
      x := rfl
      gi := rfl
      bas := fun _ _ _ => rfl }
  have hk0 : BOk c' (turnH f g T x ys ++ L) w' 0 (.cells [.fn g [.rp false T x 0]]) := hst'.blk 0
  have hk1 : BOk c' (turnH f g T x ys ++ L) w' 1 (.cells [.own .bool 3]) := hst'.blk 1
  have hk2 : BOk c' (turnH f g T x ys ++ L) w' 2 (.cells [.fn f [.ptr 0 1 0 0, .ptr 1 1 0 0, .ptr 2 1 0 0]]) := hst'.blk 2
  have hk3 : BOk c' (turnH f g T x ys ++ L) w' 3 (.row true .bool ys) := hst'.blk 3
  have hst2 : St E.glob base w0 c2 (setB H r (.row true .bool ys)) w' :=
    { below := hst'.below
      xk :=
        { keep := fun k o h => by
            obtain ⟨h1, h2⟩ := hst.xk.keep k o h
            exact ⟨(keepf k (fun h4 => by obtain ⟨i, hi⟩ := h4own k h4; exact h2 i hi) (Array.getElem?_eq_some_iff.1 h1).1).trans h1, h2⟩
          siz := fun k m hm => by
            obtain ⟨cur, h1, h2⟩ := hst.xk.siz k m hm
            rcases Classical.em (four k) with h4 | h4
            · obtain ⟨cu, e', cur', h3, h5, h6⟩ := sizf k h4
              rw [h1] at h3; cases h3
              exact ⟨cur', h5, h6.trans h2⟩
            · exact ⟨cur, (keepf k h4 (Array.getElem?_eq_some_iff.1 h1).1).trans h1, h2⟩
          cnt := hst.xk.cnt
          gh := hst.xk.gh
          l := hst.xk.l
          dis := fun k hk hX => hk.elim (fun h => hst.xk.dis k h hX) fun h => hst'.xk.dis k h (.inl hX)
          xb := fun k hX => ⟨ltf k (hst.xk.xb k hX).1, (hst.xk.xb k hX).2⟩
          mks := hst.xk.mks
          gi := hst.xk.gi }
      size := hst'.size
      blk := fun i => by
        rw [getB_setB]
        split
        · rename_i hi
          obtain ⟨rfl, _⟩ := hi
          rcases hk3 with ⟨q, _⟩ | ⟨g1, e1, cu1, q1, q2, q3, q4⟩
          · rw [rr'] at q; cases q
          · rw [rr'] at q1; cases q1
            exact .inr ⟨gr', e1, cu1, rr, q2, by rw [← hβ3]; exact q3, fun j y hj => by
              obtain ⟨es, e1, e2⟩ := q4 j y hj
              exact ⟨es, e1, fun j2 v hv => by rw [show c2.β i = c'.β 3 from hβ3.symm]; exact e2 j2 v hv⟩⟩
        · rename_i hi
          have hir : i ≠ r := fun e => hi ⟨e, hrlt⟩
          by_cases ea' : i = a
          · subst ea'
            rw [hA]
            rcases hk0 with ⟨_, e1, cu1, q1, q2, q3, q4⟩ | ⟨_, q, _⟩
            · rw [ra'] at q1; cases q1
              refine .inl ⟨_, e1, cu1, ra, q2, ⟨ba, q3.2⟩, fun j hj => ?_⟩
              obtain rfl : j = 0 := by simp at hj; omega
              obtain ⟨v, q5, q6, q7⟩ := q4 0 (by simp)
              exact ⟨v, by rw [q3.1] at q5; rw [show c2.β i = 0 from ba]; exact q5, q6, VRel.fnrp (c := c') (fun _ h => .inr h) (fun _ _ => rfl) q7⟩
            · rw [ra'] at q; cases q
          by_cases eb' : i = b
          · subst eb'
            rw [hB]
            rcases hk1 with ⟨_, e1, cu1, q1, q2, q3, q4⟩ | ⟨_, q, _⟩
            · rw [rb'] at q1; cases q1
              refine .inl ⟨_, e1, cu1, rb, q2, ⟨bb, q3.2⟩, fun j hj => ?_⟩
              obtain rfl : j = 0 := by simp at hj; omega
              obtain ⟨v, q5, q6, q7⟩ := q4 0 (by simp)
              refine ⟨v, by rw [q3.1] at q5; rw [show c2.β i = 0 from bb]; exact q5, q6, ?_⟩
              have q7 : VRel c' (turnH f g T x ys ++ L) w' (.own .bool 3) v := q7
              obtain ⟨n2, a2', cap2, s2, hn2, hc2, ho2, rfl⟩ := q7.own_inv
              have hs3 : shape (turnH f g T x ys ++ L) 3 = some (ys.length, 1) := rfl
              rw [hs3] at s2; cases s2
              refine .own .bool r ys.length a2' cap2 (by rw [hshp r _ hsr, hlen]; rfl) hn2 hc2 (ho2.imp (fun h => h) ?_)
              rintro ⟨g3, e3, cu3, h1, h2, h3, h4⟩
              rw [rr'] at h1; cases h1
              exact ⟨gr', e3, cu3, rr, by rw [h2, hβ3], h3, by rw [← hβ3]; exact h4⟩
            · rw [rb'] at q; cases q
          by_cases ed' : i = d
          · subst ed'
            rw [hD]
            rcases hk2 with ⟨_, e1, cu1, q1, q2, q3, q4⟩ | ⟨_, q, _⟩
            · rw [rd'] at q1; cases q1
              refine .inl ⟨_, e1, cu1, rd, q2, ⟨bd, q3.2⟩, fun j hj => ?_⟩
              obtain rfl : j = 0 := by simp at hj; omega
              obtain ⟨v, q5, q6, q7⟩ := q4 0 (by simp)
              refine ⟨v, by rw [q3.1] at q5; rw [show c2.β i = 0 from bd]; exact q5, q6, ?_⟩
              have q7 : VRel c' (turnH f g T x ys ++ L) w' (.fn f [.ptr 0 1 0 0, .ptr 1 1 0 0, .ptr 2 1 0 0]) v := q7
              obtain ⟨us, hu, rfl⟩ := q7.fn_inv
              obtain ⟨u1, _, rfl, h1, hu⟩ := hu.cons_inv
              obtain ⟨u2, _, rfl, h2, hu⟩ := hu.cons_inv
              obtain ⟨u3, _, rfl, h3, hu⟩ := hu.cons_inv
              obtain rfl := hu.nil_inv
              have hβ0 : c'.β 0 = 0 := by rcases hk0 with ⟨_, _, _, _, _, q, _⟩ | ⟨_, q, _⟩ <;> first | exact q.1 | (rw [ra'] at q; cases q)
              have hβ1 : c'.β 1 = 0 := by rcases hk1 with ⟨_, _, _, _, _, q, _⟩ | ⟨_, q, _⟩ <;> first | exact q.1 | (rw [rb'] at q; cases q)
              have e1 : u1 = pa := by obtain ⟨_, _, _, q, _, _, rfl⟩ := h1.ptr_inv; rw [ra'] at q; cases q; rw [hpa0, hβ0]
              have e2 : u2 = pb := by obtain ⟨_, _, _, q, _, _, rfl⟩ := h2.ptr_inv; rw [rb'] at q; cases q; rw [hpb0, hβ1]
              have e3 : u3 = pd := by obtain ⟨_, _, _, q, _, _, rfl⟩ := h3.ptr_inv; rw [rd'] at q; cases q; rw [hpd0, q3.1]
              rw [e1, e2, e3]
              exact .fn f _ _ (.cons _ _ _ _ (hva.ext hext) (.cons _ _ _ _ (hvb.ext hext) (.cons _ _ _ _ (hvd.ext hext) .nil)))
            · rw [rd'] at q; cases q
          refine BOk.keep hext (fun _ => rfl) (fun _ => rfl) (fun k hk => keepf k ?_ (hst.own i k hk).2.1) (hst.blk i)
          rintro (rfl | rfl | rfl | rfl)
          · exact ea' (hst.inj i a _ hk ra)
          · exact eb' (hst.inj i b _ hk rb)
          · exact ed' (hst.inj i d _ hk rd)
          · exact hir (hst.inj i r _ hk rr)
      inj := hst.inj
      own := fun i k hi => by
        obtain ⟨h1, h2, h3, h4⟩ := hst.own i k hi
        refine ⟨h1, ltf k h2, fun hm => hm.elim h3 fun hm => ?_, by rw [length_setB]; exact h4⟩
        rcases Classical.em (four k) with h5 | h5
        · rcases h5 with rfl | rfl | rfl | rfl
          · exact (hst'.own 0 _ ra').2.2.1 hm
          · exact (hst'.own 1 _ rb').2.2.1 hm
          · exact (hst'.own 2 _ rd').2.2.1 hm
          · exact (hst'.own 3 _ rr').2.2.1 hm
        · exact hst'.xk.dis k hm (.inr ⟨⟨i, hi⟩, h5⟩)
      imm := fun k hk => hk.elim (fun h => ltf k (hst.imm k h)) (hst'.imm k)
      sub := fun k hk => ⟨.inl (hst.sub k hk).1, (hst.sub k hk).2⟩
      glob := fun k y hy => (hst.glob k y hy).ext hext }
  rw [hx.tup0_inv]
  exact ⟨_, c2, rfl, .tup [] [] .nil, hst2, hext⟩

def recT {T : Ty} (μ : List Bool → Nat) (n : Nat) (spec : Nat → T.D → Int → List Bool → Option (Prop × List Bool)) : Nat → T.D → Int → List Bool → Option (Prop × List Bool) := fun g x k xs =>
  match spec g x k xs with
  | some (p, ys) => some (p ∧ μ xs < n, ys)
  | none => none

theorem Known.consM {z : List Nat} {P : Program} {tys : List (Nat × Ty)} {G : List (Nat × V)} {l : List (Nat × Con)} {q : List (Nat × SeqC)} (h : Known P (En l tys G q z)) {f : Nat} {c : Con} (hc : Holds P G f c) : Known P (En ((f, c) :: l) tys G q (6000000 :: z)) where
  glob := h.glob
  noref := h.noref
  env := .cons hc ⟨h.env.con, h.env.seq, h.env.ty, h.env.eq⟩
  det := .inl rfl
  mixed := h.mixed

theorem Known.addTurn {z : List Nat} {P : Program} {tys : List (Nat × Ty)} {G : List (Nat × V)} {l : List (Nat × Con)} {q : List (Nat × SeqC)} (h : Known P (En l tys G q z)) {f : Nat} {fn : Func} (hf : P.funcs[f]? = some fn) (hent : ∀ args w, (callFunc f args).run P w = .ok (.enter f args) w)
    {T : Ty} {spec : Nat → T.D → Int → List Bool → Option (Prop × List Bool)} (μ : List Bool → Nat)
    (hb : ∀ g x k xs p ys, spec g x k xs = some (p, ys) → p → g ≠ f → 0 < xs.length → ys.length = xs.length → body (En ((f, turnC f T (recT μ (μ xs) spec)) :: l) tys G q (6000000 :: z)).inR fn [.int .i64 k, .ptr 0 1 0 0, .ptr 1 1 0 0, .ptr 2 1 0 0] (turnH f g T x xs) (fun v H => v = .tup [] ∧ ∃ L, H = turnH f g T x ys ++ L)) :
    Known P (En ((f, turnC f T spec) :: l) tys G q (6000000 :: z)) := by
  have step : ∀ (base : Nat) (w0 : W0) (c : Cx) (H : List Blk) (w : World) (args : List V) (vs : List Value) (R : V → List Blk → Prop) (n : Nat), (∀ m, m < n → Holds P G f (turnC f T (recT μ m spec))) → St G base w0 c H w → VRels c H w args vs → turnC f T (recT μ n spec) args H R →
      Calls P f vs.toArray w fun e w' => ∃ x v H' c', e = .returned v ∧ R x H' ∧ VRel c' H' w' x v ∧ St G base w0 c' H' w' ∧ Ext c H w c' H' w' := by
    intro base w0 c H w args vs R n ih hst hv hc
    unfold turnC at hc
    split at hc <;> try exact hc.elim
    rename_i k a b d
    split at hc <;> try exact hc.elim
    rename_i g T' x r f' a' b' d' hA hB hD
    split at hc <;> try exact hc.elim
    rename_i xs hR
    split at hc <;> try exact hc.elim
    rename_i hT
    subst hT
    split at hc <;> try exact hc.elim
    rename_i p ys hsp
    obtain ⟨⟨rfl, rfl, rfl, rfl, hgf, hne, hlen⟩, hp, hc⟩ := hc
    unfold recT at hsp
    split at hsp <;> try cases hsp
    rename_i p0 hsp0
    refine (turn_at (h.consM (ih (μ xs) hp.2)).inR rfl rfl hf hst hv hA hB hD hR hgf hne hlen (hb g x k xs p0 ys hsp0 hp.1 hgf hne hlen)).mono ?_
    rintro e w' ⟨v, c', rfl, h1, h2, h3⟩
    exact ⟨_, v, _, c', rfl, hc, h1, h2, h3⟩
  have key : ∀ n, Holds P G f (turnC f T (recT μ n spec)) := fun n => by
    induction n using Nat.strongRecOn with
    | _ n ih => exact ⟨hent, fun base w0 c H w args vs hst hv R hc => step base w0 c H w args vs R n ih hst hv hc⟩
  refine h.consM ⟨hent, fun base w0 c H w args vs hst hv R hc => ?_⟩
  have hto : ∃ n, turnC f T (recT μ n spec) args H R := by
    unfold turnC at hc
    split at hc <;> try exact hc.elim
    rename_i k a b d
    split at hc <;> try exact hc.elim
    rename_i g T' x r f' a' b' d' hA hB hD
    split at hc <;> try exact hc.elim
    rename_i xs hR
    split at hc <;> try exact hc.elim
    rename_i hT
    subst hT
    split at hc <;> try exact hc.elim
    rename_i p ys hsp
    refine ⟨μ xs + 1, ?_⟩
    unfold turnC
    simp only [hA, hB, hD, hR, recT, hsp, dite_true]
    exact ⟨hc.1, ⟨hc.2.1, by omega⟩, hc.2.2⟩
  obtain ⟨n, hto⟩ := hto
  exact (key n).2 base w0 c H w args vs hst hv R hto

theorem Known.addT {z z' : List Nat} {P : Program} {tys : List (Nat × Ty)} {G : List (Nat × V)} {l l' : List (Nat × Con)} {q : List (Nat × SeqC)} (h : Known P (En l tys G q z)) (h2 : Known P (En l' tys G q z')) {f : Nat} {fn : Func} (hf : P.funcs[f]? = some fn) (hent : ∀ args w, (callFunc f args).run P w = .ok (.enter f args) w)
    {ks : List PK} {spec : List V → Option (Prop × V × List Blk)} (ms : List Mode) (hb : ∀ ds p v bs, spec ds = some (p, v, bs) → p → bodyP (En l' tys G q z') fn ms ds v bs) : Known P (En ((f, pureC ks spec) :: l) tys G q z) :=
  h.cons (holds_pure h2 rfl hf hent ms hb) (.pure _ _)
end
end Go.Proofs.Ytgljcfnplkcfhaa.Vc

namespace Go.Proofs.Ytgljcfnplkcfhaa.Vc
open Go Go.RowKit Go.WideShapes

def Deep (P : Program) : Ty → TypeId ⊕ (List Field × Nat) → Prop
  | .u8, .inl T => P.underlying T = some (.int .u8)
  | .int k, .inl T => P.underlying T = some (.int k)
  | .bool, .inl T => P.underlying T = some .bool
  | .str, .inl T => P.underlying T = some .string
  | .sl t, .inl T => ∃ e, P.underlying T = some (.slice e) ∧ P.cellsOf e = t.size ∧ 0 < t.size ∧ Deep P t (.inl e)
  | .arr n t, .inl T => ∃ e, P.underlying T = some (.array n e) ∧ P.cellsOf T = n * t.size ∧ P.cellsOf e = t.size ∧ Deep P t (.inl e)
  | .cons t ts, .inl T => ∃ fs f fs', P.underlying T = some (.struct fs) ∧ fs.toList = f :: fs' ∧ P.cellsOf T = t.size + ts.size ∧ f.offset = 0 ∧ P.cellsOf f.type = t.size ∧ Deep P t (.inl f.type) ∧ Deep P ts (.inr (fs', t.size))
  | .cons t ts, .inr (f :: fs, o) => f.offset = o ∧ P.cellsOf f.type = t.size ∧ Deep P t (.inl f.type) ∧ Deep P ts (.inr (fs, o + t.size))
  | .nil, .inr ([], _) => True
  | _, _ => False

def wt : (t : Ty) → t.D → Nat
  | .str, s => s.length + 1
  | .sl t, xs => (xs.map (wt t)).sum + 1
  | .cons t ts, x => wt t x.1 + wt ts x.2
  | .arr _ t, xs => (xs.map (wt t)).sum
  | .nil, _ => 0
  | _, _ => 1

def WfD : (t : Ty) → t.D → Prop
  | .int k, n => k.min ≤ n ∧ n ≤ k.max
  | .sl t, xs => ∀ x ∈ (xs : List t.D), WfD t x
  | .arr n t, xs => (xs : List t.D).length = n ∧ ∀ x ∈ (xs : List t.D), WfD t x
  | .cons t ts, x => WfD t x.1 ∧ WfD ts x.2
  | _, _ => True
theorem DRel.wf {w : World} {M : Nat → Prop} : ∀ (t : Ty) (x : t.D) (cs : List Value), DRel w M t x cs → WfD t x
  | .u8, _, _, _ => trivial
  | .int _, _, _, h => h.2
  | .bool, _, _, _ => trivial
  | .str, _, _, _ => trivial
  | .nil, _, _, _ => trivial
  | .fnT, _, _, _ => trivial
  | .mapT _, _, _, _ => trivial
  | .sl t, xs, cs, h => fun x hx => by
    obtain ⟨a, cap, _, _, _, h4⟩ := h
    obtain ⟨i, hi, rfl⟩ := List.mem_iff_getElem.1 hx
    obtain ⟨g, o, _, _, h5⟩ := h4 (List.ne_nil_of_mem hx)
    obtain ⟨es, he, _⟩ := h5 i _ (List.getElem?_eq_getElem hi)
    exact DRel.wf t _ es he
  | .arr n t, xs, cs, h => ⟨h.1, fun x hx => by
    obtain ⟨h0, ess, h1, h2, h3⟩ := h
    obtain ⟨i, hi, rfl⟩ := List.mem_iff_getElem.1 hx
    exact DRel.wf t _ _ (h3 i _ _ (List.getElem?_eq_getElem hi) (List.getElem?_eq_getElem (by omega)))⟩
  | .cons t ts, x, cs, h => by
    obtain ⟨c1, c2, _, h1, h2⟩ := h
    exact ⟨DRel.wf t _ _ h1, DRel.wf ts _ _ h2⟩
theorem wt_bytes (xs : List UInt8) : wt (.sl .u8) xs = xs.length + 1 := by
  show (xs.map fun _ => 1).sum + 1 = _
  induction xs with
  | nil => rfl
  | cons x xs ih => simp only [List.map_cons, List.sum_cons, List.length_cons]; omega
theorem wt_ints (k : IntKind) (xs : List Int) : wt (.sl (.int k)) xs = xs.length + 1 := by
  show (xs.map fun _ => 1).sum + 1 = _
  induction xs with
  | nil => rfl
  | cons x xs ih => simp only [List.map_cons, List.sum_cons, List.length_cons]; omega
structure Bulk {H : Type} (bk : DataW H → Nat) : Prop where
  one : ∀ d, 1 ≤ bk d
  str : ∀ b, b.length + 1 ≤ bk (.lit (.string b))
  sl : ∀ es sp, (es.map bk).sum + 1 ≤ bk (.slice es sp)
  agg : ∀ ps, (ps.map bk).sum ≤ bk (.agg ps)

theorem pick_list {α : Type} {Q : Nat → α → Prop} : ∀ {n : Nat}, (∀ i, i < n → ∃ x, Q i x) → ∃ xs : List α, xs.length = n ∧ ∀ i x, xs[i]? = some x → Q i x
  | 0, _ => ⟨[], rfl, fun i x h => by simp at h⟩
  | n + 1, h => by
    obtain ⟨xs, h1, h2⟩ := pick_list (Q := fun i => Q i) (n := n) fun i hi => h i (by omega)
    obtain ⟨y, hy⟩ := h n (by omega)
    refine ⟨xs ++ [y], by simp [h1], fun i x hx => ?_⟩
    rcases Nat.lt_or_ge i n with g | g
    · rw [List.getElem?_append_left (by omega)] at hx
      exact h2 i x hx
    · by_cases e : i = n
      · subst e
        rw [List.getElem?_append_right (by omega), h1, Nat.sub_self] at hx
        simp at hx
        subst hx
        exact hy
      · rw [List.getElem?_eq_none (by simp [h1]; omega)] at hx
        cases hx
theorem sum_le {α β : Type} (f : α → Nat) (g : β → Nat) : ∀ (xs : List α) (ys : List β), xs.length = ys.length → (∀ (i : Nat) (x : α) (y : β), xs[i]? = some x → ys[i]? = some y → f x ≤ g y) → (xs.map f).sum ≤ (ys.map g).sum
  | [], [], _, _ => Nat.le_refl _
  | x :: xs, y :: ys, hl, h => by
    have h0 := h 0 x y rfl rfl
    have := sum_le f g xs ys (by simpa using hl) fun i a b ha hb => h (i + 1) a b ha hb
    simp only [List.map_cons, List.sum_cons]
    omega
  | [], _ :: _, hl, _ => by simp at hl
  | _ :: _, [], hl, _ => by simp at hl

section
variable {H : Type} {enc : TypeId × Value → H} {P : Program} {w : World} {sp : Nat → Bool} {held : Bool} {bk : DataW H → Nat}

def Inh (w : World) (g : Nat) : Prop := g < w.heap.size

theorem cells_at {a : Addr} {n : Nat} {es : List Value} (h : w.cells? 0 a n = some es) : es.length = n ∧ ∀ j v, es[j]? = some v → w.cell? (a.add j) = some v := by
  obtain ⟨_, hl, hc⟩ := World.cells?_some h
  refine ⟨hl, fun j v hj => ?_⟩
  have hjn : j < n := by
    rcases Nat.lt_or_ge j es.length with g | g
    · omega
    · rw [List.getElem?_eq_none g] at hj; cases hj
  have := hc j hjn
  rw [hj] at this
  exact this
theorem add_none {a : Addr} (h : a.spot = none) (n : Nat) : a.add n = ⟨a.block, a.off + n, none⟩ := by
  unfold Addr.add
  split
  · rename_i h0
    subst h0
    cases a; simp at h; subst h; rfl
  · rfl
theorem add_zero (a : Addr) : a.add 0 = a := by simp [Addr.add]
theorem spot_none {a : Addr} {v : Value} (h : w.cell? a = some v) : a.spot = none ∧ a.block < w.heap.size := by
  unfold World.cell? at h
  split at h
  · rename_i c _ _ hh
    cases hs : a.spot with
    | none => exact ⟨rfl, (Array.getElem?_eq_some_iff.1 hh).1⟩
    | some s => rw [hs] at h; simp at h
  · cases h

def FieldsRead (enc : TypeId × Value → H) (P : Program) (w : World) (sp : Nat → Bool) (held : Bool) (n : Nat) (fs : List Field) (cs : List Value) (xs : List (DataW H × List MemPlace)) : Prop :=
  xs.length = fs.length ∧ ∀ (i : Nat) (f : Field), fs[i]? = some f → DataW.trod enc P w 0 sp held n f.type ((cs.drop f.offset).take (P.cellsOf f.type)) = xs[i]?

theorem read_ok (hb : Bulk bk) : ∀ (t : Ty) (s : TypeId ⊕ (List Field × Nat)), Deep P t s → (match s with
    | .inl T => ∀ fuel cs d ps, DataW.trod enc P w 0 sp held fuel T cs = some (d, ps) → ∃ x : t.D, DRel w (Inh w) t x cs ∧ wt t x ≤ bk d
    | .inr (fs, o) => ∀ n cs xs, FieldsRead enc P w sp held n fs cs xs → cs.length = o + t.size → ∃ x : t.D, DRel w (Inh w) t x (cs.drop o) ∧ wt t x ≤ (xs.map fun y => bk y.1).sum)
  | .u8, .inl T, h => fun fuel cs d ps hd => by
    obtain ⟨n, rfl, hx, hw⟩ := DataW.trod_int h hd
    have hn : 0 ≤ n ∧ n ≤ 255 := by
      simp [Lit.wf, IntKind.min, IntKind.max, IntKind.signed, IntKind.bits] at hw
      omega
    refine ⟨UInt8.ofNat n.toNat, ?_, hb.one _⟩
    show [Value.int .u8 n] = [.int .u8 ((UInt8.ofNat n.toNat).toNat : Int)]
    rw [UInt8.toNat_ofNat_of_lt' (by show n.toNat < 256; omega)]
    congr 2
    omega
  | .int k, .inl T, h => fun fuel cs d ps hd => by
    obtain ⟨n, rfl, hx, hw⟩ := DataW.trod_int h hd
    refine ⟨n, ⟨rfl, ?_⟩, hb.one _⟩
    simpa [Lit.wf] using hw
  | .bool, .inl T, h => fun fuel cs d ps hd => by
    obtain ⟨b, rfl, hx⟩ := DataW.trod_bool h hd
    exact ⟨b, rfl, hb.one _⟩
  | .str, .inl T, h => fun fuel cs d ps hd => by
    obtain ⟨s, rfl, hx, hs⟩ := DataW.trod_string h hd
    obtain ⟨rfl, rfl⟩ := Prod.mk.inj hx
    exact ⟨s.data.toList, ⟨rfl, hs⟩, hb.str _⟩
  | .sl t, .inl T, h => fun fuel cs d ps hd => by
    obtain ⟨e, hu, hce, hpos, hdeep⟩ := h
    rcases DataW.trod_slice hu hd with ⟨rfl, hx⟩ | ⟨a, len, cap, elems, rest, n, rfl, rfl, hx, _, h2, h3, h4, h5, _⟩
    · exact ⟨[], ⟨none, 0, rfl, Nat.le_refl _, Nat.zero_le _, fun h => absurd rfl h⟩, hb.one _⟩
    · obtain ⟨rfl, _⟩ := Prod.mk.inj hx
      have key : ∀ i, i < len → ∃ x : t.D, (∃ es, DRel w (Inh w) t x es ∧ es.length = t.size ∧ (∀ j v, es[j]? = some v → w.cell? ((a.add (i * t.size)).add j) = some v)) ∧ ∃ y, elems[i]? = some y ∧ wt t x ≤ bk y.1 := fun i hi => by
        have h6 := h5 i hi
        obtain ⟨y, hy⟩ : ∃ y, elems[i]? = some y := ⟨_, List.getElem?_eq_getElem (by omega)⟩
        rw [hy, Option.bind_eq_some_iff] at h6
        obtain ⟨es, he, ht⟩ := h6
        obtain ⟨x, h7, h8⟩ := read_ok hb t (.inl e) hdeep n es y.1 y.2 ht
        rw [hce] at he
        obtain ⟨hl, hc⟩ := cells_at he
        exact ⟨x, ⟨es, h7, hl, fun j v hj => hc j v hj⟩, y, hy, h8⟩
      obtain ⟨xs, hl, hxs⟩ := pick_list key
      refine ⟨xs, ⟨some a, cap, by rw [hl], by omega, h3, fun hne => ?_⟩, ?_⟩
      · have h0 : 0 < xs.length := List.length_pos_iff.2 hne
        obtain ⟨⟨es, _, hel, hcell⟩, _⟩ := hxs 0 xs[0] (List.getElem?_eq_getElem h0)
        have hs := hcell 0 es[0] (List.getElem?_eq_getElem (by omega))
        rw [Nat.zero_mul, add_zero, add_zero] at hs
        have hs := spot_none hs
        refine ⟨a.block, a.off, ?_, hs.2, fun i x hi => ?_⟩
        · have hsp : a.spot = none := hs.1
          cases a; simp at hsp; subst hsp; rfl
        · obtain ⟨⟨es, h1, _, hcell⟩, _⟩ := hxs i x hi
          have hsp : a.spot = none := hs.1
          exact ⟨es, h1, fun j v hj => by have := hcell j v hj; rwa [add_none hsp, add_none rfl] at this⟩
      · show (xs.map (wt t)).sum + 1 ≤ _
        have := sum_le (wt t) (fun y : DataW H × List MemPlace => bk y.1) xs elems (by omega) fun i x y hx hy => by
          obtain ⟨_, y', hy', hw⟩ := hxs i x hx
          rw [hy] at hy'; cases hy'; exact hw
        have h6 := hb.sl (elems.map (·.1)) (rest.map (·.1))
        rw [List.map_map] at h6
        exact Nat.le_trans (Nat.succ_le_succ this) h6
  | .arr n t, .inl T, h => fun fuel cs d ps hd => by
    obtain ⟨e, hu, hcT, hce, hdeep⟩ := h
    obtain ⟨ys, m, rfl, hx, hcl, hyl, hel⟩ := DataW.trod_array hu hd
    obtain ⟨rfl, _⟩ := Prod.mk.inj hx
    have key : ∀ i, i < n → ∃ x : t.D, DRel w (Inh w) t x ((cs.drop (i * t.size)).take t.size) ∧ ∃ y, ys[i]? = some y ∧ wt t x ≤ bk y.1 := fun i hi => by
      have h6 := hel i hi
      obtain ⟨y, hy⟩ : ∃ y, ys[i]? = some y := ⟨_, List.getElem?_eq_getElem (by omega)⟩
      rw [hy, hce] at h6
      obtain ⟨x, h7, h8⟩ := read_ok hb t (.inl e) hdeep m _ y.1 y.2 h6
      exact ⟨x, h7, y, hy, h8⟩
    obtain ⟨xs, hl, hxs⟩ := pick_list key
    refine ⟨xs, ⟨hl, (List.range n).map fun i => (cs.drop (i * t.size)).take t.size, ?_, by simp, fun i x es hi he => ?_⟩, ?_⟩
    · have hcut : ∀ (n : Nat) (cs : List Value), cs.length = n * t.size → cs = ((List.range n).map fun i => (cs.drop (i * t.size)).take t.size).flatten := fun n => by
        induction n with
        | zero => intro cs h; simpa using h
        | succ n ih =>
          intro cs h
          rw [Nat.succ_mul] at h
          have h1 := ih (cs.drop t.size) (by rw [List.length_drop]; omega)
          rw [List.range_succ_eq_map, List.map_cons, List.flatten_cons, List.map_map]
          have e : ((fun i => List.take t.size (List.drop (i * t.size) cs)) ∘ Nat.succ) = fun i => List.take t.size (List.drop (i * t.size) (cs.drop t.size)) := by
            funext i
            simp only [Function.comp, List.drop_drop]
            congr 2
            rw [Nat.succ_mul, Nat.add_comm]
          rw [e, ← h1]
          simp
      exact hcut n cs (by rw [hcl, hcT])
    · rw [List.getElem?_map] at he
      have hin : i < n := by
        rcases Nat.lt_or_ge i xs.length with g | g
        · omega
        · rw [List.getElem?_eq_none g] at hi; cases hi
      rw [List.getElem?_range hin] at he
      simp only [Option.map_some, Option.some.injEq] at he
      subst he
      exact (hxs i x hi).1
    · show (xs.map (wt t)).sum ≤ _
      have := sum_le (wt t) (fun y : DataW H × List MemPlace => bk y.1) xs ys (by omega) fun i x y hx hy => by
        obtain ⟨_, y', hy', hw⟩ := hxs i x hx
        rw [hy] at hy'; cases hy'; exact hw
      have h6 := hb.agg (ys.map (·.1))
      rw [List.map_map] at h6
      exact Nat.le_trans this h6
  | .cons t ts, .inl T, h => fun fuel cs d ps hd => by
    obtain ⟨fs, f, fs', hu, hfs, hcT, hf0, hcf, hd1, hd2⟩ := h
    obtain ⟨ys, m, rfl, hx, hcl, hyl, hel⟩ := DataW.trod_struct hu hd
    obtain ⟨rfl, _⟩ := Prod.mk.inj hx
    have hread : ∀ (i : Nat) (g : Field), (f :: fs')[i]? = some g → DataW.trod enc P w 0 sp held m g.type ((cs.drop g.offset).take (P.cellsOf g.type)) = ys[i]? := fun i g hg => by
      rw [← hfs] at hg
      exact hel i g (by simpa using hg)
    cases ys with
    | nil =>
      have : fs.size = (f :: fs').length := by rw [← hfs]; simp
      simp [this] at hyl
    | cons y ys =>
      have h0 := hread 0 f rfl
      rw [hf0, hcf] at h0
      obtain ⟨x, hx1, hx2⟩ := read_ok hb t (.inl f.type) hd1 m _ y.1 y.2 h0
      obtain ⟨x', hy1, hy2⟩ := read_ok hb ts (.inr (fs', t.size)) hd2 m cs ys ⟨by
        have : fs.size = (f :: fs').length := by rw [← hfs]; simp
        rw [this] at hyl; simpa using hyl, fun i g hg => hread (i + 1) g hg⟩ (by rw [hcl, hcT])
      refine ⟨(x, x'), ⟨cs.take t.size, cs.drop t.size, (List.take_append_drop _ _).symm, hx1, hy1⟩, ?_⟩
      show wt t x + wt ts x' ≤ _
      have h6 := hb.agg ((y :: ys).map (·.1))
      rw [List.map_map] at h6
      refine Nat.le_trans ?_ h6
      simp only [List.map_cons, List.sum_cons, Function.comp]
      exact Nat.add_le_add hx2 hy2
  | .cons t ts, .inr (f :: fs, o), h => fun n cs xs hr hl => by
    obtain ⟨hf0, hcf, hd1, hd2⟩ := h
    obtain ⟨h1, h2⟩ := hr
    cases xs with
    | nil => simp at h1
    | cons y ys =>
      have h0 := h2 0 f rfl
      rw [hf0, hcf] at h0
      obtain ⟨x, hx1, hx2⟩ := read_ok hb t (.inl f.type) hd1 n _ y.1 y.2 h0
      obtain ⟨x', hy1, hy2⟩ := read_ok hb ts (.inr (fs, o + t.size)) hd2 n cs ys ⟨by simpa using h1, fun i g hg => h2 (i + 1) g hg⟩ (by rw [hl]; show o + (t.size + ts.size) = _; omega)
      refine ⟨(x, x'), ⟨(cs.drop o).take t.size, (cs.drop o).drop t.size, (List.take_append_drop _ _).symm, hx1, ?_⟩, ?_⟩
      · rw [List.drop_drop]; exact hy1
      · show wt t x + wt ts x' ≤ _
        simp only [List.map_cons, List.sum_cons]
        exact Nat.add_le_add hx2 hy2
  | .nil, .inr ([], o), h => fun n cs xs hr hl => by
    refine ⟨(), ?_, Nat.zero_le _⟩
    show cs.drop o = []
    exact List.drop_eq_nil_of_le (by rw [hl]; exact Nat.le_refl _)
  | .cons _ _, .inr ([], _), h => h.elim
  | .nil, .inl _, h => h.elim
  | .nil, .inr (_ :: _, _), h => h.elim
  | .u8, .inr _, h => h.elim
  | .int _, .inr _, h => h.elim
  | .bool, .inr _, h => h.elim
  | .str, .inr _, h => h.elim
  | .sl _, .inr _, h => h.elim
  | .arr _ _, .inr _, h => h.elim

abbrev c0 (w : World) : Cx := Cx.of (Inh w) ⟨[], none, 0⟩
theorem st0 {G : List (Nat × V)} (hg : ∀ g x, lk G g = some x → VRel (c0 w) [] w x (.pointer (some ⟨g, 0, none⟩))) : St G w.heap.size (W0.all w) (c0 w) [] w where
  below := .refl _ _
  xk :=
    { keep := fun g o h => by cases h
      siz := fun g n h => by cases h
      cnt := trivial
      gh := rfl
      l := rfl
      dis := fun _ _ h => h
      xb := fun _ h => h.elim
      mks := fun _ h => h.elim
      gi := fun _ => rfl }
  size := Nat.le_refl _
  blk _ := trivial
  inj _ _ _ h := by cases h
  own _ _ h := by cases h
  imm _ h := h
  sub _ h := h.elim
  glob := hg

theorem arg_ok (hb : Bulk bk) {t : Ty} {T : TypeId} {v : Value} {d : DataW H} {ps : List MemPlace} {r : Reach} {b : Nat} (hd : Deep P t (.inl T)) (hval : Value.okWide P w r b T v) (h : DataW.Trod enc P w 0 sp held T v d ps) :
    ∃ x : t.D, VRel (c0 w) [] w (dV t x) v ∧ wt t x ≤ bk d ∧ WfD t x := by
  obtain ⟨fuel, hf⟩ := h
  obtain ⟨x, hx, hw⟩ := read_ok hb t (.inl T) hd fuel _ d ps hf
  refine ⟨x, ?_, hw, DRel.wf _ _ _ hx⟩
  cases t with
  | u8 =>
    obtain ⟨n, rfl⟩ := okWide_int hd hval
    have hx : [Value.int .u8 n] = [.int .u8 (x.toNat : Int)] := hx
    simp only [List.cons.injEq, Value.int.injEq, true_and, and_true] at hx
    subst hx
    exact .u8 x
  | int k =>
    obtain ⟨n, rfl⟩ := okWide_int hd hval
    obtain ⟨hx, h1, h2⟩ := hx
    have hx : [Value.int k n] = [.int k x] := hx
    simp only [List.cons.injEq, Value.int.injEq, true_and, and_true] at hx
    subst hx
    exact .int k _ h1 h2
  | bool =>
    obtain ⟨n, rfl⟩ := okWide_bool hd hval
    have hx : [Value.bool n] = [.bool x] := hx
    simp only [List.cons.injEq, Value.bool.injEq, and_true] at hx
    subst hx
    exact .b _ _ Iff.rfl
  | str =>
    obtain ⟨s, rfl⟩ := okWide_string hd hval
    obtain ⟨hx, h1⟩ := hx
    have hx : [Value.string s] = [.string ⟨x.toArray⟩] := hx
    simp only [List.cons.injEq, Value.string.injEq, and_true] at hx
    subst hx
    exact .str x h1
  | sl t =>
    obtain ⟨e, hu, _⟩ := hd
    obtain ⟨a, len, cap, rfl⟩ := okWide_slice hu hval
    exact .sl false t x _ hx
  | nil => exact hd.elim
  | fnT => exact hd.elim
  | mapT t => exact hd.elim
  | arr n t =>
    obtain ⟨e, hu, _⟩ := hd
    unfold Value.okWide at hval
    rw [hu] at hval
    obtain ⟨cs, rfl, hsz, _⟩ := hval
    have := VRel.dat (c := c0 w) (H := []) (w := w) false (.arr n t) x _ hx
    exact id (α := VRel (c0 w) [] w (.dat false (.arr n t) x) (.agg cs)) (by simpa [Value.cells] using this)
  | cons t ts =>
    obtain ⟨fs, f, fs', hu, _⟩ := hd
    obtain ⟨cs, rfl, hsz⟩ := okWide_struct hu hval
    have hl := DRel.length _ _ _ hx
    have := getCells_ok (c := c0 w) (H := []) (fr := false) hx (Ty.cons t ts).size 0 (by rw [Nat.zero_add, hl]; exact Nat.le_refl _)
    rw [List.drop_zero, List.take_of_length_le (by rw [hl]; exact Nat.le_refl _)] at this
    have := VRel.agg _ _ this
    exact id (α := VRel (c0 w) [] w (.agg (getCells false _ x 0 _)) (.agg cs)) (by simpa [Value.cells] using this)

theorem law_ok {E : Env} {f : FuncId} {fn : Func} {args : List V} {vs : List Value} (hk : Known P E) (hyl : E.yl = none) (hf : P.funcs[f]? = some fn) (hV : VRels (c0 w) [] w args vs)
    (hg : ∀ g x, lk E.glob g = some x → VRel (c0 w) [] w x (.pointer (some ⟨g, 0, none⟩))) (hb : bodyP E fn [.k] args (.b True) []) :
    Calls P f vs.toArray w fun e w' => e = .returned (.bool true) ∧ Below w.heap.size w w' := by
  refine (body_ok hk hyl (fun _ _ _ => trivial) rfl (fun _ h => h) hf (st0 hg) hV hb).mono ?_
  rintro e w' ⟨x, v, H', c', rfl, hq, hx, hst⟩
  obtain ⟨c2, v2, H2, ⟨_, rfl, _⟩, hst2, hx2⟩ := retK_ok hk.glob hk.noref hst hx hq
  cases hx2 with | b _ y hy =>
  have : y = true := hy.2 trivial
  subst this
  exact ⟨rfl, hst.below⟩

theorem tab_ok {g : Nat} {zs : List UInt8} (hsz : g < w.heap.size) (h : ∀ i, i < zs.length → w.cell? ⟨g, i, none⟩ = some (.int .u8 ((zs.getD i 0).toNat : Int))) {n : Nat} (hn : zs.length = n) : VRel (c0 w) [] w (.rp false (.arr n .u8) zs 0) (.pointer (some ⟨g, 0, none⟩)) := by
  refine .rp false (.arr n .u8) zs 0 g 0 (zs.map fun z => .int .u8 (z.toNat : Int)) hsz ⟨hn, zs.map fun z => [.int .u8 (z.toNat : Int)], ?_, by simp [hn], fun i x es hi he => ?_⟩ fun j v hj => ?_
  · clear h hn
    induction zs with
    | nil => rfl
    | cons z zs ih => simp only [List.map_cons, List.flatten_cons, ← ih]; rfl
  · rw [List.getElem?_map, hi] at he
    simp only [Option.map_some, Option.some.injEq] at he
    exact he.symm
  · rw [List.getElem?_map] at hj
    rcases Nat.lt_or_ge j zs.length with g1 | g1
    · rw [List.getElem?_eq_getElem g1] at hj
      simp only [Option.map_some, Option.some.injEq] at hj
      have := h j g1
      rw [List.getD_eq_getElem?_getD, List.getElem?_eq_getElem g1, Option.getD_some, hj] at this
      rwa [Nat.zero_add]
    · rw [List.getElem?_eq_none g1] at hj; cases hj
end
end Go.Proofs.Ytgljcfnplkcfhaa.Vc

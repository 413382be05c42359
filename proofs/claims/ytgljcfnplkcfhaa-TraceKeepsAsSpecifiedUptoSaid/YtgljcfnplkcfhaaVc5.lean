/- How a state is seen at the head of a loop: new numbers for the blocks. -/
import Derived.Test.YtgljcfnplkcfhaaVc4
set_option linter.unusedVariables false
set_option linter.unusedSimpArgs false
namespace Go.Proofs.Ytgljcfnplkcfhaa.Vc
open Go Go.RowKit

section
variable {G : List (Nat × V)} {base : Nat} {w0 : W0} {c : Cx} {H : List Blk} {w : World}

def Cx.ren (c : Cx) (sel : List Nat) : Cx := { c with ρ := fun k => (sel[k]?).bind c.ρ, β := fun k => ((sel[k]?).map c.β).getD 0, gi := c.gi.bind (idxIn sel) }
theorem beta_ren {sel : List Nat} {k i : Nat} (hk : sel[k]? = some i) : (c.ren sel).β k = c.β i := by simp [Cx.ren, hk]

theorem inL_iff : ∀ (l : List Nat) (n : Nat), inL l n = true ↔ n ∈ l
  | [], n => by simp [inL]
  | x :: l, n => by
    simp only [inL, Bool.or_eq_true, List.mem_cons, inL_iff l n]
    constructor
    · rintro (h | h)
      · exact .inl (beq_ok h).symm
      · exact .inr h
    · rintro (h | h)
      · subst h; exact .inl (Nat.beq_refl _)
      · exact .inr h
theorem nodupB_iff : ∀ l : List Nat, nodupB l = true → l.Nodup
  | [], _ => List.nodup_nil
  | x :: l, h => by
    simp only [nodupB, Bool.and_eq_true, Bool.not_eq_true'] at h
    refine List.nodup_cons.2 ⟨fun hm => ?_, nodupB_iff l h.2⟩
    rw [(inL_iff l x).2 hm] at h
    simp at h
theorem idxIn_some : ∀ (l : List Nat) (n k : Nat), idxIn l n = some k → l[k]? = some n
  | [], n, k, h => by simp [idxIn] at h
  | x :: l, n, k, h => by
    unfold idxIn at h
    cases hb : Nat.beq x n with
    | true =>
      rw [hb] at h
      simp only [cond_true, Option.some.injEq] at h
      subst h
      have := beq_ok hb; subst this; rfl
    | false =>
      rw [hb] at h
      simp only [cond_false, Option.map_eq_some_iff] at h
      obtain ⟨j, h1, h2⟩ := h
      subst h2
      simpa using idxIn_some l n j h1

theorem idxIn_nodup : ∀ {l : List Nat}, l.Nodup → ∀ {k n : Nat}, l[k]? = some n → idxIn l n = some k
  | [], _, k, n, h => by simp at h
  | x :: l, hnd, k, n, h => by
    obtain ⟨h1, h2⟩ := List.nodup_cons.1 hnd
    unfold idxIn
    cases k with
    | zero =>
      obtain rfl : x = n := by simpa using h
      simp
    | succ k =>
      have h : l[k]? = some n := by simpa using h
      have hne : x ≠ n := fun e => by subst e; exact h1 (List.mem_of_getElem? h)
      cases hb : Nat.beq x n with
      | true => exact absurd (beq_ok hb) hne
      | false => simp [idxIn_nodup h2 h]

theorem getB_selH (sel : List Nat) (H : List Blk) : ∀ (l : List Nat) (k : Nat), getB (selH sel H l) k = match l[k]? with | some i => renB sel (getB H i) | none => .dead
  | [], k => by cases k <;> rfl
  | i :: l, 0 => rfl
  | i :: l, k + 1 => by
    show getB (selH sel H l) k = _
    rw [getB_selH sel H l k]; simp
theorem length_selH (sel : List Nat) (H : List Blk) : ∀ l : List Nat, (selH sel H l).length = l.length
  | [] => rfl
  | i :: l => by simp [selH, length_selH sel H l]
theorem length_renL (sel : List Nat) : ∀ l : List V, (renL sel l).length = l.length
  | [] => rfl
  | b :: l => by simp [renL, length_renL sel l]
theorem gets_renL (sel : List Nat) : ∀ (l : List V) (j : Nat), gets (renL sel l) j = renV sel (gets l j)
  | [], j => by cases j <;> rfl
  | b :: l, 0 => rfl
  | b :: l, j + 1 => gets_renL sel l j

section
variable {sel : List Nat} {H' : List Blk}
theorem OwnAt.ren {i k z off : Nat} {a : Option Addr} {cap : Nat} (hk : sel[k]? = some i) (h : OwnAt c w i z off a cap) : OwnAt (c.ren sel) w k z off a cap := by
  obtain ⟨g, e, cur, h1, h2⟩ := h
  exact ⟨g, e, cur, by simp [Cx.ren, hk, h1], by rw [beta_ren hk]; exact h2⟩
mutual
theorem VRel.ren (hs : ∀ k i, sel[k]? = some i → shape H' k = shape H i) : ∀ {x : V} {v : Value}, VRel c H w x v → VRel (c.ren sel) H' w (renV sel x) v
  | _, _, .undef v => .undef v
  | _, _, .int k n h1 h2 => .int k n h1 h2
  | _, _, .u8 x => .u8 x
  | _, _, .b p x h => .b p x h
  | _, _, .bt x => .bt x
  | _, _, .nope => .nope
  | _, _, .str s h => .str s h
  | _, _, .nils => .nils
  | _, _, .sl fr t xs v h => .sl fr t xs v h
  | _, _, .own t i n a cap h1 hn hc ho => by
    unfold renV
    split
    · rename_i k hk
      have hk := idxIn_some _ _ _ hk
      exact .own t k n a cap ((hs k i hk).trans h1) hn hc (ho.imp (fun h => h) (OwnAt.ren hk))
    · exact .undef _
  | _, _, .slc t i off n m a cap h1 h2 hn hc ho => by
    unfold renV
    split
    · rename_i k hk
      have hk := idxIn_some _ _ _ hk
      exact .slc t k off n m a cap ((hs k i hk).trans h1) h2 hn hc (ho.imp (fun h => h) (OwnAt.ren hk))
    · exact .undef _
  | _, _, .rp fr t x o g p es hM hd hc => .rp fr t x o g p es hM hd hc
  | _, _, .ptr i z j o g m h1 hr hi ho => by
    unfold renV
    split
    · rename_i k hk
      have hk := idxIn_some _ _ _ hk
      rw [← beta_ren (c := c) hk]
      exact .ptr k z j o g m ((hs k i hk).trans h1) (by simp [Cx.ren, hk, hr]) hi ho
    · exact .undef _
  | _, _, .agg cs vs h => .agg _ vs (VRels.ren hs h)
  | _, _, .tup cs vs h => .tup _ vs (VRels.ren hs h)
  | _, _, .fn f cs vs h => .fn f _ vs (VRels.ren hs h)
  | _, _, .nilfn => .nilfn
  | _, _, .yld k h => .yld (c := c.ren sel) k h
  | _, _, .dat fr t x es h => .dat fr t x es h
  | _, _, .rb x v g p hM hc h => .rb _ v g p hM hc (VRel.ren hs h)
  | _, _, .mp t i g h1 hr => by
    unfold renV
    split
    · rename_i k hk
      have hk := idxIn_some _ _ _ hk
      exact .mp t k g ((hs k i hk).trans h1) (by simp [Cx.ren, hk, hr])
    · exact .undef _
theorem VRels.ren (hs : ∀ k i, sel[k]? = some i → shape H' k = shape H i) : ∀ {xs : List V} {vs : List Value}, VRels c H w xs vs → VRels (c.ren sel) H' w (renL sel xs) vs
  | _, _, .nil => .nil
  | _, _, .cons x v xs vs h hx => .cons _ v _ vs (VRel.ren hs h) (VRels.ren hs hx)
end
end

theorem shape_sel {sel : List Nat} {k i : Nat} (hk : sel[k]? = some i) : shape (selH sel H sel) k = shape H i := by
  unfold shape
  rw [getB_selH, hk]
  simp only
  cases getB H i <;> simp [renB, length_renL]

theorem St.ren (hN : noRef G) (h : St G base w0 c H w) {sel : List Nat} (hnd : sel.Nodup) : St G base w0 (c.ren sel) (selH sel H sel) w where
  below := h.below
  xk := h.xk.step rfl (fun hg => by simp [Cx.ren, hg]) (fun g hg => .inl hg) (fun i g hi => by
    simp only [Cx.ren, Option.bind_eq_some_iff] at hi
    obtain ⟨j, _, hj⟩ := hi
    exact .inl ⟨j, hj⟩) (fun g o ho => .inl ho)
  size := h.size
  blk k := by
    rw [getB_selH]
    split
    · rename_i i hk
      have hbk := h.blk i
      generalize getB H i = b at hbk
      cases b with
      | dead => trivial
      | row fr t xs =>
        rcases hbk with ⟨h1, h2⟩ | ⟨g, e, cur, h1, h2⟩
        · exact .inl ⟨by simp [Cx.ren, hk, h1], h2⟩
        · exact .inr ⟨g, e, cur, by simp [Cx.ren, hk, h1], by rw [beta_ren hk]; exact h2⟩
      | cells cs =>
        rcases hbk with ⟨g, e, cur, h1, h2, h3, h4⟩ | ⟨h0, h1, h2⟩
        · refine .inl ⟨g, e, cur, by simp [Cx.ren, hk, h1], h2, by rw [length_renL, beta_ren hk]; exact h3, fun j hj => ?_⟩
          rw [beta_ren hk]
          rw [length_renL] at hj
          obtain ⟨v, h5, h6, h7⟩ := h4 j hj
          rw [gets_renL]
          exact ⟨v, h5, h6, h7.ren fun k i hk => shape_sel hk⟩
        · exact .inr ⟨by simp [Cx.ren, h0, idxIn_nodup hnd hk], by simp [Cx.ren, hk, h1], h2.ren fun k i hk => shape_sel hk⟩
      | imap fr t es =>
        obtain ⟨g, ents, clock, h1, h2⟩ := hbk
        exact ⟨g, ents, clock, by simp [Cx.ren, hk, h1], h2⟩
    · trivial
  inj i j g hi hj := by
    simp only [Cx.ren, Option.bind_eq_some_iff] at hi hj
    obtain ⟨i', hi1, hi2⟩ := hi
    obtain ⟨j', hj1, hj2⟩ := hj
    have := h.inj i' j' g hi2 hj2
    subst this
    exact (List.getElem?_inj (by exact (List.getElem?_eq_some_iff.1 hi1).1) hnd).1 (hi1.trans hj1.symm)
  own i g hi := by
    simp only [Cx.ren, Option.bind_eq_some_iff] at hi
    obtain ⟨i', hi1, hi2⟩ := hi
    obtain ⟨h1, h2, h3, _⟩ := h.own i' g hi2
    exact ⟨h1, h2, h3, by rw [length_selH]; exact (List.getElem?_eq_some_iff.1 hi1).1⟩
  imm := h.imm
  sub := h.sub
  glob g x hx := by
    obtain ⟨t, y, o, rfl⟩ := hN g x hx
    exact (h.glob g _ hx).ren fun k i hk => shape_sel hk

theorem picks_ok {tm : List Value} : ∀ (keep : List (Nat × Mode)) {σ : List V} {K : List V → Prop}, VRels c H w σ tm → picks σ keep K → ∃ vs, K vs ∧ VRels c H w vs (keep.map fun x => tm.getD x.1 undef)
  | [], σ, K, _, h => ⟨[], h, .nil⟩
  | (i, m) :: l, σ, K, hσ, h => by
    have h := (forceV_eq _ _).1 h
    obtain ⟨vs, h1, h2⟩ := picks_ok l hσ h
    exact ⟨_, h1, .cons _ _ _ _ (hσ.get i).nb h2⟩

theorem VRels.rev {xs : List V} {vs : List Value} (h : VRels c H w xs vs) : VRels c H w xs.reverse vs.reverse := by
  have key : ∀ (xs : List V) (vs : List Value) (ys : List V) (us : List Value), VRels c H w xs vs → VRels c H w ys us → VRels c H w (xs.reverse ++ ys) (vs.reverse ++ us) := by
    intro xs
    induction xs with
    | nil => intro vs ys us h h'; cases h; simpa using h'
    | cons x xs ih =>
      intro vs ys us h h'
      cases h with | cons _ v _ vs h hs =>
      have := ih vs (x :: ys) (v :: us) hs (.cons _ _ _ _ h h')
      simpa using this
  have := key xs vs [] [] h .nil
  simpa using this

theorem VRels.setNil {i : Nat} {x : V} (hx : VRel c H w x (.slice none 0 0)) : ∀ {cs : List V} {vs : List Value} (i : Nat), VRels c H w cs vs → gets cs i = .nils → VRels c H w (sets cs i x) vs
  | _, _, i, .nil, h => .nil
  | _, _, 0, .cons y v xs vs hy hs, h => by
    have h : y = .nils := h
    subst h
    cases hy
    exact .cons _ _ _ _ hx hs
  | _, _, i + 1, .cons y v xs vs hy hs, h => .cons _ _ _ _ hy (VRels.setNil (i := i) hx i hs h)

theorem length_sets (l : List V) : ∀ i x, (sets l i x).length = l.length := by
  intro i x; rw [sets_eq]; simp
theorem gets_sets (l : List V) (i j : Nat) (x : V) : gets (sets l i x) j = if j = i ∧ i < l.length then x else gets l j := by
  rw [sets_eq, gets_eq, gets_eq, List.getD_eq_getElem?_getD, List.getD_eq_getElem?_getD, List.getElem?_set]
  by_cases h : i = j
  · subst h
    by_cases h2 : i < l.length
    · simp [h2]
    · simp [h2]
  · rw [if_neg h, if_neg (fun e => h e.1.symm)]

theorem ext_setCells {cs cs' : List V} {id : Nat} (hb : getB H id = .cells cs) (hl : cs'.length = cs.length) : Ext c H w c (setB H id (.cells cs')) w where
  M g hg := hg
  N g hg := hg
  mem g hg := rfl
  shp j s hs := by
    refine ⟨?_, rfl⟩
    by_cases hj : j = id
    · subst hj
      have := shape_lt hs
      unfold shape at *
      rw [getB_setB, if_pos ⟨rfl, this⟩]
      rw [hb] at hs
      simpa [hl] using hs
    · rw [shape_setB_ne hj]; exact hs
  siz id s g cur e _ _ hg := ⟨cur, hg, rfl⟩
  x := rfl
  gi := rfl
  bas _ _ _ := rfl

theorem St.setNil (h : St G base w0 c H w) {id i : Nat} {cs : List V} (hb : getB H id = .cells cs) {x : V} (hx : VRel c H w x (.slice none 0 0)) (hi : gets cs i = .nils) : St G base w0 c (setB H id (.cells (sets cs i x))) w := by
  have he : Ext c H w c (setB H id (.cells (sets cs i x))) w := ext_setCells hb (length_sets _ _ _)
  have hlt : id < H.length := by
    rcases Nat.lt_or_ge id H.length with g | g
    · exact g
    · rw [getB_ge H id g] at hb; cases hb
  exact
  { below := h.below
    xk := h.xk
    size := h.size
    blk := fun j => by
      rw [getB_setB]
      split
      · rename_i hj
        obtain ⟨rfl, _⟩ := hj
        have hbk := h.blk j
        rw [hb] at hbk
        rcases hbk with ⟨g, e, cur, h1, h2, h3, h4⟩ | ⟨h0, h1, h2⟩
        · refine .inl ⟨g, e, cur, h1, h2, by rw [length_sets]; exact h3, fun k hk => ?_⟩
          rw [length_sets] at hk
          obtain ⟨v, h5, h6, h7⟩ := h4 k hk
          refine ⟨v, h5, h6, ?_⟩
          rw [gets_sets]
          split
          · rename_i hk2
            obtain ⟨rfl, _⟩ := hk2
            rw [hi] at h7
            cases h7
            exact hx.ext he
          · exact h7.ext he
        · exact .inr ⟨h0, h1, (VRels.setNil (i := i) hx i h2 hi).ext he⟩
      · exact BOk.keep he (fun _ => rfl) (fun _ => rfl) (fun g _ => rfl) (h.blk j)
    inj := h.inj
    own := fun i g hi => by
      obtain ⟨h1, h2, h3, h4⟩ := h.own i g hi
      exact ⟨h1, h2, h3, by rw [length_setB]; exact h4⟩
    imm := h.imm
    sub := h.sub
    glob := fun g x hx => (h.glob g x hx).ext he }

theorem nilC_ok {id : Nat} : ∀ (l : List (Nat × Ty)) (H : List Blk) (K : List Blk → Prop), St G base w0 c H w → nilC id l H K → ∃ H', K H' ∧ St G base w0 c H' w ∧ Ext c H w c H' w
  | [], H, K, hst, h => ⟨H, h, hst, Ext.refl _ _ _⟩
  | (i, t) :: l, H, K, hst, h => by
    unfold nilC at h
    split at h <;> try exact h.elim
    rename_i cs hb
    split at h
    · rename_i hi
      have h := (forceL_eq _ _).1 ((forceL_eq _ _).1 h)
      have hlt : id < H.length := by
        rcases Nat.lt_or_ge id H.length with g | g
        · exact g
        · rw [getB_ge H id g] at hb; cases hb
      have hb' : getB (H ++ [.row true t []]) id = .cells cs := by rw [getB_append, if_neg (by omega)]; exact hb
      have hx : VRel c (H ++ [.row true t []]) w (.own t H.length) (.slice none 0 0) := .own t H.length 0 none 0 (by simp [shape, getB_append]) (Nat.le_refl _) (by simp) (.inl rfl)
      obtain ⟨H', h1, h2, h3⟩ := nilC_ok l _ K ((hst.virt true t).setNil hb' hx hi) h
      exact ⟨H', h1, h2, ((St.ext_virt _).trans (ext_setCells hb' (length_sets _ _ _))).trans h3⟩
    · exact nilC_ok l H K hst h

theorem nilA_ok {vs : List Value} : ∀ (l : List (Nat × Ty)) (cs : List V) (H : List Blk) (K : List V → List Blk → Prop), St G base w0 c H w → VRels c H w cs vs → nilA l cs H K → ∃ cs' H', K cs' H' ∧ St G base w0 c H' w ∧ Ext c H w c H' w ∧ VRels c H' w cs' vs
  | [], cs, H, K, hst, hv, h => ⟨cs, H, h, hst, Ext.refl _ _ _, hv⟩
  | (i, t) :: l, cs, H, K, hst, hv, h => by
    unfold nilA at h
    split at h
    · rename_i hi
      have h := (forceL_eq _ _).1 ((forceL_eq _ _).1 h)
      have hx : VRel c (H ++ [.row true t []]) w (.own t H.length) (.slice none 0 0) := .own t H.length 0 none 0 (by simp [shape, getB_append]) (Nat.le_refl _) (by simp) (.inl rfl)
      obtain ⟨cs', H', h1, h2, h3, h4⟩ := nilA_ok l _ _ K (hst.virt true t) (VRels.setNil (i := i) hx i (hv.ext (St.ext_virt _)) hi) h
      exact ⟨cs', H', h1, h2, (St.ext_virt _).trans h3, h4⟩
    · exact nilA_ok l cs H K hst hv h

theorem frzCs_ok (hG : GlobOk G) : ∀ (l : List V) (c : Cx) (cs vs ds : List V) (H : List Blk) (us uv ud : List Value) (K : List V → List V → List V → List Blk → Prop), St G base w0 c H w → VRels c H w cs us → VRels c H w vs uv → VRels c H w ds ud → frzCs l cs vs ds H K →
    ∃ c' cs' vs' ds' H', K cs' vs' ds' H' ∧ St G base w0 c' H' w ∧ VRels c' H' w cs' us ∧ VRels c' H' w vs' uv ∧ VRels c' H' w ds' ud ∧ (∀ g, c.M g → c'.M g) ∧ c'.gi = c.gi
  | [], c, cs, vs, ds, H, us, uv, ud, K, hst, h1, h2, h3, h => ⟨c, cs, vs, ds, H, h, hst, h1, h2, h3, fun _ h => h, rfl⟩
  | x :: l, c, cs, vs, ds, H, us, uv, ud, K, hst, h1, h2, h3, h => by
    cases x with
    | own t j =>
      unfold frzCs at h
      split at h <;> try exact h.elim
      rename_i fr t' xs hb
      have h := (forceL_eq _ _).1 ((forceL_eq _ _).1 ((forceL_eq _ _).1 ((forceL_eq _ _).1 h)))
      have hy : ∀ t v, VRel c H w (.own t j) v → VRel (c.frz j) (setB (frzH j (.sl fr _ xs) H) j .dead) w (.sl fr _ xs) v := fun t' v hv => frz_row hst hb t' v hv
      have hsh : ∀ k, k ≠ j → shape (setB (frzH j (.sl fr _ xs) H) j .dead) k = shape H k := fun k hk => shape_frz hk
      obtain ⟨c', a1, a2, a3, a4, k1, k2, k3, k4, k5, k6, k7⟩ := frzCs_ok hG l (c.frz j) _ _ _ _ us uv ud K (hst.frz hG hb) (h1.frz hsh hy fun _ _ _ _ _ => .undef _) (h2.frz hsh hy fun _ _ _ _ _ => .undef _) (h3.frz hsh hy fun _ _ _ _ _ => .undef _) h
      exact ⟨c', a1, a2, a3, a4, k1, k2, k3, k4, k5, fun g hg => k6 g (.inl hg), k7.trans rfl⟩
    | _ => exact frzCs_ok hG l c cs vs ds H us uv ud K hst h1 h2 h3 h

theorem shape_row {id : Nat} {l : List V} {f : Bool} {t : Ty} {xs : List (Ty.sl t).D} (hb : getB H id = .cells l) (hl : xs.length = l.length) (j : Nat) : shape (setB H id (.row f (.sl t) xs)) j = shape H j := by
  by_cases hj : j = id
  · subst hj
    have hlt : j < H.length := by
      rcases Nat.lt_or_ge j H.length with g | g
      · exact g
      · rw [getB_ge H j g] at hb; cases hb
    unfold shape
    rw [getB_setB, if_pos ⟨rfl, hlt⟩, hb]
    simp only [hl]; rfl
  · exact shape_setB_ne hj

theorem ext_row {id : Nat} {l : List V} {f : Bool} {t : Ty} {xs : List (Ty.sl t).D} (hb : getB H id = .cells l) (hl : xs.length = l.length) : Ext c H w c (setB H id (.row f (.sl t) xs)) w where
  M g hg := hg
  N g hg := hg
  mem g hg := rfl
  shp j s hs := ⟨(shape_row hb hl j).trans hs, rfl⟩
  siz id s g cur e _ _ hg := ⟨cur, hg, rfl⟩
  x := rfl
  gi := rfl
  bas _ _ _ := rfl

theorem St.toRow (h : St G base w0 c H w) {id : Nat} {l : List V} {t t' : Ty} {u : Value} {K : Bool → List (Ty.sl t).D → Prop} (hb : getB H id = .cells l) (ho : VRel c H w (.own t' id) u) (hK : asEls (.sl t) l K) :
    ∃ f xs, K f xs ∧ xs.length = l.length ∧ St G base w0 c (setB H id (.row f (.sl t) xs)) w := by
  have hlt : id < H.length := by
    rcases Nat.lt_or_ge id H.length with g | g
    · exact g
    · rw [getB_ge H id g] at hb; cases hb
  have hN : ∀ g, c.N g → c.M g := fun g hg => (h.sub g hg).1
  have hbk := h.blk id
  rw [hb] at hbk
  have key : ∃ f xs, K f xs ∧ xs.length = l.length ∧ BOk c H w id (.row f (.sl t) xs) := by
    rcases hbk with ⟨g, e, cur, h1, h2, h3, h4⟩ | ⟨h0, h1, h2⟩
    · have hus : ∃ us : List Value, VRels c H w l us ∧ ∀ j, j < l.length → ∃ v, us[j]? = some v ∧ cur[c.β id + j]? = some v ∧ v.oneCell' = true := by
        have gen : ∀ (l : List V) (k : Nat), (∀ j, j < l.length → ∃ v, cur[k + j]? = some v ∧ v.oneCell' = true ∧ VRel c H w (gets l j) v) → ∃ us : List Value, VRels c H w l us ∧ ∀ j, j < l.length → ∃ v, us[j]? = some v ∧ cur[k + j]? = some v ∧ v.oneCell' = true := by
          intro l
          induction l with
          | nil => intro k _; exact ⟨[], .nil, fun j hj => by simp at hj⟩
          | cons x l ih =>
            intro k hk
            obtain ⟨v, g1, g2, g3⟩ := hk 0 (by simp)
            obtain ⟨us, g4, g5⟩ := ih (k + 1) fun j hj => by
              have := hk (j + 1) (by simpa using hj)
              rwa [show k + (j + 1) = k + 1 + j by omega] at this
            refine ⟨v :: us, .cons _ _ _ _ g3 g4, fun j hj => ?_⟩
            cases j with
            | zero => exact ⟨v, rfl, g1, g2⟩
            | succ j =>
              obtain ⟨u, k1, k2, k3⟩ := g5 j (by simpa using hj)
              exact ⟨u, by simpa using k1, by rwa [show k + (j + 1) = k + 1 + j by omega], k3⟩
        exact gen l (c.β id) h4
      obtain ⟨us, hr, hu⟩ := hus
      obtain ⟨f, xs, k1, k2, k3⟩ := asEls_rel hK hr
      have hlen := hr.length
      refine ⟨f, xs, k1, by omega, .inr ⟨g, e, cur, h1, h2, by show c.β id + xs.length * 1 ≤ _; omega, fun i x hx => ?_⟩⟩
      have hi : i < xs.length := (List.getElem?_eq_some_iff.1 hx).1
      obtain ⟨v, g1, g2, g3⟩ := hu i (by omega)
      refine ⟨v.cells.toList, k3 f (fun h => h) hN i x v hx g1, fun j v' hj => ?_⟩
      rw [one_cells g3] at hj
      cases j with
      | zero =>
        have : v = v' := by simpa using hj
        subst this
        show cur[c.β id + (i * 1 + 0)]? = _
        rw [show i * 1 + 0 = i by omega]; exact g2
      | succ j => simp at hj
    · exfalso
      cases ho with | own _ _ n a cap hs hn hc ho =>
      simp only [shape, hb, Option.some.injEq, Prod.mk.injEq] at hs
      rcases ho with ho | ⟨g, e, cur, hr, _⟩
      · have hl0 : l = [] := List.eq_nil_of_length_eq_zero (by omega)
        subst hl0
        generalize hgh : c.x.gh = gh at h2
        cases h2
        have := h.xk.gi (h.xk.gh.symm.trans hgh)
        rw [h0] at this; cases this
      · rw [h1] at hr; cases hr
  obtain ⟨f, xs, k1, k2, k3⟩ := key
  have he : Ext c H w c (setB H id (.row f (.sl t) xs)) w := ext_row hb k2
  exact ⟨f, xs, k1, k2,
  { below := h.below
    xk := h.xk
    size := h.size
    blk := fun j => by
      rw [getB_setB]
      split
      · rename_i hj
        obtain ⟨rfl, _⟩ := hj
        exact BOk.keep he (fun _ => rfl) (fun _ => rfl) (fun g _ => rfl) k3
      · exact BOk.keep he (fun _ => rfl) (fun _ => rfl) (fun g _ => rfl) (h.blk j)
    inj := h.inj
    own := fun i g hi => by
      obtain ⟨h1, h2, h3, h4⟩ := h.own i g hi
      exact ⟨h1, h2, h3, by rw [length_setB]; exact h4⟩
    imm := h.imm
    sub := h.sub
    glob := fun g x hx => (h.glob g x hx).ext he }⟩

theorem St.rebase (hG : GlobOk G) (hst : St G base w0 c H w) {id off n : Nat} {fr : Bool} {t : Ty} {xs : List t.D} (hb : getB H id = .row fr t xs) (hon : off + n = xs.length) {u : Value} (hu : VRel c H w (.slc t id off n) u) :
    ∃ c', St G base w0 c' (setB (killH id H) id (.row fr t (xs.drop off))) w ∧ Ext c (deadH H id) w c' (setB (killH id H) id (.row fr t (xs.drop off))) w ∧ VRel c' (setB (killH id H) id (.row fr t (xs.drop off))) w (.own t id) u ∧ (∀ g, c.M g → c'.M g) ∧ c'.gi = c.gi := by
  cases hu with | slc _ _ _ _ m a cap hs hm hn hc ho =>
  have hk := hst.kill hG id
  have hidl : id < H.length := by
    rcases Nat.lt_or_ge id H.length with g | g
    · exact g
    · rw [getB_ge H id g] at hb; cases hb
  have hidl' : id < (deadH H id).length := by unfold deadH; rw [length_setB, length_killH]; exact hidl
  have hset : ∀ b, setB (deadH H id) id b = setB (killH id H) id b := fun b => by
    have key : ∀ (L : List Blk) (k : Nat), setB (setB L k .dead) k b = setB L k b := by
      intro L
      induction L with
      | nil => intro k; rfl
      | cons u L ih => intro k; cases k with
        | zero => rfl
        | succ k => simp [setB, ih]
    exact key _ _
  have hlen : (xs.drop off).length = n := by rw [List.length_drop]; omega
  have hbo := hst.blk id
  rw [hb] at hbo
  rw [← hset]
  rcases hbo with ⟨hrho, h2⟩ | ⟨g, e, cur, hr, hg, hsz, hel⟩
  · subst h2
    have hd : ([] : List t.D).drop off = [] := by simp
    have hn0 : n = 0 := by simp at hon; omega
    have hext : Ext c (deadH H id) w c (setB (deadH H id) id (.row fr t (([] : List t.D).drop off))) w :=
      ⟨fun _ h => h, fun _ h => h, fun _ _ => rfl, fun j s hs => by
        have hj : j ≠ id := fun e => by subst e; simp [shape, getB_deadH_self] at hs
        exact ⟨by rw [shape_setB_ne hj]; exact hs, rfl⟩, fun _ _ _ cur _ _ _ h => ⟨cur, h, rfl⟩, rfl, rfl, fun _ _ _ => rfl⟩
    refine ⟨c, ⟨hk.below, hk.xk, hk.size, fun j => ?_, hk.inj, fun j g hj => by rw [length_setB]; exact hk.own j g hj, hk.imm, hk.sub, fun g x hx => (hk.glob g x hx).ext hext⟩, hext, ?_, fun _ h => h, rfl⟩
    · rw [getB_setB]
      split
      · rename_i hj; obtain ⟨rfl, _⟩ := hj; exact .inl ⟨hrho, hd⟩
      · exact BOk.keep hext (fun _ => rfl) (fun _ => rfl) (fun _ _ => rfl) (hk.blk j)
    · exact .own t id n a cap (by simp [shape, getB_setB, hidl', hn0]) hn hc (ho.imp (fun h => h) fun ⟨g, e, cur, h1, _⟩ => by rw [hrho] at h1; cases h1)
  · have hsz1 : c.β id + off * t.size + n * t.size ≤ cur.size := by
      rw [← hon, Nat.add_mul] at hsz; omega
    have hel1 : ∀ (i : Nat) (x : t.D), (xs.drop off)[i]? = some x → ∃ es : List Value, DRel w (c.im fr) t x es ∧ ∀ (j : Nat) (v : Value), es[j]? = some v → cur[c.β id + off * t.size + (i * t.size + j)]? = some v := fun i x hx => by
      rw [List.getElem?_drop] at hx
      obtain ⟨es, e1, e2⟩ := hel _ x hx
      refine ⟨es, e1, fun j v hj => ?_⟩
      have := e2 j v hj
      rw [Nat.add_mul] at this
      rw [show c.β id + off * t.size + (i * t.size + j) = c.β id + (off * t.size + i * t.size + j) by omega]
      exact this
    have hz : ∀ o : Obj, c.ρ id = some g → w.heap[g]? = some o → ∃ cur e cur', o = .cells cur e (0, 0) ∧ w.heap[g]? = some (.cells cur' e (0, 0)) ∧ cur'.size = cur.size := fun o _ ho => ⟨cur, e, cur, by rw [hg] at ho; exact (Option.some.inj ho).symm, hg, rfl⟩
    rcases ho with h0 | ⟨g', e', cur', hr', ha, hg', hsz'⟩
    · obtain ⟨r1, r2, _⟩ := revive_row (q := c.β id + off * t.size) (w' := w) hk id g fr t (xs.drop off) cur e hidl' getB_deadH_self (fun _ _ _ => rfl) (.inl hr) hg hz (Below.refl _ _) (by rw [hlen]; exact hsz1) hel1 n (by rw [hlen]; exact Nat.le_refl _) (by omega) hsz1
      refine ⟨_, r1, r2, ?_, fun _ h => h, rfl⟩
      exact .own t id n a cap (by simp [shape, getB_setB, hidl']; omega) hn hc (.inl h0)
    · rw [hr] at hr'; cases hr'
      rw [hg] at hg'; cases hg'
      obtain ⟨r1, r2, r3⟩ := revive_row (q := c.β id + off * t.size) (w' := w) hk id g fr t (xs.drop off) cur e hidl' getB_deadH_self (fun _ _ _ => rfl) (.inl hr) hg hz (Below.refl _ _) (by rw [hlen]; exact hsz1) hel1 cap (by rw [hlen]; exact hn) hc hsz'
      refine ⟨_, r1, r2, ?_, fun _ h => h, rfl⟩
      rw [ha]
      rw [hlen] at r3
      exact r3

theorem shape_weak {H : List Blk} {id : Nat} {fr : Bool} {t : Ty} {xs : List t.D} (hb : getB H id = .row fr t xs) (j : Nat) : shape (setB H id (.row false t xs)) j = shape H j := by
  by_cases hj : j = id
  · subst hj
    have hlt : j < H.length := by
      rcases Nat.lt_or_ge j H.length with g | g
      · exact g
      · rw [getB_ge H j g] at hb; cases hb
    unfold shape
    rw [getB_setB, if_pos ⟨rfl, hlt⟩, hb]
  · exact shape_setB_ne hj
theorem ext_weak {id : Nat} {fr : Bool} {t : Ty} {xs : List t.D} (hb : getB H id = .row fr t xs) : Ext c H w c (setB H id (.row false t xs)) w where
  M g hg := hg
  N g hg := hg
  mem g hg := rfl
  shp j s hs := ⟨(shape_weak hb j).trans hs, rfl⟩
  siz id s g cur e _ _ hg := ⟨cur, hg, rfl⟩
  x := rfl
  gi := rfl
  bas _ _ _ := rfl
theorem St.weak (h : St G base w0 c H w) {id : Nat} {fr : Bool} {t : Ty} {xs : List t.D} (hb : getB H id = .row fr t xs) : St G base w0 c (setB H id (.row false t xs)) w := by
  have he : Ext c H w c (setB H id (.row false t xs)) w := ext_weak hb
  have hlt : id < H.length := by
    rcases Nat.lt_or_ge id H.length with g | g
    · exact g
    · rw [getB_ge H id g] at hb; cases hb
  exact {
    below := h.below
    xk := h.xk
    size := h.size
    blk := fun j => by
      rw [getB_setB]
      split
      · rename_i hj
        obtain ⟨rfl, _⟩ := hj
        have hbk := h.blk j
        rw [hb] at hbk
        refine BOk.keep he (fun _ => rfl) (fun _ => rfl) (fun g _ => rfl) ?_
        rcases hbk with h1 | ⟨g, e, cur, h1, h2, h3, h4⟩
        · exact .inl h1
        · refine .inr ⟨g, e, cur, h1, h2, h3, fun i x hi => ?_⟩
          obtain ⟨es, h5, h6⟩ := h4 i x hi
          refine ⟨es, ?_, h6⟩
          cases fr with
          | false => exact h5
          | true => exact DRel.ext (fun g hg => (h.sub g hg).1) (fun g _ => rfl) t x es h5
      · exact BOk.keep he (fun _ => rfl) (fun _ => rfl) (fun g _ => rfl) (h.blk j)
    inj := h.inj
    own := fun i g hi => by
      obtain ⟨h1, h2, h3, h4⟩ := h.own i g hi
      exact ⟨h1, h2, h3, by rw [length_setB]; exact h4⟩
    imm := h.imm
    sub := h.sub
    glob := fun g x hx => (h.glob g x hx).ext he }

theorem viewA_ok (hG : GlobOk G) : ∀ (ms : List Mode) (c : Cx) (vs done : List V) (H : List Blk) (us ud : List Value) (K : List V → List Blk → Prop), St G base w0 c H w → VRels c H w vs us → VRels c H w done ud → ms.length = vs.length → viewA ms vs done H K →
    ∃ c' vs' H', K vs' H' ∧ St G base w0 c' H' w ∧ VRels c' H' w vs' (ud.reverse ++ us) ∧ (∀ g, c.M g → c'.M g) ∧ c'.gi = c.gi
  | [], c, vs, done, H, us, ud, K, hst, hv, hd, hl, h => by
    cases hv with
    | nil => exact ⟨c, _, H, h, hst, by simpa using hd.rev, fun _ h => h, rfl⟩
    | cons => simp at hl
  | m :: ms, c, [], done, H, us, ud, K, hst, hv, hd, hl, h => by simp at hl
  | m :: ms, c, v :: vs, done, H, us, ud, K, hst, hv, hd, hl, h => by
    cases hv with | cons _ u _ us hx hs =>
    have hl' : ms.length = vs.length := by simpa using hl
    have fin : ∀ {c' : Cx} {v' : V} {vs' done' : List V} {H' : List Blk}, St G base w0 c' H' w → VRels c' H' w vs' us → VRels c' H' w done' ud → VRel c' H' w v' u → (∀ g, c.M g → c'.M g) → c'.gi = c.gi → ms.length = vs'.length → viewA ms vs' (v' :: done') H' K →
        ∃ c' vs' H', K vs' H' ∧ St G base w0 c' H' w ∧ VRels c' H' w vs' (ud.reverse ++ u :: us) ∧ (∀ g, c.M g → c'.M g) ∧ c'.gi = c.gi := fun {c' v' vs' done' H'} h1 h2 h3 h4 hm hg h5 h6 => by
      obtain ⟨c2, vs2, H2, k1, k2, k3, k4, k5⟩ := viewA_ok hG ms c' vs' (v' :: done') H' us (u :: ud) K h1 h2 (.cons _ _ _ _ h4 h3) h5 h6
      exact ⟨c2, vs2, H2, k1, k2, by simpa using k3, fun g h => k4 g (hm g h), k5.trans hg⟩
    unfold viewA at h
    split at h
    · rename_i t
      cases hx
      exact fin (hst.virt true t) (hs.ext (St.ext_virt _)) (hd.ext (St.ext_virt _)) (.own t H.length 0 none 0 (by simp [shape, getB_append]) (Nat.le_refl _) (by simp) (.inl rfl)) (fun _ h => h) rfl hl' h
    · rename_i t
      cases hx
      exact fin hst hs hd (.sl _ _ _ _ ⟨none, 0, rfl, Nat.le_refl _, by simp, fun h => absurd rfl h⟩) (fun _ h => h) rfl hl' h
    · rename_i t t' id off n
      split at h
      · rename_i fr t2 xs hb
        obtain ⟨⟨e1, e2, e3⟩, h⟩ := h
        subst e1
        subst e2
        obtain ⟨e0, h⟩ := castK_ok h
        have h := (forceL_eq _ _).1 ((forceL_eq _ _).1 ((forceL_eq _ _).1 h))
        obtain ⟨c1, r1, r2, r3, r4, r5⟩ := hst.rebase hG hb e3 hx
        have hsh : ∀ j, j ≠ id → shape (deadH H id) j = shape H j := fun j hj => shape_deadH hj
        exact fin r1 ((hs.killed hsh).ext r2) ((hd.killed hsh).ext r2) r3 r4 r5 (by rw [length_killL]; exact hl') h
      · exact h.elim
    · rename_i t
      cases hx
      exact fin (hst.virt false t) (hs.ext (St.ext_virt _)) (hd.ext (St.ext_virt _)) (.own t H.length 0 none 0 (by simp [shape, getB_append]) (Nat.le_refl _) (by simp) (.inl rfl)) (fun _ h => h) rfl hl' h
    · rename_i t0 t' id
      split at h
      · rename_i fr t xs hb
        have h := (forceL_eq _ _).1 h
        have he := ext_weak (c := c) (w := w) hb
        exact fin (hst.weak hb) (hs.ext he) (hd.ext he) (hx.ext he) (fun _ h => h) rfl hl' h
      · exact h.elim
    · rename_i t0 t' id
      split at h
      · rename_i fr t xs hb
        obtain ⟨_, h⟩ := bif_ok h
        have hy : ∀ t v, VRel c H w (.own t id) v → VRel (c.frz id) (setB (frzH id (.sl fr _ xs) H) id .dead) w (.sl fr _ xs) v := fun t' v hv => frz_row hst hb t' v hv
        have hsh : ∀ j, j ≠ id → shape (setB (frzH id (.sl fr _ xs) H) id .dead) j = shape H j := fun j hj => shape_frz hj
        exact fin (hst.frz hG hb) (hs.frz hsh hy fun _ _ _ _ _ => .undef _) (hd.frz hsh hy fun _ _ _ _ _ => .undef _) (hy _ _ hx) (fun _ h => .inl h) rfl (by rw [length_frzL]; exact hl') h
      · exact h.elim
    · cases hx with | agg cs us' hr =>
      obtain ⟨cs', H', h, hst', he, hr'⟩ := nilA_ok _ _ _ _ hst hr h
      exact fin hst' (hs.ext he) (hd.ext he) (.agg _ _ hr') (fun _ h => h) rfl hl' h
    · obtain ⟨H', h, hst', he⟩ := nilC_ok _ _ _ hst h
      exact fin hst' (hs.ext he) (hd.ext he) (hx.ext he) (fun _ h => h) rfl hl' h
    · cases hx with | agg _ us' hr =>
      cases hr with | cons _ u1 _ us1 h1 h2 =>
      cases h1 with | agg _ us2 hr =>
      obtain ⟨cs', H', h, hst', he, hr'⟩ := nilA_ok _ _ _ _ hst hr h
      exact fin hst' (hs.ext he) (hd.ext he) (.agg _ _ (.cons _ _ _ _ (.agg _ _ hr') (h2.ext he))) (fun _ h => h) rfl hl' h
    · rename_i i t cs
      cases hx with | agg _ us' hr =>
      split at h
      · rename_i t1 id hi
        split at h <;> try exact h.elim
        rename_i l hb
        obtain ⟨c1, cs1, vs1, ds1, H1, h, hst1, hr1, hs1, hd1, hM1, hg1⟩ := frzCs_ok hG l c cs vs done H us' us ud _ hst hr hs hd h
        split at h <;> try exact h.elim
        rename_i l1 t2 id' hb1 hi1
        obtain ⟨hid, h⟩ := bif_ok h
        have hid := beq_ok hid
        subst hid
        have ho := hr1.get i
        rw [hi1] at ho
        obtain ⟨f, xs, h, hlx, hst2⟩ := hst1.toRow hb1 ho h
        have he : Ext c1 H1 w c1 (setB H1 id' (.row f (.sl t) xs)) w := ext_row hb1 hlx
        have hlt : id' < H1.length := by
          rcases Nat.lt_or_ge id' H1.length with g | g
          · exact g
          · rw [getB_ge H1 id' g] at hb1; cases hb1
        have hb2 : getB (setB H1 id' (.row f (.sl t) xs)) id' = .row f (.sl t) xs := by rw [getB_setB, if_pos ⟨rfl, hlt⟩]
        have hy : ∀ t3 v, VRel c1 (setB H1 id' (.row f (.sl t) xs)) w (.own t3 id') v → VRel (c1.frz id') (setB (frzH id' (.sl f _ xs) (setB H1 id' (.row f (.sl t) xs))) id' .dead) w (.sl f _ xs) v := fun t' v hv => frz_row hst2 hb2 t' v hv
        have hsh : ∀ j, j ≠ id' → shape (setB (frzH id' (.sl f _ xs) (setB H1 id' (.row f (.sl t) xs))) id' .dead) j = shape (setB H1 id' (.row f (.sl t) xs)) j := fun j hj => shape_frz hj
        exact fin (hst2.frz hG hb2) ((hs1.ext he).frz hsh hy fun _ _ _ _ _ => .undef _) ((hd1.ext he).frz hsh hy fun _ _ _ _ _ => .undef _) (.agg _ _ ((hr1.ext he).frz hsh hy fun _ _ _ _ _ => .undef _)) (fun g hg => .inl (hM1 g hg)) hg1 (by rw [length_frzL, hs1.length, ← hs.length]; exact hl') h
      · rename_i hi
        have h := (forceL_eq _ _).1 h
        exact fin hst hs hd (.agg _ _ (VRels.setNil (i := i) (.sl _ _ _ _ ⟨none, 0, rfl, Nat.le_refl _, by simp, fun h => absurd rfl h⟩) i hr hi)) (fun _ h => h) rfl hl' h
      · exact fin hst hs hd (.agg _ _ hr) (fun _ h => h) rfl hl' h
    · exact fin hst hs hd hx (fun _ h => h) rfl hl' h

theorem viewB_ok (hN : noRef G) {np : Nat} {ms : List Mode} {vs : List V} {us : List Value} {K : List V → List Blk → Prop} (hst : St G base w0 c H w) (hv : VRels c H w vs us) (h : viewB np ms vs H K) :
    ∃ c' vs' H', K vs' H' ∧ St G base w0 c' H' w ∧ VRels c' H' w vs' us ∧ (∀ g, c.M g → c'.M g) ∧ (∀ g, c.gi = some g → inL (upTo np [] ++ (idsOf np ms vs ++ idsM np H ms vs)) g = false → c'.gi = none) ∧ (c.gi = none → c'.gi = none) := by
  obtain ⟨hnd, h⟩ := h
  have h := (forceL_eq _ _).1 ((forceL_eq _ _).1 h)
  refine ⟨_, _, _, h, hst.ren hN (nodupB_iff _ hnd), hv.ren fun k i hk => shape_sel hk, fun _ h => h, fun g hg hn => ?_, fun hg => by simp [Cx.ren, hg]⟩
  simp only [Cx.ren, hg, Option.bind_some]
  cases hi : idxIn (upTo np [] ++ (idsOf np ms vs ++ idsM np H ms vs)) g with
  | none => rfl
  | some k =>
    have := List.mem_of_getElem? (idxIn_some _ _ _ hi)
    rw [(inL_iff _ _).2 this] at hn
    cases hn

theorem length_sprd : ∀ (f i : Nat) (keep : List (Nat × Mode)) (vs : List V), (sprd f i keep vs).length = f
  | 0, _, _, _ => rfl
  | f + 1, i, keep, vs => by
    unfold sprd
    split
    · cases Nat.beq _ i <;> simp [length_sprd f]
    · simp [length_sprd f]
theorem sprd_ok {tm : List Value} : ∀ (f i : Nat) (keep : List (Nat × Mode)) (vs : List V), VRels c H w vs (keep.map fun x => tm.getD x.1 undef) → i + f = tm.length → VRels c H w (sprd f i keep vs) (tm.drop i)
  | 0, i, keep, vs, hv, hl => by
    rw [List.drop_eq_nil_of_le (by omega)]
    exact .nil
  | f + 1, i, keep, vs, hv, hl => by
    have hi : i < tm.length := by omega
    rw [List.drop_eq_getElem_cons hi]
    unfold sprd
    split
    · rename_i j m ks v us
      cases hv with | cons _ _ _ _ hx hs =>
      cases hb : Nat.beq j i with
      | true =>
        have := Nat.eq_of_beq_eq_true hb
        subst this
        have e : tm.getD j undef = tm[j] := by simp [List.getD_eq_getElem?_getD, hi]
        rw [← e]
        exact .cons _ _ _ _ hx (sprd_ok f (j + 1) ks us hs (by omega))
      | false => exact .cons _ _ _ _ (.undef _) (sprd_ok f (i + 1) ((j, m) :: ks) (v :: us) (.cons _ _ _ _ hx hs) (by omega))
    · exact .cons _ _ _ _ (.undef _) (sprd_ok f (i + 1) [] [] .nil (by omega))
theorem sprd_all {tm : List Value} {n : Nat} (keep : List (Nat × Mode)) (vs : List V) (hn : n = tm.length) (hv : VRels c H w vs (keep.map fun x => tm.getD x.1 undef)) : VRels c H w (sprd n 0 keep vs) tm := by
  have := sprd_ok n 0 keep vs hv (by omega)
  simpa using this

theorem view_ok {E : Env} {S : Ses} (hG : GlobOk E.glob) (hN : noRef E.glob) {np : Nat} {keep : List (Nat × Mode)} {σ : List V} {K : List V → List Blk → Prop} {a : Act} (hs : Sta E S σ H a w) (h : view np keep σ H K) :
    ∃ vs H', K vs H' ∧ Sta E S (sprd σ.length 0 keep vs) H' a w := by
  obtain ⟨c, b, v, hS, hst, hσ, hd⟩ := hs
  obtain ⟨vs, h, hv⟩ := picks_ok keep hσ h
  have hl : (keep.map (·.2)).length = vs.length := by rw [hv.length]; simp
  obtain ⟨c1, vs1, H1, h, hst1, hv1, _⟩ := viewA_ok hG (keep.map (·.2)) c vs [] H _ [] _ hst hv .nil hl h
  obtain ⟨c2, vs2, H2, h, hst2, hv2, _⟩ := viewB_ok hN hst1 hv1 h
  exact ⟨vs2, H2, h, c2, b, v, hS, hst2, sprd_all keep vs2 hσ.length (by simpa using hv2), hd⟩
end
end Go.Proofs.Ytgljcfnplkcfhaa.Vc

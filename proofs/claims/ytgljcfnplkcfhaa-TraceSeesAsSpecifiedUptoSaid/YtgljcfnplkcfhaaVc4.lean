/- Texts of this claim: Vc.TA, Vc.UA, Vc.V, Vc.UB, Vc.U. -/
import Derived.Test.YtgljcfnplkcfhaaVc3
import Derived.Tactics
import Derived.OrdersIn
import Derived.TacticsIn
import Derived.RangeFuncCalls
set_option linter.unusedVariables false
set_option linter.unusedSimpArgs false
namespace Go.Proofs.Ytgljcfnplkcfhaa.Vc
open Go Go.RowKit

section
variable {E : Env} {P : Program} {G : List (Nat × V)} {base : Nat} {w0 : W0} {c : Cx} {H : List Blk} {w : World}

def Mall (w : World) : Nat → Prop := fun g => g < w.heap.size
abbrev Cx.all (w : World) : Cx := Cx.of (Mall w) ⟨[], none, 0⟩

variable {U : Nat → Prop}

theorem im_of (hst : St G base w0 c H w) (hU : ∀ g, c.M g → U g) (fr : Bool) : ∀ g, c.im fr g → U g := fun g hg => by
  cases fr
  · exact hU g hg
  · exact hU g (hst.sub g hg).1

theorem asRow_data (hst : St G base w0 c H w) (hU : ∀ g, c.M g → U g) (hU2 : ∀ i g, c.ρ i = some g → U g) {t : Ty} {v : V} {x : Value} {K : Bool → List t.D → Prop} (h : asRow H t v K) (hx : VRel c H w v x) : ∃ f ys, K f ys ∧ DRel w (U) (.sl t) ys [x] := by
  obtain ⟨f, ys, a, cap, hk, rfl, h1, h2, h3⟩ := asRow_ok hst h hx
  refine ⟨f, ys, hk, a, cap, rfl, h1, h2, fun hne => ?_⟩
  obtain ⟨g, o, ha, hg, hr⟩ := h3 hne
  refine ⟨g, o, ha, hg.elim (hU g) fun ⟨i, hi⟩ => hU2 i g hi, fun i y hy => ?_⟩
  obtain ⟨es, e1, e2⟩ := hr i y hy
  exact ⟨es, DRel.ext (im_of hst hU f) (fun _ _ => rfl) _ _ _ e1, e2⟩

theorem asRows_data (hst : St G base w0 c H w) (hU : ∀ g, c.M g → U g) (hU2 : ∀ i g, c.ρ i = some g → U g) {t : Ty} {cur : Array Value} : ∀ (cs : List V) (k : Nat) (K : List (List t.D) → Prop), asRows H t cs K → (∀ j, j < cs.length → ∃ v, cur[k + j]? = some v ∧ VRel c H w (gets cs j) v) →
    ∃ xss, K xss ∧ xss.length = cs.length ∧ ∀ (j : Nat) (xs : List t.D), xss[j]? = some xs → ∃ v, cur[k + j]? = some v ∧ DRel w (U) (.sl t) xs [v]
  | [], k, K, h, _ => ⟨[], h, rfl, by simp⟩
  | v :: cs, k, K, h, hel => by
    obtain ⟨u, hu, hv⟩ := hel 0 (by simp)
    obtain ⟨f, ys, h, hd⟩ := asRow_data hst hU hU2 h hv
    obtain ⟨xss, h1, h2, h3⟩ := asRows_data hst hU hU2 cs (k + 1) _ h fun j hj => by
      obtain ⟨v', e1, e2⟩ := hel (j + 1) (by simpa using hj)
      exact ⟨v', by rw [← e1]; congr 1; omega, e2⟩
    refine ⟨ys :: xss, h1, by simp [h2], fun j xs hj => ?_⟩
    cases j with
    | zero =>
      obtain rfl : ys = xs := by simpa using hj
      exact ⟨u, hu, hd⟩
    | succ j =>
      obtain ⟨v', e1, e2⟩ := h3 j xs (by simpa using hj)
      exact ⟨v', by rw [← e1]; congr 1; omega, e2⟩

theorem asD_data (hst : St G base w0 c H w) (hU : ∀ g, c.M g → U g) (hU2 : ∀ i g, c.ρ i = some g → U g) {t : Ty} {v : V} {x : Value} {K : t.D → Prop} (h : asD H t v K) (hx : VRel c H w v x) : ∃ y, K y ∧ DRel w (U) t y [x] := by
  unfold asD at h
  split at h
  · split at h
    · cases hx; exact ⟨_, h, rfl⟩
    · exact h.elim
  · split at h
    · obtain ⟨rfl, h⟩ := h
      cases hx with | int _ _ h1 h2 => exact ⟨_, h, ⟨rfl, h1, h2⟩⟩
    · exact h.elim
  · split at h
    · cases hx with | str _ h1 => exact ⟨_, h, ⟨rfl, h1⟩⟩
    · exact h.elim
  · split at h
    · obtain ⟨b, hb, h⟩ := h
      cases hx with | b _ b' hb' =>
      have : b' = b := by rw [Bool.eq_iff_iff, hb', hb]
      subst this
      exact ⟨_, h, rfl⟩
    · exact h.elim
  · rename_i t K
    split at h
    · rename_i t0 id
      split at h
      · rename_i cs hb
        cases hx with | own _ _ n a cap hs hn hc ho =>
        simp only [shape, hb, Option.some.injEq, Prod.mk.injEq] at hs
        obtain ⟨rfl, hz⟩ := hs
        by_cases hc0 : cap = 0
        · subst hc0
          have : cs = [] := List.eq_nil_of_length_eq_zero (by omega)
          subst this
          exact ⟨[], h, a, 0, rfl, Nat.le_refl _, by simp, fun hh => absurd rfl hh⟩
        · obtain ⟨g, e, cur, hr, ha, hg, hsz⟩ := ho.resolve_left hc0
          obtain ⟨e', cur', hg', hsz', hel⟩ := cells_get hst hb hr
          rw [hg] at hg'; cases hg'
          obtain ⟨xss, h1, h2, h3⟩ := asRows_data hst hU hU2 (cur := cur) cs (c.β id) _ h fun j hj => by
            obtain ⟨v, e1, _, e2⟩ := hel j hj
            exact ⟨v, e1, e2⟩
          refine ⟨xss, h1, a, cap, by rw [h2], by rw [h2]; exact hn, hc, fun _ => ⟨g, c.β id + 0, ha, (hU2 id g hr), fun i y hy => ?_⟩⟩
          obtain ⟨v, e1, e2⟩ := h3 i y hy
          refine ⟨[v], e2, fun j u hj => ?_⟩
          cases j with
          | zero =>
            simp at hj; subst hj
            rw [Go.cell_of_row w g _ cur e (0, 0) hg]
            simpa [Ty.size] using e1
          | succ j => simp at hj
      · rename_i fr t' xs hb
        obtain ⟨e, hk⟩ := castK_ok h
        subst e
        obtain ⟨f, ys, hk', hd⟩ := asRow_data hst hU hU2 (K := fun _ ys => K ys) (t := .sl t) (v := .own t0 id) (by
          simp only [asRow, hb]; exact castK_iff.2 ⟨rfl, hk⟩) hx
        exact ⟨ys, hk', hd⟩
      · exact h.elim
    · obtain ⟨f, ys, hk, hd⟩ := asRow_data hst hU hU2 h hx
      exact ⟨ys, hk, hd⟩
  · obtain ⟨f, ys, hk, hd⟩ := asRow_data hst hU hU2 h hx
    exact ⟨ys, hk, hd⟩
  · exact h.elim

theorem asCells_data (hst : St G base w0 c H w) (hU : ∀ g, c.M g → U g) (hU2 : ∀ i g, c.ρ i = some g → U g) : ∀ (t : Ty) (l : List V) (us : List Value) (K : t.D → List V → Prop), asCells H t l K → VRels c H w l us →
    ∃ x l' us1 us2, K x l' ∧ us = us1 ++ us2 ∧ DRel w (U) t x us1 ∧ VRels c H w l' us2
  | .nil, l, us, K, h, hr => ⟨(), l, [], us, h, rfl, rfl, hr⟩
  | .cons t ts, l, us, K, h, hr => by
    unfold asCells at h
    obtain ⟨x, l1, u1, u2, h, rfl, h1, h2⟩ := asCells_data hst hU hU2 t l us _ h hr
    obtain ⟨y, l2, u3, u4, h, rfl, h3, h4⟩ := asCells_data hst hU hU2 ts l1 u2 _ h h2
    exact ⟨(x, y), l2, u1 ++ u3, u4, h, by simp, ⟨u1, u3, rfl, h1, h3⟩, h4⟩
  | .arr _ _, l, us, K, h, hr => by simp [asCells] at h
  | .fnT, l, us, K, h, hr => by
    cases hr with
    | nil => simp [asCells] at h
    | cons v u l us hv hr => simp [asCells, asD] at h
  | .mapT _, l, us, K, h, hr => by
    cases hr with
    | nil => simp [asCells] at h
    | cons v u l us hv hr => simp [asCells, asD] at h
  | .u8, l, us, K, h, hr => by
    cases hr with
    | nil => simp [asCells] at h
    | cons v u l us hv hr =>
      obtain ⟨y, h1, h2⟩ := asD_data hst hU hU2 (t := .u8) h hv
      exact ⟨y, l, [u], us, h1, rfl, h2, hr⟩
  | .int k, l, us, K, h, hr => by
    cases hr with
    | nil => simp [asCells] at h
    | cons v u l us hv hr =>
      obtain ⟨y, h1, h2⟩ := asD_data hst hU hU2 (t := .int k) h hv
      exact ⟨y, l, [u], us, h1, rfl, h2, hr⟩
  | .bool, l, us, K, h, hr => by
    cases hr with
    | nil => simp [asCells] at h
    | cons v u l us hv hr =>
      obtain ⟨y, h1, h2⟩ := asD_data hst hU hU2 (t := .bool) h hv
      exact ⟨y, l, [u], us, h1, rfl, h2, hr⟩
  | .str, l, us, K, h, hr => by
    cases hr with
    | nil => simp [asCells] at h
    | cons v u l us hv hr =>
      obtain ⟨y, h1, h2⟩ := asD_data hst hU hU2 (t := .str) h hv
      exact ⟨y, l, [u], us, h1, rfl, h2, hr⟩
  | .sl t, l, us, K, h, hr => by
    cases hr with
    | nil => simp [asCells] at h
    | cons v u l us hv hr =>
      obtain ⟨y, h1, h2⟩ := asD_data hst hU hU2 (t := .sl t) h hv
      exact ⟨y, l, [u], us, h1, rfl, h2, hr⟩

theorem dV_one {t : Ty} {y : t.D} {x : Value} (h1 : t.size = 1) (hna : isAggB t = false) (hd : DRel w (U) t y [x]) {xt : Xt} : VRel (Cx.of U xt) [] w (dV t y) x := by
  cases t <;> first | (simp [isAggB] at hna; done) | skip
  case u8 => have : [x] = [_] := hd; simp at this; subst this; exact .u8 _
  case int k => have : [x] = [_] := hd.1; simp at this; subst this; exact .int _ _ hd.2.1 hd.2.2
  case bool => have : [x] = [_] := hd; simp at this; subst this; exact .b _ _ Iff.rfl
  case str => have : [x] = [_] := hd.1; simp at this; subst this; exact .str _ hd.2
  case sl t => exact .sl false t y x hd
  case fnT => have : [x] = [_] := hd; simp at this; subst this; exact .nilfn
  case mapT t => exact .undef _

theorem asArg1_ok (hst : St G base w0 c H w) (hU : ∀ g, c.M g → U g) (hU2 : ∀ i g, c.ρ i = some g → U g) {k : PK} {v : V} {x : Value} {K : V → Prop} (h : asArg1 H k v K) (hx : VRel c H w v x) : ∃ d, K d ∧ ∀ xt, VRel (Cx.of U xt) [] w d x := by
  unfold asArg1 at h
  split at h
  · exact h.elim
  · exact h.elim
  · rename_i t ts
    split at h
    · rename_i cs
      cases hx with | agg _ us hr =>
      obtain ⟨y, l, u1, u2, h, rfl, h1, h2⟩ := asCells_data hst hU hU2 _ _ _ _ h hr
      split at h
      · cases h2
        refine ⟨_, h, fun xt => ?_⟩
        have hl := DRel.length _ _ _ h1
        have := getCells_ok (c := Cx.of U xt) (H := []) (fr := false) h1 (Ty.cons t ts).size 0 (by omega)
        rw [List.drop_zero, List.take_of_length_le (by omega)] at this
        simpa [dV] using VRel.agg _ _ this
      · exact h.elim
    · exact h.elim
  · split at h
    · cases hx with | b p b hb => exact ⟨_, h, fun xt => .b _ _ hb⟩
    · exact h.elim
  · rename_i n t
    split at h
    · rename_i fr t' y
      split at h
      · rename_i e
        subst e
        cases hx with | dat _ _ _ es hd =>
        exact ⟨_, h, fun xt => .dat false _ _ es (DRel.ext (im_of hst hU fr) (fun _ _ => rfl) _ _ _ hd)⟩
      · exact h.elim
    · exact h.elim
  · rename_i t hnc hnb hna
    obtain ⟨y, h1, h2⟩ := asD_data hst hU hU2 h hx
    refine ⟨_, h1, fun xt => ?_⟩
    cases t with
    | u8 => exact dV_one rfl rfl h2
    | int k => exact dV_one rfl rfl h2
    | bool => exact (hnb rfl).elim
    | str => exact dV_one rfl rfl h2
    | sl t => exact dV_one rfl rfl h2
    | nil => simp [asD] at h
    | fnT => simp [asD] at h
    | mapT t => simp [asD] at h
    | cons t ts => exact (hnc _ _ rfl).elim
    | arr n t => exact (hna _ _ rfl).elim
  · rename_i t
    split at h
    · rename_i fr t' y o
      split at h
      · rename_i e
        subst e
        split at h
        · cases hx with | rp _ _ _ _ g p es hM hd hc =>
          exact ⟨_, h, fun xt => .rp false _ _ 0 g p es (im_of hst hU fr g hM) (DRel.ext (im_of hst hU fr) (fun _ _ => rfl) _ _ _ hd) hc⟩
        · exact h.elim
      · exact h.elim
    · rename_i id z i o
      split at h
      · rename_i cs hb
        cases hx with | ptr _ _ _ _ g m hs hr hi ho =>
        obtain ⟨e, cur, hg, hsz, hel⟩ := cells_get hst hb hr
        obtain ⟨es, l1, l2, l3⟩ := cells_list hel cs.length 0 (by omega)
        rw [List.drop_zero, List.take_length] at l2
        obtain ⟨y, l, u1, u2, h, rfl, h1, h2⟩ := asCells_data hst hU hU2 t cs es _ h l2
        split at h
        · cases h2
          refine ⟨_, h, fun xt => ?_⟩
          have := VRel.rp (c := Cx.of U xt) (H := []) (w := w) false t y 0 g (c.β id) u1 (hU2 id g hr) h1 (fun j v hj => by
            rw [Go.cell_of_row w g _ cur e (0, 0) hg]
            have := l3 j v (by simpa using hj)
            simpa using this)
          simpa using this
        · exact h.elim
      · exact h.elim
    · exact h.elim

theorem asArgs1_ok (hst : St G base w0 c H w) (hU : ∀ g, c.M g → U g) (hU2 : ∀ i g, c.ρ i = some g → U g) : ∀ (ks : List PK) (vs : List V) (us : List Value) (K : List V → Prop), asArgs1 H ks vs K → VRels c H w vs us → ∃ ds, K ds ∧ ∀ xt, VRels (Cx.of U xt) [] w ds us
  | [], vs, us, K, h, hr => by
    cases hr with
    | nil => exact ⟨[], h, fun _ => .nil⟩
    | cons => simp [asArgs1] at h
  | k :: ks, vs, us, K, h, hr => by
    cases hr with
    | nil => simp [asArgs1] at h
    | cons v u vs us hv hr =>
      obtain ⟨d, h, h1⟩ := asArg1_ok hst hU hU2 h hv
      obtain ⟨ds, h, h2⟩ := asArgs1_ok hst hU hU2 ks vs us _ h hr
      exact ⟨_, h, fun xt => .cons _ _ _ _ (h1 xt) (h2 xt)⟩

theorem asArg_ok (hst : St G base w0 c H w) (hU : ∀ g, c.M g → U g) (hU2 : ∀ i g, c.ρ i = some g → U g) {k : PK} {v : V} {x : Value} {K : V → Prop} (h : asArg H k v K) (hx : VRel c H w v x) : ∃ d, K d ∧ ∀ xt, VRel (Cx.of U xt) [] w d x := by
  unfold asArg at h
  split at h
  · rename_i alts
    split at h
    · rename_i g cs
      split at h
      · rename_i ks hks
        cases hx with | fn _ _ us hr =>
        obtain ⟨ds, h, h1⟩ := asArgs1_ok hst hU hU2 ks cs us _ h hr
        exact ⟨_, h, fun xt => .fn g ds us (h1 xt)⟩
      · exact h.elim
    · exact h.elim
  · rename_i alts
    split at h
    · rename_i g cs
      split at h
      · rename_i ks hks
        cases hx with | rb _ v g0 p hM hc hx =>
        cases hx with | fn _ _ us hr =>
        obtain ⟨ds, h, h1⟩ := asArgs1_ok hst hU hU2 ks cs us _ h hr
        exact ⟨_, h, fun xt => .rb _ _ g0 p (hU _ hM) hc (.fn g ds us (h1 xt))⟩
      · exact h.elim
    · exact h.elim
  · exact asArg1_ok hst hU hU2 h hx
  · exact asArg1_ok hst hU hU2 h hx

theorem asArgs_ok (hst : St G base w0 c H w) (hU : ∀ g, c.M g → U g) (hU2 : ∀ i g, c.ρ i = some g → U g) : ∀ (ks : List PK) (vs : List V) (us : List Value) (K : List V → Prop), asArgs H ks vs K → VRels c H w vs us → ∃ ds, K ds ∧ ∀ xt, VRels (Cx.of U xt) [] w ds us
  | [], vs, us, K, h, hr => by
    cases hr with
    | nil => exact ⟨[], h, fun _ => .nil⟩
    | cons => simp [asArgs] at h
  | k :: ks, vs, us, K, h, hr => by
    cases hr with
    | nil => simp [asArgs] at h
    | cons v u vs us hv hr =>
      obtain ⟨d, h, h1⟩ := asArg_ok hst hU hU2 h hv
      obtain ⟨ds, h, h2⟩ := asArgs_ok hst hU hU2 ks vs us _ h hr
      exact ⟨_, h, fun xt => .cons _ _ _ _ (h1 xt) (h2 xt)⟩

end

mutual
theorem VRel.y {c c' : Cx} {H H' : List Blk} {w w' : World} {q : Option Nat} (hM : ∀ g, c.M g → c'.M g) (hN : ∀ g, c.N g → c'.M g) (hw : ∀ g, c.M g ∨ c.N g → w'.heap[g]? = w.heap[g]?) (hq : q = c'.x.k) (hl : c'.x.l = c.x.l) :
    ∀ {x : V} {v : Value}, VRel c H w x v → VRel c' H' w' (yV q x) v
  | _, _, .undef v => .undef v
  | _, _, .int k n h1 h2 => .int k n h1 h2
  | _, _, .u8 x => .u8 x
  | _, _, .b p x h => .b p x h
  | _, _, .bt x => .bt x
  | _, _, .nope => .nope
  | _, _, .str s h => .str s h
  | _, _, .nils => .nils
  | _, _, .sl fr t xs v h => .sl false t xs v (DRel.ext (M := c.im fr) (by cases fr; exact hM; exact hN) (by cases fr; exact fun g h => hw g (.inl h); exact fun g h => hw g (.inr h)) _ _ _ h)
  | _, _, .own .. => .undef _
  | _, _, .slc .. => .undef _
  | _, _, .ptr .. => .undef _
  | _, _, .mp .. => .undef _
  | _, _, .rb x v g p h1 hc h => .rb _ v g p (hM g h1) ((World.cell?_of_block (w := w) (hw g (.inl h1))).trans hc) (VRel.y hM hN hw hq hl h)
  | _, _, .rp fr t x o g p es h1 hd hc =>
    have hm : ∀ g, c.im fr g → c'.M g := by cases fr; exact hM; exact hN
    have hk : ∀ g, c.im fr g → w'.heap[g]? = w.heap[g]? := by cases fr; exact fun g h => hw g (.inl h); exact fun g h => hw g (.inr h)
    .rp false t x o g p es (hm g h1) (DRel.ext hm hk _ _ _ hd) fun j v hj => (World.cell?_of_block (w := w) (hk g h1)).trans (hc j v hj)
  | _, _, .agg cs vs h => .agg _ vs (VRels.y hM hN hw hq hl h)
  | _, _, .tup cs vs h => .tup _ vs (VRels.y hM hN hw hq hl h)
  | _, _, .fn f cs vs h => .fn f _ vs (VRels.y hM hN hw hq hl h)
  | _, _, .nilfn => .nilfn
  | _, _, .yld k h => by
    have := VRel.yld (c := c') (H := H') (w := w') q hq
    rwa [hl] at this
  | _, _, .dat fr t x es h => .dat false t x es (DRel.ext (M := c.im fr) (by cases fr; exact hM; exact hN) (by cases fr; exact fun g h => hw g (.inl h); exact fun g h => hw g (.inr h)) _ _ _ h)
theorem VRels.y {c c' : Cx} {H H' : List Blk} {w w' : World} {q : Option Nat} (hM : ∀ g, c.M g → c'.M g) (hN : ∀ g, c.N g → c'.M g) (hw : ∀ g, c.M g ∨ c.N g → w'.heap[g]? = w.heap[g]?) (hq : q = c'.x.k) (hl : c'.x.l = c.x.l) :
    ∀ {xs : List V} {vs : List Value}, VRels c H w xs vs → VRels c' H' w' (yL q xs) vs
  | _, _, .nil => .nil
  | _, _, .cons x v xs vs h hs => .cons _ v _ vs (VRel.y hM hN hw hq hl h) (VRels.y hM hN hw hq hl hs)
end

section
variable {G : List (Nat × V)} {base : Nat} {w0 : W0} {c : Cx} {H : List Blk} {w : World}

def noRef (G : List (Nat × V)) : Prop := ∀ g x, lk G g = some x → ∃ t y o, x = .rp false t y o

theorem glob_of (hN : noRef G) (hst : St G base w0 c H w) {U : Nat → Prop} (hU : ∀ g, c.M g → U g) : ∀ g x, lk G g = some x → ∀ xt, VRel (Cx.of U xt) [] w x (.pointer (some ⟨g, 0, none⟩)) := fun g x hx xt => by
  obtain ⟨t, y, o, rfl⟩ := hN g x hx
  have := hst.glob g _ hx
  generalize hq : Value.pointer (some ⟨g, 0, none⟩) = q at this ⊢
  cases this with | rp _ _ _ _ g' p es hM hd hc => exact .rp false t y o g' p es (hU _ hM) (DRel.ext hU (fun _ _ => rfl) _ _ _ hd) hc

theorem ext_of {U : Nat → Prop} {xt : Xt} {w w' : World} (h : ∀ g, U g → w'.heap[g]? = w.heap[g]?) : Ext (Cx.of U xt) [] w (Cx.of U xt) [] w' where
  M g hg := hg
  N g hg := hg
  mem g hg := hg.elim (h g) fun h => h.elim
  shp id s hs := by cases id <;> cases hs
  siz id s g cur e hs := by cases id <;> cases hs
  x := rfl
  gi := rfl
  bas _ _ _ := rfl

theorem St.calm (hN : noRef G) (hst : St G base w0 c H w) {base' : Nat} {v' : W0} {w' : World} {xt : Xt} {U : Nat → Prop} (hU : ∀ g, c.M g → U g) (hw : ∀ g, c.M g → w'.heap[g]? = w.heap[g]?)
    (hbel : Below base' v'.w w') (hxk : Xk base' v' (Cx.of U xt) w') (hsz : base' ≤ w'.heap.size) (him : ∀ g, U g → g < w'.heap.size) : St G base' v' (Cx.of U xt) [] w' where
  below := hbel
  xk := hxk
  size := hsz
  blk id := by cases id <;> trivial
  inj i j g hi := by cases hi
  own i g hi := by cases hi
  imm := him
  sub g hg := hg.elim
  glob g x hx := by
    obtain ⟨t, y, o, rfl⟩ := hN g x hx
    have := hst.glob g _ hx
    generalize hq : Value.pointer (some ⟨g, 0, none⟩) = q at this ⊢
    cases this with | rp _ _ _ _ g' p es hM hd hc => exact .rp false t y o g' p es (hU _ hM) (DRel.ext hU hw _ _ _ hd) fun j v hj => (World.cell?_of_block (w := w) (hw g' hM)).trans (hc j v hj)
end
end Go.Proofs.Ytgljcfnplkcfhaa.Vc

namespace Go.Proofs.Ytgljcfnplkcfhaa.Vc
open Go Go.RowKit

section
variable {G : List (Nat × V)} {base : Nat} {w0 : W0} {c : Cx} {H : List Blk} {w : World}

def Cx.frz (c : Cx) (id : Nat) : Cx := ⟨fun g => c.M g ∨ c.ρ id = some g, fun g => c.N g ∨ c.ρ id = some g, fun i => if i = id then none else c.ρ i, c.β, c.x, c.gi⟩

theorem im_frz {fr : Bool} {id g : Nat} (h : c.im fr g) : (c.frz id).im fr g := by cases fr <;> exact .inl h

theorem getB_frzH (id : Nat) (y : V) : ∀ (H : List Blk) (j : Nat), getB (frzH id y H) j = frzB id y (getB H j)
  | [], j => by cases j <;> rfl
  | b :: H, 0 => rfl
  | b :: H, j + 1 => getB_frzH id y H j
theorem length_frzH (id : Nat) (y : V) : ∀ H : List Blk, (frzH id y H).length = H.length
  | [] => rfl
  | b :: H => by simp [frzH, length_frzH id y H]
theorem length_frzL (id : Nat) (y : V) : ∀ l : List V, (frzL id y l).length = l.length
  | [] => rfl
  | b :: l => by simp [frzL, length_frzL id y l]
theorem gets_frzL (id : Nat) (y : V) : ∀ (l : List V) (j : Nat), gets (frzL id y l) j = frzV id y (gets l j)
  | [], j => by cases j <;> rfl
  | b :: l, 0 => rfl
  | b :: l, j + 1 => gets_frzL id y l j
theorem shape_frz {id j : Nat} {y : V} (h : j ≠ id) : shape (setB (frzH id y H) id .dead) j = shape H j := by
  rw [shape_setB_ne h]
  unfold shape
  rw [getB_frzH]
  cases getB H j <;> simp [frzB, length_frzL]

theorem DRel.frz {fr : Bool} {id : Nat} {t : Ty} {x : t.D} {cs : List Value} (h : DRel w (c.im fr) t x cs) : DRel w ((c.frz id).im fr) t x cs := DRel.ext (fun _ => im_frz) (fun _ _ => rfl) _ _ _ h

theorem OwnAt.frz {i id z off : Nat} {a : Option Addr} {cap : Nat} (hi : i ≠ id) (h : OwnAt c w i z off a cap) : OwnAt (c.frz id) w i z off a cap := by
  obtain ⟨g, e, cur, h1, h2⟩ := h
  exact ⟨g, e, cur, by simp [Cx.frz, hi, h1], h2⟩

section
variable {H' : List Blk} {id : Nat} {y : V}
mutual
theorem VRel.frz (hs : ∀ j, j ≠ id → shape H' j = shape H j) (hy : ∀ t v, VRel c H w (.own t id) v → VRel (c.frz id) H' w (ownR y) v) (hp : ∀ z j o v, VRel c H w (.ptr id z j o) v → VRel (c.frz id) H' w (ptrR y j o) v) : ∀ {x : V} {v : Value}, VRel c H w x v → VRel (c.frz id) H' w (frzV id y x) v
  | _, _, .undef v => .undef v
  | _, _, .int k n h1 h2 => .int k n h1 h2
  | _, _, .u8 x => .u8 x
  | _, _, .b p x h => .b p x h
  | _, _, .bt x => .bt x
  | _, _, .nope => .nope
  | _, _, .str s h => .str s h
  | _, _, .nils => .nils
  | _, _, .sl fr t xs v h => .sl fr t xs v h.frz
  | _, _, .own t i n a cap h1 hn hc ho => by
    unfold frzV
    cases hb : Nat.beq i id with
    | true =>
      have := beq_ok hb; subst this
      exact hy t _ (.own t i n a cap h1 hn hc ho)
    | false =>
      have hne := ne_of_beq hb
      exact .own t i n a cap ((hs i hne).trans h1) hn hc (ho.imp (fun h => h) (OwnAt.frz hne))
  | _, _, .slc t i off n m a cap h1 h2 hn hc ho => by
    unfold frzV
    cases hb : Nat.beq i id with
    | true => exact .undef _
    | false =>
      have hne := ne_of_beq hb
      exact .slc t i off n m a cap ((hs i hne).trans h1) h2 hn hc (ho.imp (fun h => h) (OwnAt.frz hne))
  | _, _, .rp fr t x o g p es hM hd hc => .rp fr t x o g p es (im_frz hM) hd.frz hc
  | _, _, .ptr i z j o g m h1 hr hi ho => by
    unfold frzV
    cases hb : Nat.beq i id with
    | true =>
      have := beq_ok hb; subst this
      exact hp _ _ _ _ (.ptr i z j o g m h1 hr hi ho)
    | false =>
      have hne := ne_of_beq hb
      exact .ptr i z j o g m ((hs i hne).trans h1) (by simp [Cx.frz, hne, hr]) hi ho
  | _, _, .agg cs vs h => .agg _ vs (VRels.frz hs hy hp h)
  | _, _, .tup cs vs h => .tup _ vs (VRels.frz hs hy hp h)
  | _, _, .fn f cs vs h => .fn f _ vs (VRels.frz hs hy hp h)
  | _, _, .nilfn => .nilfn
  | _, _, .yld k h => .yld (c := c.frz id) k h
  | _, _, .dat fr t x es h => .dat fr t x es h.frz
  | _, _, .rb x v g p hM hc h => .rb _ v g p (.inl hM) hc (VRel.frz hs hy hp h)
  | _, _, .mp t i g h1 hr => by
    unfold frzV
    cases hb : Nat.beq i id with
    | true => exact .undef _
    | false =>
      have hne := ne_of_beq hb
      exact .mp t i g ((hs i hne).trans h1) (by simp [Cx.frz, hne, hr])
theorem VRels.frz (hs : ∀ j, j ≠ id → shape H' j = shape H j) (hy : ∀ t v, VRel c H w (.own t id) v → VRel (c.frz id) H' w (ownR y) v) (hp : ∀ z j o v, VRel c H w (.ptr id z j o) v → VRel (c.frz id) H' w (ptrR y j o) v) : ∀ {xs : List V} {vs : List Value}, VRels c H w xs vs → VRels (c.frz id) H' w (frzL id y xs) vs
  | _, _, .nil => .nil
  | _, _, .cons x v xs vs h hx => .cons _ v _ vs (VRel.frz hs hy hp h) (VRels.frz hs hy hp hx)
end
end

theorem frz_row (h : St G base w0 c H w) {id : Nat} {fr : Bool} {t : Ty} {xs : List t.D} (hb : getB H id = .row fr t xs) (t' : Ty) (v : Value) (hv : VRel c H w (.own t' id) v) {H' : List Blk} : VRel (c.frz id) H' w (.sl fr t xs) v := by
  cases hv with | own _ _ n a cap hs hn hc ho =>
  simp only [shape, hb, Option.some.injEq, Prod.mk.injEq] at hs
  obtain ⟨rfl, hz⟩ := hs
  refine .sl _ _ _ _ ⟨a, cap, rfl, hn, hc, fun hne => ?_⟩
  have hcap : cap ≠ 0 := by
    intro h0; subst h0
    exact hne (List.eq_nil_of_length_eq_zero (by omega))
  obtain ⟨g, e, cur, hr, ha, hg, hsz⟩ := ho.resolve_left hcap
  have hbk := h.blk id
  rw [hb] at hbk
  rcases hbk with ⟨_, h2⟩ | ⟨g', e', cur', hr', hg', hsz', hel⟩
  · exact absurd h2 hne
  · rw [hr] at hr'; cases hr'
    rw [hg] at hg'; cases hg'
    refine ⟨g, c.β id + 0, ha, by cases fr <;> exact .inr hr, fun i y hy => ?_⟩
    obtain ⟨es, h5, h6⟩ := hel i y hy
    refine ⟨es, h5.frz, fun j u hj => ?_⟩
    rw [Go.cell_of_row w g _ cur e (0, 0) hg]
    have := h6 j u hj
    simpa [Nat.add_assoc] using this

mutual
theorem frzV_id (id : Nat) (y : V) : ∀ x : V, x.mentions id = false → frzV id y x = x
  | .undef, _ => rfl
  | .int _ _, _ => rfl
  | .u8 _, _ => rfl
  | .b _, _ => rfl
  | .bt _, _ => rfl
  | .nope, _ => rfl
  | .str _, _ => rfl
  | .nils, _ => rfl
  | .sl _ _ _, _ => rfl
  | .own t i, h => by
    have h : Nat.beq i id = false := h
    simp [frzV, h]
  | .slc t i o l, h => by
    have h : Nat.beq i id = false := h
    simp [frzV, h]
  | .rp _ _ _ _, _ => rfl
  | .ptr i z j o, h => by
    have h : Nat.beq i id = false := h
    simp [frzV, h]
  | .agg cs, h => by simp only [frzV]; rw [frzL_id id y cs h]
  | .tup cs, h => by simp only [frzV]; rw [frzL_id id y cs h]
  | .fn f cs, h => by simp only [frzV]; rw [frzL_id id y cs h]
  | .nilfn, _ => rfl
  | .yld _, _ => rfl
  | .dat _ _ _, _ => rfl
  | .rb x, h => by simp only [frzV]; rw [frzV_id id y x h]
  | .mp t i, h => by
    have h : Nat.beq i id = false := h
    simp [frzV, h]
theorem frzL_id (id : Nat) (y : V) : ∀ l : List V, V.mentionsL id l = false → frzL id y l = l
  | [], _ => rfl
  | x :: l, h => by
    simp only [V.mentionsL, Bool.or_eq_false_iff] at h
    rw [frzL, frzV_id id y x h.1, frzL_id id y l h.2]
end

theorem St.frz (hG : GlobOk G) (h : St G base w0 c H w) {id : Nat} {fr : Bool} {t : Ty} {xs : List t.D} (hb : getB H id = .row fr t xs) : St G base w0 (c.frz id) (setB (frzH id (.sl fr t xs) H) id .dead) w where
  below := h.below
  xk := h.xk.step rfl (fun h => h) (fun g hg => hg.imp (fun h => h) fun hr => .inl ⟨id, hr⟩) (fun i g hi => by
    simp only [Cx.frz] at hi
    split at hi
    · cases hi
    · exact .inl ⟨i, hi⟩) (fun g o ho => .inl ho)
  size := h.size
  blk j := by
    by_cases hj : j = id
    · subst hj
      have hl : j < (frzH j (.sl fr t xs) H).length := by
        rw [length_frzH]
        rcases Nat.lt_or_ge j H.length with g | g
        · exact g
        · rw [getB_ge H j g] at hb; cases hb
      rw [getB_setB, if_pos ⟨rfl, hl⟩]; trivial
    · rw [getB_setB, if_neg (by simp [hj]), getB_frzH]
      have hbk := h.blk j
      generalize getB H j = b at hbk
      cases b with
      | dead => trivial
      | row fr' t' xs' =>
        rcases hbk with ⟨h1, h2⟩ | ⟨g, e, cur, h1, h2, h3, h4⟩
        · exact .inl ⟨by simp [Cx.frz, hj, h1], h2⟩
        · refine .inr ⟨g, e, cur, by simp [Cx.frz, hj, h1], h2, h3, fun i x hi => ?_⟩
          obtain ⟨es, e1, e2⟩ := h4 i x hi
          exact ⟨es, e1.frz, e2⟩
      | cells cs =>
        rcases hbk with ⟨g, e, cur, h1, h2, h3, h4⟩ | ⟨h0, h1, h2⟩
        · refine .inl ⟨g, e, cur, by simp [Cx.frz, hj, h1], h2, by rw [length_frzL]; exact h3, fun k hk => ?_⟩
          rw [length_frzL] at hk
          obtain ⟨v, h5, h6, h7⟩ := h4 k hk
          rw [gets_frzL]
          exact ⟨v, h5, h6, h7.frz (fun j hj => shape_frz hj) (fun t' v hv => frz_row h hb t' v hv) fun _ _ _ _ _ => .undef _⟩
        · exact .inr ⟨h0, by simp [Cx.frz, hj, h1], h2.frz (fun j hj => shape_frz hj) (fun t' v hv => frz_row h hb t' v hv) fun _ _ _ _ _ => .undef _⟩
      | imap fr' t' es' =>
        obtain ⟨g, ents, clock, h1, h2, h3, h4, h5, h6⟩ := hbk
        refine ⟨g, ents, clock, by simp [Cx.frz, hj, h1], h2, h3, h4, h5, fun i n x hi => ?_⟩
        obtain ⟨v, b, h7, h8, h9⟩ := h6 i n x hi
        exact ⟨v, b, h7, h8, h9.frz⟩
  inj i j g hi hj := by
    simp only [Cx.frz] at hi hj
    split at hi <;> split at hj
    · omega
    · cases hi
    · cases hj
    · exact h.inj i j g hi hj
  own i g hi := by
    simp only [Cx.frz] at hi
    split at hi
    · cases hi
    · rename_i hne
      obtain ⟨h1, h2, h3, h4⟩ := h.own i g hi
      refine ⟨h1, h2, fun hm => ?_, by rw [length_setB, length_frzH]; exact h4⟩
      rcases hm with hm | hm
      · exact h3 hm
      · exact hne (h.inj i id g hi hm)
  imm g hg := by
    rcases hg with hg | hg
    · exact h.imm g hg
    · exact (h.own id g hg).2.1
  sub g hg := by
    rcases hg with hg | hg
    · exact ⟨.inl (h.sub g hg).1, (h.sub g hg).2⟩
    · exact ⟨.inr hg, (h.own id g hg).1⟩
  glob g x hx := by
    have hm := hG g x id hx
    have := (h.glob g x hx).frz (id := id) (y := .sl fr t xs) (H' := setB (frzH id (.sl fr t xs) H) id .dead) (fun j hj => shape_frz hj) (fun t' v hv => frz_row h hb t' v hv) fun _ _ _ _ _ => .undef _
    rwa [frzV_id id _ x hm] at this
end
end Go.Proofs.Ytgljcfnplkcfhaa.Vc

namespace Go.Proofs.Ytgljcfnplkcfhaa.Vc
open Go Go.RowKit

def Point {α : Type} (f : (α → Prop) → Prop) : Prop := ∀ K, f K → ∃ v, K v ∧ ∀ K' : α → Prop, K' v → f K'

section
variable {α β : Type}
theorem Point.fls : Point (fun _ : α → Prop => False) := fun _ h => h.elim
theorem Point.ret (v : α) : Point (fun K : α → Prop => K v) := fun _ h => ⟨v, h, fun _ h => h⟩
theorem Point.and {c : Prop} {f : (α → Prop) → Prop} (hf : Point f) : Point (fun K => c ∧ f K) := fun K h =>
  let ⟨v, h1, h2⟩ := hf K h.2
  ⟨v, h1, fun K' h' => ⟨h.1, h2 K' h'⟩⟩
theorem Point.or {c d : Prop} {f g : (α → Prop) → Prop} (hf : Point f) (hg : Point g) : Point (fun K => (c ∧ f K) ∨ (d ∧ g K)) := fun K h => by
  rcases h with h | h
  · obtain ⟨v, h1, h2⟩ := hf K h.2
    exact ⟨v, h1, fun K' h' => .inl ⟨h.1, h2 K' h'⟩⟩
  · obtain ⟨v, h1, h2⟩ := hg K h.2
    exact ⟨v, h1, fun K' h' => .inr ⟨h.1, h2 K' h'⟩⟩
theorem Point.imps {c : Prop} {f g : (α → Prop) → Prop} (hf : Point f) (hg : Point g) : Point (fun K => (c → f K) ∧ (¬c → g K)) := fun K h => by
  by_cases hc : c
  · obtain ⟨v, h1, h2⟩ := hf K (h.1 hc)
    exact ⟨v, h1, fun K' h' => ⟨fun _ => h2 K' h', fun hn => absurd hc hn⟩⟩
  · obtain ⟨v, h1, h2⟩ := hg K (h.2 hc)
    exact ⟨v, h1, fun K' h' => ⟨fun h => absurd h hc, fun _ => h2 K' h'⟩⟩
theorem Point.ex {ι : Type} {p : ι → Prop} {f : ι → (α → Prop) → Prop} (hf : ∀ i, Point (f i)) : Point (fun K => ∃ i, p i ∧ f i K) := fun K ⟨i, hp, h⟩ => by
  obtain ⟨a, h1, h2⟩ := hf i K h
  exact ⟨a, h1, fun K' h' => ⟨i, hp, h2 K' h'⟩⟩
theorem Point.bif {b : Bool} {f g : (α → Prop) → Prop} (hf : Point f) (hg : Point g) : Point (fun K => bif b then f K else g K) := by
  cases b
  · exact hg
  · exact hf
theorem Point.bind {f : (α → Prop) → Prop} {g : α → (β → Prop) → Prop} (hf : Point f) (hg : ∀ x, Point (g x)) : Point (fun K => f fun x => g x K) := fun K h => by
  obtain ⟨x, h1, h2⟩ := hf _ h
  obtain ⟨v, h3, h4⟩ := hg x K h1
  exact ⟨v, h3, fun K' h' => h2 _ (h4 K' h')⟩
theorem Point.forceV {v : V} {f : V → (α → Prop) → Prop} (hf : ∀ v, Point (f v)) : Point (fun K => Vc.forceV v fun v => f v K) := fun K h => by
  obtain ⟨u, h1, h2⟩ := hf v K ((forceV_eq v _).1 h)
  exact ⟨u, h1, fun K' h' => (forceV_eq v _).2 (h2 K' h')⟩
theorem Point.dite {c : Prop} [Decidable c] {f : c → (α → Prop) → Prop} (hf : ∀ h, Point (f h)) : Point (fun K => if h : c then f h K else False) := fun K h => by
  dsimp only at h
  by_cases hc : c
  · rw [dif_pos hc] at h
    obtain ⟨v, h1, h2⟩ := hf hc K h
    exact ⟨v, h1, fun K' h' => by dsimp only; rw [dif_pos hc]; exact h2 K' h'⟩
  · rw [dif_neg hc] at h
    exact h.elim
end
theorem Point.forceL {α : Type} {β : Type} {l : List β} {f : List β → (α → Prop) → Prop} (hf : ∀ l, Point (f l)) : Point (fun K => Vc.forceL l fun l => f l K) := fun K h => by
  obtain ⟨u, h1, h2⟩ := hf l K ((forceL_eq l _).1 h)
  exact ⟨u, h1, fun K' h' => (forceL_eq l _).2 (h2 K' h')⟩

theorem Point.abounds {n : Nat} {lo hi : Option V} {f : Nat → Nat → (V → Prop) → Prop} (hf : ∀ l h, Point (f l h)) : Point (fun K => abounds n lo hi fun l h => f l h K) := by
  unfold Vc.abounds
  cases lo with
  | none => cases hi with
    | none => exact hf _ _
    | some v => cases v <;> first | exact .fls | exact .and (hf _ _)
  | some u => cases u <;> first
    | (cases hi with
      | none => exact .fls
      | some v => cases v <;> exact .fls)
    | (cases hi with
      | none => exact .and (hf _ _)
      | some v => cases v <;> first | exact .fls | exact .and (hf _ _))

theorem Point.inRK {k : IntKind} {n : Int} {α : Type} {f : (α → Prop) → Prop} (hf : Point f) : Point (fun K => inRK k n (f K)) := by
  cases k <;> first | exact .fls | exact .and hf
theorem Point.shRK {k : IntKind} {n : Int} {α : Type} {f : (α → Prop) → Prop} (hf : Point f) : Point (fun K => shRK k n (f K)) := by
  cases k <;> first | exact .fls | exact .and hf

theorem Point.or3 {α : Type} {c1 c2 c3 : Prop} (x y z : α) : Point (fun K : α → Prop => (c1 ∧ K x) ∨ (c2 ∧ K y) ∨ (c3 ∧ K z)) := fun K h => by
  rcases h with h | h | h
  · exact ⟨x, h.2, fun K' h' => .inl ⟨h.1, h'⟩⟩
  · exact ⟨y, h.2, fun K' h' => .inr (.inl ⟨h.1, h'⟩)⟩
  · exact ⟨z, h.2, fun K' h' => .inr (.inr ⟨h.1, h'⟩)⟩
theorem Point.abinI (op : BinOp) (k : IntKind) (a b : Int) : Point (abinI op k a b) := by
  cases op <;> unfold Vc.abinI <;> dsimp only <;> first
    | exact .fls | exact .ret _ | exact .inRK (.ret _) | exact .and (.ret _) | exact .or (.ret _) (.ret _) | exact .or3 _ _ _
theorem Point.abinB (op : BinOp) (a b : UInt8) : Point (abinB op a b) := by
  cases op <;> unfold Vc.abinB <;> dsimp only <;> first | exact .fls | exact .ret _ | exact .and (.ret _)
theorem Point.abinS (op : BinOp) (a b : List UInt8) : Point (abinS op a b) := by
  cases op <;> unfold Vc.abinS <;> dsimp only <;> first | exact .fls | exact .ret _ | exact .and (.ret _)

def V.plain : V → Bool
  | .nils | .sl _ _ _ | .own _ _ | .fn _ _ => false
  | _ => true

theorem Point.abin {op : BinOp} {H : List Blk} {x y : V} (hx : x.plain = true) : Point (abin op H x y) := by
  cases x <;> first | (simp [V.plain] at hx; done) | skip
  all_goals cases y <;> unfold Vc.abin <;> dsimp only
  all_goals first | exact .fls | exact .abinB _ _ _ | exact .abinS _ _ _ | skip
  · cases op <;> dsimp only <;> first | exact .shRK (.inRK (.ret _)) | exact .shRK (.ret _) | exact .bif (.abinI _ _ _ _) .fls
  · cases op <;> dsimp only <;> first | exact .fls | exact .and (.ret _)
  · cases op <;> dsimp only <;> first | exact .fls | exact .ret _
theorem abin_H {op : BinOp} {H H2 : List Blk} {x y : V} (hx : x.plain = true) (K : V → Prop) : abin op H x y K = abin op H2 x y K := by
  cases x <;> first | (simp [V.plain] at hx; done) | skip
  all_goals cases y <;> rfl

theorem Point.eq1 {t : Ty} {x y : V} {α : Type} {f : Prop → (α → Prop) → Prop} (hf : ∀ p, Point (f p)) : Point (fun K => eq1 t x y fun p => f p K) := by
  unfold Vc.eq1
  split <;> first | exact .fls | exact hf _ | exact .bif (hf _) .fls
theorem Point.eqS {α : Type} : ∀ {t : Ty} {xs ys : List V} {f : Prop → (α → Prop) → Prop}, (∀ p, Point (f p)) → Point (fun K => eqS t xs ys fun p => f p K)
  | .nil, [], [], f, hf => hf _
  | .nil, [], _ :: _, f, hf => .fls
  | .nil, _ :: _, _, f, hf => .fls
  | .cons t ts, [], _, f, hf => .fls
  | .cons t ts, _ :: _, [], f, hf => .fls
  | .cons t ts, x :: xs, y :: ys, f, hf => .eq1 (f := fun p K => Vc.eqS ts xs ys fun q => f (p ∧ q) K) fun p => Point.eqS (t := ts) (f := fun q => f (p ∧ q)) fun q => hf _
  | .u8, _, _, f, hf => .fls
  | .int _, _, _, f, hf => .fls
  | .bool, _, _, f, hf => .fls
  | .str, _, _, f, hf => .fls
  | .sl _, _, _, f, hf => .fls
  | .arr _ _, _, _, f, hf => .fls
  | .fnT, _, _, f, hf => .fls
  | .mapT _, _, _, f, hf => .fls
theorem Point.aeqA {E : Env} {T : TypeId} {op : BinOp} {x y : V} : Point (aeqA E T op x y) := by
  unfold Vc.aeqA
  generalize lk E.ty T = r
  split
  · cases op <;> dsimp only <;> first | exact .fls | exact .eqS (f := fun p K => K _) fun p => .ret _
  · refine .bif ?_ .fls
    cases op <;> dsimp only <;> first | exact .fls | exact .ret _
  · exact .fls
theorem Point.abinT {E : Env} {T : TypeId} {op : BinOp} {H : List Blk} {x y : V} (hT : ∀ t, lk E.ty T ≠ some (.sl t)) : Point (abinT E T op H x y) := by
  have hs : ∀ g : (V → Prop) → Prop, Point (fun K => match lk E.ty T with | some (.sl _) => g K | _ => False) := by
    intro g
    generalize lk E.ty T = r at hT
    rcases r with _ | t
    · exact .fls
    · cases t <;> first | exact .fls | exact absurd rfl (hT _)
  have hb : ∀ {g : (V → Prop) → Prop}, Point g → Point (fun K => match lk E.ty T with | some .bool => g K | _ => False) := by
    intro g hg
    generalize lk E.ty T = r
    rcases r with _ | t
    · exact .fls
    · cases t <;> first | exact .fls | exact hg
  cases x <;> unfold Vc.abinT <;> dsimp only <;> first | exact .fls | exact .abin rfl | exact hs _ | exact hb (.abin rfl) | exact .aeqA
theorem abinT_H {E : Env} {T : TypeId} {op : BinOp} {H H2 : List Blk} {x y : V} (hT : ∀ t, lk E.ty T ≠ some (.sl t)) (K : V → Prop) : abinT E T op H x y K = abinT E T op H2 x y K := by
  have hs : ∀ g g' : Prop, (match lk E.ty T with | some (.sl _) => g | _ => False) = (match lk E.ty T with | some (.sl _) => g' | _ => False) := by
    intro g g'
    generalize lk E.ty T = r at hT
    rcases r with _ | t
    · rfl
    · cases t <;> first | rfl | exact absurd rfl (hT _)
  cases x <;> unfold Vc.abinT <;> dsimp only <;> first | rfl | exact abin_H rfl K | exact hs _ _ | (rw [abin_H (H2 := H2) rfl K])

theorem Point.alen {H : List Blk} {v : V} : Point (alen H v) := by
  cases v <;> unfold Vc.alen <;> dsimp only <;> first | exact .fls | exact .ret _ | (generalize getB H _ = b; cases b <;> first | exact .fls | exact .ret _)
theorem Point.alenT {E : Env} {H : List Blk} {T : TypeId} {v : V} : Point (alenT E H T v) := by
  unfold Vc.alenT
  generalize lk E.ty T = r
  rcases r with _ | t
  · exact .fls
  · cases t <;> first | exact .fls | skip
    · cases v <;> first | exact .fls | exact .ret _
    · cases v <;> first | exact .fls | exact .alen
    · cases v <;> dsimp only <;> first | exact .fls | (generalize getB H _ = b; cases b <;> dsimp only <;> first | exact .fls | exact .ret _)
theorem Point.asIdx {v : V} {α : Type} {f : Int → (α → Prop) → Prop} (hf : ∀ i, Point (f i)) : Point (fun K => asIdx v fun i => f i K) := by
  cases v <;> first | exact .fls | exact hf _

theorem Point.aindexAddr {E : Env} {H : List Blk} {T : TypeId} {v ix : V} : Point (aindexAddr E H T v ix) := by
  unfold Vc.aindexAddr
  generalize lk E.ty T = r
  rcases r with _ | t
  · exact .fls
  · cases t <;> dsimp only <;> first | exact .fls | skip
    · cases v <;> dsimp only <;> first
        | exact .fls
        | exact .bif (.asIdx fun _ => .and (.ret _)) .fls
        | (generalize getB H _ = b; cases b <;> dsimp only <;> first | exact .fls | exact .bif (.asIdx fun _ => .and (.ret _)) .fls)
    · cases v <;> dsimp only <;> first
        | exact .fls
        | (generalize getB H _ = b; cases b <;> dsimp only <;> first | exact .fls | exact .bif (.asIdx fun _ => .and (.ret _)) (.bif (.asIdx fun _ => .and (.ret _)) .fls))
        | (rename_i fr t x o; cases t <;> dsimp only <;> first | exact .fls | exact .bif (.asIdx fun _ => .and (.ret _)) .fls)

theorem Point.aload {E : Env} {H : List Blk} {T : TypeId} {p : V} : Point (aload E H T p) := by
  unfold Vc.aload
  generalize lk E.ty T = r
  rcases r with _ | t
  · exact .fls
  · cases t <;> dsimp only <;> first | exact .fls | skip
    all_goals cases p <;> dsimp only <;> first
        | exact .fls
        | exact .bif (.forceV fun _ => .ret _) .fls
        | exact .forceV fun _ => .ret _
        | exact .bif (.forceL fun _ => .ret _) .fls
        | exact .bif (.ret _) .fls
        | (generalize getB H _ = b; cases b <;> (try dsimp only) <;> first | exact .fls | exact .forceV fun _ => .ret _ | exact .bif (.forceV fun _ => .ret _) .fls | exact .bif (.forceL fun _ => .ret _) .fls | exact .bif (.ret _) (.bif (.and (.ret _)) .fls))

theorem Point.afield {E : Env} {H : List Blk} {S : TypeId} {v : V} {f : Nat} : Point (afield E H S v f) := by
  unfold Vc.afield
  generalize lk E.ty S = r
  rcases r with _ | t
  · exact .fls
  · cases t <;> dsimp only <;> first | exact .fls | skip
    generalize getO _ f = q
    rcases q with _ | ⟨o, z⟩ <;> dsimp only
    · exact .fls
    · refine .bif ?_ .fls
      cases v <;> dsimp only <;> first
        | exact .fls | exact .ret _
        | (generalize getB H _ = b; cases b <;> dsimp only <;> first | exact .fls | exact .bif (.ret _) .fls)

theorem Point.aslice {E : Env} {H : List Blk} {T : TypeId} {v : V} {lo hi : Option V} : Point (aslice E H T v lo hi) := by
  unfold Vc.aslice
  simp only [cutK_eq]
  generalize lk E.ty T = r
  rcases r with _ | t
  · exact .fls
  · cases t <;> dsimp only <;> first | exact .fls | skip
    all_goals cases v <;> dsimp only <;> first
        | exact .fls
        | exact .bif (.abounds fun _ _ => .ret _) .fls
        | exact .abounds fun _ _ => .ret _
        | (generalize getB H _ = b; cases b <;> dsimp only <;> first | exact .fls | exact .bif (.abounds fun _ _ => .ret _) .fls)

theorem Point.aidxA {te : Ty} {n : Nat} {fr : Bool} {t' : Ty} {x : t'.D} {j : Int} : Point (aidxA te n fr t' x j) := by
  unfold Vc.aidxA
  cases te <;> first | exact .fls | skip
  cases t' <;> first | exact .fls | skip
  exact .bif (.and (.ret _)) .fls

theorem Point.aconv {E : Env} {S T : TypeId} {v : V} : Point (aconv E S T v) := by
  unfold Vc.aconv
  generalize lk E.ty S = r
  generalize lk E.ty T = q
  rcases r with _ | t
  · exact .fls
  · dsimp only
    rcases q with _ | t
    · exact .fls
    · cases t <;> first | exact .fls | skip
      all_goals first
        | (cases v <;> dsimp only <;> first | exact .fls | exact .ret _)
        | (rename_i k; cases k <;> cases v <;> dsimp only <;> first | exact .fls | exact .ret _ | exact .inRK (.ret _))

theorem Point.evs {E : Env} {σ : List V} {α : Type} : ∀ {l : List Operand} {f : List V → (α → Prop) → Prop}, (∀ vs, Point (f vs)) → Point (fun K => evs E σ l fun vs => f vs K)
  | [], f, hf => hf []
  | x :: l, f, hf => .forceV fun v => Point.evs (l := l) (f := fun vs => f (v :: vs)) fun vs => hf _
theorem evs_agree {E : Env} {σ σ2 : List V} : ∀ {l : List Operand}, (∀ x ∈ l, ev E σ2 x = ev E σ x) → ∀ K, evs E σ2 l K = evs E σ l K
  | [], h, K => rfl
  | x :: l, h, K => by
    unfold evs
    rw [h x (by simp)]
    exact congrArg _ (funext fun v => evs_agree (fun x hx => h x (by simp [hx])) _)

theorem Point.castK {t t' : Ty} {xs : List t'.D} {α : Type} {f : List t.D → (α → Prop) → Prop} (hf : ∀ l, Point (f l)) : Point (fun K => castK xs fun l => f l K) := fun K h => by
  obtain ⟨e, h⟩ := castK_iff.1 h
  obtain ⟨v, h1, h2⟩ := hf _ K h
  exact ⟨v, h1, fun K' h' => castK_iff.2 ⟨e, h2 K' h'⟩⟩
theorem Point.asRow {H : List Blk} {t : Ty} {v : V} {α : Type} {f : Bool → List t.D → (α → Prop) → Prop} (hf : ∀ b l, Point (f b l)) : Point (fun K => asRow H t v fun b l => f b l K) := by
  cases v <;> unfold Vc.asRow <;> dsimp only <;> first
    | exact .fls | exact hf _ _ | exact .castK fun _ => hf _ _
    | (generalize getB H _ = b; cases b <;> dsimp only <;> first | exact .fls | exact .castK fun _ => hf _ _)
theorem Point.asRows {H : List Blk} {t : Ty} {α : Type} : ∀ {l : List V} {f : List (List t.D) → (α → Prop) → Prop}, (∀ vs, Point (f vs)) → Point (fun K => asRows H t l fun vs => f vs K)
  | [], f, hf => hf []
  | x :: l, f, hf => .asRow fun _ v => Point.asRows (l := l) (f := fun vs => f (v :: vs)) fun vs => hf _
theorem Point.asD {H : List Blk} {t : Ty} {v : V} {α : Type} {f : t.D → (α → Prop) → Prop} (hf : ∀ x, Point (f x)) : Point (fun K => asD H t v fun x => f x K) := by
  cases t with
  | sl t =>
    cases t with
    | sl t =>
      cases v <;> first
        | exact .asRow (f := fun _ xs K => f xs K) fun _ xs => hf xs
        | (unfold Vc.asD; exact .asRow (f := fun _ xs K => f xs K) fun _ xs => hf xs)
        | (unfold Vc.asD; (try dsimp only); generalize getB H _ = b; cases b <;> (try dsimp only) <;> first | exact .fls | exact .asRows fun xs => hf xs | exact .castK fun xs => hf xs)
    | _ => exact .asRow (f := fun _ xs K => f xs K) fun _ xs => hf xs
  | bool => cases v <;> first | exact .fls | exact .ex fun _ => hf _
  | _ => cases v <;> first | exact .fls | exact hf _ | exact .and (hf _)
theorem Point.asCellsN {α : Type} : ∀ {t : Ty} {l : List V} {f : Bool → t.D → List V → (α → Prop) → Prop}, (∀ b x l, Point (f b x l)) → Point (fun K => asCellsN t l fun b x l => f b x l K)
  | .nil, l, f, hf => hf _ _ _
  | .cons t ts, l, f, hf => Point.asCellsN (t := t) (l := l) (f := fun b x l K => Vc.asCellsN ts l fun g y l => f (b && g) (x, y) l K) fun b x l => Point.asCellsN (t := ts) fun g y l => hf (b && g) (x, y) l
  | .arr _ _, l, f, hf => .fls
  | .fnT, l, f, hf => .fls
  | .mapT _, l, f, hf => .fls
  | .sl t, l, f, hf => by
    cases l with
    | nil => exact .fls
    | cons v l => cases v <;> first | exact .fls | exact hf _ _ _ | exact .castK fun xs => hf _ xs _
  | .u8, [], f, hf => .fls
  | .u8, v :: l, f, hf => .asD (H := []) (f := fun x K => f true x l K) fun x => hf true x l
  | .int _, [], f, hf => .fls
  | .int _, v :: l, f, hf => .asD (H := []) (f := fun x K => f true x l K) fun x => hf true x l
  | .bool, [], f, hf => .fls
  | .bool, v :: l, f, hf => .asD (H := []) (f := fun x K => f true x l K) fun x => hf true x l
  | .str, [], f, hf => .fls
  | .str, v :: l, f, hf => .asD (H := []) (f := fun x K => f true x l K) fun x => hf true x l
theorem Point.asEl {t : Ty} {v : V} {α : Type} {f : Bool → t.D → (α → Prop) → Prop} (hf : ∀ b x, Point (f b x)) : Point (fun K => asEl t v fun b x => f b x K) := by
  cases t with
  | cons t ts =>
    cases v <;> first | exact .fls | skip
    refine .asCellsN (t := .cons t ts) (f := fun b x l K => match l with | [] => f b x K | _ => False) fun b x l => ?_
    cases l
    · exact hf _ _
    · exact .fls
  | sl t =>
    cases v <;> first | exact .fls | exact hf _ _ | skip
    unfold Vc.asEl
    dsimp only
    exact .castK (f := fun xs K => f _ xs K) fun xs => hf _ _
  | nil => cases v <;> exact .fls
  | arr n te =>
    cases v <;> first | exact .fls | skip
    unfold Vc.asEl
    dsimp only
    exact .dite fun h => hf _ _
  | _ => exact .asD (H := []) (v := v) (f := fun x K => f true x K) fun x => hf true x
theorem Point.asEls {t : Ty} {α : Type} : ∀ {l : List V} {f : Bool → List t.D → (α → Prop) → Prop}, (∀ b vs, Point (f b vs)) → Point (fun K => asEls t l fun b vs => f b vs K)
  | [], f, hf => hf true []
  | x :: l, f, hf => .asEl (f := fun b y K => Vc.asEls t l fun g ys => f (b && g) (y :: ys) K) fun b y => Point.asEls (l := l) (f := fun g ys => f (b && g) (y :: ys)) fun g ys => hf _ _
theorem Point.asArr {t : Ty} {v : V} {α : Type} {f : Nat → Bool → List t.D → (α → Prop) → Prop} (hf : ∀ n b x, Point (f n b x)) : Point (fun K => asArr t v fun n b x => f n b x K) := by
  cases v <;> first | exact .fls | skip
  rename_i fr t' ys
  cases t' <;> first | exact .fls | exact .castK fun xs => hf _ _ xs
theorem Point.setD {t : Ty} {v : V} {α : Type} {f : t.D → (α → Prop) → Prop} (hf : ∀ x, Point (f x)) : Point (fun K => setD t v fun x => f x K) := by
  cases t <;> cases v <;> first | exact .fls | exact hf _ | exact .and (hf _)

theorem Point.setF {v : V} {α : Type} : ∀ {t : Ty} {x : t.D} {o : Nat} {f : t.D → (α → Prop) → Prop}, (∀ x, Point (f x)) → Point (fun K => setF t x o v fun x => f x K)
  | .cons t ts, x, o, f, hf => .bif (Point.setF (t := t) (f := fun y K => f (y, x.2) K) fun y => hf _) (Point.setF (t := ts) (f := fun y K => f (x.1, y) K) fun y => hf _)
  | .arr _ t, xs, o, f, hf => .bif (Point.setF (t := t) (f := fun y K => f ((xs : List t.D).set o y) K) fun y => hf _) (Point.setF (t := t) (f := fun y K => f ((xs : List t.D).set (o / t.size) y) K) fun y => hf _)
  | .u8, x, o, f, hf => by cases o; exact .setD hf; exact .fls
  | .int _, x, o, f, hf => by cases o; exact .setD hf; exact .fls
  | .bool, x, o, f, hf => by cases o; exact .setD hf; exact .fls
  | .str, x, o, f, hf => by cases o; exact .setD hf; exact .fls
  | .nil, x, o, f, hf => .fls
  | .sl _, x, o, f, hf => .fls
  | .fnT, x, o, f, hf => .fls
  | .mapT _, x, o, f, hf => .fls

theorem Point.abuildF {t : Ty} : ∀ {l : List (Nat × V)} {cs : List V}, Point (abuildF t l cs)
  | [], cs => .ret _
  | (i, v) :: l, cs => by
    show Point fun K => match getO (offs t 0) i with
      | some (o, z) => bif v.isPart && Nat.beq (cellsOfV v).length z && Nat.ble (o + z) cs.length then Vc.forceL (setAt cs o (cellsOfV v)) fun cs => Vc.abuildF t l cs K else False
      | none => False
    generalize getO (offs t 0) i = q
    rcases q with _ | ⟨o, z⟩ <;> dsimp only
    · exact .fls
    · exact .bif (.forceL fun cs => Point.abuildF (l := l)) .fls
theorem Point.abuild {E : Env} {T : TypeId} {ps : List (Nat × V)} : Point (abuild E T ps) := by
  unfold Vc.abuild
  generalize lk E.ty T = r
  rcases r with _ | t
  · exact .fls
  · cases t <;> dsimp only <;> first | exact .fls | exact .forceL fun _ => .abuildF | exact .bif (.asEls fun _ _ => .ret _) .fls

theorem Point.aalloc {E : Env} {H : List Blk} {T : TypeId} : Point (fun K : V × List Blk → Prop => aalloc E H T fun v H => K (v, H)) := by
  unfold Vc.aalloc
  generalize lk E.ty T = r
  rcases r with _ | t
  · exact .fls
  · cases t <;> dsimp only <;> first
      | exact .bif (.forceL fun _ => .ret _) .fls
      | exact .bif (.forceL fun _ => .forceL fun _ => .ret _) .fls
theorem Point.abox {E : Env} {H : List Blk} {T : TypeId} {v : V} : Point (fun K : V × List Blk → Prop => abox E H T v fun v H => K (v, H)) := by
  unfold Vc.abox
  generalize lk E.ty T = r
  rcases r with _ | t
  · exact .fls
  · cases t <;> dsimp only <;> first
      | exact .bif (.asArr fun _ _ _ => .and (.forceL fun _ => .ret _)) .fls
      | (cases v <;> dsimp only <;> exact .bif (.forceL fun _ => .ret _) .fls)
theorem Point.abuildSlice {E : Env} {H : List Blk} {T : TypeId} {vs : List V} : Point (fun K : V × List Blk → Prop => abuildSlice E H T vs fun v H => K (v, H)) := by
  unfold Vc.abuildSlice
  generalize lk E.ty T = r
  rcases r with _ | t
  · exact .fls
  · cases t <;> dsimp only <;> first | exact .fls | skip
    rename_i t
    cases t <;> dsimp only <;> first
      | exact .bif (.asEls fun _ _ => .forceL fun _ => .ret _) .fls
      | exact .bif (.bif (.asEls fun _ _ => .forceL fun _ => .ret _) .fls) (.bif (.forceL fun _ => .ret _) .fls)
theorem Point.astore {E : Env} {H : List Blk} {T : TypeId} {p v : V} : Point (fun K : List Blk → Prop => astore E H T p v K) := by
  unfold Vc.astore
  generalize lk E.ty T = r
  rcases r with _ | t
  · cases p <;> exact .fls
  · cases p <;> (try dsimp only) <;> first | exact .fls | skip
    generalize getB H _ = b
    cases b <;> dsimp only <;> first
      | exact .fls
      | (cases v <;> (try dsimp only) <;> first
          | exact .setF fun _ => .and (.forceL fun _ => .ret _)
          | exact .asArr fun _ _ _ => .and (.forceL fun _ => .ret _)
          | exact .asEl fun _ _ => .and (.forceL fun _ => .ret _))
      | (cases v <;> dsimp only <;> exact .and (.forceL fun _ => .forceL fun _ => .ret _))
theorem Point.amapUpdate {E : Env} {H : List Blk} {T : TypeId} {m k v : V} : Point (fun K : List Blk → Prop => amapUpdate E H T m k v K) := by
  unfold Vc.amapUpdate
  split
  · generalize getB H _ = b
    cases b <;> dsimp only <;> first | exact .fls | exact .asEl (f := fun f x K => (_ = _ ∧ _) ∧ Vc.forceL _ K) fun f x => .and (.forceL fun _ => .ret _)
  · exact .fls
theorem Point.aappend {E : Env} {σ : List V} {H : List Blk} {T : TypeId} {x y : V} : Point (fun K : V × List V × List Blk → Prop => aappend E σ H T x y fun v σ H => K (v, σ, H)) := by
  unfold Vc.aappend
  generalize lk E.ty T = r
  rcases r with _ | t
  · exact .fls
  · cases t <;> dsimp only <;> first | exact .fls | skip
    cases x <;> dsimp only <;> first
      | exact .fls
      | exact .asRow fun _ _ => .and (.forceL fun _ => .ret _)
      | (generalize getB H _ = b; cases b <;> dsimp only <;> first
          | exact .fls
          | exact .and (.castK fun _ => .asRow fun _ _ => .and (.forceL fun _ => .forceL fun _ => .ret _)))
theorem Point.aappendC {E : Env} {σ : List V} {H : List Blk} {T : TypeId} {x y : V} : Point (fun K : V × List V × List Blk → Prop => aappendC E σ H T x y fun v σ H => K (v, σ, H)) := by
  unfold Vc.aappendC
  split
  · generalize getB H _ = b
    cases b <;> dsimp only <;> first
      | exact .fls
      | exact .and (.forceL fun _ => .ret _)
  · generalize getB H _ = b
    generalize getB H _ = b2
    cases b <;> cases b2 <;> dsimp only <;> first
      | exact .fls
      | exact .and (.forceL fun _ => .forceL fun _ => .forceL fun _ => .ret _)
  · exact .fls
theorem Point.aappendB {E : Env} {σ : List V} {H : List Blk} {T : TypeId} {x y : V} : Point (fun K : V × List V × List Blk → Prop => aappendB E σ H T x y fun v σ H => K (v, σ, H)) := by
  unfold Vc.aappendB
  exact .bif .aappendC .aappend
theorem Point.aappendZ {E : Env} {σ : List V} {H : List Blk} {T : TypeId} {x y : V} : Point (fun K : V × List V × List Blk → Prop => aappendZ E σ H T x y fun v σ H => K (v, σ, H)) := by
  unfold Vc.aappendZ
  split
  · generalize getB H _ = b
    cases b <;> dsimp only <;> first
      | exact .fls
      | exact .and (.castK fun _ => .and (.forceL fun _ => .forceL fun _ => .ret _))
  · exact .fls
end Go.Proofs.Ytgljcfnplkcfhaa.Vc

namespace Go.Proofs.Ytgljcfnplkcfhaa.Vc
open Go Go.RowKit

section
variable {G : List (Nat × V)} {base : Nat} {w0 : W0} {c : Cx} {H : List Blk} {w : World}

theorem beq_no {i id : Nat} (h : i ≠ id) : Nat.beq i id = false := by
  cases hb : Nat.beq i id with
  | false => rfl
  | true => exact absurd (Nat.eq_of_beq_eq_true hb) h
mutual
theorem VRel.nom {id : Nat} (hs : shape H id = none) : ∀ {x : V} {v : Value}, VRel c H w x v → x.mentions id = false
  | _, _, .undef _ => rfl
  | _, _, .nope => rfl
  | _, _, .int _ _ _ _ => rfl
  | _, _, .u8 _ => rfl
  | _, _, .b _ _ _ => rfl
  | _, _, .bt _ => rfl
  | _, _, .str _ _ => rfl
  | _, _, .nils => rfl
  | _, _, .sl _ _ _ _ _ => rfl
  | _, _, .own t i n a cap h _ _ _ => beq_no (i := i) fun e => by subst e; rw [hs] at h; cases h
  | _, _, .slc t i off n m a cap h _ _ _ _ => beq_no (i := i) fun e => by subst e; rw [hs] at h; cases h
  | _, _, .rp _ _ _ _ _ _ _ _ _ _ => rfl
  | _, _, .ptr i z j o g m h _ _ _ => beq_no (i := i) fun e => by subst e; rw [hs] at h; cases h
  | _, _, .agg cs vs h => VRels.nom hs h
  | _, _, .tup cs vs h => VRels.nom hs h
  | _, _, .fn f cs vs h => VRels.nom hs h
  | _, _, .nilfn => rfl
  | _, _, .rb x v g p hM hc h => show x.mentions id = false from VRel.nom hs h
  | _, _, .mp t i g h1 hr => beq_no fun e => by subst e; rw [hs] at h1; cases h1
  | _, _, .yld _ _ => rfl
  | _, _, .dat _ _ _ _ _ => rfl
theorem VRels.nom {id : Nat} (hs : shape H id = none) : ∀ {xs : List V} {vs : List Value}, VRels c H w xs vs → V.mentionsL id xs = false
  | _, _, .nil => rfl
  | _, _, .cons x v xs vs h hx => by rw [V.mentionsL, VRel.nom hs h, VRels.nom hs hx]; rfl
end
theorem mentionsL_of {id : Nat} : ∀ {cs : List V}, (∀ j, j < cs.length → (gets cs j).mentions id = false) → V.mentionsL id cs = false
  | [], _ => rfl
  | x :: cs, h => by
    rw [V.mentionsL, show x.mentions id = false from h 0 (by simp), mentionsL_of fun j hj => h (j + 1) (by simpa using hj)]; rfl
theorem St.nomH (h : St G base w0 c H w) {id : Nat} (hs : shape H id = none) {j : Nat} {cs : List V} (hj : getB H j = .cells cs) : V.mentionsL id cs = false := by
  have hb := h.blk j
  rw [hj] at hb
  rcases hb with ⟨g, e, cur, h1, h2, h3, h4⟩ | ⟨_, _, h2⟩
  · exact mentionsL_of fun k hk => by obtain ⟨v, _, _, hv⟩ := h4 k hk; exact hv.nom hs
  · exact h2.nom hs
theorem frzH_id (id : Nat) (y : V) : ∀ H : List Blk, (∀ j cs, getB H j = .cells cs → V.mentionsL id cs = false) → frzH id y H = H
  | [], _ => rfl
  | b :: H, h => by
    rw [frzH, frzH_id id y H fun j cs hj => h (j + 1) cs hj]
    congr 1
    cases b with
    | cells cs => rw [frzB, frzL_id id y cs (h 0 cs rfl)]
    | _ => rfl
theorem frzH_app (id : Nat) (y : V) : ∀ A B : List Blk, frzH id y (A ++ B) = frzH id y A ++ frzH id y B
  | [], B => rfl
  | b :: A, B => by rw [List.cons_append, frzH, frzH_app id y A B, frzH]; rfl
theorem setB_last (b : Blk) (x : Blk) : ∀ H : List Blk, setB (H ++ [x]) H.length b = H ++ [b]
  | [] => rfl
  | y :: H => by rw [List.cons_append, List.length_cons, setB, setB_last b x H]; rfl

theorem Ext.undead : Ext c (H ++ [.dead]) w c H w where
  M g h := h
  N g h := h
  mem g _ := rfl
  shp id s hs := by
    refine ⟨?_, rfl⟩
    have e : shape (H ++ [.dead]) id = if id = H.length then none else shape H id := by
      unfold shape
      rw [getB_append]
      by_cases g : id = H.length
      · rw [if_pos g, if_pos g]
      · rw [if_neg g, if_neg g]
    rw [e] at hs
    by_cases g : id = H.length
    · rw [if_pos g] at hs; cases hs
    · rwa [if_neg g] at hs
  siz id s g cur e _ _ hg := ⟨cur, hg, rfl⟩
  x := rfl
  gi := rfl
  bas _ _ _ := rfl
theorem St.undead (h : St G base w0 c (H ++ [.dead]) w) (hr : c.ρ H.length = none) : St G base w0 c H w where
  below := h.below
  xk := h.xk
  size := h.size
  blk id := by
    have hb := h.blk id
    rw [getB_append] at hb
    split at hb
    · rename_i e
      rw [getB_ge H id (by omega)]
      trivial
    · exact hb.keep Ext.undead (fun _ => rfl) (fun _ => rfl) fun _ _ => rfl
  inj := h.inj
  own i g hi := by
    obtain ⟨h1, h2, h3, h4⟩ := h.own i g hi
    refine ⟨h1, h2, h3, ?_⟩
    rw [List.length_append, List.length_cons, List.length_nil] at h4
    rcases Nat.lt_or_ge i H.length with g' | g'
    · exact g'
    · have : i = H.length := by omega
      subst this
      rw [hr] at hi
      cases hi
  imm := h.imm
  sub := h.sub
  glob g x hx := (h.glob g x hx).ext Ext.undead

theorem St.lit (hG : GlobOk G) {c' : Cx} {w' : World} {fr : Bool} {t : Ty} {xs : List t.D} {σ : List V} {tm : List Value} {v : Value} (h0 : St G base w0 c H w) (hσ0 : VRels c H w σ tm)
    (h : St G base w0 c' (H ++ [.row fr t xs]) w') (hσ : VRels c' (H ++ [.row fr t xs]) w' σ tm) (hv : VRel c' (H ++ [.row fr t xs]) w' (.own t H.length) v) :
    ∃ c'', St G base w0 c'' H w' ∧ VRels c'' H w' σ tm ∧ VRel c'' H w' (.sl fr t xs) v := by
  have hs : shape H H.length = none := by unfold shape; rw [getB_ge H _ (Nat.le_refl _)]
  have hb : getB (H ++ [.row fr t xs]) H.length = .row fr t xs := by rw [getB_append, if_pos rfl]
  have e : setB (frzH H.length (.sl fr t xs) (H ++ [.row fr t xs])) H.length .dead = H ++ [.dead] := by
    rw [frzH_app, frzH_id _ _ H fun j cs hj => h0.nomH hs hj]
    exact setB_last _ _ H
  have s1 := h.frz hG hb
  have s2 := hσ.frz (y := .sl fr t xs) (H' := setB (frzH H.length (.sl fr t xs) (H ++ [.row fr t xs])) H.length .dead) (fun j hj => shape_frz hj) (fun t' v hv => frz_row h hb t' v hv) fun _ _ _ _ _ => .undef _
  have s3 := frz_row h hb t v hv (H' := H ++ [.dead])
  rw [e] at s1 s2
  rw [frzL_id _ _ _ (hσ0.nom hs)] at s2
  exact ⟨c'.frz H.length, s1.undead (by simp [Cx.frz]), s2.ext Ext.undead, s3.ext Ext.undead⟩
end

section
variable {G : List (Nat × V)} {base : Nat} {w0 : W0} {c : Cx} {H : List Blk} {w : World}
theorem shape_setB_other {b : Blk} {id r : Nat} (h : id ≠ r) : shape (setB H r b) id = shape H id := by
  unfold shape
  rw [getB_setB, if_neg (by simp [h])]
theorem St.ext_at (h : St G base w0 c H w) {r : Nat} (hr : getB H r = .dead) (b : Blk) (cur : Array Value) (e : TypeId) : Ext c H w (c.push r w.heap.size) (setB H r b) (w.alloc (.cells cur e)) where
  M g hg := hg
  N g hg := hg
  mem g hg := Below.heap_alloc w _ g (h.imm g (hg.elim id fun hn => (h.sub g hn).1))
  shp id s hs := by
    have hne : id ≠ r := fun e => by subst e; simp [shape, hr] at hs
    exact ⟨by rw [shape_setB_other hne]; exact hs, by simp [Cx.push, hne]⟩
  siz id s g cur' e' _ hr hg := ⟨cur', (Below.heap_alloc w _ g (h.own id g hr).2.1).trans hg, rfl⟩
  x := rfl
  gi := rfl
  bas id s hs := by
    have hne : id ≠ r := fun e => by subst e; simp [shape, hr] at hs
    simp [Cx.push, hne]
theorem St.at (h : St G base w0 c H w) {r : Nat} (hr : getB H r = .dead) (hrl : r < H.length) (b : Blk) (cur : Array Value) (e : TypeId)
    (hb : BOk (c.push r w.heap.size) (setB H r b) (w.alloc (.cells cur e)) r b) : St G base w0 (c.push r w.heap.size) (setB H r b) (w.alloc (.cells cur e)) where
  below := h.below.alloc h.size _
  xk := h.xk.step rfl (fun h => h) (fun g hg => .inl hg) (fun i g hi => by
    simp only [Cx.push] at hi
    split at hi
    · exact .inr (by simp at hi; omega)
    · exact .inl ⟨i, hi⟩) (fun g o ho => .inl ((Below.heap_alloc w _ g (Array.getElem?_eq_some_iff.1 ho).1).trans ho))
  size := by have := h.size; simp; omega
  blk id := by
    rw [getB_setB]
    split
    · rename_i hid; rw [hid.1]; exact hb
    · rename_i hid
      have hne : id ≠ r := fun e => hid ⟨e, hrl⟩
      exact BOk.keep (h.ext_at hr b cur e) (fun _ => by simp [Cx.push, hne]) (fun _ => by simp [Cx.push, hne]) (fun g hg => Below.heap_alloc w _ g (h.own id g hg).2.1) (h.blk id)
  inj i j g hi hj := by
    simp only [Cx.push] at hi hj
    split at hi <;> split at hj
    · omega
    · have := (h.own j g hj).2.1; simp at hi; omega
    · have := (h.own i g hi).2.1; simp at hj; omega
    · exact h.inj i j g hi hj
  own i g hi := by
    simp only [Cx.push] at hi
    split at hi
    · rename_i hid
      simp at hi
      subst hi
      have := h.size
      exact ⟨this, by simp, fun hm => absurd (h.imm _ hm) (Nat.lt_irrefl _), by rw [length_setB, hid]; exact hrl⟩
    · obtain ⟨h1, h2, h3, h4⟩ := h.own i g hi
      exact ⟨h1, by simp; omega, h3, by rw [length_setB]; exact h4⟩
  imm g hg := by have := h.imm g hg; simp; omega
  sub := h.sub
  glob g x hx := (h.glob g x hx).ext (h.ext_at hr b cur e)
theorem getB_res (H : List Blk) (m : Nat) : ∀ id, getB (H ++ List.replicate m .dead) id = getB H id := by
  induction H with
  | nil =>
    intro id
    rw [List.nil_append]
    induction m generalizing id with
    | zero => rfl
    | succ m ih =>
      rw [List.replicate_succ]
      cases id with
      | zero => rfl
      | succ id => exact (ih id).trans (by cases id <;> rfl)
  | cons b H ih =>
    intro id
    cases id with
    | zero => rfl
    | succ id => exact ih id
theorem shape_res (m id : Nat) : shape (H ++ List.replicate m .dead) id = shape H id := by unfold shape; rw [getB_res]
theorem Ext.res (m : Nat) : Ext c H w c (H ++ List.replicate m .dead) w where
  M g h := h
  N g h := h
  mem g _ := rfl
  shp id s hs := ⟨by rw [shape_res]; exact hs, rfl⟩
  siz id s g cur e _ _ hg := ⟨cur, hg, rfl⟩
  x := rfl
  gi := rfl
  bas _ _ _ := rfl
theorem St.res (h : St G base w0 c H w) (m : Nat) : St G base w0 c (H ++ List.replicate m .dead) w where
  below := h.below
  xk := h.xk
  size := h.size
  blk id := by rw [getB_res]; exact (h.blk id).keep (Ext.res m) (fun _ => rfl) (fun _ => rfl) fun _ _ => rfl
  inj := h.inj
  own i g hi := by
    obtain ⟨h1, h2, h3, h4⟩ := h.own i g hi
    exact ⟨h1, h2, h3, by rw [List.length_append]; omega⟩
  imm := h.imm
  sub := h.sub
  glob g x hx := (h.glob g x hx).ext (Ext.res m)
end

section
variable {E : Env} {P : Program} {base : Nat} {w0 : W0} {c : Cx} {H : List Blk} {w : World} {σ : List V} {a : Act} {K : V → List V → List Blk → Prop} {o : Oper}
theorem After.mono {G : List (Nat × V)} {tm : List Value} {K' : V → List V → List Blk → Prop} (h : After G base w0 tm K P o a w) (hk : ∀ v w', Step G base w0 tm K v w' → Step G base w0 tm K' v w') : After G base w0 tm K' P o a w := by
  rcases h with ⟨v, w', hr, hs⟩ | ⟨w', hr, hs⟩ | ⟨f, args, w', hr, hc⟩
  · exact .inl ⟨v, w', hr, hk _ _ hs⟩
  · exact .inr (.inl ⟨w', hr, hk _ _ hs⟩)
  · exact .inr (.inr ⟨f, args, w', hr, hc.mono fun e w'' ⟨v, he, hs⟩ => ⟨v, he, hk _ _ hs⟩⟩)

theorem virt_own {op : Op} (hv : virtE E op = true) (h : aopV E σ H op K) {K2 : V → List V → List Blk → Prop} (hk2 : ∀ (f : Bool) (t : Ty) (xs : List t.D), K (.sl f t xs) σ H → K2 (.own t H.length) σ (H ++ [.row f t xs])) : aop E σ H op K2 := by
  cases op <;> first | (simp [virtE, litSh] at hv; done) | skip
  rename_i T n ps
  simp only [virtE, litSh, Bool.and_eq_true] at hv
  obtain ⟨⟨hn, hT⟩, _⟩ := hv
  have hn := Nat.eq_of_beq_eq_true hn
  subst hn
  unfold aopV at h
  unfold aop
  dsimp only at h ⊢
  obtain ⟨hb, h⟩ := bif_ok h
  rw [hb]
  simp only [show Nat.ble 1 1000 = true from rfl, Bool.and_self, cond_true]
  have hp : Point (fun K : List V → Prop => evs E σ (ps.toList.map (·.2)) K) := .evs (f := fun vs K => K vs) fun vs => .ret vs
  obtain ⟨vs, h1, h2⟩ := hp _ h
  refine h2 _ ?_
  unfold abuildSlice
  generalize lk E.ty T = r at h1 hT ⊢
  rcases r with _ | t
  · exact h1.elim
  · cases t <;> first | exact h1.elim | skip
    rename_i t
    have main : (bif Nat.ble (vs.length * t.size) 16777216 then asEls t vs fun f xs => K (.sl (t.flat || f) t xs) σ H else False) → (bif Nat.ble (vs.length * t.size) 16777216 then asEls t vs fun f xs => forceL (H ++ [.row (t.flat || f) t xs]) (K2 (.own t H.length) σ) else False) := fun hk => by
      obtain ⟨hb, hk⟩ := bif_ok hk
      rw [hb]
      simp only [cond_true]
      have hp : Point (fun K : Bool × List t.D → Prop => asEls t vs fun f xs => K (f, xs)) := .asEls (f := fun f xs K => K (f, xs)) fun f xs => .ret _
      obtain ⟨⟨f, xs⟩, h3, h4⟩ := hp (fun p => K (.sl (t.flat || p.1) t p.2) σ H) hk
      refine h4 (fun p => forceL (H ++ [.row (t.flat || p.1) t p.2]) (K2 (.own t H.length) σ)) ?_
      simp only [forceL_eq]
      exact hk2 _ _ _ h3
    cases t <;> first | exact main h1 | (simp at hT; done)

theorem op_allocAt (hE : EnvOk P E) (hst : St E.glob base w0 c H w) (hσ : VRels c H w σ a.tmps.toList) {r : Nat} (hal : isAlO E o.op = true) (h : aopA E r σ H o.op K) : After E.glob base w0 a.tmps.toList K P o a w := by
  generalize ho : o.op = op at h hal
  cases op <;> first | exact h.elim | skip
  case buildSlice T n parts =>
    unfold aopA at h
    dsimp only at h
    split at h <;> first | exact h.elim | skip
    rename_i hr
    obtain ⟨hrl, h⟩ := bif_ok h
    simp only [Nat.blt_eq] at hrl
    simp only [isAlO, litSh, Bool.and_eq_true] at hal
    have hn := Nat.eq_of_beq_eq_true hal.1.1
    subst hn
    unfold aopV at h
    dsimp only at h
    obtain ⟨hidx, h⟩ := bif_ok h
    obtain ⟨hlen, hparts⟩ := idxOk_ok _ _ _ hidx
    rw [Nat.zero_add] at hlen
    obtain ⟨vs, h, hvs⟩ := evs_ok hst hσ _ _ h
    obtain ⟨us, hus⟩ : ∃ us, (parts.toList.map (·.2)).map a.eval = us := ⟨_, rfl⟩
    rw [hus] at hvs
    have hul : us.length = 1 := by rw [← hus]; simp [hlen]
    have hpe : parts.map (fun x => (x.1, a.eval x.2)) = ((us.zipIdx 0).map fun x => (x.2, x.1)).toArray := by
      apply Array.ext'
      rw [Array.toList_map]
      show List.map (fun x => (x.1, a.eval x.2)) parts.toList = _
      rw [← hus]
      generalize parts.toList.map (·.2) = L at hparts
      rw [hparts, List.zipIdx_map]
      simp [List.map_map, Function.comp_def]
    split at h <;> first | exact h.elim | skip
    rename_i t hT
    obtain ⟨e, hu, hio, hpos⟩ := (lk_ty hE hT).sl
    obtain ⟨hsz0, h⟩ := bif_ok h
    have hsz0 := ble_ok hsz0
    rw [hvs.length] at hsz0
    obtain ⟨f, xs, h1, h2, h34⟩ := asEls_ok h hvs
    obtain ⟨h3, h4⟩ := h34 f (fun e => e) fun g hg => (hst.sub g hg).1
    have h1 := (forceL_eq _ _).1 h1
    have hr1 := run_buildSlice (w := w) hu hio us h3 (by omega) hsz0
    have hrun : (execOp a.eval o).run P w = .ok (.value (.slice (some ⟨w.heap.size, 0, none⟩) us.length us.length)) (w.alloc (.cells (us.map (·.cells.toList)).flatten.toArray e)) := by
      rw [hul] at hr1 ⊢
      simp only [execOp, ho, hpe, Sem.run_bind, hr1, Result.andThen_ok, Sem.run_pure]
    have hfl : ((us.map (·.cells.toList)).flatten).length = us.length * t.size := by
      rw [length_flatten_const t.size]; · simp
      intro l hl
      obtain ⟨u, hu, rfl⟩ := List.mem_map.1 hl
      simpa using h3 u hu
    have hext := hst.ext_at hr (.row (t.flat || f) t xs) (us.map (·.cells.toList)).flatten.toArray e
    have hst' := hst.at hr hrl (.row (t.flat || f) t xs) (us.map (·.cells.toList)).flatten.toArray e (.inr ⟨w.heap.size, e, (us.map (·.cells.toList)).flatten.toArray, by simp [Cx.push], heap_alloc_new w _, by rw [h2, beta_push]; simpa using Nat.le_of_eq hfl.symm, fun i x hx => by
      rw [beta_push]
      obtain ⟨es, e1, e2⟩ := h4 i x hx
      refine ⟨es, hext.drel ?_, fun j v hj => by simpa using e2 j v hj⟩
      cases ht : t.flat with
      | true => exact DRel.flat _ _ _ ht e1
      | false => simpa using e1⟩)
    refine .inl ⟨_, _, hrun, _, σ, _, _, h1, ?_, hσ.ext hext, hst'⟩
    have hown := VRel.own (c := c.push r w.heap.size) (H := setB H r (.row (t.flat || f) t xs)) (w := w.alloc (.cells (us.map (·.cells.toList)).flatten.toArray e)) t r xs.length (some ⟨w.heap.size, 0, none⟩) us.length (by simp [shape, getB_setB, hrl]) (by omega) (by unfold maxLen; omega) (.inr ⟨w.heap.size, e, _, by simp [Cx.push], by simp [Cx.push], heap_alloc_new w _, by simpa [Cx.push] using Nat.le_of_eq hfl.symm⟩)
    rw [h2] at hown
    exact hown
  rename_i T
  unfold aopA at h
  dsimp only at h
  split at h <;> first | exact h.elim | skip
  rename_i hr
  obtain ⟨hrl, h⟩ := bif_ok h
  simp only [Nat.blt_eq] at hrl
  split at h
  · rename_i n t hT
    have hok := lk_ty hE hT
    obtain ⟨i, z, hi, hz, hzc, hsz, _⟩ := hok.info
    obtain ⟨hb, h⟩ := bif_ok h
    simp only [Bool.and_eq_true, Nat.blt_eq] at hb
    have h' := (forceL_eq _ _).1 h
    have hext := hst.ext_at hr (.row true t (List.replicate n t.dflt)) z.cells T
    have hst' := hst.at hr hrl (.row true t (List.replicate n t.dflt)) z.cells T (.inr ⟨w.heap.size, T, z.cells, by simp [Cx.push], heap_alloc_new w _, by
        have : z.cells.toList.length = n * t.size := by rw [hzc, zc_length]; rfl
        rw [List.length_replicate, beta_push]; simpa using Nat.le_of_eq this.symm, fun k x hk => by
        rw [beta_push]
        rw [List.getElem?_replicate] at hk
        split at hk
        · rename_i hlt
          obtain rfl : t.dflt = x := by simpa using hk
          refine ⟨zc t, zc_dflt _ _ t, fun j v hj => ?_⟩
          have := flatten_replicate_get (zc t) n k j v hlt hj
          rw [zc_length] at this
          rw [Nat.zero_add, ← Array.getElem?_toList, hzc]
          exact this
        · simp at hk⟩)
    refine .inl ⟨.pointer (some ⟨w.heap.size, 0, none⟩), _, ?_, _, σ, _, _, h', ?_, hσ.ext hext, hst'⟩
    · simp [execOp, ho, Instr.alloc, zeroValue, typeInfo, hi, hz, newVar, newRow]
    · have := VRel.ptr (c := c.push r w.heap.size) (H := setB H r (.row true t (List.replicate n t.dflt))) (w := w.alloc (.cells z.cells T)) r t.size 0 0 w.heap.size n (by simp [shape, getB_setB, hrl]) (by simp [Cx.push]) hb.1 hb.2
      simpa [beta_push] using this
  · rename_i t _ hT
    have hok := lk_ty hE hT
    obtain ⟨i, z, hi, hz, hzc, hsz, _⟩ := hok.info
    obtain ⟨hb, h⟩ := bif_ok h
    simp only [Nat.blt_eq] at hb
    have h' := (forceL_eq _ _).1 ((forceL_eq _ _).1 h)
    have hext := hst.ext_at hr (.cells (zeroV t)) z.cells T
    have hrel : VRels c H w (zeroV t) z.cells.toList := by rw [hzc]; exact zeroV_ok t
    have hone : ∀ v ∈ z.cells.toList, v.oneCell' = true := by rw [hzc]; exact DRel.one t _ _ (zc_dflt w (fun _ => True) t)
    have hlen := hrel.length
    have hl : (zeroV t).length = t.size := by rw [(zeroV_ok (c := c) (H := H) (w := w) t).length, zc_length]
    have hst' := hst.at hr hrl (.cells (zeroV t)) z.cells T (.inl ⟨w.heap.size, T, z.cells, by simp [Cx.push], heap_alloc_new w _, ⟨beta_push _ _ _, by simpa using Nat.le_of_eq hlen⟩, fun j hj => by
      rw [beta_push, Nat.zero_add]
      have hj' : j < z.cells.toList.length := by omega
      have hget : z.cells[j]? = some (z.cells.toList[j]) := by simp [Array.getElem?_eq_getElem (show j < z.cells.size by simpa using hj')]
      refine ⟨z.cells.toList[j], hget, hone _ (List.getElem_mem _), ?_⟩
      have := (hrel.get j).ext hext
      simpa [List.getD_eq_getElem?_getD, List.getElem?_eq_getElem hj'] using this⟩)
    refine .inl ⟨.pointer (some ⟨w.heap.size, 0, none⟩), _, ?_, _, σ, _, _, h', ?_, hσ.ext hext, hst'⟩
    · simp [execOp, ho, Instr.alloc, zeroValue, typeInfo, hi, hz, newVar, newRow]
    · have := VRel.ptr (c := c.push r w.heap.size) (H := setB H r (.cells (zeroV t))) (w := w.alloc (.cells z.cells T)) r 1 0 0 w.heap.size t.size (by simp [shape, getB_setB, hrl, hl]) (by simp [Cx.push]) hb (by omega)
      simpa [beta_push] using this
  · exact h.elim

theorem killL_nom (id : Nat) : ∀ l : List V, V.mentionsL id (killL id l) = false
  | [] => rfl
  | x :: l => by
    rw [killL, V.mentionsL, killL_nom id l, Bool.or_false]
    cases h : x.mentions id with
    | true => rfl
    | false => exact h
theorem getB_ext : ∀ {A B : List Blk}, A.length = B.length → (∀ id, getB A id = getB B id) → A = B
  | [], [], _, _ => rfl
  | x :: A, y :: B, h, hg => by
    have h0 : x = y := hg 0
    subst h0
    rw [getB_ext (A := A) (B := B) (by simpa using h) fun t => hg (t + 1)]
  | [], _ :: _, h, _ => by simp at h
  | _ :: _, [], h, _ => by simp at h
theorem frz_killed (id : Nat) (y : V) (b : Blk) (H : List Blk) : setB (frzH id y (setB (killH id H) id b)) id .dead = setB (killH id H) id .dead := by
  refine getB_ext (by rw [length_setB, length_frzH, length_setB, length_setB]) fun j => ?_
  rw [getB_setB, getB_setB, length_frzH, length_setB]
  by_cases h : j = id ∧ id < (killH id H).length
  · rw [if_pos h, if_pos h]
  · rw [if_neg h, if_neg h, getB_frzH, getB_setB, if_neg h, getB_killH]
    cases getB H j with
    | cells cs => show Blk.cells (frzL id y (killL id cs)) = .cells (killL id cs); rw [frzL_id _ _ _ (killL_nom id cs)]
    | _ => rfl
theorem appF_own {op : Op} (h : aopF E σ H op K) {K2 : V → List V → List Blk → Prop} (h1 : ∀ (f : Bool) (t : Ty) (xs : List t.D), K (.sl f t xs) σ (H ++ [.dead]) → K2 (.own t H.length) σ (H ++ [.row f t xs]))
    (h2 : ∀ (id : Nat) (f : Bool) (t : Ty) (xs : List t.D), getB H id ≠ .dead → K (.sl f t xs) (killL id σ) (setB (killH id H) id .dead) → K2 (.own t id) (killL id σ) (setB (killH id H) id (.row f t xs))) : aop E σ H op K2 := by
  cases op <;> first | exact h.elim | skip
  rename_i c
  obtain ⟨callee, args, tys⟩ := c
  cases callee <;> first | exact h.elim | skip
  rename_i b
  cases b <;> first | exact h.elim | skip
  unfold aopF at h
  unfold aop
  dsimp only at h ⊢
  split at h <;> first | exact h.elim | skip
  obtain ⟨hb, h⟩ := bif_ok h
  rw [hb]
  simp only [cond_true]
  refine aappendB_of ?_
  unfold aappendF at h
  unfold aappend
  split at h
  · rename_i t hT hx
    have hp : ∀ y, Point (fun K : Bool × List t.D → Prop => asRow H t y fun f ys => (ys.length ≤ 1000000000) ∧ K (f, ys)) := fun y => .asRow fun b l => .and (.ret _)
    obtain ⟨⟨f, ys⟩, g1, g2⟩ := hp _ (fun p => forceL (H ++ [.dead]) (K (.sl p.1 t p.2) σ)) h
    exact g2 (fun p => forceL (H ++ [.row p.1 t p.2]) (K2 (.own t H.length) σ)) ((forceL_eq _ _).2 (h1 f t ys ((forceL_eq _ _).1 g1)))
  · rename_i t t0 id hT hx
    split at h
    · rename_i fr t' xs hbk
      refine ⟨h.1, ?_⟩
      have hp : ∀ y, Point (fun K : List t.D × Bool × List t.D → Prop => castK xs fun xs => asRow H t y fun f ys => (xs.length + ys.length ≤ 1000000000) ∧ K (xs, f, ys)) := fun y => .castK fun l => .asRow fun b l => .and (.ret _)
      obtain ⟨⟨xs2, f, ys⟩, g1, g2⟩ := hp _ (fun p => forceL (killL id σ) fun σ => forceL (setB (killH id H) id .dead) (K (.sl (fr && p.2.1) t (p.1 ++ p.2.2)) σ)) h.2
      refine g2 (fun p => forceL (killL id σ) fun σ => forceL (setB (killH id H) id (.row (fr && p.2.1) t (p.1 ++ p.2.2))) (K2 (.own _ id) σ)) ?_
      simp only [forceL_eq] at g1 ⊢
      have := h2 id (fr && f) t (xs2 ++ ys) (by rw [hbk]; simp) g1
      exact this
    · exact h.elim
  · exact h.elim
theorem aopX_ok (hG : GlobOk E.glob) (hE : EnvOk P E) (hst : St E.glob base w0 c H w) (hσ : VRels c H w σ a.tmps.toList) {r : Nat} (h : aopX E r σ H o.op K) : After E.glob base w0 a.tmps.toList K P o a w := by
  unfold aopX at h
  cases hv : virtE E o.op with
  | false =>
    rw [hv] at h
    simp only [cond_false] at h
    cases ha : isAlO E o.op with
    | true => rw [ha] at h; exact op_allocAt hE hst hσ ha h
    | false =>
      rw [ha] at h
      simp only [cond_false] at h
      cases hf : (Nat.beq r 1 && isApp o.op) with
      | false => rw [hf] at h; exact aop_ok hG hE hst hσ h
      | true =>
        rw [hf] at h
        refine (aop_ok (K := fun v σ' H' => (∃ (f : Bool) (t : Ty) (xs : List t.D), v = .own t H.length ∧ σ' = σ ∧ H' = H ++ [.row f t xs] ∧ K (.sl f t xs) σ (H ++ [.dead])) ∨
          ∃ (id : Nat) (f : Bool) (t : Ty) (xs : List t.D), v = .own t id ∧ σ' = killL id σ ∧ H' = setB (killH id H) id (.row f t xs) ∧ getB H id ≠ .dead ∧ K (.sl f t xs) (killL id σ) (setB (killH id H) id .dead)) hG hE hst hσ
          (appF_own h (fun f t xs hk => .inl ⟨f, t, xs, rfl, rfl, rfl, hk⟩) fun id f t xs hd hk => .inr ⟨id, f, t, xs, rfl, rfl, rfl, hd, hk⟩)).mono fun v w' ⟨x, σ', H', c', hx', hx, hσ', hst'⟩ => ?_
        rcases hx' with ⟨f, t, xs, e1, e2, e3, hk⟩ | ⟨id, f, t, xs, e1, e2, e3, hd, hk⟩
        · subst e1 e2 e3
          have hs : shape H H.length = none := by unfold shape; rw [getB_ge H _ (Nat.le_refl _)]
          have hb : getB (H ++ [.row f t xs]) H.length = .row f t xs := by rw [getB_append, if_pos rfl]
          have e : setB (frzH H.length (.sl f t xs) (H ++ [.row f t xs])) H.length .dead = H ++ [.dead] := by
            rw [frzH_app, frzH_id _ _ H fun j cs hj => hst.nomH hs hj]
            exact setB_last _ _ H
          have s1 := hst'.frz hG hb
          have s2 := hσ'.frz (y := .sl f t xs) (H' := setB (frzH H.length (.sl f t xs) (H ++ [.row f t xs])) H.length .dead) (fun j hj => shape_frz hj) (fun t' v hv => frz_row hst' hb t' v hv) fun _ _ _ _ _ => .undef _
          have s3 := frz_row hst' hb t v hx (H' := H ++ [.dead])
          rw [e] at s1 s2
          rw [frzL_id _ _ _ (hσ.nom hs)] at s2
          exact ⟨_, _, _, _, hk, s3, s2, s1⟩
        · subst e1 e2 e3
          have hl : id < (killH id H).length := by
            rw [length_killH]
            rcases Nat.lt_or_ge id H.length with g | g
            · exact g
            · exact absurd (getB_ge H id g) hd
          have hb : getB (setB (killH id H) id (.row f t xs)) id = .row f t xs := by rw [getB_setB, if_pos ⟨rfl, hl⟩]
          have e := frz_killed id (.sl f t xs) (.row f t xs) H
          have s1 := hst'.frz hG hb
          have s2 := hσ'.frz (y := .sl f t xs) (H' := setB (frzH id (.sl f t xs) (setB (killH id H) id (.row f t xs))) id .dead) (fun j hj => shape_frz hj) (fun t' v hv => frz_row hst' hb t' v hv) fun _ _ _ _ _ => .undef _
          have s3 := frz_row hst' hb t v hx (H' := setB (killH id H) id .dead)
          rw [e] at s1 s2
          rw [frzL_id _ _ _ (killL_nom id σ)] at s2
          exact ⟨_, _, _, _, hk, s3, s2, s1⟩
  | true =>
    rw [hv] at h
    refine (aop_ok (K := fun v σ' H' => ∃ (f : Bool) (t : Ty) (xs : List t.D), v = .own t H.length ∧ σ' = σ ∧ H' = H ++ [.row f t xs] ∧ K (.sl f t xs) σ H) hG hE hst hσ (virt_own hv h fun f t xs hk => ⟨f, t, xs, rfl, rfl, rfl, hk⟩)).mono fun v w' ⟨x, σ', H', c', ⟨f, t, xs, e1, e2, e3, hk⟩, hx, hσ', hst'⟩ => ?_
    subst e1 e2 e3
    obtain ⟨c'', s1, s2, s3⟩ := St.lit hG hst hσ hst' hσ' hx
    exact ⟨_, _, _, c'', hk, s3, s2, s1⟩
theorem aopX_defer {d} {r : Nat} : ¬ aopX E r σ H (.defer d) K := fun h => by
  unfold aopX at h
  cases hf : (Nat.beq r 1 && isApp (.defer d)) with
  | true => simp [isApp] at hf
  | false => exact (show aop E σ H (.defer d) K by rw [show virtE E (.defer d) = false from rfl, show isAlO E (.defer d) = false from rfl, hf] at h; exact h).elim
end
end Go.Proofs.Ytgljcfnplkcfhaa.Vc

namespace Go.Proofs.Ytgljcfnplkcfhaa.Vc
open Go Go.RowKit

section
abbrev Ses := Nat → W0 → Prop

def Fen (ro : Option Nat) : Fence := { Fence.wide with round := ro }

theorem callsIn_fen {ro : Option Nat} {P : Program} {f : FuncId} {args : Array Value} {w : World} {R : Ending → World → Prop} (h : Calls P f args w R) : CallsIn (Fen ro) 0 P f args w R := by
  cases ro with
  | none => exact callsIn_wide.2 h
  | some l => exact CallsIn.inRound l (callsIn_wide.2 h)

def Marks (w0 : W0) (ds : List Deferred) : Prop :=
  ∃ gs : List Nat, gs.Nodup ∧ ds = gs.map (fun g => { target := .collected g, args := #[] }) ∧ ∀ g ∈ gs, w0.mks g

theorem Marks.nil {w0 : W0} : Marks w0 [] := ⟨[], List.nodup_nil, rfl, by simp⟩

variable {E : Env} {P : Program} {S : Ses} {ro : Option Nat}

def Sta (E : Env) (S : Ses) (σ : List V) (H : List Blk) (a : Act) (w : World) : Prop :=
  ∃ c b v, S b v ∧ St E.glob b v c H w ∧ VRels c H w σ a.tmps.toList ∧ Marks v a.defers

theorem put_some (a : Act) (d : Nat) (v : Value) : (a.put (some d) v).tmps.toList = a.tmps.toList.set d v := by simp [Act.put]
theorem put_defers (a : Act) (d : Option Nat) (v : Value) : (a.put d v).defers = a.defers := by cases d <;> rfl

theorem setDst_ok {c : Cx} {H : List Blk} {w : World} {σ : List V} {a : Act} {d : Option Nat} {x : V} {v : Value} {K : List V → Prop} (h : setDst σ d x K) (hσ : VRels c H w σ a.tmps.toList) (hx : VRel c H w x v) :
    ∃ σ', K σ' ∧ VRels c H w σ' (a.put d v).tmps.toList := by
  cases d with
  | none => exact ⟨σ, h, hσ⟩
  | some d =>
    have h := (forceL_eq _ _).1 ((normV_eq x fun x => forceL (sets σ d x) K).1 h)
    exact ⟨_, h, by rw [put_some]; exact hσ.set hx d⟩

def aopAt (E : Env) (all : List Oper) (r : Nat) (o : Oper) (σ : List V) (H : List Blk) (K : List V → List Blk → Prop) : Prop :=
  aguard all σ o.guard (aopX E r σ H o.op fun v σ H => setDst σ o.dst v fun σ => K σ H) (setDst σ o.dst .nope fun σ => K σ H)

theorem After.wpIn {G : List (Nat × V)} {base : Nat} {w0 : W0} {tm : List Value} {K : V → List V → List Blk → Prop} {o : Oper} {a : Act} {w : World}
    {next : Act → World → Prop} {Q : Exit → Act → World → Prop} (h : After G base w0 tm K P o a w) (hnd : ∀ c, o.op ≠ .defer c) (hn : ∀ v w', Step G base w0 tm K v w' → next (a.put o.dst v) w') : o.wpIn (Fen ro) 0 P a w next Q := by
  refine ⟨fun _ _ => trivial, ?_⟩
  rw [Oper.semAt_eq _ _ _ hnd]
  rcases h with ⟨v, w', hr, hs⟩ | ⟨w', hr, hs⟩ | ⟨f, args, w', hr, hc⟩
  · rw [hr]; exact hn v w' hs
  · rw [hr]; exact hn _ w' hs
  · rw [hr]
    refine ⟨(fun h => by cases h), callsIn_fen (hc.mono fun e w'' ⟨v, he, hs⟩ => ?_)⟩
    subst he
    exact hn v w'' hs

theorem aop_yes (hG : GlobOk E.glob) (hE : EnvOk P E) {o : Oper} {σ : List V} {H : List Blk} {K : List V → List Blk → Prop} {a : Act} {w : World} {next : Act → World → Prop} {Q : Exit → Act → World → Prop}
    (hs : Sta E S σ H a w) (hn : ∀ σ' H' a' w', K σ' H' → Sta E S σ' H' a' w' → next a' w') (h : aop E σ H o.op (fun v σ H => setDst σ o.dst v fun σ => K σ H)) : o.wpIn (Fen ro) 0 P a w next Q := by
  obtain ⟨c, b, v, hS, hst, hσ, hd⟩ := hs
  refine (aop_ok hG hE hst hσ h).wpIn (fun d e => by rw [e] at h; exact h.elim) fun v w' ⟨x, σ', H', c', hk, hx, hσ', hst'⟩ => ?_
  obtain ⟨σ'', hk, hσ''⟩ := setDst_ok hk hσ' hx
  exact hn _ _ _ _ hk ⟨c', b, _, hS, hst', hσ'', by rw [put_defers]; exact hd⟩

theorem aopX_yes (hG : GlobOk E.glob) (hE : EnvOk P E) {o : Oper} {σ : List V} {H : List Blk} {K : List V → List Blk → Prop} {a : Act} {w : World} {next : Act → World → Prop} {Q : Exit → Act → World → Prop}
    (hs : Sta E S σ H a w) (hn : ∀ σ' H' a' w', K σ' H' → Sta E S σ' H' a' w' → next a' w') {r : Nat} (h : aopX E r σ H o.op (fun v σ H => setDst σ o.dst v fun σ => K σ H)) : o.wpIn (Fen ro) 0 P a w next Q := by
  obtain ⟨c, b, v, hS, hst, hσ, hd⟩ := hs
  refine (aopX_ok hG hE hst hσ h).wpIn (fun d e => by rw [e] at h; exact aopX_defer h) fun v w' ⟨x, σ', H', c', hk, hx, hσ', hst'⟩ => ?_
  obtain ⟨σ'', hk, hσ''⟩ := setDst_ok hk hσ' hx
  exact hn _ _ _ _ hk ⟨c', b, _, hS, hst', hσ'', by rw [put_defers]; exact hd⟩

theorem guard_ok {all : Array Oper} {o : Oper} {σ : List V} {H : List Blk} {yes no : Prop} {a : Act} {w : World} {Y N : Prop}
    (hs : Sta E S σ H a w) (h : aguard all.toList σ o.guard yes no) (hY : yes → Y) (hN : no → N) : if Region.wanted o (yielded all a.tmps) then Y else N := by
  obtain ⟨c, b, v, hS, hst, hσ, hd⟩ := hs
  unfold aguard at h
  split at h
  · rename_i hg
    rw [if_pos (by simp [Region.wanted, hg])]
    exact (hY h)
  · rename_i j b hg
    split at h
    · rename_i t ht
      have hrel := hσ.get t
      have hlen := hσ.length
      have hte : (all[j]?).bind (·.dst) = some t := by simpa using ht
      have hget : t < σ.length → a.tmps[t]? = some (a.tmps.toList.getD t undef) := fun g => by
        rw [hlen] at g
        have hlt : t < a.tmps.size := by simpa using g
        simp [List.getD_eq_getElem?_getD, hlt]
      have hlt : gets σ t ≠ .undef → t < σ.length := fun hne => by
        rcases Nat.lt_or_ge t σ.length with g | g
        · exact g
        · exact absurd (by rw [gets_eq]; simp [List.getD_eq_getElem?_getD, List.getElem?_eq_none g]) hne
      have hw : ∀ x, a.tmps.toList.getD t undef = .bool x → gets σ t ≠ .undef → Region.wanted o (yielded all a.tmps) = (x == b) := fun x hx hne => by
        have hg2 := hget (hlt hne)
        rw [hx] at hg2
        have hy : yielded all a.tmps j = some x := by simp [yielded, hte, hg2]
        simp only [Region.wanted, hg, hy]; cases x <;> cases b <;> rfl
      split at h
      · rename_i p hp
        rw [hp] at hrel hw
        generalize a.tmps.toList.getD t undef = u at hrel hw
        cases hrel with | b _ x hx =>
        rw [hw x rfl (by simp)]
        cases b with
        | true =>
          cases x with
          | true => exact (hY (h.1 (hx.1 rfl)))
          | false => exact hN (h.2 fun hp => by simpa using hx.2 hp)
        | false =>
          cases x with
          | true => exact hN (h.2 (hx.1 rfl))
          | false => exact (hY (h.1 fun hp => by simpa using hx.2 hp))
      · rename_i hp
        rw [hp] at hrel
        have hlt' := hlt (by rw [hp]; simp)
        have hg2 := hget hlt'
        generalize a.tmps.toList.getD t undef = u at hrel hg2
        cases hrel
        have hy : yielded all a.tmps j = none := by simp [yielded, hte, hg2, undef]
        have hw2 : Region.wanted o (yielded all a.tmps) = false := by simp only [Region.wanted, hg, hy]; cases b <;> rfl
        rw [hw2]
        exact hN h
      · rename_i hp
        rw [hp] at hrel hw
        generalize a.tmps.toList.getD t undef = u at hrel hw
        cases hrel
        rw [hw true rfl (by simp)]
        cases b with
        | true => exact (hY h)
        | false => exact hN h
      · rename_i hp
        rw [hp] at hrel hw
        generalize a.tmps.toList.getD t undef = u at hrel hw
        cases hrel
        rw [hw false rfl (by simp)]
        cases b with
        | true => exact hN h
        | false => exact (hY h)
      · exact h.elim
    · exact h.elim

theorem aopAt_ok (hG : GlobOk E.glob) (hE : EnvOk P E) {all : Array Oper} {r : Nat} {o : Oper} {σ : List V} {H : List Blk} {K : List V → List Blk → Prop} {a : Act} {w : World} {next : Act → World → Prop} {Q : Exit → Act → World → Prop}
    (hs : Sta E S σ H a w) (h : aopAt E all.toList r o σ H K) (hn : ∀ σ' H' a' w', K σ' H' → Sta E S σ' H' a' w' → next a' w') :
    if Region.wanted o (yielded all a.tmps) then o.wpIn (Fen ro) 0 P a w next Q else (∀ f, o.about P w a.eval = some f → (Fen ro).fn f) ∧ next (a.put o.dst undef) w :=
  guard_ok hs h (aopX_yes hG hE hs hn) fun h => ⟨fun _ _ => trivial, by
    obtain ⟨c, b, v, hS, hst, hσ, hd⟩ := hs
    obtain ⟨σ'', hk, hσ''⟩ := setDst_ok h hσ .nope
    exact hn _ _ _ _ hk ⟨c, b, v, hS, hst, hσ'', by rw [put_defers]; exact hd⟩⟩

theorem Sta.settle {σ : List V} {H : List Blk} {a : Act} {w : World} (h : Sta E S σ H a w) {t : Nat} {x : Bool} (hx : a.tmps.toList.getD t undef = .bool x) : Sta E S (sets σ t (.bt x)) H a w := by
  obtain ⟨c, b, v, hS, hst, hσ, hd⟩ := h
  refine ⟨c, b, v, hS, hst, ?_, hd⟩
  have := hσ.set (VRel.bt (c := c) (H := H) (w := w) x) t
  have e : a.tmps.toList.set t (.bool x) = a.tmps.toList := by
    rw [← hx]
    by_cases ht : t < a.tmps.toList.length
    · apply List.ext_getElem (by simp)
      intro i h1 h2
      rw [List.getElem_set]
      split
      · rename_i e; subst e; simp only [List.getD_eq_getElem?_getD, List.getElem?_eq_getElem ht, Option.getD_some]
      · rfl
    · exact List.set_eq_of_length_le (by omega)
  rwa [e] at this

def aopAtR (E : Env) (all : List Oper) (o : Oper) (σ : List V) (H : List Blk) (K : List V → List Blk → Prop) : Prop :=
  aguardR all σ o.guard (fun σ => aopY E σ H o K) (fun σ => setDst σ o.dst .nope fun σ => K σ H)

theorem aguardR_ok {all : List Oper} {σ : List V} {g : Option (Nat × Bool)} {yes no : List V → Prop} {H : List Blk} {a : Act} {w : World} (hs : Sta E S σ H a w) (h : aguardR all σ g yes no) :
    ∃ σ', Sta E S σ' H a w ∧ aguard all σ' g (yes σ') (no σ') := by
  unfold aguardR at h
  unfold aguard
  cases g with
  | none => exact ⟨σ, hs, h⟩
  | some g =>
    obtain ⟨j, b⟩ := g
    dsimp only at h ⊢
    cases ht : (all[j]?).bind (·.dst) with
    | none => rw [ht] at h; exact h.elim
    | some t =>
      rw [ht] at h
      dsimp only at h ⊢
      have hlt : gets σ t ≠ .undef → t < σ.length := fun hne => by
        rcases Nat.lt_or_ge t σ.length with g | g
        · exact g
        · exact absurd (by rw [gets_eq]; simp [List.getD_eq_getElem?_getD, List.getElem?_eq_none g]) hne
      have hset : ∀ x : V, gets σ t ≠ .undef → gets (sets σ t x) t = x := fun x hne => by
        rw [gets_eq, sets_eq]
        simp [List.getD_eq_getElem?_getD, hlt hne]
      obtain ⟨c, b0, v0, hS, hst, hσ, hd⟩ := id hs
      have hrel := hσ.get t
      cases hg : gets σ t <;> rw [hg] at h hrel <;> try exact h.elim
      · exact ⟨σ, hs, by rw [hg]; exact h⟩
      · rename_i p
        have hne : gets σ t ≠ .undef := by rw [hg]; simp
        generalize hu : a.tmps.toList.getD t undef = u at hrel
        cases hrel with | b _ x hx =>
        refine ⟨_, hs.settle hu, ?_⟩
        rw [hset _ hne]
        cases b with
        | true =>
          cases x with
          | true => exact (forceL_eq _ _).1 (h.1 (hx.1 rfl))
          | false => exact (forceL_eq _ _).1 (h.2 fun hp => by simpa using hx.2 hp)
        | false =>
          cases x with
          | true => exact (forceL_eq _ _).1 (h.2 (hx.1 rfl))
          | false => exact (forceL_eq _ _).1 (h.1 fun hp => by simpa using hx.2 hp)
      · rename_i x
        refine ⟨σ, hs, ?_⟩
        rw [hg]
        cases x <;> exact h

def YLaw (P : Program) (S : Ses) (L : (Nat × (Nat → List V))) : Prop :=
  ∀ b v, S b v → b = v.w.heap.size ∧ (∀ g, v.D g = none) ∧ (∀ g, v.Z g = none) ∧ (∀ g, ¬ v.mks g) ∧ v.gh = [] ∧
    (∀ k X W W', v.J k X W → Below W.heap.size W W' → v.J k X W') ∧ RoundLaw P v.l v.J L ∧ ∀ X W, S W.heap.size { v with w := W, X := X }

theorem yop_ok (hN : noRef E.glob) {ks : List PK} {L : (Nat × (Nat → List V))} (hY : YLaw P S L) {o : Oper} {t : Nat} {args : Array Operand} {ts : Array TypeId} (ho : o.op = .call { callee := .value (.tmp t), args, argTypes := ts }) {k : Nat}
    {σ : List V} {H : List Blk} {K : List V → List Blk → Prop} {a : Act} {w : World} {next : Act → World → Prop} {Q : Exit → Act → World → Prop} (hs : Sta E S σ H a w) (ht : gets σ t = .yld (some k))
    (h : evs E σ args.toList fun vs => asArgs H ks vs fun ds => (k < L.1 ∧ ds = L.2 k) ∧
      (forceL (yL (some (k + 1)) σ) fun σ => setDst σ o.dst (.bt true) fun σ => K σ []) ∧ (forceL (yL none σ) fun σ => setDst σ o.dst (.bt false) fun σ => K σ []))
    (hn : ∀ σ' H' a' w', K σ' H' → Sta E S σ' H' a' w' → next a' w') : o.wpIn (Fen none) 0 P a w next Q := by
  obtain ⟨c, b, v, hS, hst, hσ, hd⟩ := hs
  obtain ⟨hb, hD, hZ, hmk0, hgh, hJ, hR, hS'⟩ := hY b v hS
  have hrel := hσ.get t
  rw [ht] at hrel
  have hat : a.eval (.tmp t) = a.tmps.toList.getD t undef := by simp [Act.eval, Array.getD_eq_getD_getElem?]
  generalize hval : a.tmps.toList.getD t undef = fv at hrel hat
  cases hrel with | yld _ hk =>
  obtain ⟨vs, h1, h2⟩ := evs_ok hst hσ _ _ h
  let U : Nat → Prop := fun g => c.M g ∨ ∃ i, c.ρ i = some g
  obtain ⟨ds, ⟨⟨hlt, rfl⟩, hyes, hno⟩, h4⟩ := asArgs_ok (U := U) hst (fun g hg => .inl hg) (fun i g hi => .inr ⟨i, hi⟩) ks vs _ _ h1 h2
  have hcnt := hst.xk.cnt
  rw [← hk] at hcnt
  have hbel : Below v.w.heap.size v.w w := hb ▸ hst.below
  have hJw := hJ _ _ _ _ hcnt hbel
  obtain ⟨fn, tmps, as, body, hrun, hround⟩ := hR k v.X w U _ hJw hlt (fun g hg => by
    rcases hg with hg | ⟨i, hi⟩
    · exact ⟨hst.xk.dis g hg, hst.imm g hg⟩
    · exact ⟨fun hX => (hst.xk.xb g hX).2 i hi, (hst.own i g hi).2.1⟩) h4
  refine ⟨fun _ _ => trivial, ?_⟩
  rw [Oper.semAt_eq _ _ _ (fun d e => by rw [ho] at e; cases e)]
  have hex : (execOp a.eval o).run P w = .ok (.round c.x.l fn tmps as body) w := by
    have hl := hst.xk.l
    rw [← hl] at hrun
    simp only [execOp, ho, resolve, hat, Deferred.ofValue, Sem.run_bind, Sem.run_pure, Result.andThen_ok]
    rw [← Array.toList_map, Array.toArray_toList] at hrun
    simpa [invoke] using hrun
  rw [hex]
  refine ⟨(fun h => by cases h), ?_⟩
  rw [hst.xk.l]
  refine hround.mono ?_
  rintro e W' ⟨x, rfl, hsz, hkept, hJ'⟩
  have hMX : ∀ g, c.M g → W'.heap[g]? = w.heap[g]? := fun g hg => hkept g (hst.imm g hg) (hst.xk.dis g hg)
  let v' : W0 := { v with w := W', X := fun g => v.X g ∨ (w.heap.size ≤ g ∧ g < W'.heap.size) }
  let xt : Xt := ⟨[], if x then some (k + 1) else none, v.l⟩
  have hst' : St E.glob W'.heap.size v' (Cx.of c.M xt) [] W' := hst.calm hN (fun g hg => hg) hMX (Below.refl _ _)
    { keep := fun g o h => by have := hD g; rw [show v'.D g = v.D g from rfl, this] at h; cases h
      siz := fun g n h => by have := hZ g; rw [show v'.Z g = v.Z g from rfl, this] at h; cases h
      cnt := hJ'
      gh := hgh.symm
      l := rfl
      dis := fun g hg hX => by
        rcases hX with hX | hX
        · exact hst.xk.dis g hg hX
        · have := hst.imm g hg; omega
      xb := fun g hX => by
        refine ⟨?_, fun i hi => by cases hi⟩
        rcases hX with hX | hX
        · have := (hst.xk.xb g hX).1; omega
        · exact hX.2
      mks := fun g h => absurd h (hmk0 g)
      gi := fun _ => rfl }
    (Nat.le_refl _) (fun g hg => Nat.lt_of_lt_of_le (hst.imm g hg) hsz)
  have hσ' : VRels (Cx.of c.M xt) [] W' (yL (if x then some (k + 1) else none) σ) a.tmps.toList :=
    VRels.y (c := c) (c' := Cx.of c.M xt) (fun g hg => hg) (fun g hg => (hst.sub g hg).1) (fun g hg => hMX g (hg.elim id fun hg => (hst.sub g hg).1)) rfl hst.xk.l.symm hσ
  have hmk : Marks v' a.defers := by
    obtain ⟨gs, hg1, hg2, hg3⟩ := hd
    cases gs with
    | nil => exact ⟨[], hg1, hg2, by simp⟩
    | cons g gs => exact absurd (hg3 g (by simp)) (hmk0 g)
  cases x with
  | true =>
    obtain ⟨σ'', h5, h6⟩ := setDst_ok ((forceL_eq _ _).1 hyes) hσ' (VRel.bt true)
    exact hn _ _ _ _ h5 ⟨_, _, v', hS' _ _, hst', h6, by rw [put_defers]; exact hmk⟩
  | false =>
    obtain ⟨σ'', h5, h6⟩ := setDst_ok ((forceL_eq _ _).1 hno) hσ' (VRel.bt false)
    exact hn _ _ _ _ h5 ⟨_, _, v', hS' _ _, hst', h6, by rw [put_defers]; exact hmk⟩

theorem frzOps_ok (hG : GlobOk E.glob) : ∀ (l : List Operand) {σ : List V} {H : List Blk} {K : List V → List Blk → Prop} {a : Act} {w : World}, Sta E S σ H a w → frzOps l σ H K → ∃ σ' H', K σ' H' ∧ Sta E S σ' H' a w
  | [], σ, H, K, a, w, hs, h => ⟨σ, H, h, hs⟩
  | x :: l, σ, H, K, a, w, hs, h => by
    unfold frzOps at h
    split at h
    · split at h
      · rename_i t t0 id hg
        split at h
        · rename_i fr t xs hb
          have h := (forceL_eq _ _).1 ((forceL_eq _ _).1 h)
          obtain ⟨c, b, v, hS, hst, hσ, hd⟩ := hs
          have hy : ∀ t v, VRel c H w (.own t id) v → VRel (c.frz id) (setB (frzH id (.sl fr _ xs) H) id .dead) w (.sl fr _ xs) v := fun t' v hv => frz_row hst hb t' v hv
          have hsh : ∀ j, j ≠ id → shape (setB (frzH id (.sl fr _ xs) H) id .dead) j = shape H j := fun j hj => shape_frz hj
          exact frzOps_ok hG l ⟨c.frz id, b, v, hS, hst.frz hG hb, hσ.frz hsh hy (fun _ _ _ _ _ => .undef _), hd⟩ h
        · exact frzOps_ok hG l hs h
      · exact frzOps_ok hG l hs h
    · exact frzOps_ok hG l hs h

theorem aopY_ok (hG : GlobOk E.glob) (hN : noRef E.glob) (hE : EnvOk P E) (hY : ∀ q, E.yl = some q → ro = none ∧ YLaw P S q.2) {o : Oper} {σ : List V} {H : List Blk} {K : List V → List Blk → Prop} {a : Act} {w : World} {next : Act → World → Prop} {Q : Exit → Act → World → Prop}
    (hs : Sta E S σ H a w) (hn : ∀ σ' H' a' w', K σ' H' → Sta E S σ' H' a' w' → next a' w') (h : aopY E σ H o K) : o.wpIn (Fen ro) 0 P a w next Q := by
  unfold aopY at h
  split at h
  · split at h
    · obtain ⟨σ', H', h', hs'⟩ := frzOps_ok hG _ hs h
      exact aop_yes hG hE hs' hn h'
    · exact aop_yes hG hE hs hn h
  · rename_i t args ts ho
    split at h
    · rename_i q hq
      split at h
      · rename_i ks L k hyl
        obtain ⟨rfl, hy⟩ := hY _ hyl
        exact yop_ok hN hy ho hs hq h hn
      · exact h.elim
    · exact aop_yes hG hE hs hn h
  · split at h
    · obtain ⟨σ', H', h', hs'⟩ := frzOps_ok hG _ hs h
      exact aop_yes hG hE hs' hn h'
    · exact aop_yes hG hE hs hn h

theorem aopAtR_ok (hG : GlobOk E.glob) (hN : noRef E.glob) (hE : EnvOk P E) (hY : ∀ q, E.yl = some q → ro = none ∧ YLaw P S q.2) {all : Array Oper} {o : Oper} {σ : List V} {H : List Blk} {K : List V → List Blk → Prop} {a : Act} {w : World} {next : Act → World → Prop} {Q : Exit → Act → World → Prop}
    (hs : Sta E S σ H a w) (h : aopAtR E all.toList o σ H K) (hn : ∀ σ' H' a' w', K σ' H' → Sta E S σ' H' a' w' → next a' w') :
    if Region.wanted o (yielded all a.tmps) then o.wpIn (Fen ro) 0 P a w next Q else (∀ f, o.about P w a.eval = some f → (Fen ro).fn f) ∧ next (a.put o.dst undef) w := by
  obtain ⟨σ', hs', h'⟩ := aguardR_ok hs h
  refine guard_ok hs' h' (aopY_ok hG hN hE hY hs' hn) fun h => ⟨fun _ _ => trivial, ?_⟩
  obtain ⟨c, b, v, hS, hst, hσ, hd⟩ := hs'
  obtain ⟨σ'', hk, hσ''⟩ := setDst_ok h hσ .nope
  exact hn _ _ _ _ hk ⟨c, b, v, hS, hst, hσ'', by rw [put_defers]; exact hd⟩

theorem aops_eq (all : List Oper) (o : Oper) (l : List Oper) (σ : List V) (H : List Blk) (K : List V → List Blk → Prop) : aops E all (o :: l) σ H K = aopAtR E all o σ H (fun σ H => aops E all l σ H K) := rfl

theorem aops_ok (hG : GlobOk E.glob) (hN : noRef E.glob) (hE : EnvOk P E) (hY : ∀ q, E.yl = some q → ro = none ∧ YLaw P S q.2) {all : Array Oper} {Q : Exit → Act → World → Prop} : ∀ (l : List Oper) (σ : List V) (H : List Blk) (K : List V → List Blk → Prop) (a : Act) (w : World), Sta E S σ H a w → aops E all.toList l σ H K →
    (∀ σ' H' a' w', K σ' H' → Sta E S σ' H' a' w' → Q .normal a' w') → wpListIn (Fen ro) 0 P all Q l a w
  | [], σ, H, K, a, w, hs, h, hn => hn _ _ _ _ h hs
  | o :: l, σ, H, K, a, w, hs, h, hn => by
    rw [aops_eq] at h
    unfold wpListIn
    exact aopAtR_ok hG hN hE hY hs h fun σ' H' a' w' hk hs' => aops_ok hG hN hE hY l σ' H' K a' w' hs' hk hn

def Post (E : Env) (S : Ses) (Q : Ex → List V → List Blk → Prop) : Exit → Act → World → Prop
  | .normal, a, w => ∃ σ H, Q .normal σ H ∧ Sta E S σ H a w
  | .exit i, a, w => ∃ σ H, Q (.exit i) σ H ∧ Sta E S σ H a w
  | .ret, a, w => ∃ σ H, Q .ret σ H ∧ Sta E S σ H a w
  | _, _, _ => False

def DrawOk (E : Env) (P : Program) : Prop := ∀ (ops : Array Oper) (id : Nat) (S : Ses) (ro : Option Nat) (σ : List V) (H : List Blk) (K : List V → List Blk → Prop) (a : Act) (w : World) (Q : Exit → Act → World → Prop),
  okDraw E ops.toList = true → Sta E S σ H a w → aopsD E ops.toList (rgn (H ++ List.replicate (cntAl E ops.toList) Blk.dead).length σ ops.toList) H.length 0 ops.toList σ (H ++ List.replicate (cntAl E ops.toList) Blk.dead) K → (∀ σ' H' a' w', K σ' H' → Sta E S σ' H' a' w' → Q .normal a' w') → (Code.region id ops true).wpIn (Fen ro) 0 P Q a w

end
end Go.Proofs.Ytgljcfnplkcfhaa.Vc

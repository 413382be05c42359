/- Texts of this claim: Vc.ZG, Vc.ZF, Vc.ZC. -/
import Derived.Test.YtogipicegdbhdaaDoorVc9
import Derived.Lib.SlKeysI
import Derived.WideShapes
import Derived.Carry
import Derived.OpenShut
import Derived.ChangeArms
import Derived.Lib.LaidTab
set_option linter.unusedVariables false
set_option linter.unusedSimpArgs false
namespace Go.Proofs.YtogipicegdbhdaaDoor.Vc
open Go Go.RowKit Go.MapKept Go.WideShapes

end Go.Proofs.YtogipicegdbhdaaDoor.Vc

namespace Go.Proofs.YtogipicegdbhdaaDoor.Vc
open Go

def cfs : Code → Code | .seq x _ => x | c => c
noncomputable def qs (E : Env) (d : Code) (Q : Ex → List V → List Blk → Prop) : Ex → List V → List Blk → Prop := fun e σ H => match e with
 | .normal => awpR E d Q σ H
 | .exit i => Q (.exit i) σ H
 | .ret => Q .ret σ H
end Go.Proofs.YtogipicegdbhdaaDoor.Vc

namespace Go.Proofs.YtogipicegdbhdaaDoor.Vc
open Go Go.RowKit Go.WideShapes

def Deep (P : Program) : Ty → TypeId ⊕ (List Field × Nat) → Prop
 | .u8, .inl T => P.underlying T = some (.int .u8)
 | .int k, .inl T => P.underlying T = some (.int k)
 | .bool, .inl T => P.underlying T = some .bool
 | .str, .inl T => P.underlying T = some .string
 | .sl t, .inl T => ∃ e, P.underlying T = some (.slice e) ∧ P.cellsOf e = t.size ∧ 0 < t.size ∧ Deep P t (.inl e)
 | .arr n t, .inl T => ∃ e, P.underlying T = some (.array n e) ∧ P.cellsOf T = n * t.size ∧ P.cellsOf e = t.size ∧ Deep P t (.inl e)
 | .cons t ts, .inl T => ∃ fs f fs', P.underlying T = some (.struct fs) ∧ fs.toList = f :: fs' ∧ P.cellsOf T = t.size + ts.size ∧ f.offset = 0 ∧ P.cellsOf f.type = t.size ∧ Deep P t (.inl f.type) ∧ Deep P ts (.inr (fs', t.size))
 | .cons t ts, .inr (f :: fs, o) => f.offset = o ∧ P.cellsOf f.type = t.size ∧ Deep P t (.inl f.type) ∧ Deep P ts (.inr (fs, o + t.size))
 | .nil, .inr ([], _) => True
 | _, _ => False

def wt : (t : Ty) → t.D → Nat
 | .str, s => s.length + 1
 | .sl t, xs => (xs.map (wt t)).sum + 1
 | .cons t ts, x => wt t x.1 + wt ts x.2
 | .arr _ t, xs => (xs.map (wt t)).sum
 | .nil, _ => 0
 | _, _ => 1

def WfD : (t : Ty) → t.D → Prop
 | .int k, n => k.min ≤ n ∧ n ≤ k.max
 | .sl t, xs => ∀ x ∈ (xs : List t.D), WfD t x
 | .arr n t, xs => (xs : List t.D).length = n ∧ ∀ x ∈ (xs : List t.D), WfD t x
 | .cons t ts, x => WfD t x.1 ∧ WfD ts x.2
 | _, _ => True
theorem DRel.wf {w : World} {M : Nat → Prop} : ∀ (t : Ty) (x : t.D) (cs : List Value), DRel w M t x cs → WfD t x
 | .u8, _, _, _ => trivial
 | .int _, _, _, h => h.2
 | .bool, _, _, _ => trivial
 | .str, _, _, _ => trivial
 | .nil, _, _, _ => trivial
 | .fnT, _, _, _ => trivial
 | .mapT _, _, _, _ => trivial
 | .sl t, xs, cs, h => fun x hx => by
  obtain ⟨a, cap, _, _, _, h4⟩ := h
  obtain ⟨i, hi, rfl⟩ := List.mem_iff_getElem.1 hx
  obtain ⟨g, o, _, _, h5⟩ := h4 (List.ne_nil_of_mem hx)
  obtain ⟨es, he, _⟩ := h5 i _ (List.getElem?_eq_getElem hi)
  exact DRel.wf t _ es he
 | .arr n t, xs, cs, h => ⟨h.1, fun x hx => by
  obtain ⟨h0, ess, h1, h2, h3⟩ := h
  obtain ⟨i, hi, rfl⟩ := List.mem_iff_getElem.1 hx
  exact DRel.wf t _ _ (h3 i _ _ (List.getElem?_eq_getElem hi) (List.getElem?_eq_getElem (by omega)))⟩
 | .cons t ts, x, cs, h => by
  obtain ⟨c1, c2, _, h1, h2⟩ := h
  exact ⟨DRel.wf t _ _ h1, DRel.wf ts _ _ h2⟩
structure Bulk {H : Type} (bk : DataW H → Nat) : Prop where
 one : ∀ d, 1 ≤ bk d
 str : ∀ b, b.length + 1 ≤ bk (.lit (.string b))
 sl : ∀ es sp, (es.map bk).sum + 1 ≤ bk (.slice es sp)
 agg : ∀ ps, (ps.map bk).sum ≤ bk (.agg ps)

theorem pick_list {α : Type} {Q : Nat → α → Prop} : ∀ {n : Nat}, (∀ i, i < n → ∃ x, Q i x) → ∃ xs : List α, xs.length = n ∧ ∀ i x, xs[i]? = some x → Q i x
 | 0, _ => ⟨[], rfl, fun i x h => by simp at h⟩
 | n + 1, h => by
  obtain ⟨xs, h1, h2⟩ := pick_list (Q := fun i => Q i) (n := n) fun i hi => h i (by omega)
  obtain ⟨y, hy⟩ := h n (by omega)
  refine ⟨xs ++ [y], by simp [h1], fun i x hx => ?_⟩
  rcases Nat.lt_or_ge i n with g | g
  ·rw [List.getElem?_append_left (by omega)] at hx
   exact h2 i x hx
  ·by_cases e : i = n
   ·subst e
    rw [List.getElem?_append_right (by omega), h1, Nat.sub_self] at hx
    simp at hx
    subst hx
    exact hy
   ·rw [List.getElem?_eq_none (by simp [h1]; omega)] at hx
    cases hx
theorem sum_le {α β : Type} (f : α → Nat) (g : β → Nat) : ∀ (xs : List α) (ys : List β), xs.length = ys.length → (∀ (i : Nat) (x : α) (y : β), xs[i]? = some x → ys[i]? = some y → f x ≤ g y) → (xs.map f).sum ≤ (ys.map g).sum
 | [], [], _, _ => Nat.le_refl _
 | x :: xs, y :: ys, hl, h => by
  have h0 := h 0 x y rfl rfl
  have := sum_le f g xs ys (by simpa using hl) fun i a b ha hb => h (i + 1) a b ha hb
  simp only [List.map_cons, List.sum_cons]
  omega
 | [], _ :: _, hl, _ => by simp at hl
 | _ :: _, [], hl, _ => by simp at hl

section
variable {H : Type} {enc : TypeId × Value → H} {P : Program} {w : World} {sp : Nat → Bool} {held : Bool} {bk : DataW H → Nat}

def Inh (w : World) (g : Nat) : Prop := g < w.heap.size

theorem cells_at {a : Addr} {n : Nat} {es : List Value} (h : w.cells? 0 a n = some es) : es.length = n ∧ ∀ j v, es[j]? = some v → w.cell? (a.add j) = some v := by
 obtain ⟨_, hl, hc⟩ := World.cells?_some h
 refine ⟨hl, fun j v hj => ?_⟩
 have hjn : j < n := by
  rcases Nat.lt_or_ge j es.length with g | g
  ·omega
  ·rw [List.getElem?_eq_none g] at hj; cases hj
 have := hc j hjn
 rw [hj] at this
 exact this
theorem add_none {a : Addr} (h : a.spot = none) (n : Nat) : a.add n = ⟨a.block, a.off + n, none⟩ := by
 unfold Addr.add
 split
 ·rename_i h0
  subst h0
  cases a; simp at h; subst h; rfl
 ·rfl
theorem add_zero (a : Addr) : a.add 0 = a := by simp [Addr.add]
theorem spot_none {a : Addr} {v : Value} (h : w.cell? a = some v) : a.spot = none ∧ a.block < w.heap.size := by
 unfold World.cell? at h
 split at h
 ·rename_i c _ _ hh
  cases hs : a.spot with
  | none => exact ⟨rfl, (Array.getElem?_eq_some_iff.1 hh).1⟩
  | some s => rw [hs] at h; simp at h
 ·cases h

def FieldsRead (enc : TypeId × Value → H) (P : Program) (w : World) (sp : Nat → Bool) (held : Bool) (n : Nat) (fs : List Field) (cs : List Value) (xs : List (DataW H × List MemPlace)) : Prop :=
 xs.length = fs.length ∧ ∀ (i : Nat) (f : Field), fs[i]? = some f → DataW.trod enc P w 0 sp held n f.type ((cs.drop f.offset).take (P.cellsOf f.type)) = xs[i]?

theorem read_ok (hb : Bulk bk) : ∀ (t : Ty) (s : TypeId ⊕ (List Field × Nat)), Deep P t s → (match s with
  | .inl T => ∀ fuel cs d ps, DataW.trod enc P w 0 sp held fuel T cs = some (d, ps) → ∃ x : t.D, DRel w (Inh w) t x cs ∧ wt t x ≤ bk d
  | .inr (fs, o) => ∀ n cs xs, FieldsRead enc P w sp held n fs cs xs → cs.length = o + t.size → ∃ x : t.D, DRel w (Inh w) t x (cs.drop o) ∧ wt t x ≤ (xs.map fun y => bk y.1).sum)
 | .u8, .inl T, h => fun fuel cs d ps hd => by
  obtain ⟨n, rfl, hx, hw⟩ := DataW.trod_int h hd
  have hn : 0 ≤ n ∧ n ≤ 255 := by
   simp [Lit.wf, IntKind.min, IntKind.max, IntKind.signed, IntKind.bits] at hw
   omega
  refine ⟨UInt8.ofNat n.toNat, ?_, hb.one _⟩
  show [Value.int .u8 n] = [.int .u8 ((UInt8.ofNat n.toNat).toNat : Int)]
  rw [UInt8.toNat_ofNat_of_lt' (by show n.toNat < 256; omega)]
  congr 2
  omega
 | .int k, .inl T, h => fun fuel cs d ps hd => by
  obtain ⟨n, rfl, hx, hw⟩ := DataW.trod_int h hd
  refine ⟨n, ⟨rfl, ?_⟩, hb.one _⟩
  simpa [Lit.wf] using hw
 | .bool, .inl T, h => fun fuel cs d ps hd => by
  obtain ⟨b, rfl, hx⟩ := DataW.trod_bool h hd
  exact ⟨b, rfl, hb.one _⟩
 | .str, .inl T, h => fun fuel cs d ps hd => by
  obtain ⟨s, rfl, hx, hs⟩ := DataW.trod_string h hd
  obtain ⟨rfl, rfl⟩ := Prod.mk.inj hx
  exact ⟨s.data.toList, ⟨rfl, hs⟩, hb.str _⟩
 | .sl t, .inl T, h => fun fuel cs d ps hd => by
  obtain ⟨e, hu, hce, hpos, hdeep⟩ := h
  rcases DataW.trod_slice hu hd with ⟨rfl, hx⟩ | ⟨a, len, cap, elems, rest, n, rfl, rfl, hx, _, h2, h3, h4, h5, _⟩
  ·exact ⟨[], ⟨none, 0, rfl, Nat.le_refl _, Nat.zero_le _, fun h => absurd rfl h⟩, hb.one _⟩
  ·obtain ⟨rfl, _⟩ := Prod.mk.inj hx
   have key : ∀ i, i < len → ∃ x : t.D, (∃ es, DRel w (Inh w) t x es ∧ es.length = t.size ∧ (∀ j v, es[j]? = some v → w.cell? ((a.add (i * t.size)).add j) = some v)) ∧ ∃ y, elems[i]? = some y ∧ wt t x ≤ bk y.1 := fun i hi => by
    have h6 := h5 i hi
    obtain ⟨y, hy⟩ : ∃ y, elems[i]? = some y := ⟨_, List.getElem?_eq_getElem (by omega)⟩
    rw [hy, Option.bind_eq_some_iff] at h6
    obtain ⟨es, he, ht⟩ := h6
    obtain ⟨x, h7, h8⟩ := read_ok hb t (.inl e) hdeep n es y.1 y.2 ht
    rw [hce] at he
    obtain ⟨hl, hc⟩ := cells_at he
    exact ⟨x, ⟨es, h7, hl, fun j v hj => hc j v hj⟩, y, hy, h8⟩
   obtain ⟨xs, hl, hxs⟩ := pick_list key
   refine ⟨xs, ⟨some a, cap, by rw [hl], by omega, h3, fun hne => ?_⟩, ?_⟩
   ·have h0 : 0 < xs.length := List.length_pos_iff.2 hne
    obtain ⟨⟨es, _, hel, hcell⟩, _⟩ := hxs 0 xs[0] (List.getElem?_eq_getElem h0)
    have hs := hcell 0 es[0] (List.getElem?_eq_getElem (by omega))
    rw [Nat.zero_mul, add_zero, add_zero] at hs
    have hs := spot_none hs
    refine ⟨a.block, a.off, ?_, hs.2, fun i x hi => ?_⟩
    ·have hsp : a.spot = none := hs.1
     cases a; simp at hsp; subst hsp; rfl
    ·obtain ⟨⟨es, h1, _, hcell⟩, _⟩ := hxs i x hi
     have hsp : a.spot = none := hs.1
     exact ⟨es, h1, fun j v hj => by have := hcell j v hj; rwa [add_none hsp, add_none rfl] at this⟩
   ·show (xs.map (wt t)).sum + 1 ≤ _
    have := sum_le (wt t) (fun y : DataW H × List MemPlace => bk y.1) xs elems (by omega) fun i x y hx hy => by
     obtain ⟨_, y', hy', hw⟩ := hxs i x hx
     rw [hy] at hy'; cases hy'; exact hw
    have h6 := hb.sl (elems.map (·.1)) (rest.map (·.1))
    rw [List.map_map] at h6
    exact Nat.le_trans (Nat.succ_le_succ this) h6
 | .arr n t, .inl T, h => fun fuel cs d ps hd => by
  obtain ⟨e, hu, hcT, hce, hdeep⟩ := h
  obtain ⟨ys, m, rfl, hx, hcl, hyl, hel⟩ := DataW.trod_array hu hd
  obtain ⟨rfl, _⟩ := Prod.mk.inj hx
  have key : ∀ i, i < n → ∃ x : t.D, DRel w (Inh w) t x ((cs.drop (i * t.size)).take t.size) ∧ ∃ y, ys[i]? = some y ∧ wt t x ≤ bk y.1 := fun i hi => by
   have h6 := hel i hi
   obtain ⟨y, hy⟩ : ∃ y, ys[i]? = some y := ⟨_, List.getElem?_eq_getElem (by omega)⟩
   rw [hy, hce] at h6
   obtain ⟨x, h7, h8⟩ := read_ok hb t (.inl e) hdeep m _ y.1 y.2 h6
   exact ⟨x, h7, y, hy, h8⟩
  obtain ⟨xs, hl, hxs⟩ := pick_list key
  refine ⟨xs, ⟨hl, (List.range n).map fun i => (cs.drop (i * t.size)).take t.size, ?_, by simp, fun i x es hi he => ?_⟩, ?_⟩
  ·have hcut : ∀ (n : Nat) (cs : List Value), cs.length = n * t.size → cs = ((List.range n).map fun i => (cs.drop (i * t.size)).take t.size).flatten := fun n => by
    induction n with
    | zero => intro cs h; simpa using h
    | succ n ih =>
     intro cs h
     rw [Nat.succ_mul] at h
     have h1 := ih (cs.drop t.size) (by rw [List.length_drop]; omega)
     rw [List.range_succ_eq_map, List.map_cons, List.flatten_cons, List.map_map]
     have e : ((fun i => List.take t.size (List.drop (i * t.size) cs)) ∘ Nat.succ) = fun i => List.take t.size (List.drop (i * t.size) (cs.drop t.size)) := by
      funext i
      simp only [Function.comp, List.drop_drop]
      congr 2
      rw [Nat.succ_mul, Nat.add_comm]
     rw [e, ← h1]
     simp
   exact hcut n cs (by rw [hcl, hcT])
  ·rw [List.getElem?_map] at he
   have hin : i < n := by
    rcases Nat.lt_or_ge i xs.length with g | g
    ·omega
    ·rw [List.getElem?_eq_none g] at hi; cases hi
   rw [List.getElem?_range hin] at he
   simp only [Option.map_some, Option.some.injEq] at he
   subst he
   exact (hxs i x hi).1
  ·show (xs.map (wt t)).sum ≤ _
   have := sum_le (wt t) (fun y : DataW H × List MemPlace => bk y.1) xs ys (by omega) fun i x y hx hy => by
    obtain ⟨_, y', hy', hw⟩ := hxs i x hx
    rw [hy] at hy'; cases hy'; exact hw
   have h6 := hb.agg (ys.map (·.1))
   rw [List.map_map] at h6
   exact Nat.le_trans this h6
 | .cons t ts, .inl T, h => fun fuel cs d ps hd => by
  obtain ⟨fs, f, fs', hu, hfs, hcT, hf0, hcf, hd1, hd2⟩ := h
  obtain ⟨ys, m, rfl, hx, hcl, hyl, hel⟩ := DataW.trod_struct hu hd
  obtain ⟨rfl, _⟩ := Prod.mk.inj hx
  have hread : ∀ (i : Nat) (g : Field), (f :: fs')[i]? = some g → DataW.trod enc P w 0 sp held m g.type ((cs.drop g.offset).take (P.cellsOf g.type)) = ys[i]? := fun i g hg => by
   rw [← hfs] at hg
   exact hel i g (by simpa using hg)
  cases ys with
  | nil =>
   have : fs.size = (f :: fs').length := by rw [← hfs]; simp
   simp [this] at hyl
  | cons y ys =>
   have h0 := hread 0 f rfl
   rw [hf0, hcf] at h0
   obtain ⟨x, hx1, hx2⟩ := read_ok hb t (.inl f.type) hd1 m _ y.1 y.2 h0
   obtain ⟨x', hy1, hy2⟩ := read_ok hb ts (.inr (fs', t.size)) hd2 m cs ys ⟨by
    have : fs.size = (f :: fs').length := by rw [← hfs]; simp
    rw [this] at hyl; simpa using hyl, fun i g hg => hread (i + 1) g hg⟩ (by rw [hcl, hcT])
   refine ⟨(x, x'), ⟨cs.take t.size, cs.drop t.size, (List.take_append_drop _ _).symm, hx1, hy1⟩, ?_⟩
   show wt t x + wt ts x' ≤ _
   have h6 := hb.agg ((y :: ys).map (·.1))
   rw [List.map_map] at h6
   refine Nat.le_trans ?_ h6
   simp only [List.map_cons, List.sum_cons, Function.comp]
   exact Nat.add_le_add hx2 hy2
 | .cons t ts, .inr (f :: fs, o), h => fun n cs xs hr hl => by
  obtain ⟨hf0, hcf, hd1, hd2⟩ := h
  obtain ⟨h1, h2⟩ := hr
  cases xs with
  | nil => simp at h1
  | cons y ys =>
   have h0 := h2 0 f rfl
   rw [hf0, hcf] at h0
   obtain ⟨x, hx1, hx2⟩ := read_ok hb t (.inl f.type) hd1 n _ y.1 y.2 h0
   obtain ⟨x', hy1, hy2⟩ := read_ok hb ts (.inr (fs, o + t.size)) hd2 n cs ys ⟨by simpa using h1, fun i g hg => h2 (i + 1) g hg⟩ (by rw [hl]; show o + (t.size + ts.size) = _; omega)
   refine ⟨(x, x'), ⟨(cs.drop o).take t.size, (cs.drop o).drop t.size, (List.take_append_drop _ _).symm, hx1, ?_⟩, ?_⟩
   ·rw [List.drop_drop]; exact hy1
   ·show wt t x + wt ts x' ≤ _
    simp only [List.map_cons, List.sum_cons]
    exact Nat.add_le_add hx2 hy2
 | .nil, .inr ([], o), h => fun n cs xs hr hl => by
  refine ⟨(), ?_, Nat.zero_le _⟩
  show cs.drop o = []
  exact List.drop_eq_nil_of_le (by rw [hl]; exact Nat.le_refl _)
 | .cons _ _, .inr ([], _), h => h.elim
 | .nil, .inl _, h => h.elim
 | .nil, .inr (_ :: _, _), h => h.elim
 | .u8, .inr _, h => h.elim
 | .int _, .inr _, h => h.elim
 | .bool, .inr _, h => h.elim
 | .str, .inr _, h => h.elim
 | .sl _, .inr _, h => h.elim
 | .arr _ _, .inr _, h => h.elim

abbrev c0 (w : World) : Cx := Cx.of (Inh w) ⟨[], none, 0⟩
theorem st0 {G : List (Nat × V)} (hg : ∀ g x, lk G g = some x → VRel (c0 w) [] w x (.pointer (some ⟨g, 0, none⟩))) : St G w.heap.size (W0.all w) (c0 w) [] w where
 below := .refl _ _
 xk :=
  {keep := fun g o h => by cases h
   siz := fun g n h => by cases h
   cnt := trivial
   gh := rfl
   l := rfl
   dis := fun _ _ h => h
   xb := fun _ h => h.elim
   mks := fun _ h => h.elim
   gi := fun _ => rfl }
 size := Nat.le_refl _
 blk _ := trivial
 inj _ _ _ h := by cases h
 own _ _ h := by cases h
 imm _ h := h
 sub _ h := h.elim
 glob := hg

theorem arg_ok (hb : Bulk bk) {t : Ty} {T : TypeId} {v : Value} {d : DataW H} {ps : List MemPlace} {r : Reach} {b : Nat} (hd : Deep P t (.inl T)) (hval : Value.okWide P w r b T v) (h : DataW.Trod enc P w 0 sp held T v d ps) :
  ∃ x : t.D, VRel (c0 w) [] w (dV t x) v ∧ wt t x ≤ bk d ∧ WfD t x := by
 obtain ⟨fuel, hf⟩ := h
 obtain ⟨x, hx, hw⟩ := read_ok hb t (.inl T) hd fuel _ d ps hf
 refine ⟨x, ?_, hw, DRel.wf _ _ _ hx⟩
 cases t with
 | u8 =>
  obtain ⟨n, rfl⟩ := okWide_int hd hval
  have hx : [Value.int .u8 n] = [.int .u8 (x.toNat : Int)] := hx
  simp only [List.cons.injEq, Value.int.injEq, true_and, and_true] at hx
  subst hx
  exact .u8 x
 | int k =>
  obtain ⟨n, rfl⟩ := okWide_int hd hval
  obtain ⟨hx, h1, h2⟩ := hx
  have hx : [Value.int k n] = [.int k x] := hx
  simp only [List.cons.injEq, Value.int.injEq, true_and, and_true] at hx
  subst hx
  exact .int k _ h1 h2
 | bool =>
  obtain ⟨n, rfl⟩ := okWide_bool hd hval
  have hx : [Value.bool n] = [.bool x] := hx
  simp only [List.cons.injEq, Value.bool.injEq, and_true] at hx
  subst hx
  exact .b _ _ Iff.rfl
 | str =>
  obtain ⟨s, rfl⟩ := okWide_string hd hval
  obtain ⟨hx, h1⟩ := hx
  have hx : [Value.string s] = [.string ⟨x.toArray⟩] := hx
  simp only [List.cons.injEq, Value.string.injEq, and_true] at hx
  subst hx
  exact .str x h1
 | sl t =>
  obtain ⟨e, hu, _⟩ := hd
  obtain ⟨a, len, cap, rfl⟩ := okWide_slice hu hval
  exact .sl false t x _ hx
 | nil => exact hd.elim
 | fnT => exact hd.elim
 | mapT t => exact hd.elim
 | arr n t =>
  obtain ⟨e, hu, _⟩ := hd
  unfold Value.okWide at hval
  rw [hu] at hval
  obtain ⟨cs, rfl, hsz, _⟩ := hval
  have := VRel.dat (c := c0 w) (H := []) (w := w) false (.arr n t) x _ hx
  exact id (α := VRel (c0 w) [] w (.dat false (.arr n t) x) (.agg cs)) (by simpa [Value.cells] using this)
 | cons t ts =>
  obtain ⟨fs, f, fs', hu, _⟩ := hd
  obtain ⟨cs, rfl, hsz⟩ := okWide_struct hu hval
  have hl := DRel.length _ _ _ hx
  have := getCells_ok (c := c0 w) (H := []) (fr := false) hx (Ty.cons t ts).size 0 (by rw [Nat.zero_add, hl]; exact Nat.le_refl _)
  rw [List.drop_zero, List.take_of_length_le (by rw [hl]; exact Nat.le_refl _)] at this
  have := VRel.agg _ _ this
  exact id (α := VRel (c0 w) [] w (.agg (getCells false _ x 0 _)) (.agg cs)) (by simpa [Value.cells] using this)

theorem law_ok {E : Env} {f : FuncId} {fn : Func} {args : List V} {vs : List Value} (hk : Known P E) (hyl : E.yl = none) (hf : P.funcs[f]? = some fn) (hV : VRels (c0 w) [] w args vs)
  (hg : ∀ g x, lk E.glob g = some x → VRel (c0 w) [] w x (.pointer (some ⟨g, 0, none⟩))) (hb : bodyP E fn [.k] args (.b True) []) :
  Calls P f vs.toArray w fun e w' => e = .returned (.bool true) ∧ Below w.heap.size w w' := by
 refine (body_ok hk hyl (fun _ _ _ => trivial) rfl (fun _ h => h) hf (st0 hg) hV hb).mono ?_
 rintro e w' ⟨x, v, H', c', rfl, hq, hx, hst⟩
 obtain ⟨c2, v2, H2, ⟨_, rfl, _⟩, hst2, hx2⟩ := retK_ok hk.glob hk.noref hst hx hq
 cases hx2 with | b _ y hy =>
 have : y = true := hy.2 trivial
 subst this
 exact ⟨rfl, hst.below⟩

theorem tab_ok {g : Nat} {zs : List UInt8} (hsz : g < w.heap.size) (h : ∀ i, i < zs.length → w.cell? ⟨g, i, none⟩ = some (.int .u8 ((zs.getD i 0).toNat : Int))) {n : Nat} (hn : zs.length = n) : VRel (c0 w) [] w (.rp false (.arr n .u8) zs 0) (.pointer (some ⟨g, 0, none⟩)) := by
 refine .rp false (.arr n .u8) zs 0 g 0 (zs.map fun z => .int .u8 (z.toNat : Int)) hsz ⟨hn, zs.map fun z => [.int .u8 (z.toNat : Int)], ?_, by simp [hn], fun i x es hi he => ?_⟩ fun j v hj => ?_
 ·clear h hn
  induction zs with
  | nil => rfl
  | cons z zs ih => simp only [List.map_cons, List.flatten_cons, ← ih]; rfl
 ·rw [List.getElem?_map, hi] at he
  simp only [Option.map_some, Option.some.injEq] at he
  exact he.symm
 ·rw [List.getElem?_map] at hj
  rcases Nat.lt_or_ge j zs.length with g1 | g1
  ·rw [List.getElem?_eq_getElem g1] at hj
   simp only [Option.map_some, Option.some.injEq] at hj
   have := h j g1
   rw [List.getD_eq_getElem?_getD, List.getElem?_eq_getElem g1, Option.getD_some, hj] at this
   rwa [Nat.zero_add]
  ·rw [List.getElem?_eq_none g1] at hj; cases hj
end
end Go.Proofs.YtogipicegdbhdaaDoor.Vc

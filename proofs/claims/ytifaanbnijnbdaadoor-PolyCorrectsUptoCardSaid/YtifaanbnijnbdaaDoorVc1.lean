/- Texts of this claim: Vc.G, Vc.I, Vc.J, Vc.L, Vc.N, Vc.Q, Vc.S. -/
import Derived.Test.YtifaanbnijnbdaaDoorVc0
import Derived.Laws.Cells
import Derived.Laws.Slices
import Derived.Laws.Tables
import Derived.Laws.BytesString
set_option linter.unusedVariables false
set_option linter.unusedSimpArgs false
namespace Go.Proofs.YtifaanbnijnbdaaDoor.Vc
open Go Go.RowKit

theorem DRel.flat {w w' : World} {M M' : Nat → Prop} : ∀ (t : Ty) (x : t.D) (cs : List Value), t.flat = true → DRel w M t x cs → DRel w' M' t x cs
  | .u8, _, _, _, h => h
  | .int _, _, _, _, h => h
  | .bool, _, _, _, h => h
  | .str, _, _, _, h => h
  | .sl _, _, _, hf, _ => by simp [Ty.flat] at hf
  | .nil, _, _, _, h => h
  | .cons t ts, x, cs, hf, h => by
    simp only [Ty.flat, Bool.and_eq_true] at hf
    obtain ⟨c1, c2, h1, h2, h3⟩ := h
    exact ⟨c1, c2, h1, DRel.flat t x.1 c1 hf.1 h2, DRel.flat ts x.2 c2 hf.2 h3⟩
  | .arr n t, xs, cs, hf, h => by
    obtain ⟨h0, ess, h1, h2, h3⟩ := h
    exact ⟨h0, ess, h1, h2, fun i x es hi he => DRel.flat t x es hf (h3 i x es hi he)⟩

theorem dite_ok {p : Prop} [Decidable p] {f : p → Prop} (h : if h : p then f h else False) : ∃ e : p, f e := by
  split at h
  · rename_i e; exact ⟨e, h⟩
  · exact h.elim
theorem castK_iff {t t' : Ty} {xs : List t'.D} {K : List t.D → Prop} : castK xs K ↔ ∃ e : t' = t, K (e ▸ xs) := by
  unfold castK
  split
  · exact ⟨fun h => ⟨rfl, h⟩, fun ⟨_, h⟩ => h⟩
  · exact ⟨fun h => ⟨rfl, h⟩, fun ⟨_, h⟩ => h⟩
  · exact ⟨fun h => ⟨rfl, h⟩, fun ⟨_, h⟩ => h⟩
  · rename_i k k' xs K
    by_cases hk : k' = k
    · subst hk
      simp only [decide_true, cond_true]
      exact ⟨fun h => ⟨trivial, h⟩, fun ⟨_, h⟩ => h⟩
    · simp only [hk, decide_false, cond_false, false_iff]
      rintro ⟨e, _⟩
      exact hk (by cases e; rfl)
  · exact ⟨fun h => ⟨rfl, h⟩, fun ⟨_, h⟩ => h⟩
  · rename_i k k' xs K
    by_cases hk : k' = k
    · subst hk
      simp only [decide_true, cond_true]
      exact ⟨fun h => ⟨trivial, h⟩, fun ⟨_, h⟩ => h⟩
    · simp only [hk, decide_false, cond_false, false_iff]
      rintro ⟨e, _⟩
      exact hk (by cases e; rfl)
  · exact ⟨fun h => dite_ok h, fun ⟨e, h⟩ => by rw [dif_pos e]; exact h⟩
theorem castK_ok {t t' : Ty} {xs : List t'.D} {K : List t.D → Prop} (h : castK xs K) : ∃ e : t' = t, K (e ▸ xs) := castK_iff.1 h

/-- The cells of a row of data that lies somewhere. -/
def RowAt (w : World) (M : Nat → Prop) (t : Ty) (g o : Nat) (xs : List t.D) : Prop :=
  ∀ (i : Nat) (x : t.D), xs[i]? = some x → ∃ es : List Value, DRel w M t x es ∧ ∀ (j : Nat) (v : Value), es[j]? = some v → w.cell? ⟨g, o + i * t.size + j, none⟩ = some v

theorem RowAt.news {w : World} {M : Nat → Prop} {t : Ty} {g : Nat} : ∀ (xs : List t.D) (o : Nat), RowAt w M t g o xs →
    ∃ news : List Value, news.length = xs.length * t.size ∧ (∀ (j : Nat) (v : Value), news[j]? = some v → w.cell? ⟨g, o + j, none⟩ = some v) ∧ (∀ v ∈ news, v.oneCell' = true) ∧
      ∀ (i : Nat) (x : t.D), xs[i]? = some x → ∃ es : List Value, DRel w M t x es ∧ ∀ (j : Nat) (v : Value), es[j]? = some v → news[i * t.size + j]? = some v
  | [], o, _ => ⟨[], by simp, by simp, by simp, by simp⟩
  | x :: xs, o, h => by
    obtain ⟨es, h1, h2⟩ := h 0 x rfl
    have hl := DRel.length t x es h1
    obtain ⟨news, g1, g2, g3, g4⟩ := RowAt.news xs (o + t.size) (fun i y hy => by
      obtain ⟨es, e1, e2⟩ := h (i + 1) y (by simpa using hy)
      refine ⟨es, e1, fun j v hj => ?_⟩
      have := e2 j v hj
      rw [Nat.succ_mul] at this
      rw [show o + t.size + i * t.size + j = o + (i * t.size + t.size) + j by omega]
      exact this)
    refine ⟨es ++ news, ?_, ?_, ?_, ?_⟩
    · rw [List.length_append, hl, g1, List.length_cons, Nat.succ_mul, Nat.add_comm]
    · intro j v hj
      rw [List.getElem?_append] at hj
      split at hj
      · have := h2 j v hj; simpa using this
      · have := g2 _ v hj
        rw [show o + t.size + (j - es.length) = o + j by omega] at this
        exact this
    · intro v hv
      rcases List.mem_append.1 hv with hv | hv
      · exact DRel.one t x es h1 v hv
      · exact g3 v hv
    · intro i y hy
      cases i with
      | zero =>
        obtain rfl : x = y := by simpa using hy
        refine ⟨es, h1, fun j v hj => ?_⟩
        have : j < es.length := (List.getElem?_eq_some_iff.1 hj).1
        rw [List.getElem?_append, if_pos (by omega)]; simpa using hj
      | succ i =>
        obtain ⟨es', e1, e2⟩ := g4 i y (by simpa using hy)
        refine ⟨es', e1, fun j v hj => ?_⟩
        have := e2 j v hj
        rw [List.getElem?_append, if_neg (by rw [hl, Nat.succ_mul]; omega)]
        rw [show (i + 1) * t.size + j - es.length = i * t.size + j by rw [hl, Nat.succ_mul]; omega]
        exact this

section
variable {G : List (Nat × V)} {base : Nat} {w0 : World} {c : Cx} {H : List Blk} {w : World}

/-- What a slice leads to, as a row. -/
theorem asRow_ok (hst : St G base w0 c H w) {t : Ty} {v : V} {x : Value} {K : Bool → List t.D → Prop} (h : asRow H t v K) (hx : VRel c H w v x) :
    ∃ (f : Bool) (ys : List t.D) (a : Option Addr) (cap : Nat), K f ys ∧ x = .slice a ys.length cap ∧ ys.length ≤ cap ∧ cap ≤ maxLen ∧
      (ys ≠ [] → ∃ g o, a = some ⟨g, o, none⟩ ∧ g < w.heap.size ∧ RowAt w (c.im f) t g o ys) := by
  unfold asRow at h
  split at h
  · cases hx
    exact ⟨true, [], none, 0, h, rfl, Nat.le_refl _, by simp [maxLen], fun h => absurd rfl h⟩
  · rename_i fr t' xs
    obtain ⟨e, hk⟩ := castK_ok h
    subst e
    cases hx with | sl _ _ _ _ hd =>
    obtain ⟨a, cap, h1, h2, h3, h4⟩ := hd
    simp only [List.cons.injEq, and_true] at h1
    refine ⟨_, _, a, cap, hk, h1, h2, h3, fun hne => ?_⟩
    obtain ⟨g, o, ha, hg, hr⟩ := h4 hne
    have hM : c.M g := by cases fr; · exact hg
                          · exact (hst.sub g hg).1
    refine ⟨g, o, ha, hst.imm g hM, fun i y hy => ?_⟩
    obtain ⟨es, h5, h6⟩ := hr i y hy
    refine ⟨es, ?_, h6⟩
    cases ht : t'.flat with
    | true => exact DRel.flat _ _ _ ht h5
    | false => simpa using h5
  · rename_i t0 id
    split at h
    · rename_i fr t' xs hb
      obtain ⟨e, hk⟩ := castK_ok h
      subst e
      have hk : K (fr || t'.flat) xs := hk
      cases hx with | own _ _ n a cap hs hn hc ho =>
      simp only [shape, hb, Option.some.injEq, Prod.mk.injEq] at hs
      obtain ⟨rfl, hz⟩ := hs
      refine ⟨_, _, a, cap, hk, rfl, hn, hc, fun hne => ?_⟩
      have hcap : cap ≠ 0 := by
        intro h0; subst h0
        exact hne (List.eq_nil_of_length_eq_zero (by omega))
      obtain ⟨g, e, cur, hr, ha, hg, hsz⟩ := ho.resolve_left hcap
      have hbk := hst.blk id
      rw [hb] at hbk
      rcases hbk with ⟨_, h2⟩ | ⟨g', e', cur', hr', hg', hsz', hel⟩
      · exact absurd h2 hne
      · rw [hr] at hr'; cases hr'
        rw [hg] at hg'; cases hg'
        refine ⟨g, 0, ha, (hst.own id g hr).2.1, fun i y hy => ?_⟩
        obtain ⟨es, h5, h6⟩ := hel i y hy
        refine ⟨es, ?_, fun j u hj => ?_⟩
        · cases ht : t'.flat with
          | true => exact DRel.flat _ _ _ ht h5
          | false => simpa using h5
        · rw [Go.cell_of_row w g _ cur e (0, 0) hg]
          have := h6 j u hj
          simpa using this
    · exact h.elim
  · rename_i t0 id off n
    split at h
    · rename_i fr t' xs hb
      obtain ⟨e, hk⟩ := castK_ok h
      subst e
      have hk : K (fr || t'.flat) ((xs.drop off).take n) := hk
      cases hx with | slc _ _ _ _ m a cap hs hm hn hc ho =>
      simp only [shape, hb, Option.some.injEq, Prod.mk.injEq] at hs
      obtain ⟨rfl, hz⟩ := hs
      have hlen : ((xs.drop off).take n).length = n := by rw [List.length_take, List.length_drop]; omega
      refine ⟨_, _, a, cap, hk, by rw [hlen], by rw [hlen]; exact hn, hc, fun hne => ?_⟩
      have hcap : cap ≠ 0 := by
        intro h0; subst h0
        exact hne (List.eq_nil_of_length_eq_zero (by rw [hlen]; omega))
      obtain ⟨g, e, cur, hr, ha, hg, hsz⟩ := ho.resolve_left hcap
      have hbk := hst.blk id
      rw [hb] at hbk
      rcases hbk with ⟨_, h2⟩ | ⟨g', e', cur', hr', hg', hsz', hel⟩
      · exact absurd (by rw [h2]; simp) hne
      · rw [hr] at hr'; cases hr'
        rw [hg] at hg'; cases hg'
        refine ⟨g, off * t'.size, by rw [ha, hz], (hst.own id g hr).2.1, fun i y hy => ?_⟩
        have hi : i < n := by
          have := (List.getElem?_eq_some_iff.1 hy).1
          rw [hlen] at this; exact this
        rw [List.getElem?_take, if_pos hi, List.getElem?_drop] at hy
        obtain ⟨es, h5, h6⟩ := hel (off + i) y hy
        refine ⟨es, ?_, fun j u hj => ?_⟩
        · cases ht : t'.flat with
          | true => exact DRel.flat _ _ _ ht h5
          | false => simpa using h5
        · rw [Go.cell_of_row w g _ cur e (0, 0) hg]
          have := h6 j u hj
          rw [Nat.add_mul] at this
          exact this
    · exact h.elim
  · exact h.elim

theorem below_alloc (w : World) (o : Obj) : Below w.heap.size w (w.alloc o) := (Below.refl _ w).alloc (Nat.le_refl _) o

/-- A new row of the call's own. -/
theorem push_row (hst : St G base w0 c H w) {f : Bool} {t : Ty} {xs : List t.D} (cur : Array Value) (e : TypeId) (hsz : xs.length * t.size ≤ cur.size)
    (hel : ∀ (i : Nat) (x : t.D), xs[i]? = some x → ∃ es : List Value, DRel w (c.im f) t x es ∧ ∀ (j : Nat) (v : Value), es[j]? = some v → cur[i * t.size + j]? = some v) :
    St G base w0 (c.push H.length w.heap.size) (H ++ [.row f t xs]) (w.alloc (.cells cur e)) ∧ Ext c H w (c.push H.length w.heap.size) (H ++ [.row f t xs]) (w.alloc (.cells cur e)) := by
  have hext := hst.ext_push (.row f t xs) cur e
  refine ⟨hst.push _ cur e (.inr ⟨w.heap.size, e, cur, by simp [Cx.push], heap_alloc_new w _, hsz, fun i x hi => ?_⟩), hext⟩
  obtain ⟨es, h1, h2⟩ := hel i x hi
  exact ⟨es, hext.drel h1, h2⟩

theorem own_new (hst : St G base w0 c H w) {f : Bool} {t : Ty} {xs : List t.D} (cur : Array Value) (e : TypeId) (cap : Nat) (hn : xs.length ≤ cap) (hc : cap ≤ maxLen) (hsz : cap * t.size ≤ cur.size) :
    VRel (c.push H.length w.heap.size) (H ++ [.row f t xs]) (w.alloc (.cells cur e)) (.own t H.length) (.slice (some ⟨w.heap.size, 0, none⟩) xs.length cap) :=
  .own t H.length xs.length _ cap (by simp [shape, getB_append]) hn hc (.inr ⟨w.heap.size, e, cur, by simp [Cx.push], rfl, heap_alloc_new w _, by simpa using hsz⟩)

theorem push_cells (hst : St G base w0 c H w) {cs : List V} (cur : Array Value) (e : TypeId) (hrel : VRels c H w cs cur.toList) (hone : ∀ v ∈ cur.toList, v.oneCell' = true) :
    St G base w0 (c.push H.length w.heap.size) (H ++ [.cells cs]) (w.alloc (.cells cur e)) ∧ Ext c H w (c.push H.length w.heap.size) (H ++ [.cells cs]) (w.alloc (.cells cur e)) := by
  have hext := hst.ext_push (.cells cs) cur e
  have hlen := hrel.length
  refine ⟨hst.push _ cur e ⟨w.heap.size, e, cur, by simp [Cx.push], heap_alloc_new w _, by simpa using Nat.le_of_eq hlen, fun j hj => ?_⟩, hext⟩
  have hj' : j < cur.toList.length := by omega
  have hget : cur[j]? = some (cur.toList[j]) := by simp [Array.getElem?_eq_getElem (show j < cur.size by simpa using hj')]
  refine ⟨cur.toList[j], hget, hone _ (List.getElem_mem _), ?_⟩
  have := (hrel.get j).ext hext
  simpa [List.getD_eq_getElem?_getD, List.getElem?_eq_getElem hj'] using this

/-- A slice in the call's own memory whose number was free. -/
theorem revive_row {w' : World} (h : St G base w0 c H w) (id g : Nat) (f : Bool) (t : Ty) (xs : List t.D) (cur : Array Value) (e : TypeId) (hid : id < H.length) (hd : getB H id = .dead)
    (hother : ∀ k, k < w.heap.size → (c.ρ id = some k → g ≠ k) → w'.heap[k]? = w.heap[k]?) (hg : c.ρ id = some g ∨ w.heap.size ≤ g) (hg' : w'.heap[g]? = some (.cells cur e (0, 0)))
    (hbel : Below base w w') (hsz : xs.length * t.size ≤ cur.size)
    (hel : ∀ (i : Nat) (x : t.D), xs[i]? = some x → ∃ es : List Value, DRel w (c.im f) t x es ∧ ∀ (j : Nat) (v : Value), es[j]? = some v → cur[i * t.size + j]? = some v) (cap : Nat) (hn : xs.length ≤ cap) (hc : cap ≤ maxLen) (hcs : cap * t.size ≤ cur.size) :
    St G base w0 (c.at id g) (setB H id (.row f t xs)) w' ∧ Ext c H w (c.at id g) (setB H id (.row f t xs)) w' ∧ VRel (c.at id g) (setB H id (.row f t xs)) w' (.own t id) (.slice (some ⟨g, 0, none⟩) xs.length cap) := by
  have hext := h.ext_revive id g (.row f t xs) hd hother hg
  have hgl : g < w'.heap.size := (Array.getElem?_eq_some_iff.1 hg').1
  refine ⟨h.revive id g _ hid hd hother hg hgl hbel (.inr ⟨g, e, cur, by simp [Cx.at], hg', hsz, fun i x hi => ?_⟩), hext, .own t id xs.length _ cap (by simp [shape, getB_setB, hid]) hn hc (.inr ⟨g, e, cur, by simp [Cx.at], rfl, hg', by simpa using hcs⟩)⟩
  obtain ⟨es, h1, h2⟩ := hel i x hi
  exact ⟨es, hext.drel h1, h2⟩
end
end Go.Proofs.YtifaanbnijnbdaaDoor.Vc

namespace Go.Proofs.YtifaanbnijnbdaaDoor.Vc
open Go Go.RowKit

theorem TyOk.info {P : Program} {T : TypeId} {t : Ty} (h : TyOk P T t) : ∃ i z, P.info? T = some i ∧ i.zero = some z ∧ z.cells.toList = zc t ∧ i.size = t.size ∧ i.bytes ≤ 4096 := h.1.open
theorem TyOk.sl {P : Program} {T : TypeId} {t : Ty} (h : TyOk P T (.sl t)) : ∃ e, P.underlying T = some (.slice e) ∧ InfoOk P e t ∧ 0 < t.size := h.2
theorem TyOk.arr {P : Program} {T : TypeId} {n : Nat} {t : Ty} (h : TyOk P T (.arr n t)) : ∃ e, P.underlying T = some (.array n e) ∧ InfoOk P e t ∧ 0 < t.size := h.2

theorem zc_length : ∀ t : Ty, (zc t).length = t.size
  | .u8 => rfl | .int _ => rfl | .bool => rfl | .str => rfl | .sl _ => rfl | .nil => rfl
  | .cons t ts => by simp [zc, Ty.size, zc_length t, zc_length ts]
  | .arr n t => by
    show ((List.replicate n (zc t)).flatten).length = n * t.size
    rw [length_flatten_const t.size]
    · simp
    · intro e he; rw [(List.mem_replicate.1 he).2]; exact zc_length t

theorem flatten_replicate_get {α : Type} (l : List α) : ∀ (n i j : Nat) (v : α), i < n → l[j]? = some v → ((List.replicate n l).flatten)[i * l.length + j]? = some v
  | 0, i, j, v, h, _ => by omega
  | n + 1, i, j, v, h, hj => by
    have hlt : j < l.length := (List.getElem?_eq_some_iff.1 hj).1
    rw [List.replicate_succ, List.flatten_cons]
    cases i with
    | zero => rw [Nat.zero_mul, Nat.zero_add, List.getElem?_append_left hlt]; exact hj
    | succ i =>
      rw [List.getElem?_append_right (by rw [Nat.succ_mul]; omega)]
      rw [show (i + 1) * l.length + j - l.length = i * l.length + j by rw [Nat.succ_mul]; omega]
      exact flatten_replicate_get l n i j v (by omega) hj

section
variable {E : Env} {P : Program} {G : List (Nat × V)} {base : Nat} {w0 : World} {c : Cx} {H : List Blk} {w : World} {σ : List V} {a : Act} {K : V → List V → List Blk → Prop} {o : Oper}

theorem lk_ty (hE : EnvOk P E) {T : TypeId} {t : Ty} (h : lk E.ty T = some t) : TyOk P T t := hE.ty T t h

theorem op_alloc (hE : EnvOk P E) (hst : St E.glob base w0 c H w) (hσ : VRels c H w σ a.tmps.toList) (T : TypeId) (ho : o.op = .alloc T) (h : aop E σ H (.alloc T) K) :
    After E.glob base w0 a.tmps.toList K P o a w := by
  simp only [aop, aalloc] at h
  split at h
  · rename_i n t hT
    have hok := lk_ty hE hT
    obtain ⟨i, z, hi, hz, hzc, hsz, _⟩ := hok.info
    cases hb : (Nat.blt 0 n && Nat.blt 0 t.size) with
    | false => rw [hb] at h; exact h.elim
    | true =>
    rw [hb] at h
    simp only [Bool.and_eq_true, Nat.blt_eq] at hb
    have h' := (forceL_eq _ _).1 h
    obtain ⟨hst', hext⟩ := push_row (f := true) (t := t) (xs := List.replicate n t.dflt) hst z.cells T (by
        have : z.cells.toList.length = n * t.size := by rw [hzc, zc_length]; rfl
        rw [List.length_replicate]; simpa using Nat.le_of_eq this.symm) (fun k x hk => by
        rw [List.getElem?_replicate] at hk
        split at hk
        · rename_i hlt
          obtain rfl : t.dflt = x := by simpa using hk
          refine ⟨zc t, zc_dflt w _ t, fun j v hj => ?_⟩
          have := flatten_replicate_get (zc t) n k j v hlt hj
          rw [zc_length] at this
          rw [← Array.getElem?_toList, hzc]
          exact this
        · simp at hk)
    refine .inl ⟨.pointer (some ⟨w.heap.size, 0, none⟩), _, ?_, _, σ, _, _, h', ?_, hσ.ext hext, hst'⟩
    · simp [execOp, ho, Instr.alloc, zeroValue, typeInfo, hi, hz, newVar, newRow]
    · have := VRel.ptr (c := c.push H.length w.heap.size) (H := H ++ [.row true t (List.replicate n t.dflt)]) (w := w.alloc (.cells z.cells T)) H.length t.size 0 0 w.heap.size n (by simp [shape, getB_append]) (by simp [Cx.push]) hb.1 hb.2
      simpa using this
  · rename_i t _ hT
    have hok := lk_ty hE hT
    obtain ⟨i, z, hi, hz, hzc, hsz, _⟩ := hok.info
    cases hb : Nat.blt 0 t.size with
    | false => rw [hb] at h; exact h.elim
    | true =>
    rw [hb] at h
    simp only [Nat.blt_eq] at hb
    have h' := (forceL_eq _ _).1 ((forceL_eq _ _).1 h)
    obtain ⟨hst', hext⟩ := push_cells (cs := zeroV t) hst z.cells T (by rw [hzc]; exact zeroV_ok t) (by rw [hzc]; exact DRel.one t _ _ (zc_dflt w (fun _ => True) t))
    have hl : (zeroV t).length = t.size := by rw [(zeroV_ok (c := c) (H := H) (w := w) t).length, zc_length]
    refine .inl ⟨.pointer (some ⟨w.heap.size, 0, none⟩), _, ?_, _, σ, _, _, h', ?_, hσ.ext hext, hst'⟩
    · simp [execOp, ho, Instr.alloc, zeroValue, typeInfo, hi, hz, newVar, newRow]
    · have := VRel.ptr (c := c.push H.length w.heap.size) (H := H ++ [.cells (zeroV t)]) (w := w.alloc (.cells z.cells T)) H.length 1 0 0 w.heap.size t.size (by simp [shape, getB_append, hl]) (by simp [Cx.push]) hb (by omega)
      simpa using this
  · exact h.elim

theorem getCell_ok {fr : Bool} : ∀ (t : Ty) (x : t.D) (es : List Value) (o : Nat) (v : Value), DRel w (c.im fr) t x es → es[o]? = some v → VRel c H w (getCell fr t x o) v
  | .u8, x, es, o, v, h, ho => by
    have h' : es = [_] := h
    subst h'
    cases o with
    | zero => simp at ho; subst ho; exact .u8 _
    | succ o => simp at ho
  | .int k, x, es, o, v, h, ho => by
    have h' : es = [.int k x] := h.1
    subst h'
    cases o with
    | zero => simp at ho; subst ho; exact .int _ _ h.2.1 h.2.2
    | succ o => simp at ho
  | .bool, x, es, o, v, h, ho => by
    have h' : es = [_] := h
    subst h'
    cases o with
    | zero => simp at ho; subst ho; exact .b _ _ Iff.rfl
    | succ o => simp at ho
  | .str, x, es, o, v, h, ho => by
    have h' : es = [_] := h.1
    subst h'
    cases o with
    | zero => simp at ho; subst ho; exact .str _ h.2
    | succ o => simp at ho
  | .sl t, x, es, o, v, h, ho => by
    obtain ⟨a, cap, h1, h2⟩ := h
    subst h1
    cases o with
    | zero => simp at ho; subst ho; exact .sl _ _ _ _ ⟨a, cap, rfl, h2⟩
    | succ o => simp at ho
  | .nil, x, es, o, v, h, ho => by
    have h' : es = [] := h
    subst h'
    simp at ho
  | .cons t ts, x, es, o, v, h, ho => by
    obtain ⟨c1, c2, h1, h2, h3⟩ := h
    subst h1
    have hl := DRel.length t _ _ h2
    unfold getCell
    cases hb : Nat.blt o t.size with
    | true =>
      have hb' : o < t.size := by simpa [Nat.blt_eq] using hb
      rw [List.getElem?_append_left (by omega)] at ho
      exact getCell_ok t _ _ _ _ h2 ho
    | false =>
      have hb' : t.size ≤ o := by
        rcases Nat.lt_or_ge o t.size with g | g
        · have : Nat.blt o t.size = true := by rw [Nat.blt_eq]; exact g
          rw [this] at hb; simp at hb
        · exact g
      rw [List.getElem?_append_right (by omega), hl] at ho
      exact getCell_ok ts _ _ _ _ h3 ho
  | .arr n t, xs, es, o, v, h, ho => by
    obtain ⟨h0, ess, h1, h2, h3⟩ := h
    subst h1
    have hlen : ∀ e ∈ ess, e.length = t.size := fun e he => by
      obtain ⟨i, hi⟩ := List.mem_iff_getElem?.1 he
      have hlt : i < ess.length := (List.getElem?_eq_some_iff.1 hi).1
      have hx : (xs : List t.D)[i]? = some ((xs : List t.D)[i]'(by omega)) := List.getElem?_eq_getElem (by omega)
      exact DRel.length t _ _ (h3 i _ e hx hi)
    have hpos : 0 < t.size := by
      rcases Nat.eq_zero_or_pos t.size with g | g
      · have := length_flatten_const t.size ess hlen
        have hlt := (List.getElem?_eq_some_iff.1 ho).1
        rw [this, g] at hlt; simp at hlt
      · exact g
    -- the part that holds the cell
    have key : ∀ (ess : List (List Value)) (o : Nat), (∀ e ∈ ess, e.length = t.size) → ess.flatten[o]? = some v → ∃ e, ess[o / t.size]? = some e ∧ e[o % t.size]? = some v := by
      intro ess
      induction ess with
      | nil => intro o _ h; simp at h
      | cons e ess ih =>
        intro o hl h
        rw [List.flatten_cons] at h
        have he := hl e (by simp)
        rcases Nat.lt_or_ge o t.size with g | g
        · rw [List.getElem?_append_left (by omega)] at h
          exact ⟨e, by rw [Nat.div_eq_of_lt g]; rfl, by rw [Nat.mod_eq_of_lt g]; exact h⟩
        · rw [List.getElem?_append_right (by omega), he] at h
          obtain ⟨e', h1, h2⟩ := ih (o - t.size) (fun e he => hl e (by simp [he])) h
          have d1 : o / t.size = (o - t.size) / t.size + 1 := by
            rw [Nat.div_eq_sub_div hpos g]
          have d2 : o % t.size = (o - t.size) % t.size := Nat.mod_eq_sub_mod g
          exact ⟨e', by rw [d1]; simpa using h1, by rw [d2]; exact h2⟩
    obtain ⟨e, k1, k2⟩ := key ess o hlen ho
    have hlt : o / t.size < ess.length := (List.getElem?_eq_some_iff.1 k1).1
    have hx : (xs : List t.D)[o / t.size]? = some ((xs : List t.D)[o / t.size]'(by omega)) := List.getElem?_eq_getElem (by omega)
    have hd := h3 _ _ e hx k1
    have hgd : (xs : List t.D).getD (o / t.size) t.dflt = (xs : List t.D)[o / t.size]'(by omega) := by simp [List.getD_eq_getElem?_getD, hx]
    unfold getCell
    cases hb : Nat.beq t.size 1 with
    | true =>
      have h1 : t.size = 1 := Nat.eq_of_beq_eq_true hb
      simp only [h1, Nat.div_one, Nat.mod_one] at *
      simp only [cond_true]
      rw [hgd]
      exact getCell_ok t _ _ _ _ hd k2
    | false =>
      simp only [cond_false]
      rw [hgd]
      exact getCell_ok t _ _ _ _ hd k2

theorem getCells_ok {fr : Bool} {t : Ty} {x : t.D} {es : List Value} (h : DRel w (c.im fr) t x es) : ∀ (n o : Nat), o + n ≤ es.length → VRels c H w (getCells fr t x o n) ((es.drop o).take n)
  | 0, o, _ => by simpa [getCells] using VRels.nil
  | n + 1, o, hle => by
    have hlt : o < es.length := by omega
    rw [List.drop_eq_getElem_cons hlt, List.take_succ_cons]
    exact .cons _ _ _ _ (getCell_ok t x es o _ h (List.getElem?_eq_getElem hlt)) (getCells_ok h n (o + 1) (by omega))

def isAggB : Ty → Bool
  | .nil | .cons _ _ | .arr _ _ => true
  | _ => false

theorem isAgg_run {T : TypeId} {t : Ty} (hok : TyOk P T t) : (isAgg T).run P w = .ok (isAggB t) w := by
  obtain ⟨_, h⟩ := hok
  cases t <;> simp only at h
  · simp [isAgg, isAggB, run_underlying h]
  · simp [isAgg, isAggB, run_underlying h]
  · simp [isAgg, isAggB, run_underlying h]
  · simp [isAgg, isAggB, run_underlying h]
  · obtain ⟨e, h, _⟩ := h; simp [isAgg, isAggB, run_underlying h]
  · obtain ⟨e, h⟩ := h; simp [isAgg, isAggB, run_underlying h]
  · obtain ⟨e, h, _⟩ := h; simp [isAgg, isAggB, run_underlying h]
  · obtain ⟨e, h, _⟩ := h; simp [isAgg, isAggB, run_underlying h]

theorem beq_ok {i j : Nat} (h : Nat.beq i j = true) : i = j := Nat.eq_of_beq_eq_true h
theorem ble_ok {i j : Nat} (h : Nat.ble i j = true) : i ≤ j := Nat.le_of_ble_eq_true h
theorem blt_ok {i j : Nat} (h : Nat.blt i j = true) : i < j := by rwa [Nat.blt_eq] at h
theorem bif_ok {b : Bool} {p : Prop} (h : bif b then p else False) : b = true ∧ p := by
  cases b
  · exact h.elim
  · exact ⟨rfl, h⟩

/-- The read of a struct. -/
theorem run_agg (hE : EnvOk P E) {T : TypeId} {t ts : Ty} (hT : lk E.ty T = some (.cons t ts)) {p : Operand} (ho : o.op = .load T p) {g q : Nat} (hae : a.eval p = .pointer (some ⟨g, q, none⟩))
    (es : List Value) (hlen : es.length = (Ty.cons t ts).size) (hc : ∀ (j : Nat) (v : Value), es[j]? = some v → w.cell? ⟨g, q + j, none⟩ = some v) :
    (execOp a.eval o).run P w = .ok (.value (.agg es.toArray)) w := by
  have hok := lk_ty hE hT
  obtain ⟨i, z, hi, hz, hzc, hsz, _⟩ := hok.info
  have hl := run_loadCells_list (P := P) w ⟨g, q, none⟩ es (fun j v hj => by rw [Addr.add_lit]; exact hc j v hj)
  rw [hlen] at hl
  have hag := isAgg_run (P := P) (w := w) hok
  simp [execOp, ho, hae, Instr.loadAt, Instr.sureAddr, loadVar, hag, isAggB, sizeOf, typeInfo, hi, hsz, hl]

theorem run_one {T : TypeId} {t : Ty} (hok : TyOk P T t) (hna : isAggB t = false) {p : Operand} (ho : o.op = .load T p) {ad : Addr} (hae : a.eval p = .pointer (some ad))
    {v : Value} (hc : w.cell? ad = some v) : (execOp a.eval o).run P w = .ok (.value v) w := by
  have hag := isAgg_run (P := P) (w := w) hok
  rw [hna] at hag
  simp [execOp, ho, hae, Instr.loadAt, Instr.sureAddr, loadVar, hag, hc]

/-- The cells of an element of a row of the call's own. -/
theorem row_elem (hst : St G base w0 c H w) {id g i : Nat} {fr : Bool} {t : Ty} {xs : List t.D} (hb : getB H id = .row fr t xs) (hr : c.ρ id = some g) (hi : i < xs.length) :
    ∃ es e cur, DRel w (c.im fr) t (xs.getD i t.dflt) es ∧ es.length = t.size ∧ w.heap[g]? = some (.cells cur e (0, 0)) ∧ ∀ (j : Nat) (v : Value), es[j]? = some v → cur[i * t.size + j]? = some v := by
  have hbk := hst.blk id
  rw [hb] at hbk
  rcases hbk with ⟨h1, h2⟩ | ⟨g', e', cur', hr', hg', hsz', hel⟩
  · subst h2; simp at hi
  · rw [hr] at hr'; cases hr'
    have hx : xs[i]? = some (xs.getD i t.dflt) := by simp [List.getD_eq_getElem?_getD, List.getElem?_eq_getElem hi]
    obtain ⟨es, h5, h6⟩ := hel i _ hx
    exact ⟨es, e', cur', h5, DRel.length _ _ _ h5, hg', h6⟩

theorem cells_get (hst : St G base w0 c H w) {id g : Nat} {cs : List V} (hb : getB H id = .cells cs) (hr : c.ρ id = some g) :
    ∃ e cur, w.heap[g]? = some (.cells cur e (0, 0)) ∧ cs.length ≤ cur.size ∧ ∀ j, j < cs.length → ∃ v, cur[j]? = some v ∧ v.oneCell' = true ∧ VRel c H w (gets cs j) v := by
  have hbk := hst.blk id
  rw [hb] at hbk
  obtain ⟨g', e, cur, hr', hg, hsz, hel⟩ := hbk
  rw [hr] at hr'; cases hr'
  exact ⟨e, cur, hg, hsz, hel⟩

/-- So many cells, and what they stand for. -/
theorem cells_list {cs : List V} {cur : Array Value} (hel : ∀ j, j < cs.length → ∃ v, cur[j]? = some v ∧ v.oneCell' = true ∧ VRel c H w (gets cs j) v) :
    ∀ (n i : Nat), i + n ≤ cs.length → ∃ es : List Value, es.length = n ∧ VRels c H w ((cs.drop i).take n) es ∧ ∀ (j : Nat) (v : Value), es[j]? = some v → cur[i + j]? = some v
  | 0, i, _ => ⟨[], rfl, by simpa using VRels.nil, by simp⟩
  | n + 1, i, hle => by
    obtain ⟨es, h1, h2, h3⟩ := cells_list hel n (i + 1) (by omega)
    obtain ⟨v, h4, _, h5⟩ := hel i (by omega)
    have hlt : i < cs.length := by omega
    refine ⟨v :: es, by simp [h1], ?_, fun j u hj => ?_⟩
    · rw [List.drop_eq_getElem_cons hlt, List.take_succ_cons]
      have : gets cs i = cs[i] := by rw [gets_eq]; simp [List.getD_eq_getElem?_getD, hlt]
      exact .cons _ _ _ _ (this ▸ h5) h2
    · cases j with
      | zero => simp at hj; subst hj; exact h4
      | succ j => rw [show i + (j + 1) = i + 1 + j by omega]; exact h3 j u (by simpa using hj)

theorem val_pure {k : V → Prop} {x : V} {v : Value} (hx : VRel c H w x v) (hK : k x) (hr : (execOp a.eval o).run P w = .ok (.value v) w) : ∃ x v, k x ∧ VRel c H w x v ∧ (execOp a.eval o).run P w = .ok (.value v) w := ⟨x, v, hK, hx, hr⟩

theorem load_run (hE : EnvOk P E) (hst : St E.glob base w0 c H w) {k : V → Prop} (T : TypeId) (p : Operand) (ho : o.op = .load T p) {vp : V} {xp : Value} (hae : a.eval p = xp) (hp : VRel c H w vp xp) (h : aload E H T vp k) :
    ∃ x v, k x ∧ VRel c H w x v ∧ (execOp a.eval o).run P w = .ok (.value v) w := by
  unfold aload at h
  split at h
  · exact h.elim
  · exact h.elim
  · rename_i t ts hT
    split at h
    · rename_i fr t' x o'
      obtain ⟨hb, h'⟩ := bif_ok h
      have hle := ble_ok hb
      have h'' := (forceL_eq _ _).1 h'
      cases hp with | rp _ _ _ _ g p0 es hM hd hc =>
      have hl := DRel.length _ _ _ hd
      have hrel := getCells_ok (H := H) hd (Ty.cons t ts).size o' (by omega)
      have hlen : ((es.drop o').take (Ty.cons t ts).size).length = (Ty.cons t ts).size := by rw [List.length_take, List.length_drop]; omega
      refine val_pure (VRel.agg _ _ hrel) h'' (run_agg hE hT ho hae _ hlen fun j v hj => ?_)
      rw [List.getElem?_take] at hj
      split at hj
      · rw [List.getElem?_drop] at hj
        have := hc _ v hj
        rw [Nat.add_assoc]; exact this
      · simp at hj
    · rename_i id z i o'
      cases hp with | ptr _ _ _ _ g m hs hr hi ho' =>
      split at h
      · rename_i cs hb
        simp only [shape, hb, Option.some.injEq, Prod.mk.injEq] at hs
        obtain ⟨rfl, rfl⟩ := hs
        obtain ⟨hb', h'⟩ := bif_ok h
        simp only [Bool.and_eq_true] at hb'
        have h0 := beq_ok hb'.1
        have hle := ble_ok hb'.2
        subst h0
        have h'' := (forceL_eq _ _).1 h'
        obtain ⟨e, cur, hg, hsz, hel⟩ := cells_get hst hb hr
        obtain ⟨es, h1, h2, h3⟩ := cells_list hel (Ty.cons t ts).size i hle
        refine val_pure (VRel.agg _ _ h2) h'' (run_agg hE hT ho hae _ h1 fun j v hj => ?_)
        rw [Go.cell_of_row w g _ cur e (0, 0) hg]
        simpa using h3 j v hj
      · rename_i fr t' xs hb
        simp only [shape, hb, Option.some.injEq, Prod.mk.injEq] at hs
        obtain ⟨rfl, rfl⟩ := hs
        obtain ⟨hb', h'⟩ := bif_ok h
        have hle := ble_ok hb'
        have h'' := (forceL_eq _ _).1 h'
        obtain ⟨es, e, cur, hd, hl, hg, hc⟩ := row_elem hst hb hr hi
        have hrel := getCells_ok (H := H) hd (Ty.cons t ts).size o' (by omega)
        have hlen : ((es.drop o').take (Ty.cons t ts).size).length = (Ty.cons t ts).size := by rw [List.length_take, List.length_drop]; omega
        refine val_pure (VRel.agg _ _ hrel) h'' (run_agg hE hT ho hae _ hlen fun j v hj => ?_)
        rw [List.getElem?_take] at hj
        split at hj
        · rw [List.getElem?_drop] at hj
          have := hc _ v hj
          rw [Go.cell_of_row w g _ cur e (0, 0) hg, Nat.add_assoc]; exact this
        · simp at hj
      · exact h.elim
    · exact h.elim
  · rename_i t ht1 ht2 ht3 hT
    have hna : isAggB t = false := by
      cases t <;> first | rfl | exact (ht1 _ _ rfl).elim | exact (ht2 rfl).elim | exact (ht3 _ _ rfl).elim
    have hok := lk_ty hE hT
    split at h
    · rename_i fr t' x o'
      obtain ⟨hb, h'⟩ := bif_ok h
      have hlt := blt_ok hb
      have h'' := (forceV_eq _ _).1 h'
      cases hp with | rp _ _ _ _ g p0 es hM hd hc =>
      have hl := DRel.length _ _ _ hd
      have hget : es[o']? = some (es[o']'(by omega)) := List.getElem?_eq_getElem (by omega)
      exact val_pure (getCell_ok _ _ _ _ _ hd hget) h'' (run_one hok hna ho hae (hc _ _ hget))
    · rename_i id z i o'
      cases hp with | ptr _ _ _ _ g m hs hr hi ho' =>
      split at h
      · rename_i fr t' xs hb
        simp only [shape, hb, Option.some.injEq, Prod.mk.injEq] at hs
        obtain ⟨rfl, rfl⟩ := hs
        have h'' := (forceV_eq _ _).1 h
        obtain ⟨es, e, cur, hd, hl, hg, hc⟩ := row_elem hst hb hr hi
        have hget : es[o']? = some (es[o']'(by omega)) := List.getElem?_eq_getElem (by omega)
        refine val_pure (getCell_ok _ _ _ _ _ hd hget) h'' (run_one hok hna ho hae ?_)
        rw [Go.cell_of_row w g _ cur e (0, 0) hg]
        exact hc _ _ hget
      · rename_i cs hb
        simp only [shape, hb, Option.some.injEq, Prod.mk.injEq] at hs
        obtain ⟨rfl, rfl⟩ := hs
        obtain ⟨hb', h'⟩ := bif_ok h
        have h0 := beq_ok hb'
        subst h0
        have h'' := (forceV_eq _ _).1 h'
        obtain ⟨e, cur, hg, hsz, hel⟩ := cells_get hst hb hr
        obtain ⟨v, h1, _, h2⟩ := hel i hi
        refine val_pure h2 h'' (run_one hok hna ho hae ?_)
        rw [Go.cell_of_row w g _ cur e (0, 0) hg]
        simpa using h1
      · exact h.elim
    · exact h.elim
  · exact h.elim

theorem op_load (hE : EnvOk P E) (hst : St E.glob base w0 c H w) (hσ : VRels c H w σ a.tmps.toList) (T : TypeId) (p : Operand) (ho : o.op = .load T p) (h : aop E σ H (.load T p) K) :
    After E.glob base w0 a.tmps.toList K P o a w := by
  simp only [aop] at h
  obtain ⟨x, v, h1, h2, h3⟩ := load_run (P := P) (a := a) hE hst T p ho rfl (ev_ok hst hσ p) h
  exact after_pure hst hσ h2 h1 h3
end
end Go.Proofs.YtifaanbnijnbdaaDoor.Vc

namespace Go.Proofs.YtifaanbnijnbdaaDoor.Vc
open Go Go.RowKit

section
variable {E : Env} {P : Program} {G : List (Nat × V)} {base : Nat} {w0 : World} {c : Cx} {H : List Blk} {w : World} {σ : List V} {a : Act} {K : V → List V → List Blk → Prop} {o : Oper}

theorem setRow_facts (w : World) (g : Nat) (cur cur' : Array Value) (e : TypeId) (hg : w.heap[g]? = some (.cells cur e (0, 0))) :
    (w.setRow g cur').heap[g]? = some (.cells cur' e (0, 0)) ∧ (∀ k, k ≠ g → (w.setRow g cur').heap[k]? = w.heap[k]?) :=
  ⟨setRow_heap w g cur cur' e _ hg, fun k hk => setRow_other w g k cur' hk⟩

theorem below_setRow {w : World} {g : Nat} {cur' : Array Value} (hb : base ≤ g) : Below base w (w.setRow g cur') :=
  ⟨rfl, rfl, rfl, by simp, fun k hk => setRow_other w g k cur' (by omega)⟩

/-- The store of cells into a block of the call's own. -/
theorem run_storeAt {T : TypeId} {t : Ty} (hok : TyOk P T t) {v : Value} {g q : Nat} {cur : Array Value} {e : TypeId} (hg : w.heap[g]? = some (.cells cur e (0, 0))) (hsz : v.cells.size = t.size) (hle : q + v.cells.size ≤ cur.size)
    (hone : ∀ u ∈ v.cells.toList, u.oneCell' = true) :
    (Instr.storeAt T (.pointer (some ⟨g, q, none⟩)) v).run P w = .ok () (w.setRow g (cur.toList.take q ++ v.cells.toList ++ cur.toList.drop (q + v.cells.size)).toArray) := by
  obtain ⟨i, z, hi, hz, hzc, hs, _⟩ := hok.info
  have hst := run_storeCells_at P g q e v.cells.toList 0 cur w hg (by simpa using hle) hone
  simp only [Nat.add_zero] at hst
  have h0 : storeCells ⟨g, q, none⟩ v.cells.toList 0 = storeCells (⟨g, q, none⟩ : Addr) v.cells.toList := rfl
  simp [Instr.storeAt, Instr.sureAddr, storeVar, sizeOf, typeInfo, hi, hs, hsz, hst]

theorem isCell_one {x : V} {v : Value} (h : VRel c H w x v) (hc : x.isCell = true) : v.oneCell' = true ∧ v.cells = #[v] := by
  cases h <;> first | (simp [V.isCell] at hc; done) | skip
  case sl fr t xs h => obtain ⟨a, cap, h1, _⟩ := h; simp only [List.cons.injEq, and_true] at h1; subst h1; simp [Value.oneCell', Value.cells]
  all_goals simp [Value.oneCell', Value.cells]

theorem allCells_one : ∀ {xs : List V} {vs : List Value}, VRels c H w xs vs → allCells xs = true → ∀ u ∈ vs, u.oneCell' = true
  | _, _, .nil, _ => by simp
  | _, _, .cons x v xs vs h hs, hc => by
    simp only [allCells, Bool.and_eq_true] at hc
    intro u hu
    rcases List.mem_cons.1 hu with rfl | hu
    · exact (isCell_one h hc.1).1
    · exact allCells_one hs hc.2 u hu

theorem setAt_eq : ∀ (vs : List V) (cs : List V) (o j : Nat), o + vs.length ≤ cs.length → gets (setAt cs o vs) j = if o ≤ j ∧ j < o + vs.length then gets vs (j - o) else gets cs j
  | [], cs, o, j, _ => by simp [setAt]; omega
  | v :: vs, cs, o, j, h => by
    have hl : (sets cs o v).length = cs.length := by rw [sets_eq]; simp
    simp only [List.length_cons] at h
    rw [setAt, setAt_eq vs (sets cs o v) (o + 1) j (by rw [hl]; omega)]
    by_cases h1 : o + 1 ≤ j ∧ j < o + 1 + vs.length
    · rw [if_pos h1, if_pos (by simp; omega)]
      rw [show j - o = (j - (o + 1)) + 1 by omega]; rfl
    · rw [if_neg h1]
      by_cases h2 : j = o
      · subst h2
        rw [if_pos (by simp)]
        rw [sets_eq, gets_eq]
        simp [show j < cs.length by omega, gets]
      · rw [if_neg (by simp; omega)]
        rw [sets_eq, gets_eq, gets_eq]
        simp [List.getElem?_set, Ne.symm h2]
theorem length_setAt : ∀ (vs : List V) (cs : List V) (o : Nat), (setAt cs o vs).length = cs.length
  | [], cs, o => rfl
  | v :: vs, cs, o => by rw [setAt, length_setAt vs, sets_eq]; simp

/-- A store into a block of cells. -/
theorem store_cells (hE : EnvOk P E) (hst : St E.glob base w0 c H w) (hσ : VRels c H w σ a.tmps.toList) {T : TypeId} {t : Ty} (hT : lk E.ty T = some t) {p x : Operand} (ho : o.op = .store T p x)
    {id i : Nat} {cs vs : List V} (hb : getB H id = .cells cs) {g : Nat} (hr : c.ρ id = some g) (hae : a.eval p = .pointer (some ⟨g, i, none⟩))
    (hrel : VRels c H w vs (a.eval x).cells.toList) (hall : allCells vs = true) (hlen : vs.length = t.size) (hle : i + vs.length ≤ cs.length) (h : K .undef σ (setB H id (.cells (setAt cs i vs)))) :
    After E.glob base w0 a.tmps.toList K P o a w := by
  obtain ⟨e, cur, hg, hsz, hel⟩ := cells_get hst hb hr
  have hl : (a.eval x).cells.size = vs.length := by have := hrel.length; simpa using this.symm
  have hrun := run_storeAt (P := P) (w := w) (lk_ty hE hT) (v := a.eval x) (q := i) hg (hl.trans hlen) (by omega) (allCells_one hrel hall)
  obtain ⟨cur', hcur'⟩ : ∃ cur', (cur.toList.take i ++ (a.eval x).cells.toList ++ cur.toList.drop (i + (a.eval x).cells.size)).toArray = cur' := ⟨_, rfl⟩
  rw [hcur'] at hrun
  have hsz' : cur'.size = cur.size := by
    rw [← hcur']; simp only [List.size_toArray, List.length_append, List.length_take, List.length_drop, Array.length_toList, hl]; omega
  have hget : ∀ j, cur'[j]? = if i ≤ j ∧ j < i + vs.length then (a.eval x).cells[j - i]? else cur[j]? := fun j => by
    rw [← hcur', List.getElem?_toArray]
    by_cases h1 : j < i
    · rw [if_neg (by omega), List.append_assoc, List.getElem?_append_left (by simp; omega), List.getElem?_take, if_pos h1]; simp
    · by_cases h2 : j < i + vs.length
      · rw [if_pos (by omega), List.append_assoc, List.getElem?_append_right (by simp; omega), List.getElem?_append_left (by simp; omega)]
        simp [Nat.min_eq_left (show i ≤ cur.size by omega)]
      · rw [if_neg (by omega), List.getElem?_append_right (by simp; omega), List.getElem?_drop]
        have : i + (a.eval x).cells.size + (j - (List.take i cur.toList ++ (a.eval x).cells.toList).length) = j := by
          simp [Nat.min_eq_left (show i ≤ cur.size by omega)]; omega
        rw [this]; simp
  obtain ⟨hw1, hw2⟩ := setRow_facts w g cur cur' e hg
  have hshape : shape (setB H id (.cells (setAt cs i vs))) id = shape H id := by
    have hidl := (hst.own id g hr).2.2.2
    simp [shape, getB_setB, hidl, hb, length_setAt]
  have hext := hst.ext_upd id g (.cells (setAt cs i vs)) e cur cur' hr hg hsz' hw1 hw2 hshape
  refine .inr (.inl ⟨w.setRow g cur', ?_, .undef, σ, _, c, h, .undef _, hσ.ext hext, ?_⟩)
  · simp [execOp, ho, hae, hrun]
  · refine hst.upd id g _ e cur cur' hr hg hsz' hw1 hw2 hshape (below_setRow (hst.own id g hr).1) ⟨g, e, cur', hr, hw1, by rw [length_setAt, hsz']; exact hsz, fun j hj => ?_⟩
    rw [length_setAt] at hj
    rw [hget, setAt_eq vs cs i j hle]
    by_cases h1 : i ≤ j ∧ j < i + vs.length
    · rw [if_pos h1, if_pos h1]
      have hj' : j - i < (a.eval x).cells.size := by omega
      refine ⟨(a.eval x).cells[j - i], Array.getElem?_eq_getElem hj', allCells_one hrel hall _ (by simp), ?_⟩
      have := (hrel.get (j - i)).ext hext
      simpa [List.getD_eq_getElem?_getD, hj'] using this
    · rw [if_neg h1, if_neg h1]
      obtain ⟨v, g1, g2, g3⟩ := hel j hj
      exact ⟨v, g1, g2, g3.ext hext⟩

theorem setD_ok {t : Ty} {v : V} {x : Value} {K : t.D → Prop} (h : setD t v K) (hx : VRel c H w v x) (M : Nat → Prop) : ∃ y, K y ∧ DRel w M t y [x] ∧ t.size = 1 := by
  unfold setD at h
  split at h
  · cases hx; exact ⟨_, h, rfl, rfl⟩
  · obtain ⟨rfl, h⟩ := h
    cases hx with | int _ _ h1 h2 => exact ⟨_, h, ⟨rfl, h1, h2⟩, rfl⟩
  · rename_i p _
    cases hx with | b _ b hb =>
    refine ⟨_, h, ?_, rfl⟩
    have : b = @decide p (Classical.propDecidable p) := by
      rw [Bool.eq_iff_iff, hb]; exact (@decide_eq_true_iff p (Classical.propDecidable p)).symm
    rw [this]; rfl
  · cases hx with | str _ h1 => exact ⟨_, h, ⟨rfl, h1⟩, rfl⟩
  · exact h.elim

theorem op_store (hE : EnvOk P E) (hst : St E.glob base w0 c H w) (hσ : VRels c H w σ a.tmps.toList) (T : TypeId) (p x : Operand) (ho : o.op = .store T p x) (h : aop E σ H (.store T p x) K) :
    After E.glob base w0 a.tmps.toList K P o a w := by
  have hp := ev_ok hst hσ p
  have hx := ev_ok hst hσ x
  simp only [aop] at h
  have h := (forceV_eq _ _).1 h
  generalize ev E σ p = vp at h hp
  generalize ev E σ x = vx at h hx
  generalize hae : a.eval p = xp at hp
  unfold astore at h
  split at h
  · rename_i id z i o' tT hT
    cases hp with | ptr _ _ _ _ g m hs hr hi ho' =>
    split at h
    · rename_i fr t xs hb
      simp only [shape, hb, Option.some.injEq, Prod.mk.injEq] at hs
      obtain ⟨rfl, rfl⟩ := hs
      obtain ⟨y, ⟨⟨h0, h1⟩, hk⟩, hd, hsz1⟩ := setD_ok h hx (c.im fr)
      have hk := (forceL_eq _ _).1 hk
      subst h0
      have hone := DRel.one t y _ hd
      have hcl : (a.eval x).cells = #[a.eval x] := by
        have := hone (a.eval x) (by simp)
        cases hv : a.eval x <;> rw [hv] at this <;> first | rfl | simp [Value.oneCell'] at this
      obtain ⟨es0, e, cur, hd0, hl0, hg, hc0⟩ := row_elem hst hb hr hi
      have hbk := hst.blk id
      rw [hb] at hbk
      have hbk' := hbk.resolve_left (fun hh => by rw [hh.1] at hr; simp at hr)
      obtain ⟨g', e', cur0, hr', hg', hsz, hel⟩ := hbk'
      rw [hr] at hr'; cases hr'
      rw [hg] at hg'; cases hg'
      rw [hsz1] at hsz
      have hrun := run_storeAt (P := P) (w := w) (lk_ty hE hT) (v := a.eval x) (q := i * t.size + 0) hg (by rw [hcl, h1]; rfl) (by rw [hcl, hsz1]; simp; omega) (by rw [hcl]; simpa using hone)
      rw [hcl] at hrun
      simp only [hsz1, Nat.mul_one, Nat.add_zero] at hrun hae
      obtain ⟨cur', hcur'⟩ : ∃ cur', (cur.toList.take i ++ #[a.eval x].toList ++ cur.toList.drop (i + #[a.eval x].size)).toArray = cur' := ⟨_, rfl⟩
      rw [hcur'] at hrun
      have hsz' : cur'.size = cur.size := by
        rw [← hcur']; simp only [List.size_toArray, List.length_append, List.length_take, List.length_drop, Array.length_toList, List.length_cons, List.length_nil]; omega
      have hget : ∀ j, cur'[j]? = if j = i then some (a.eval x) else cur[j]? := fun j => by
        rw [← hcur', List.getElem?_toArray]
        by_cases h1 : j < i
        · rw [if_neg (by omega), List.append_assoc, List.getElem?_append_left (by simp; omega), List.getElem?_take, if_pos h1]; simp
        · by_cases h2 : j = i
          · subst h2
            rw [if_pos rfl, List.append_assoc, List.getElem?_append_right (by simp; omega), List.getElem?_append_left (by simp; omega)]
            simp [Nat.min_eq_left (show j ≤ cur.size by omega)]
          · rw [if_neg h2, List.getElem?_append_right (by simp; omega), List.getElem?_drop]
            have : i + #[a.eval x].size + (j - (List.take i cur.toList ++ #[a.eval x].toList).length) = j := by
              simp [Nat.min_eq_left (show i ≤ cur.size by omega)]; omega
            rw [this]; simp
      obtain ⟨hw1, hw2⟩ := setRow_facts w g cur cur' e hg
      have hshape : shape (setB H id (.row fr t (xs.set i y))) id = shape H id := by
        have hidl := (hst.own id g hr).2.2.2
        simp [shape, getB_setB, hidl, hb]
      have hext := hst.ext_upd id g (.row fr t (xs.set i y)) e cur cur' hr hg hsz' hw1 hw2 hshape
      refine .inr (.inl ⟨w.setRow g cur', ?_, .undef, σ, _, c, hk, .undef _, hσ.ext hext, ?_⟩)
      · simp [execOp, ho, hae, hrun]
      · refine hst.upd id g _ e cur cur' hr hg hsz' hw1 hw2 hshape (below_setRow (hst.own id g hr).1) (.inr ⟨g, e, cur', hr, hw1, by rw [List.length_set, hsz', hsz1]; exact hsz, fun j u hj => ?_⟩)
        rw [List.getElem?_set] at hj
        split at hj
        · rename_i hij
          subst hij
          obtain rfl : y = u := by simpa using hj
          refine ⟨[a.eval x], hext.drel hd, fun k v hk => ?_⟩
          cases k with
          | zero => simp at hk; subst hk; rw [hsz1, hget, if_pos (by omega)]
          | succ k => simp at hk
        · rename_i hij
          obtain ⟨es, h5, h6⟩ := hel j u hj
          refine ⟨es, hext.drel h5, fun k v hk => ?_⟩
          have hk0 : k = 0 := by
            have := (List.getElem?_eq_some_iff.1 hk).1
            rw [DRel.length _ _ _ h5, hsz1] at this; omega
          have := h6 k v hk
          rw [hget, if_neg (by rw [hsz1]; omega)]
          exact this
    · rename_i cs hb
      simp only [shape, hb, Option.some.injEq, Prod.mk.injEq] at hs
      obtain ⟨rfl, rfl⟩ := hs
      simp only [Nat.mul_one] at hae
      split at h
      · rename_i vs
        obtain ⟨⟨h1, h2, h3, h4⟩, hk⟩ := h
        subst h3
        have hk := (forceL_eq _ _).1 ((forceL_eq _ _).1 hk)
        generalize hax : a.eval x = ax at hx
        cases hx with | agg _ us hrel =>
        exact store_cells hE hst hσ hT ho hb hr hae (by rw [hax]; simpa [Value.cells] using hrel) h1 h2 h4 hk
      · obtain ⟨⟨h1, h2, h3⟩, hk⟩ := h
        subst h3
        have hk := (forceL_eq _ _).1 ((forceL_eq _ _).1 hk)
        have h1c := isCell_one hx h1
        refine store_cells (vs := [vx]) hE hst hσ hT ho hb hr hae (by rw [h1c.2]; exact .cons _ _ _ _ hx .nil) (by simp [allCells, h1]) (by simpa using h2.symm) (by simp; omega) ?_
        simpa [setAt] using hk
    · exact h.elim
  · exact h.elim
end
end Go.Proofs.YtifaanbnijnbdaaDoor.Vc

namespace Go.Proofs.YtifaanbnijnbdaaDoor.Vc
open Go Go.RowKit

section
variable {E : Env} {P : Program} {G : List (Nat × V)} {base : Nat} {w0 : World} {c : Cx} {H : List Blk} {w : World} {σ : List V} {a : Act} {K : V → List V → List Blk → Prop} {o : Oper}

theorem asIdx_ok {v : V} {x : Value} {K : Int → Prop} (h : asIdx v K) (hx : VRel c H w v x) : ∃ k i, x = .int k i ∧ K i := by
  unfold asIdx at h
  split at h
  · cases hx; exact ⟨_, _, rfl, h⟩
  · cases hx; exact ⟨_, _, rfl, h⟩
  · exact h.elim

theorem run_idx_slice {T e : TypeId} {z : Nat} (hu : P.underlying T = some (.slice e)) (hs : (P.info? e).map (·.size) = some z) {g q len cap : Nat} {k : IntKind} {i : Int} (h0 : 0 ≤ i) (h1 : i < len) :
    (Instr.indexAt T (.slice (some ⟨g, q, none⟩) len cap) (.int k i)).run P w = .ok (.pointer (some ⟨g, q + i.toNat * z, none⟩)) w := by
  cases hi : P.info? e with
  | none => rw [hi] at hs; simp at hs
  | some inf =>
    rw [hi] at hs
    simp only [Option.map_some, Option.some.injEq] at hs
    simp [Instr.indexAt, asIntOf, run_underlying hu, h0, h1, sizeOf, typeInfo, hi, hs, Addr.add_lit]

theorem run_idx_arr {T e : TypeId} {z n : Nat} (hu : P.underlying T = some (.array n e)) (hs : (P.info? e).map (·.size) = some z) {g q : Nat} {k : IntKind} {i : Int} (h0 : 0 ≤ i) (h1 : i < n) :
    (Instr.indexAt T (.pointer (some ⟨g, q, none⟩)) (.int k i)).run P w = .ok (.pointer (some ⟨g, q + i.toNat * z, none⟩)) w := by
  cases hi : P.info? e with
  | none => rw [hi] at hs; simp at hs
  | some inf =>
    rw [hi] at hs
    simp only [Option.map_some, Option.some.injEq] at hs
    simp [Instr.indexAt, Instr.sureAddr, asIntOf, run_underlying hu, h0, h1, sizeOf, typeInfo, hi, hs, Addr.add_lit]

theorem InfoOk.size {T : TypeId} {t : Ty} (h : InfoOk P T t) : (P.info? T).map (·.size) = some t.size := by
  obtain ⟨i, z, hi, _, _, hs, _⟩ := h.open
  rw [hi]; simp [hs]

theorem op_indexAddr (hE : EnvOk P E) (hst : St E.glob base w0 c H w) (hσ : VRels c H w σ a.tmps.toList) (T : TypeId) (x ix : Operand) (ho : o.op = .indexAddr T x ix) (h : aop E σ H (.indexAddr T x ix) K) :
    After E.glob base w0 a.tmps.toList K P o a w := by
  have hx := ev_ok hst hσ x
  have hi := ev_ok hst hσ ix
  simp only [aop] at h
  generalize ev E σ x = vx at h hx
  generalize ev E σ ix = vi at h hi
  generalize hax : a.eval x = ax at hx
  generalize hai : a.eval ix = ai at hi
  unfold aindexAddr at h
  split at h
  · rename_i te hT
    obtain ⟨e, hu, hio, hpos⟩ := (lk_ty hE hT).sl
    split at h
    · rename_i fr t xs
      obtain ⟨hz, h⟩ := bif_ok h
      have hz := beq_ok hz
      obtain ⟨k, i, rfl, ⟨h0, h1⟩, hk⟩ := asIdx_ok h hi
      cases hx with | sl _ _ _ _ hd =>
      obtain ⟨ad, cap, e1, e2, e3, e4⟩ := hd
      simp only [List.cons.injEq, and_true] at e1
      subst e1
      obtain ⟨g, q, rfl, hM, hel⟩ := e4 (by intro hh; subst hh; simp at h1; omega)
      have hlt : i.toNat < xs.length := by omega
      have hget : xs[i.toNat]? = some (xs.getD i.toNat t.dflt) := by simp [List.getD_eq_getElem?_getD, List.getElem?_eq_getElem hlt]
      obtain ⟨es, hd, hc⟩ := hel _ _ hget
      have hrun := run_idx_slice (w := w) (k := k) (g := g) (q := q) (cap := cap) hu hio.size h0 h1
      rw [← hz] at hrun
      have hrel := VRel.rp (c := c) (H := H) (w := w) fr t (xs.getD i.toNat t.dflt) 0 g (q + i.toNat * t.size) es hM hd hc
      exact after_pure hst hσ hrel hk (by simp [execOp, ho, hax, hai, hrun])
    · rename_i t id
      cases hx with | own _ _ n ad cap hs hn hc hoo =>
      split at h
      · rename_i fr t' xs hb
        simp only [shape, hb, Option.some.injEq, Prod.mk.injEq] at hs
        obtain ⟨rfl, hz'⟩ := hs
        obtain ⟨hz, h⟩ := bif_ok h
        have hz := beq_ok hz
        obtain ⟨k, i, rfl, ⟨h0, h1⟩, hk⟩ := asIdx_ok h hi
        obtain ⟨g, el, cur, hr, rfl, hg, hsz⟩ := hoo.resolve_left (by intro h0; subst h0; omega)
        have hrun := run_idx_slice (w := w) (k := k) (g := g) (q := 0) (cap := cap) hu hio.size h0 h1
        rw [← hz, Nat.zero_add] at hrun
        have hrel := VRel.ptr (c := c) (H := H) (w := w) id t.size i.toNat 0 g xs.length (by simp [shape, hb, hz']) hr (by omega) (by omega)
        exact after_pure hst hσ hrel hk (by simp [execOp, ho, hax, hai, hrun])
      · rename_i cs hb
        simp only [shape, hb, Option.some.injEq, Prod.mk.injEq] at hs
        obtain ⟨rfl, hz'⟩ := hs
        obtain ⟨hz, h⟩ := bif_ok h
        have hz := beq_ok hz
        obtain ⟨k, i, rfl, ⟨h0, h1⟩, hk⟩ := asIdx_ok h hi
        obtain ⟨g, el, cur, hr, rfl, hg, hsz⟩ := hoo.resolve_left (by intro h0; subst h0; omega)
        have hrun := run_idx_slice (w := w) (k := k) (g := g) (q := 0) (cap := cap) hu hio.size h0 h1
        rw [← hz, Nat.zero_add, ← hz'] at hrun
        have hrel := VRel.ptr (c := c) (H := H) (w := w) id 1 i.toNat 0 g cs.length (by simp [shape, hb]) hr (by omega) (by omega)
        exact after_pure hst hσ hrel hk (by simp only [Nat.mul_one] at hrun; simp [execOp, ho, hax, hai, hrun])
      · exact h.elim
    · rename_i t id off n
      cases hx with | slc _ _ _ _ m ad cap hs hm hn hc hoo =>
      split at h
      · rename_i fr t' xs hb
        obtain ⟨hz, h⟩ := bif_ok h
        have hz := beq_ok hz
        obtain ⟨k, i, rfl, ⟨h0, h1⟩, hk⟩ := asIdx_ok h hi
        obtain ⟨g, el, cur, hr, rfl, hg, hsz⟩ := hoo.resolve_left (by intro h0; subst h0; omega)
        have hrun := run_idx_slice (w := w) (k := k) (g := g) (q := off * t.size) (cap := cap) hu hio.size h0 h1
        rw [← hz, ← Nat.add_mul] at hrun
        have hrel := VRel.ptr (c := c) (H := H) (w := w) id t.size (off + i.toNat) 0 g m hs hr (by omega) (by omega)
        exact after_pure hst hσ hrel hk (by simp [execOp, ho, hax, hai, hrun])
      · exact h.elim
    · exact h.elim
  · rename_i n te hT
    obtain ⟨e, hu, hio, hpos⟩ := (lk_ty hE hT).arr
    split at h
    · rename_i id z j o'
      cases hx with | ptr _ _ _ _ g m hs hr hj ho' =>
      split at h
      · rename_i fr t xs hb
        have hs0 := hs
        simp only [shape, hb, Option.some.injEq, Prod.mk.injEq] at hs
        obtain ⟨rfl, hz'⟩ := hs
        cases hb1 : (Nat.beq j 0 && Nat.beq o' 0 && Nat.beq z te.size && decide (t = te)) with
        | true =>
          rw [hb1] at h
          simp only [cond_true] at h
          simp only [Bool.and_eq_true, decide_eq_true_eq] at hb1
          obtain ⟨⟨⟨q1, q2⟩, q3⟩, q4⟩ := hb1
          have q1 := beq_ok q1
          have q2 := beq_ok q2
          have q3 := beq_ok q3
          subst q1 q2 q4
          obtain ⟨k, i, rfl, ⟨h0, h1, h2⟩, hk⟩ := asIdx_ok h hi
          have hrun := run_idx_arr (w := w) (k := k) (g := g) (q := 0) hu hio.size h0 h1
          rw [← q3, Nat.zero_add] at hrun
          have hrel := VRel.ptr (c := c) (H := H) (w := w) id z i.toNat 0 g xs.length hs0 hr (by omega) ho'
          simp only [Nat.zero_mul, Nat.add_zero] at hax
          exact after_pure hst hσ hrel hk (by simp [execOp, ho, hax, hai, hrun])
        | false =>
          rw [hb1] at h
          simp only [cond_false] at h
          obtain ⟨hb2, hh⟩ := bif_ok h
          clear h
          simp only [Bool.and_eq_true, decide_eq_true_eq] at hb2
          obtain ⟨q1, q2⟩ := hb2
          have q2 := beq_ok q2
          subst q1 q2
          obtain ⟨k, i, rfl, ⟨h0, h1⟩, hk⟩ := asIdx_ok hh hi
          have hrun := run_idx_arr (w := w) (k := k) (g := g) (q := j * z + 0) hu hio.size h0 h1
          have hlt : i.toNat * te.size < z := by
            rw [← hz']
            show i.toNat * te.size < n * te.size
            exact Nat.mul_lt_mul_of_pos_right (by omega) hpos
          have hrel := VRel.ptr (c := c) (H := H) (w := w) id z j (i.toNat * te.size) g xs.length hs0 hr hj hlt
          simp only [Nat.add_zero] at hax hrun
          exact after_pure hst hσ hrel hk (by simp [execOp, ho, hax, hai, hrun])
      · exact h.elim
    · rename_i fr t x o'
      split at h
      · rename_i n' t' xs
        obtain ⟨hb, hh⟩ := bif_ok h
        clear h
        simp only [Bool.and_eq_true, decide_eq_true_eq] at hb
        obtain ⟨⟨q1, q2⟩, q3⟩ := hb
        have q1 := beq_ok q1
        have q3 := beq_ok q3
        subst q1 q2 q3
        obtain ⟨k, i, rfl, ⟨h0, h1⟩, hk⟩ := asIdx_ok hh hi
        cases hx with | rp _ _ _ _ g p0 es hM hd hc =>
        obtain ⟨e0, ess, e1, e2, e3⟩ := hd
        have hrun := run_idx_arr (w := w) (k := k) (g := g) (q := p0 + 0) hu hio.size h0 h1
        have hlt : i.toNat < (xs : List t'.D).length := by omega
        have hget : (xs : List t'.D)[i.toNat]? = some ((xs : List t'.D).getD i.toNat t'.dflt) := by simp [List.getD_eq_getElem?_getD, List.getElem?_eq_getElem hlt]
        have hge : ess[i.toNat]? = some (ess[i.toNat]'(by omega)) := List.getElem?_eq_getElem (by omega)
        have hd' := e3 _ _ _ hget hge
        have hlen : ∀ e ∈ ess, e.length = t'.size := fun e he => by
          obtain ⟨i, hi⟩ := List.mem_iff_getElem?.1 he
          have hlt : i < ess.length := (List.getElem?_eq_some_iff.1 hi).1
          have hx : (xs : List t'.D)[i]? = some ((xs : List t'.D)[i]'(by omega)) := List.getElem?_eq_getElem (by omega)
          exact DRel.length t' _ _ (e3 i _ e hx hi)
        have hfl : ∀ (ess : List (List Value)) (i j : Nat) (e : List Value) (v : Value), (∀ e ∈ ess, e.length = t'.size) → ess[i]? = some e → e[j]? = some v → ess.flatten[i * t'.size + j]? = some v := by
          intro ess
          induction ess with
          | nil => intro i j e v _ h; simp at h
          | cons e0 ess ih =>
            intro i j e v hl h hv
            rw [List.flatten_cons]
            have he0 := hl e0 (by simp)
            cases i with
            | zero =>
              obtain rfl : e0 = e := by simpa using h
              have := (List.getElem?_eq_some_iff.1 hv).1
              rw [Nat.zero_mul, Nat.zero_add, List.getElem?_append_left this]; exact hv
            | succ i =>
              rw [List.getElem?_append_right (by rw [he0, Nat.succ_mul]; omega)]
              rw [show (i + 1) * t'.size + j - e0.length = i * t'.size + j by rw [he0, Nat.succ_mul]; omega]
              exact ih i j e v (fun e he => hl e (by simp [he])) (by simpa using h) hv
        have hrel := VRel.rp (c := c) (H := H) (w := w) fr t' ((xs : List t'.D).getD i.toNat t'.dflt) 0 g (p0 + i.toNat * t'.size) _ hM hd' (fun j v hj => by
          have := hc _ _ (by rw [e1]; exact hfl ess i.toNat j _ v hlen hge hj)
          rw [Nat.add_assoc]; exact this)
        simp only [Nat.add_zero] at hax hrun hrel
        exact after_pure hst hσ hrel hk (by simp [execOp, ho, hax, hai, hrun])
      · exact h.elim
    · exact h.elim
  · exact h.elim
end
end Go.Proofs.YtifaanbnijnbdaaDoor.Vc

namespace Go.Proofs.YtifaanbnijnbdaaDoor.Vc
open Go Go.RowKit

section
variable {E : Env} {P : Program} {G : List (Nat × V)} {base : Nat} {w0 : World} {c : Cx} {H : List Blk} {w : World} {σ : List V} {a : Act} {K : V → List V → List Blk → Prop} {o : Oper}

theorem TyOk.struct {T : TypeId} {t ts : Ty} (h : TyOk P T (.cons t ts)) : ∃ fs, P.underlying T = some (.struct fs) ∧ fs.toList.mapM (fun f => (P.info? f.type).map fun i => (f.offset, i.size)) = some (offs (.cons t ts) 0) := h.2

theorem getO_eq : ∀ (l : List (Nat × Nat)) (i : Nat), getO l i = l[i]?
  | [], i => by cases i <;> rfl
  | x :: l, 0 => rfl
  | x :: l, i + 1 => by simpa [getO] using getO_eq l i

theorem mapM_at : ∀ (fs : List Field) (ps : List (Nat × Nat)), fs.mapM (fun f => (P.info? f.type).map fun i => (f.offset, i.size)) = some ps → ∀ (k : Nat) (x : Nat × Nat), ps[k]? = some x →
    ∃ f i, fs[k]? = some f ∧ P.info? f.type = some i ∧ x = (f.offset, i.size)
  | [], ps, h, k, x, hx => by
    simp only [List.mapM_nil, Option.pure_def, Option.some.injEq] at h
    subst h; simp at hx
  | f :: fs, ps, h, k, x, hx => by
    simp only [List.mapM_cons, Option.bind_eq_bind, Option.pure_def] at h
    cases hi : P.info? f.type with
    | none => rw [hi] at h; simp at h
    | some i =>
      rw [hi] at h
      cases hr : fs.mapM (fun f => (P.info? f.type).map fun i => (f.offset, i.size)) with
      | none => rw [hr] at h; simp at h
      | some rest =>
        rw [hr] at h
        simp only [Option.map_some, Option.bind_some, Option.some.injEq] at h
        subst h
        cases k with
        | zero => simp at hx; exact ⟨f, i, rfl, hi, hx.symm⟩
        | succ k =>
          obtain ⟨f', i', h1, h2, h3⟩ := mapM_at fs rest hr k x (by simpa using hx)
          exact ⟨f', i', by simpa using h1, h2, h3⟩

theorem op_field (hE : EnvOk P E) (hst : St E.glob base w0 c H w) (hσ : VRels c H w σ a.tmps.toList) (S : TypeId) (x : Operand) (f : Nat) (ho : o.op = .fieldAddr S x f) (h : aop E σ H (.fieldAddr S x f) K) :
    After E.glob base w0 a.tmps.toList K P o a w := by
  have hx := ev_ok hst hσ x
  simp only [aop] at h
  generalize ev E σ x = vx at h hx
  generalize hax : a.eval x = ax at hx
  unfold afield at h
  split at h
  · rename_i t ts hT
    obtain ⟨fs, hu, hfs⟩ := (lk_ty hE hT).struct
    split at h
    · rename_i off z hO
      rw [getO_eq] at hO
      obtain ⟨fd, inf, hfd, hinf, hpair⟩ := mapM_at _ _ hfs f _ hO
      simp only [Prod.mk.injEq] at hpair
      obtain ⟨ho1, ho2⟩ := hpair
      obtain ⟨hb, h'⟩ := bif_ok h
      clear h
      have h := h'
      clear h'
      have hz := blt_ok hb
      have hfd' : fs[f]? = some fd := by simpa using hfd
      have hrun : ∀ g q : Nat, (Instr.fieldAt S (.pointer (some ⟨g, q, none⟩)) f).run P w = .ok (.pointer (some ⟨g, q + off, none⟩)) w := fun g q => by
        have hne : ¬ inf.size = 0 := by omega
        simp [Instr.fieldAt, run_underlying hu, hfd', Instr.sureAddr, fieldPlace, sizeOf, typeInfo, hinf, hne, Addr.add_lit, ho1]
      split at h
      · rename_i fr t' y o'
        cases hx with | rp _ _ _ _ g p0 es hM hd hc =>
        have hrel := VRel.rp (c := c) (H := H) (w := w) fr t' y (o' + off) g p0 es hM hd hc
        refine after_pure hst hσ hrel h ?_
        simp [execOp, ho, hax, hrun, Nat.add_assoc]
      · rename_i id zz i o'
        cases hx with | ptr _ _ _ _ g m hs hr hi ho' =>
        split at h
        · rename_i cs hb2
          have hs0 := hs
          simp only [shape, hb2, Option.some.injEq, Prod.mk.injEq] at hs
          obtain ⟨rfl, rfl⟩ := hs
          obtain ⟨hq, hh⟩ := bif_ok h
          clear h
          simp only [Bool.and_eq_true] at hq
          obtain ⟨⟨_, q2⟩, q3⟩ := hq
          have q2 := beq_ok q2
          have q3 := blt_ok q3
          subst q2
          have hrel := VRel.ptr (c := c) (H := H) (w := w) id 1 (i + off) 0 g cs.length hs0 hr q3 (by omega)
          refine after_pure hst hσ hrel hh ?_
          simp [execOp, ho, hax, hrun]
        · obtain ⟨hq, hh⟩ := bif_ok h
          have q3 := blt_ok hq
          have hrel := VRel.ptr (c := c) (H := H) (w := w) id zz i (o' + off) g m hs hr hi q3
          refine after_pure hst hσ hrel hh ?_
          simp [execOp, ho, hax, hrun, Nat.add_assoc]
        · exact h.elim
      · exact h.elim
    · exact h.elim
  · exact h.elim

/-- Cells laid over others, from a place on. -/
def overV : List Value → Nat → List Value → List Value
  | cs, _, [] => cs
  | cs, o, v :: vs => overV (cs.set o v) (o + 1) vs

theorem VRels.over : ∀ {us : List V} {xs : List Value} {cs : List V} {vs : List Value} (_ : VRels c H w us xs) (_ : VRels c H w cs vs) (o : Nat), VRels c H w (setAt cs o us) (overV vs o xs)
  | _, _, _, _, .nil, h, _ => h
  | _, _, _, _, .cons _ _ _ _ h1 h2, h, o => VRels.over h2 (h.set h1 o) (o + 1)

theorem foldl_over : ∀ (l : List Value) (k off : Nat) (arr : Array Value), ((l.zipIdx k).foldl (fun cs (x : Value × Nat) => cs.setIfInBounds (off + x.2) x.1) arr).toList = overV arr.toList (off + k) l
  | [], k, off, arr => rfl
  | v :: l, k, off, arr => by
    rw [List.zipIdx_cons, List.foldl_cons, foldl_over l (k + 1) off]
    simp [overV, Nat.add_assoc]
theorem length_over : ∀ (l : List Value) (cs : List Value) (o : Nat), (overV cs o l).length = cs.length
  | [], cs, o => rfl
  | v :: l, cs, o => by rw [overV, length_over l]; simp

theorem fill_step (place : Nat → Option (Nat × Nat)) (cells : Array Value) (i : Nat) (v : Value) (rest : List (Nat × Value)) (off z : Nat) (hp : place i = some (off, z)) (hz : v.cells.size = z) (hle : off + z ≤ cells.size) :
    Instr.fill place cells ((i, v) :: rest) = Instr.fill place (overV cells.toList off v.cells.toList).toArray rest := by
  have h1 : ¬ (v.cells.size ≠ z ∨ off + v.cells.size > cells.size) := by omega
  have h2 := foldl_over v.cells.toList 0 off cells
  have h3 : (v.cells.zipIdx.foldl (fun cs (x : Value × Nat) => cs.setIfInBounds (off + x.2) x.1) cells) = (overV cells.toList off v.cells.toList).toArray := by
    apply Array.ext'
    rw [← Array.foldl_toList, Array.toList_zipIdx]
    simpa using h2
  have h4 : (v.cells.zipIdx.foldl (fun cs (x : Value × Nat) => match x with | (c, j) => cs.setIfInBounds (off + j) c) cells) = (overV cells.toList off v.cells.toList).toArray := h3
  simp only [Instr.fill, hp]
  rw [if_neg (by simpa using h1)]
  congr 1

theorem cellsOf_rel {x : V} {v : Value} (h : VRel c H w x v) (hne : ∀ l, x ≠ .tup l) (hnu : x ≠ .undef) : VRels c H w (cellsOfV x) v.cells.toList := by
  cases h with
  | agg cs vs h => simpa [cellsOfV, Value.cells] using h
  | tup cs vs h => exact (hne _ rfl).elim
  | undef v => exact (hnu rfl).elim
  | sl fr t xs v hd =>
    obtain ⟨a, cap, h1, h2⟩ := hd
    simp only [List.cons.injEq, and_true] at h1
    subst h1
    exact .cons _ _ _ _ (.sl _ _ _ _ ⟨a, cap, rfl, h2⟩) .nil
  | int k n h1 h2 => exact .cons _ _ _ _ (.int k n h1 h2) .nil
  | u8 x => exact .cons _ _ _ _ (.u8 x) .nil
  | b p x h => exact .cons _ _ _ _ (.b p x h) .nil
  | bt x => exact .cons _ _ _ _ (.bt x) .nil
  | nope => exact .cons _ _ _ _ .nope .nil
  | str s h => exact .cons _ _ _ _ (.str s h) .nil
  | nils => exact .cons _ _ _ _ .nils .nil
  | own t id n a cap hs hn hc ho => exact .cons _ _ _ _ (.own t id n a cap hs hn hc ho) .nil
  | slc t id off n m a cap hs hm hn hc ho => exact .cons _ _ _ _ (.slc t id off n m a cap hs hm hn hc ho) .nil
  | rp fr t x o g p es hM hd hc => exact .cons _ _ _ _ (.rp fr t x o g p es hM hd hc) .nil
  | ptr id z i o g m hs hr hi ho => exact .cons _ _ _ _ (.ptr id z i o g m hs hr hi ho) .nil
  | fn f cs vs h => exact .cons _ _ _ _ (.fn f cs vs h) .nil
  | nilfn => exact .cons _ _ _ _ .nilfn .nil
end
end Go.Proofs.YtifaanbnijnbdaaDoor.Vc

namespace Go.Proofs.YtifaanbnijnbdaaDoor.Vc
open Go Go.RowKit

section
variable {E : Env} {P : Program} {G : List (Nat × V)} {base : Nat} {w0 : World} {c : Cx} {H : List Blk} {w : World} {σ : List V} {a : Act} {K : V → List V → List Blk → Prop} {o : Oper}

theorem evs_ok (hst : St E.glob base w0 c H w) (hσ : VRels c H w σ a.tmps.toList) : ∀ (l : List Operand) (K : List V → Prop), evs E σ l K → ∃ vs, K vs ∧ VRels c H w vs (l.map a.eval)
  | [], K, h => ⟨[], h, .nil⟩
  | x :: l, K, h => by
    have h := (forceV_eq _ _).1 h
    obtain ⟨vs, h1, h2⟩ := evs_ok hst hσ l _ h
    exact ⟨_, h1, .cons _ _ _ _ (ev_ok hst hσ x) h2⟩

theorem evs_map (E : Env) (σ : List V) : ∀ (l : List Operand) (K : List V → Prop), evs E σ l K ↔ K (l.map (ev E σ))
  | [], K => Iff.rfl
  | x :: l, K => by rw [evs, forceV_eq, evs_map E σ l]; rfl

/-! ### struct literals -/
theorem buildF_ok {T : TypeId} {t : Ty} (ps : Array (Nat × Nat)) (hps : ps.toList = offs t 0) : ∀ (parts : List (Nat × V)) (us : List Value) (cs : List V) (xs : List Value) (K : V → Prop),
    VRels c H w (parts.map (·.2)) us → VRels c H w cs xs → abuildF t parts cs K →
    ∃ cs' xs', K (.agg cs') ∧ VRels c H w cs' xs' ∧ Instr.fill (ps[·]?) xs.toArray ((parts.map (·.1)).zip us) = some xs'.toArray
  | [], us, cs, xs, K, _, hc, h => ⟨cs, xs, h, hc, rfl⟩
  | (i, v) :: parts, us, cs, xs, K, hp, hc, h => by
    cases hp with | cons _ u _ us hv hr =>
    unfold abuildF at h
    split at h
    · rename_i off z hO
      obtain ⟨hb, hh⟩ := bif_ok h
      simp only [Bool.and_eq_true] at hb
      obtain ⟨⟨hpart, hz⟩, hle⟩ := hb
      have hz := beq_ok hz
      have hle := ble_ok hle
      have hh := (forceL_eq _ _).1 hh
      have hcells := cellsOf_rel hv (fun l e => by subst e; simp [V.isPart] at hpart) (fun e => by subst e; simp [V.isPart] at hpart)
      have hl1 := hcells.length
      have hl2 := hc.length
      obtain ⟨cs', xs', h1, h2, h3⟩ := buildF_ok (T := T) ps hps parts us _ (overV xs off u.cells.toList) K hr (VRels.over hcells hc off) hh
      refine ⟨cs', xs', h1, h2, ?_⟩
      simp only [List.map_cons, List.zip_cons_cons]
      rw [fill_step _ _ i u _ off z (by rw [getO_eq] at hO; rw [← hO, ← hps]; simp) (by rw [← hz, hl1]; simp) (by simp; omega)]
      exact h3
    · exact h.elim

theorem op_build (hE : EnvOk P E) (hst : St E.glob base w0 c H w) (hσ : VRels c H w σ a.tmps.toList) (T : TypeId) (parts : Array (Nat × Operand)) (ho : o.op = .build T parts) (h : aop E σ H (.build T parts) K) :
    After E.glob base w0 a.tmps.toList K P o a w := by
  simp only [aop] at h
  obtain ⟨vs, h, hvs⟩ := evs_ok hst hσ _ _ h
  unfold abuild at h
  split at h
  · rename_i t ts hT
    have hok := lk_ty hE hT
    obtain ⟨i, z, hi, hz, hzc, hsz, _⟩ := hok.info
    obtain ⟨fs, hu, hfs⟩ := hok.struct
    have h := (forceL_eq _ _).1 h
    have hlen : vs.length = (parts.toList.map (·.1)).length := by rw [hvs.length]; simp
    obtain ⟨cs', xs', h1, h2, h3⟩ := buildF_ok (T := T) (t := .cons t ts) (offs (.cons t ts) 0).toArray (by simp) ((parts.toList.map (·.1)).zip vs) (parts.toList.map fun x => a.eval x.2) (zeroV (.cons t ts)) (zc (.cons t ts)) _ (by
      rw [List.map_snd_zip (by omega)]; rw [List.map_map] at hvs; exact hvs) (zeroV_ok _) h
    refine after_pure hst hσ (VRel.agg _ _ h2) h1 ?_
    rw [List.map_fst_zip (by omega)] at h3
    have hzip : (parts.toList.map (·.1)).zip (parts.toList.map fun x => a.eval x.2) = parts.toList.map fun x => (x.1, a.eval x.2) := by
      rw [List.zip_map']
    rw [hzip] at h3
    have hcell : z.cells = (zc (.cons t ts)).toArray := by rw [← hzc]
    have hparts : (parts.map fun x => (x.1, a.eval x.2)).toList = parts.toList.map fun x => (x.1, a.eval x.2) := by simp
    simp only [List.getElem?_toArray] at h3
    simp [execOp, ho, Instr.build, run_underlying hu, typeInfo, zeroValue, hi, hz, Array.mapM_eq_mapM_toList, run_places w _ _ hfs, hcell, h3]
  · exact h.elim

/-! ### slice literals -/
theorem fill_range (z : Nat) : ∀ (us : List Value) (pre : List Value) (rest : List Value) (k : Nat), (∀ u ∈ us, u.cells.size = z) → pre.length = k * z → rest.length = us.length * z →
    Instr.fill (fun i => some (i * z, z)) (pre ++ rest).toArray ((us.zipIdx k).map fun x => (x.2, x.1)) = some (pre ++ (us.map (·.cells.toList)).flatten).toArray
  | [], pre, rest, k, _, _, hr => by
    have : rest = [] := List.eq_nil_of_length_eq_zero (by simpa using hr)
    subst this; rfl
  | u :: us, pre, rest, k, hz, hp, hr => by
    have hu := hz u (by simp)
    simp only [List.length_cons, Nat.succ_mul] at hr
    rw [List.zipIdx_cons, List.map_cons, fill_step _ _ k u _ (k * z) z rfl hu (by simp; omega)]
    have hov : ∀ (l pre rest : List Value) (n : Nat), n = pre.length → l.length ≤ rest.length → overV (pre ++ rest) n l = pre ++ l ++ rest.drop l.length := by
      intro l
      induction l with
      | nil => intro pre rest n _ _; simp [overV]
      | cons v l ih =>
        intro pre rest n hn hle
        cases rest with
        | nil => simp at hle
        | cons r rest =>
          subst hn
          rw [overV, List.set_append_right _ _ (Nat.le_refl _), Nat.sub_self, List.set_cons_zero]
          have := ih (pre ++ [v]) rest (pre.length + 1) (by simp) (by simpa using hle)
          simp only [List.append_assoc, List.singleton_append] at this
          rw [this]; simp
    have h1 := hov u.cells.toList pre rest (k * z) hp.symm (by simp; omega)
    have h2 := fill_range z us (pre ++ u.cells.toList) (rest.drop u.cells.toList.length) (k + 1) (fun u hu => hz u (by simp [hu])) (by rw [List.length_append, hp, Nat.succ_mul]; simp; omega)
      (by rw [List.length_drop]; simp; omega)
    simp only [h1]
    rw [h2]
    simp

theorem idxOk_ok : ∀ (l : List (Nat × Operand)) (i n : Nat), idxOk l i n = true → n = i + l.length ∧ l = ((l.map (·.2)).zipIdx i).map (fun x => (x.2, x.1))
  | [], i, n, h => ⟨by have := beq_ok h; simp [this], rfl⟩
  | (k, x) :: l, i, n, h => by
    simp only [idxOk, Bool.and_eq_true] at h
    obtain ⟨h1, h2⟩ := h
    have h1 := beq_ok h1
    subst h1
    obtain ⟨h3, h4⟩ := idxOk_ok l (k + 1) n h2
    refine ⟨by simp; omega, ?_⟩
    simp only [List.map_cons, List.zipIdx_cons]
    rw [← h4]

theorem run_buildSlice {T e : TypeId} {t : Ty} (hu : P.underlying T = some (.slice e)) (hio : InfoOk P e t) (us : List Value) (hus : ∀ u ∈ us, u.cells.size = t.size) (hn : us.length ≤ 1000) (hsz : us.length * t.size ≤ 16777216) :
    (Instr.buildSlice T us.length ((us.zipIdx 0).map fun x => (x.2, x.1)).toArray).run P w = .ok (.slice (some ⟨w.heap.size, 0, none⟩) us.length us.length) (w.alloc (.cells (us.map (·.cells.toList)).flatten.toArray e)) := by
  obtain ⟨i, z, hi, hz, hzc, hs, hb⟩ := hio.open
  have hr := fill_range t.size us [] ((Array.range (us.length * t.size)).map (z.cells[· % z.cells.size]!)).toList 0 hus (by simp) (by simp)
  simp only [List.nil_append, Array.toArray_toList] at hr
  have h24 : ¬ (16777216 < us.length * t.size) := by omega
  by_cases h0 : us.length * t.size = 0
  · rw [h0] at hr
    simp only [Array.range_zero', Array.map_empty] at hr
    simp [Instr.buildSlice, run_underlying hu, sizeOf, typeInfo, hi, hs, h0, Array.range_zero', hr, newRow]
  · simp [Instr.buildSlice, run_underlying hu, sizeOf, typeInfo, zeroValue, hi, hz, hs, h24, h0, hr, newRow]

theorem flat_one {α : Type} : ∀ l : List α, (l.map fun u => [u]).flatten = l
  | [] => rfl
  | x :: l => by simp [flat_one l]

theorem asD_flat {t : Ty} {v : V} {x : Value} {K : t.D → Prop} (h : asD H t v K) (hx : VRel c H w v x) (hs : ∀ t', t ≠ .sl t') (M : Nat → Prop) : ∃ y, K y ∧ DRel w M t y [x] ∧ t.size = 1 := by
  unfold asD at h
  split at h
  · split at h
    · cases hx; exact ⟨_, h, rfl, rfl⟩
    · exact h.elim
  · split at h
    · obtain ⟨rfl, h⟩ := h
      cases hx with | int _ _ h1 h2 => exact ⟨_, h, ⟨rfl, h1, h2⟩, rfl⟩
    · exact h.elim
  · split at h
    · cases hx with | str _ h1 => exact ⟨_, h, ⟨rfl, h1⟩, rfl⟩
    · exact h.elim
  · exact (hs _ rfl).elim
  · exact (hs _ rfl).elim
  · exact h.elim

theorem asDs_ok {t : Ty} (hs : ∀ t', t ≠ .sl t') (M : Nat → Prop) : ∀ {vs : List V} {us : List Value} {K : List t.D → Prop}, asDs H t vs K → VRels c H w vs us →
    ∃ xs, K xs ∧ xs.length = us.length ∧ (∀ u ∈ us, u.cells.size = t.size) ∧ ∀ (i : Nat) (x : t.D), xs[i]? = some x → ∃ es : List Value, DRel w M t x es ∧ ∀ (j : Nat) (v : Value), es[j]? = some v → ((us.map (·.cells.toList)).flatten)[i * t.size + j]? = some v
  | [], us, K, h, hr => by
    cases hr
    exact ⟨[], h, rfl, by simp, by simp⟩
  | v :: vs, us, K, h, hr => by
    cases hr with | cons _ u _ us hv hr =>
    obtain ⟨y, h1, h2, h3⟩ := asD_flat h hv hs M
    obtain ⟨xs, g1, g2, g3, g4⟩ := asDs_ok hs M h1 hr
    have hone := DRel.one t y _ h2 u (by simp)
    have hcl : u.cells = #[u] := by cases u <;> first | rfl | simp [Value.oneCell'] at hone
    refine ⟨y :: xs, g1, by simp [g2], fun w hw => ?_, fun i x hx => ?_⟩
    · rcases List.mem_cons.1 hw with rfl | hw
      · rw [hcl, h3]; rfl
      · exact g3 w hw
    · simp only [List.map_cons, List.flatten_cons, hcl]
      cases i with
      | zero =>
        obtain rfl : y = x := by simpa using hx
        refine ⟨[u], h2, fun j v hj => ?_⟩
        cases j with
        | zero => simpa using hj
        | succ j => simp at hj
      | succ i =>
        obtain ⟨es, e1, e2⟩ := g4 i x (by simpa using hx)
        refine ⟨es, e1, fun j v hj => ?_⟩
        have := e2 j v hj
        rw [h3] at this ⊢
        rw [show (i + 1) * 1 + j = (i * 1 + j) + 1 by omega]
        simpa using this

theorem op_buildSlice (hE : EnvOk P E) (hst : St E.glob base w0 c H w) (hσ : VRels c H w σ a.tmps.toList) (T : TypeId) (n : Nat) (parts : Array (Nat × Operand)) (ho : o.op = .buildSlice T n parts) (h : aop E σ H (.buildSlice T n parts) K) :
    After E.glob base w0 a.tmps.toList K P o a w := by
  simp only [aop] at h
  obtain ⟨hb, h⟩ := bif_ok h
  simp only [Bool.and_eq_true] at hb
  obtain ⟨hidx, hn⟩ := hb
  have hn := ble_ok hn
  obtain ⟨hlen, hparts⟩ := idxOk_ok _ _ _ hidx
  rw [Nat.zero_add] at hlen
  obtain ⟨vs, h, hvs⟩ := evs_ok hst hσ _ _ h
  obtain ⟨us, hus⟩ : ∃ us, (parts.toList.map (·.2)).map a.eval = us := ⟨_, rfl⟩
  rw [hus] at hvs
  have hul : us.length = n := by rw [← hus]; simp [hlen]
  have hpe : parts.map (fun x => (x.1, a.eval x.2)) = ((us.zipIdx 0).map fun x => (x.2, x.1)).toArray := by
    apply Array.ext'
    rw [Array.toList_map]
    show List.map (fun x => (x.1, a.eval x.2)) parts.toList = _
    rw [← hus]
    generalize parts.toList.map (·.2) = L at hparts
    rw [hparts, List.zipIdx_map]
    simp [List.map_map, Function.comp_def]
  have hrunOp : ∀ {e : TypeId} {t : Ty}, P.underlying T = some (.slice e) → InfoOk P e t → (∀ u ∈ us, u.cells.size = t.size) → us.length * t.size ≤ 16777216 →
      (execOp a.eval o).run P w = .ok (.value (.slice (some ⟨w.heap.size, 0, none⟩) us.length us.length)) (w.alloc (.cells (us.map (·.cells.toList)).flatten.toArray e)) := fun {e t} hu hio hc hsz => by
    have := run_buildSlice (w := w) hu hio us hc (by omega) hsz
    rw [hul] at this ⊢
    simp only [execOp, ho, hpe, Sem.run_bind, this, Result.andThen_ok, Sem.run_pure]
  unfold abuildSlice at h
  split at h
  · rename_i t hT
    obtain ⟨e, hu, hio, hpos⟩ := (lk_ty hE hT).sl
    obtain ⟨hall, h⟩ := bif_ok h
    have h := (forceL_eq _ _).1 h
    have hone := allCells_one hvs hall
    have hcl : ∀ u ∈ us, u.cells = #[u] := fun u hu => by have := hone u hu; cases u <;> first | rfl | simp [Value.oneCell'] at this
    have hfl : (us.map (·.cells.toList)).flatten = us := by
      have : us.map (·.cells.toList) = us.map fun u => [u] := List.map_congr_left fun u hu => by rw [hcl u hu]
      rw [this]
      exact flat_one us
    have hr := hrunOp hu hio (fun u hu => by rw [hcl u hu]; rfl) (by show us.length * 1 ≤ _; omega)
    rw [hfl] at hr
    obtain ⟨hst', hext⟩ := push_cells (cs := vs) hst us.toArray e (by simpa using hvs) (by simpa using hone)
    refine .inl ⟨_, _, hr, _, σ, _, _, h, ?_, hσ.ext hext, hst'⟩
    refine .own (.sl t) H.length us.length _ us.length (by simp [shape, getB_append, hvs.length, Ty.size]) (Nat.le_refl _) (by unfold maxLen; omega) (.inr ⟨w.heap.size, e, us.toArray, by simp [Cx.push], rfl, heap_alloc_new w _, by simp [Ty.size]⟩)
  · rename_i t hne hT
    obtain ⟨e, hu, hio, hpos⟩ := (lk_ty hE hT).sl
    obtain ⟨xs, h1, h2, h3, h4⟩ := asDs_ok (fun t' e => hne t' (by rw [e])) (c.im true) h hvs
    have h1 := (forceL_eq _ _).1 h1
    have hsz1 : us.length * t.size ≤ 16777216 := by
      cases us with
      | nil => simp
      | cons u us' =>
        cases hvs with | cons _ _ vs' _ hv _ =>
        obtain ⟨y, _, _, hs⟩ := asD_flat (t := t) h hv (fun t' e => hne t' (by rw [e])) (fun _ => True)
        rw [hs]; omega
    have hr := hrunOp hu hio h3 hsz1
    have hfl : ((us.map (·.cells.toList)).flatten).length = us.length * t.size := by
      rw [length_flatten_const t.size]; · simp
      intro l hl
      obtain ⟨u, hu, rfl⟩ := List.mem_map.1 hl
      simpa using h3 u hu
    obtain ⟨hst', hext⟩ := push_row (f := true) hst (us.map (·.cells.toList)).flatten.toArray e (by rw [h2]; simpa using Nat.le_of_eq hfl.symm) (fun i x hx => by
      obtain ⟨es, e1, e2⟩ := h4 i x hx
      exact ⟨es, e1, fun j v hj => by simpa using e2 j v hj⟩)
    have hown := own_new (f := true) hst (t := t) (xs := xs) (us.map (·.cells.toList)).flatten.toArray e us.length (by omega) (by unfold maxLen; omega) (by simpa using Nat.le_of_eq hfl.symm)
    rw [h2] at hown
    exact .inl ⟨_, _, hr, _, σ, _, _, h1, hown, hσ.ext hext, hst'⟩
  · exact h.elim
end
end Go.Proofs.YtifaanbnijnbdaaDoor.Vc

namespace Go.Proofs.YtifaanbnijnbdaaDoor.Vc
open Go Go.RowKit

section
variable {E : Env} {P : Program} {G : List (Nat × V)} {base : Nat} {w0 : World} {c : Cx} {H : List Blk} {w : World} {σ : List V} {a : Act} {K : V → List V → List Blk → Prop} {o : Oper}

theorem madeCells_get (z : Array Value) (n s i j : Nat) (v : Value) (hz : z.size = s) (hi : i < n) (hj : z.toList[j]? = some v) : (madeCells z (n * s))[i * s + j]? = some v := by
  have hlt : j < s := by have := (List.getElem?_eq_some_iff.1 hj).1; simpa [hz] using this
  have h1 : i * s + j < n * s := by
    have : (i + 1) * s ≤ n * s := Nat.mul_le_mul_right _ (by omega)
    rw [Nat.succ_mul] at this; omega
  have h2 : (i * s + j) % z.size = j := by rw [hz, Nat.mul_comm, Nat.mul_add_mod, Nat.mod_eq_of_lt hlt]
  have h3 : z[j]? = some v := by simpa using hj
  have h4 : z[j]! = v := by simp [getElem!_def, h3]
  simp [madeCells, h1, h2, h4]

theorem op_makeSlice (hE : EnvOk P E) (hst : St E.glob base w0 c H w) (hσ : VRels c H w σ a.tmps.toList) (T : TypeId) (l m : Operand) (ho : o.op = .makeSlice T l m) (h : aop E σ H (.makeSlice T l m) K) :
    After E.glob base w0 a.tmps.toList K P o a w := by
  have hl := ev_ok hst hσ l
  have hm := ev_ok hst hσ m
  simp only [aop] at h
  generalize ev E σ l = vl at h hl
  generalize ev E σ m = vm at h hm
  generalize hal : a.eval l = al at hl
  generalize ham : a.eval m = am at hm
  split at h
  · rename_i t kl n km k hT
    obtain ⟨⟨rfl, h0, h1⟩, h⟩ := h
    have h := (forceL_eq _ _).1 h
    obtain ⟨e, hu, hio, hpos⟩ := (lk_ty hE hT).sl
    obtain ⟨i, z, hi, hz, hzc, hs, hb⟩ := hio.open
    cases hl; cases hm
    have hbytes : (i.bytes : Int) * n ≤ 281474976710656 := by
      have e1 : (i.bytes : Int) * n ≤ 4096 * n := Int.mul_le_mul_of_nonneg_right (by omega) h0
      omega
    have hr := run_make (P := P) w T e i z hu hi hz kl km n n h0 (Int.le_refl _) hbytes (by omega)
    have hzs : z.cells.size = t.size := by rw [← zc_length, ← hzc]; simp
    have hmc : (madeCells z.cells (n.toNat * i.size)).size = n.toNat * t.size := by rw [size_madeCells, hs]
    obtain ⟨hst', hext⟩ := push_row (f := true) (t := t) (xs := List.replicate n.toNat t.dflt) hst (madeCells z.cells (n.toNat * i.size)) e (by rw [hmc]; simp) (fun k x hk => by
      rw [List.getElem?_replicate] at hk
      split at hk
      · rename_i hlt
        obtain rfl : t.dflt = x := by simpa using hk
        refine ⟨zc t, zc_dflt w _ t, fun j v hj => ?_⟩
        rw [hs]
        exact madeCells_get z.cells n.toNat t.size k j v hzs hlt (by rw [hzc]; exact hj)
      · simp at hk)
    have hown := own_new (f := true) hst (t := t) (xs := List.replicate n.toNat t.dflt) (madeCells z.cells (n.toNat * i.size)) e n.toNat (by simp) (by unfold maxLen; omega) (by rw [hmc]; omega)
    rw [List.length_replicate] at hown
    exact .inl ⟨_, _, by simp [execOp, ho, hal, ham, hr], _, σ, _, _, h, hown, hσ.ext hext, hst'⟩
  · exact h.elim

theorem setRow_eq {w : World} {g : Nat} {cur : Array Value} : Below g w (w.setRow g cur) := below_setRow (Nat.le_refl _)

theorem op_append (hG : GlobOk E.glob) (hE : EnvOk P E) (hst : St E.glob base w0 c H w) (hσ : VRels c H w σ a.tmps.toList) (x y : Operand) (T : TypeId)
    (ho : o.op = .call { callee := .builtin .append, args := #[x, y], argTypes := #[T, T] }) (h : aappend E σ H T (ev E σ x) (ev E σ y) K) :
    After E.glob base w0 a.tmps.toList K P o a w := by
  have hx := ev_ok hst hσ x
  have hy := ev_ok hst hσ y
  generalize ev E σ x = vx at h hx
  generalize ev E σ y = vy at h hy
  have hexec : ∀ v w', (Builtin.append_ #[T, T] o.type #[a.eval x, a.eval y]).run P w = .ok v w' → (execOp a.eval o).run P w = .ok (.value v) w' := fun v w' hr => by
    unfold execOp
    simp only [ho, resolve, invoke, builtin, Sem.run_bind, Sem.run_pure, Result.andThen_ok, List.map_toArray, List.map_cons, List.map_nil, hr]
  unfold aappend at h
  split at h
  · rename_i t hT
    obtain ⟨e, hu, hio, hpos⟩ := (lk_ty hE hT).sl
    obtain ⟨i, z, hi, hz, hzc, hs, hb⟩ := hio.open
    obtain ⟨f, ys, ay, capy, ⟨hle, h⟩, hay, hcy, hcm, hrow⟩ := asRow_ok hst h hy
    have h := (forceL_eq _ _).1 h
    generalize hax : a.eval x = ax at hx
    cases hx
    rw [hax, hay] at hexec
    by_cases hn : ys = []
    · subst hn
      have hr : (Builtin.append_ #[T, T] o.type #[.slice none 0 0, .slice ay 0 capy]).run P w = .ok (.slice none 0 0) w := by
        cases ay <;> simp [Builtin.append_, run_underlying hu, sizeOf, typeInfo, hi, Builtin.lenOf, Builtin.firstCells, loadCells, loadCellsFrom]
      refine .inl ⟨_, _, hexec _ _ hr, _, σ, _, c, h, ?_, hσ.ext (St.ext_virt _), hst.virt f t⟩
      exact .own t H.length 0 none 0 (by simp [shape, getB_append]) (Nat.le_refl _) (by simp) (.inl rfl)
    · obtain ⟨g, q, rfl, hg, hrw⟩ := hrow hn
      obtain ⟨news, n1, n2, n3, n4⟩ := RowAt.news ys q hrw
      have hylen : 0 < ys.length := List.length_pos_iff.2 hn
      have hbytes : ys.length * i.bytes ≤ 140737488355328 := by
        have := Nat.mul_le_mul hle hb; omega
      have hr := run_append_nil (P := P) w T o.type e i z hu hi hz ⟨g, q, none⟩ ys.length capy news (by rw [n1, hs]) (fun j v hj => by rw [Addr.add_lit]; exact n2 j v hj) hylen (by omega) (by omega)
      have hcap := grownCap_ge w ys.length 0 e
      have hcapm := grownCap_le_maxLen w ys.length 0 e (by unfold maxLen; omega)
      have hzs : z.cells.size = t.size := by rw [← zc_length, ← hzc]; simp
      have hsz : (news.toArray ++ Builtin.zeroCells z.cells (grownCap w ys.length 0 e - ys.length)).size = grownCap w ys.length 0 e * t.size := by
        simp only [Array.size_append, List.size_toArray, size_zeroCells, hzs, n1, ← Nat.add_mul]
        congr 1; omega
      have hdr : St E.glob base w0 c H w.drew := hst.world ((Below.refl _ _).drew)
      have hdrx : Ext c H w c H w.drew := hst.ext_world ((Below.refl _ _).drew)
      obtain ⟨hst', hext⟩ := push_row (f := f) hdr (t := t) (xs := ys) _ e (by rw [hsz]; exact Nat.mul_le_mul_right _ hcap) (fun k u hk => by
        obtain ⟨es, e1, e2⟩ := n4 k u hk
        exact ⟨es, hdrx.drel e1, fun j v hj => by
          have := e2 j v hj
          rw [Array.getElem?_append_left (by simpa using (List.getElem?_eq_some_iff.1 this).1)]; simpa using this⟩)
      have hown := own_new (f := f) hdr (t := t) (xs := ys) _ e (grownCap w ys.length 0 e) hcap hcapm (by rw [hsz]; omega)
      exact .inl ⟨_, _, hexec _ _ hr, _, σ, _, _, h, hown, hσ.ext (hdrx.trans hext), hst'⟩
  · rename_i t t0 id hT
    split at h
    · rename_i fr t' xs hbk
      obtain ⟨⟨e1, e2⟩, h⟩ := h
      subst e1
      have e4 := e2.symm
      subst e4
      obtain ⟨e0, h⟩ := castK_ok h
      have h : asRow H t0 vy fun f ys => (xs.length + ys.length ≤ 1000000000) ∧ forceL (killL id σ) fun σ => forceL (setB (killH id H) id (.row (fr && f) t0 (xs ++ ys))) (K (.own t0 id) σ) := h
      obtain ⟨e, hu, hio, hpos⟩ := (lk_ty hE hT).sl
      obtain ⟨i, z, hi, hz, hzc, hs, hb⟩ := hio.open
      obtain ⟨f, ys, ay, capy, ⟨hle, h⟩, hay, hcy, hcm, hrow⟩ := asRow_ok hst h hy
      have h := (forceL_eq _ _).1 ((forceL_eq _ _).1 h)
      generalize hax : a.eval x = ax at hx
      cases hx with | own _ _ n ax cap hsh hnc hcap ho2 =>
      rw [hax, hay] at hexec
      simp only [shape, hbk, Option.some.injEq, Prod.mk.injEq] at hsh
      obtain ⟨rfl, _⟩ := hsh
      have hzs : z.cells.size = t0.size := by rw [← zc_length, ← hzc]; simp
      -- the dead state
      have hk := hst.kill hG id
      have hkσ : VRels c (deadH H id) w (killL id σ) a.tmps.toList := hσ.killed fun j hj => shape_deadH hj
      have hidl : id < H.length := by
        rcases Nat.lt_or_ge id H.length with g | g
        · exact g
        · rw [getB_ge H id g] at hbk; cases hbk
      have hidl' : id < (deadH H id).length := by unfold deadH; rw [length_setB, length_killH]; exact hidl
      have hset : ∀ b, setB (deadH H id) id b = setB (killH id H) id b := fun b => by
        have key : ∀ (L : List Blk) (k : Nat), setB (setB L k .dead) k b = setB L k b := by
          intro L
          induction L with
          | nil => intro k; rfl
          | cons u L ih => intro k; cases k with
            | zero => rfl
            | succ k => simp [setB, ih]
        exact key _ _
      -- the news
      have hnews : ∃ news : List Value, news.length = ys.length * t0.size ∧ (∀ (j : Nat) (v : Value), news[j]? = some v → ∀ ad, ay = some ad → w.cell? (ad.add j) = some v) ∧ (∀ v ∈ news, v.oneCell' = true) ∧
          ∀ (k : Nat) (u : t0.D), ys[k]? = some u → ∃ es : List Value, DRel w (c.im f) t0 u es ∧ ∀ (j : Nat) (v : Value), es[j]? = some v → news[k * t0.size + j]? = some v := by
        by_cases hn : ys = []
        · subst hn; exact ⟨[], by simp, by simp, by simp, by simp⟩
        · obtain ⟨g, q, rfl, hg, hrw⟩ := hrow hn
          obtain ⟨news, n1, n2, n3, n4⟩ := RowAt.news ys q hrw
          exact ⟨news, n1, fun j v hj ad had => by cases had; rw [Addr.add_lit]; exact n2 j v hj, n3, n4⟩
      obtain ⟨news, n1, n2, n3, n4⟩ := hnews
      -- the old cells
      have hbo := hst.blk id
      rw [hbk] at hbo
      have hbytes : (xs.length + ys.length) * i.bytes ≤ 140737488355328 := by
        have := Nat.mul_le_mul hle hb; omega
      -- flags
      have him : ∀ (b1 b2 : Bool) (u : t0.D) (es : List Value), DRel w (c.im b1) t0 u es → DRel w (c.im (b1 && b2)) t0 u es := fun b1 b2 u es hd => by
        cases b1 <;> cases b2 <;> first | exact hd | exact DRel.ext (fun g hg => (hst.sub g hg).1) (fun _ _ => rfl) _ _ _ hd
      -- where the whole row's cells are known
      have whole : ∀ (cur : Array Value), (∀ (k : Nat) (u : t0.D), xs[k]? = some u → ∃ es : List Value, DRel w (c.im fr) t0 u es ∧ ∀ (j : Nat) (v : Value), es[j]? = some v → cur[k * t0.size + j]? = some v) →
          (∀ j v, news[j]? = some v → cur[xs.length * t0.size + j]? = some v) →
          ∀ (k : Nat) (u : t0.D), (xs ++ ys)[k]? = some u → ∃ es : List Value, DRel w (c.im (fr && f)) t0 u es ∧ ∀ (j : Nat) (v : Value), es[j]? = some v → cur[k * t0.size + j]? = some v := by
        intro cur h1 h2 k u hku
        rw [List.getElem?_append] at hku
        split at hku
        · obtain ⟨es, e1, e2⟩ := h1 k u hku
          exact ⟨es, him fr f u es e1, e2⟩
        · rename_i hge
          obtain ⟨es, e1, e2⟩ := n4 _ u hku
          refine ⟨es, ?_, fun j v hj => ?_⟩
          · have := him f fr u es e1; rwa [Bool.and_comm] at this
          · have := h2 _ _ (e2 j v hj)
            rw [show xs.length * t0.size + ((k - xs.length) * t0.size + j) = k * t0.size + j by
              have : (xs.length + (k - xs.length)) * t0.size = k * t0.size := by congr 1; omega
              rw [Nat.add_mul] at this; omega] at this
            exact this
      rw [← hset] at h
      have hlen : (xs ++ ys).length = xs.length + ys.length := List.length_append
      by_cases hroom : xs.length + ys.length ≤ cap
      · -- there is room
        rcases Nat.eq_zero_or_pos cap with h0 | hpc
        · -- nothing is appended to nothing
          subst h0
          have hx0 : xs = [] := List.eq_nil_of_length_eq_zero (by omega)
          have hy0 : ys = [] := List.eq_nil_of_length_eq_zero (by omega)
          subst hx0 hy0
          have hr : (Builtin.append_ #[T, T] o.type #[.slice ax 0 0, .slice ay 0 capy]).run P w = .ok (.slice ax 0 0) w := by
            cases ax <;> cases ay <;> simp [Builtin.append_, run_underlying hu, sizeOf, typeInfo, hi, Builtin.lenOf, Builtin.firstCells, loadCells, loadCellsFrom, storeCells]
          cases hrho : c.ρ id with
          | some g =>
            obtain ⟨hbg1, hbg2⟩ := hst.own id g hrho
            rcases hbo with ⟨hb1, _⟩ | ⟨g', e', cur, hr', hg', hsz', hel⟩
            · rw [hrho] at hb1; cases hb1
            · rw [hrho] at hr'; cases hr'
              obtain ⟨hst', hext, hv⟩ := revive_row (w' := w) hk id g (fr && f) t0 [] cur e' hidl' getB_deadH_self (fun _ _ _ => rfl) (.inl hrho) hg' (Below.refl _ _) (by simp) (by simp) 0 (by simp) (by simp) (by simp)
              refine .inl ⟨_, _, hexec _ _ hr, _, _, _, _, h, ?_, hkσ.ext hext, hst'⟩
              exact .own t0 id 0 ax 0 (by simp [shape, getB_setB, hidl']) (Nat.le_refl _) (by simp) (.inl rfl)
          | none =>
            -- no place: the number is taken up again as it was
            have hst' : St E.glob base w0 c (setB (deadH H id) id (.row (fr && f) t0 ([] ++ []))) w := by
              have hext : Ext c (deadH H id) w c (setB (deadH H id) id (.row (fr && f) t0 ([] ++ []))) w :=
                ⟨fun _ h => h, fun _ h => h, fun _ _ => rfl, fun j s hs => by
                  have hj : j ≠ id := fun e => by subst e; simp [shape, getB_deadH_self] at hs
                  exact ⟨by rw [shape_setB_ne hj]; exact hs, rfl⟩, fun _ _ _ cur _ _ _ h => ⟨cur, h, rfl⟩⟩
              refine ⟨hk.below, hk.size, fun j => ?_, hk.inj, fun j g hj => by rw [length_setB]; exact hk.own j g hj, hk.imm, hk.sub, fun g x hx => (hk.glob g x hx).ext hext⟩
              rw [getB_setB]
              split
              · rename_i hj; obtain ⟨rfl, _⟩ := hj; exact .inl ⟨hrho, rfl⟩
              · exact BOk.keep hext (fun _ => rfl) (fun _ _ => rfl) (hk.blk j)
            have hext : Ext c (deadH H id) w c (setB (deadH H id) id (.row (fr && f) t0 ([] ++ []))) w :=
              ⟨fun _ h => h, fun _ h => h, fun _ _ => rfl, fun j s hs => by
                have hj : j ≠ id := fun e => by subst e; simp [shape, getB_deadH_self] at hs
                exact ⟨by rw [shape_setB_ne hj]; exact hs, rfl⟩, fun _ _ _ cur _ _ _ h => ⟨cur, h, rfl⟩⟩
            refine .inl ⟨_, _, hexec _ _ hr, _, _, _, _, h, ?_, hkσ.ext hext, hst'⟩
            exact .own t0 id 0 ax 0 (by simp [shape, getB_setB, hidl']) (Nat.le_refl _) (by simp) (.inl rfl)
        · obtain ⟨g, e', cur, hr0, rfl, hg, hsz⟩ := ho2.resolve_left (by omega)
          simp only [Nat.zero_add] at hsz
          have hel : ∀ (k : Nat) (u : t0.D), xs[k]? = some u → ∃ es : List Value, DRel w (c.im fr) t0 u es ∧ ∀ (j : Nat) (v : Value), es[j]? = some v → cur[k * t0.size + j]? = some v := by
            rcases hbo with ⟨hb1, _⟩ | ⟨g', e'', cur', hr', hg', hsz', hel⟩
            · rw [hr0] at hb1; cases hb1
            · rw [hr0] at hr'; cases hr'
              rw [hg] at hg'; cases hg'
              exact hel
          have hfit : xs.length * t0.size + news.length ≤ cur.size := by
            rw [n1, ← Nat.add_mul]; exact Nat.le_trans (Nat.mul_le_mul_right _ hroom) hsz
          obtain ⟨cur', hcur'⟩ : ∃ cur', (cur.toList.take (xs.length * t0.size) ++ news ++ cur.toList.drop (xs.length * t0.size + news.length)).toArray = cur' := ⟨_, rfl⟩
          have hsz' : cur'.size = cur.size := by
            rw [← hcur']; simp only [List.size_toArray, List.length_append, List.length_take, List.length_drop, Array.length_toList]; omega
          have hlo : ∀ j v, j < xs.length * t0.size → cur[j]? = some v → cur'[j]? = some v := fun j v hj hv => by
            rw [← hcur', List.getElem?_toArray, List.append_assoc, List.getElem?_append_left (by simp; omega), List.getElem?_take, if_pos hj]
            simpa using hv
          have hhi : ∀ j v, news[j]? = some v → cur'[xs.length * t0.size + j]? = some v := fun j v hj => by
            have := (List.getElem?_eq_some_iff.1 hj).1
            rw [← hcur', List.getElem?_toArray, List.append_assoc, List.getElem?_append_right (by simp; omega), List.getElem?_append_left (by simp; omega)]
            simpa [Nat.min_eq_left (show xs.length * t0.size ≤ cur.size by omega)] using hj
          have hr : (Builtin.append_ #[T, T] o.type #[.slice (some ⟨g, 0, none⟩) xs.length cap, .slice ay ys.length capy]).run P w = .ok (.slice (some ⟨g, 0, none⟩) (xs.length + ys.length) cap) (w.setRow g cur') := by
            cases ay with
            | some ad =>
              have hst1 := run_storeCells_at P g (xs.length * t0.size) e' news 0 cur w hg (by simpa using hfit) n3
              simp only [Nat.add_zero, hcur'] at hst1
              have hf := run_firstCells_some (P := P) w t0.size ys.length ad ys.length capy news n1 (fun j v hj => n2 j v hj ad rfl)
              simp [Builtin.append_, run_underlying hu, sizeOf, typeInfo, hi, hs, Builtin.lenOf, hroom, hf, Addr.add_lit, hst1]
            | none =>
              have hy0 : ys = [] := by
                by_cases hn : ys = []
                · exact hn
                · obtain ⟨_, _, hh, _⟩ := hrow hn; cases hh
              subst hy0
              have hn0 : news = [] := List.eq_nil_of_length_eq_zero (by simpa using n1)
              subst hn0
              have hcc : cur' = cur := by rw [← hcur']; simp
              have hself : w.setRow g cur = w := setRow_self w g cur e' _ hg
              have hroom' : xs.length ≤ cap := by simpa using hroom
              rw [hcc, hself]
              simp [Builtin.append_, run_underlying hu, sizeOf, typeInfo, hi, hs, Builtin.lenOf, hroom', Builtin.firstCells, storeCells]
          obtain ⟨hw1, hw2⟩ := setRow_facts w g cur cur' e' hg
          have hown0 := hst.own id g hr0
          obtain ⟨hst', hext, hv⟩ := revive_row (w' := w.setRow g cur') hk id g (fr && f) t0 (xs ++ ys) cur' e' hidl' getB_deadH_self
            (fun k _ hk2 => hw2 k fun e => hk2 (by rw [e]; exact hr0) e.symm) (.inl hr0) hw1 (below_setRow hown0.1)
            (by rw [hlen, hsz']; exact Nat.le_trans (Nat.mul_le_mul_right _ hroom) hsz)
            (whole cur' (fun k u hku => by
              obtain ⟨es, e1, e2⟩ := hel k u hku
              refine ⟨es, e1, fun j v hj => hlo _ v ?_ (e2 j v hj)⟩
              have hk1 := (List.getElem?_eq_some_iff.1 hku).1
              have hj1 := (List.getElem?_eq_some_iff.1 hj).1
              rw [DRel.length _ _ _ e1] at hj1
              have : (k + 1) * t0.size ≤ xs.length * t0.size := Nat.mul_le_mul_right _ (by omega)
              rw [Nat.succ_mul] at this; omega) hhi) cap (by rw [hlen]; exact hroom) hcap (by rw [hsz']; exact hsz)
          rw [hlen] at hv
          exact .inl ⟨_, _, hexec _ _ hr, _, _, _, _, h, hv, hkσ.ext hext, hst'⟩
      · -- it grows
        have hyne : ys ≠ [] := fun e => by subst e; simp at hroom; omega
        obtain ⟨gy, qy, rfl, hgy, hrw⟩ := hrow hyne
        have holds : ∃ olds : List Value, olds.length = xs.length * t0.size ∧ (∀ ad, ax = some ad → ∀ (j : Nat) (v : Value), olds[j]? = some v → w.cell? (ad.add j) = some v) ∧
            ∀ (k : Nat) (u : t0.D), xs[k]? = some u → ∃ es : List Value, DRel w (c.im fr) t0 u es ∧ ∀ (j : Nat) (v : Value), es[j]? = some v → olds[k * t0.size + j]? = some v := by
          by_cases hx0 : xs = []
          · subst hx0; exact ⟨[], by simp, by simp, by simp⟩
          · have hc0 : cap ≠ 0 := fun e => hx0 (List.eq_nil_of_length_eq_zero (by omega))
            obtain ⟨g, e', cur, hr0, rfl, hg, hsz⟩ := ho2.resolve_left hc0
            rcases hbo with ⟨hb1, _⟩ | ⟨g', e'', cur', hr', hg', hsz', hel⟩
            · rw [hr0] at hb1; cases hb1
            · rw [hr0] at hr'; cases hr'
              rw [hg] at hg'; cases hg'
              have hrx : RowAt w (c.im fr) t0 g 0 xs := fun k u hku => by
                obtain ⟨es, e1, e2⟩ := hel k u hku
                refine ⟨es, e1, fun j v hj => ?_⟩
                rw [Go.cell_of_row w g _ cur e' (0, 0) hg]
                simpa using e2 j v hj
              obtain ⟨olds, o1, o2, o3, o4⟩ := RowAt.news xs 0 hrx
              exact ⟨olds, o1, fun ad had j v hj => by cases had; rw [Addr.add_lit]; exact o2 j v hj, o4⟩
        obtain ⟨olds, o1, o2, o4⟩ := holds
        have hcapg := grownCap_ge w (xs.length + ys.length) cap e
        have hcapm := grownCap_le_maxLen w (xs.length + ys.length) cap e (by unfold maxLen; omega)
        obtain ⟨cur', hcur'⟩ : ∃ cur', olds.toArray ++ news.toArray ++ Builtin.zeroCells z.cells (grownCap w (xs.length + ys.length) cap e - (xs.length + ys.length)) = cur' := ⟨_, rfl⟩
        have hr : (Builtin.append_ #[T, T] o.type #[.slice ax xs.length cap, .slice (some ⟨gy, qy, none⟩) ys.length capy]).run P w =
            .ok (.slice (some ⟨w.heap.size, 0, none⟩) (xs.length + ys.length) (grownCap w (xs.length + ys.length) cap e)) (w.drew.alloc (.cells cur' e)) := by
          rw [← hcur']
          cases ax with
          | some ad =>
            exact run_append_grow (P := P) w T o.type e i z hu hi hz ad xs.length cap olds (by rw [o1, hs]) (fun j v hj => o2 ad rfl j v hj) ⟨gy, qy, none⟩ ys.length capy news (by rw [n1, hs]) (fun j v hj => n2 j v hj _ rfl) (by omega) (by omega) (growslice_fits (by omega) hbytes)
          | none =>
            have hc0 : cap = 0 := by
              rcases ho2 with h0 | ⟨g, e', cur, _, hh, _⟩
              · exact h0
              · cases hh
            have hx0 : xs = [] := List.eq_nil_of_length_eq_zero (by omega)
            subst hc0 hx0
            have ho0 : olds = [] := List.eq_nil_of_length_eq_zero (by simpa using o1)
            subst ho0
            have := run_append_nil (P := P) w T o.type e i z hu hi hz ⟨gy, qy, none⟩ ys.length capy news (by rw [n1, hs]) (fun j v hj => n2 j v hj _ rfl) (List.length_pos_iff.2 hyne) (by omega) (by simp only [List.length_nil, Nat.zero_add] at hbytes; omega)
            simpa using this
        have hsz : cur'.size = grownCap w (xs.length + ys.length) cap e * t0.size := by
          rw [← hcur']
          simp only [Array.size_append, List.size_toArray, size_zeroCells, hzs, n1, o1, ← Nat.add_mul]
          congr 1; omega
        have hlo : ∀ j v, olds[j]? = some v → cur'[j]? = some v := fun j v hj => by
          have := (List.getElem?_eq_some_iff.1 hj).1
          rw [← hcur', Array.getElem?_append_left (by simp; omega), Array.getElem?_append_left (by simpa using this)]
          simpa using hj
        have hhi : ∀ j v, news[j]? = some v → cur'[xs.length * t0.size + j]? = some v := fun j v hj => by
          have := (List.getElem?_eq_some_iff.1 hj).1
          rw [← hcur', Array.getElem?_append_left (by simp; omega), Array.getElem?_append_right (by simp; omega)]
          simpa [o1] using hj
        have hdr : St E.glob base w0 c (deadH H id) w.drew := hk.world ((Below.refl _ _).drew)
        have hdrx : Ext c (deadH H id) w c (deadH H id) w.drew := hk.ext_world ((Below.refl _ _).drew)
        obtain ⟨hst', hext, hv⟩ := revive_row (w' := w.drew.alloc (.cells cur' e)) hdr id w.heap.size (fr && f) t0 (xs ++ ys) cur' e hidl' getB_deadH_self
          (fun k hk1 _ => Below.heap_alloc _ _ _ hk1) (.inr (Nat.le_refl _)) (heap_alloc_new _ _) ((Below.refl base w.drew).alloc hk.size _)
          (by rw [hlen, hsz]; exact Nat.mul_le_mul_right _ hcapg)
          (fun k u hku => by
            obtain ⟨es, e1, e2⟩ := whole cur' (fun k u hku => by
              obtain ⟨es, e1, e2⟩ := o4 k u hku
              exact ⟨es, e1, fun j v hj => hlo _ v (e2 j v hj)⟩) hhi k u hku
            exact ⟨es, hdrx.drel e1, e2⟩) (grownCap w (xs.length + ys.length) cap e) (by rw [hlen]; exact hcapg) hcapm (by rw [hsz]; exact Nat.le_refl _)
        rw [hlen] at hv
        exact .inl ⟨_, _, hexec _ _ hr, _, _, _, _, h, hv, hkσ.ext (hdrx.trans hext), hst'⟩
    · exact h.elim
  · exact h.elim
end
end Go.Proofs.YtifaanbnijnbdaaDoor.Vc

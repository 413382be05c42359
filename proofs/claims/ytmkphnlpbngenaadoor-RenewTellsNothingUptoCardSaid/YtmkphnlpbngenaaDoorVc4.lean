/- Texts of this claim: Vc.UB, Vc.U, Vc.W. -/
import Derived.Test.YtmkphnlpbngenaaDoorVc3
import Derived.Tactics
import Derived.OrdersIn
import Derived.TacticsIn
import Derived.RangeFuncCalls
set_option linter.unusedVariables false
set_option linter.unusedSimpArgs false
namespace Go.Proofs.YtmkphnlpbngenaaDoor.Vc
open Go Go.RowKit

section
variable {G : List (Nat × V)} {base : Nat} {w0 : W0} {c : Cx} {H : List Blk} {w : World}

theorem beq_no {i id : Nat} (h : i ≠ id) : Nat.beq i id = false := by
  cases hb : Nat.beq i id with
  | false => rfl
  | true => exact absurd (Nat.eq_of_beq_eq_true hb) h
mutual
theorem VRel.nom {id : Nat} (hs : shape H id = none) : ∀ {x : V} {v : Value}, VRel c H w x v → x.mentions id = false
  | _, _, .undef _ => rfl
  | _, _, .nope => rfl
  | _, _, .int _ _ _ _ => rfl
  | _, _, .u8 _ => rfl
  | _, _, .b _ _ _ => rfl
  | _, _, .bt _ => rfl
  | _, _, .str _ _ => rfl
  | _, _, .nils => rfl
  | _, _, .sl _ _ _ _ _ => rfl
  | _, _, .own t i n a cap h _ _ _ => beq_no (i := i) fun e => by subst e; rw [hs] at h; cases h
  | _, _, .slc t i off n m a cap h _ _ _ _ => beq_no (i := i) fun e => by subst e; rw [hs] at h; cases h
  | _, _, .rp _ _ _ _ _ _ _ _ _ _ => rfl
  | _, _, .ptr i z j o g m h _ _ _ => beq_no (i := i) fun e => by subst e; rw [hs] at h; cases h
  | _, _, .agg cs vs h => VRels.nom hs h
  | _, _, .tup cs vs h => VRels.nom hs h
  | _, _, .fn f cs vs h => VRels.nom hs h
  | _, _, .nilfn => rfl
  | _, _, .yld _ _ => rfl
  | _, _, .dat _ _ _ _ _ => rfl
theorem VRels.nom {id : Nat} (hs : shape H id = none) : ∀ {xs : List V} {vs : List Value}, VRels c H w xs vs → V.mentionsL id xs = false
  | _, _, .nil => rfl
  | _, _, .cons x v xs vs h hx => by rw [V.mentionsL, VRel.nom hs h, VRels.nom hs hx]; rfl
end
theorem mentionsL_of {id : Nat} : ∀ {cs : List V}, (∀ j, j < cs.length → (gets cs j).mentions id = false) → V.mentionsL id cs = false
  | [], _ => rfl
  | x :: cs, h => by
    rw [V.mentionsL, show x.mentions id = false from h 0 (by simp), mentionsL_of fun j hj => h (j + 1) (by simpa using hj)]; rfl
theorem St.nomH (h : St G base w0 c H w) {id : Nat} (hs : shape H id = none) {j : Nat} {cs : List V} (hj : getB H j = .cells cs) : V.mentionsL id cs = false := by
  have hb := h.blk j
  rw [hj] at hb
  rcases hb with ⟨g, e, cur, h1, h2, h3, h4⟩ | ⟨_, _, h2⟩
  · exact mentionsL_of fun k hk => by obtain ⟨v, _, _, hv⟩ := h4 k hk; exact hv.nom hs
  · exact h2.nom hs
theorem frzH_id (id : Nat) (y : V) : ∀ H : List Blk, (∀ j cs, getB H j = .cells cs → V.mentionsL id cs = false) → frzH id y H = H
  | [], _ => rfl
  | b :: H, h => by
    rw [frzH, frzH_id id y H fun j cs hj => h (j + 1) cs hj]
    congr 1
    cases b with
    | cells cs => rw [frzB, frzL_id id y cs (h 0 cs rfl)]
    | _ => rfl
theorem frzH_app (id : Nat) (y : V) : ∀ A B : List Blk, frzH id y (A ++ B) = frzH id y A ++ frzH id y B
  | [], B => rfl
  | b :: A, B => by rw [List.cons_append, frzH, frzH_app id y A B, frzH]; rfl
theorem setB_last (b : Blk) (x : Blk) : ∀ H : List Blk, setB (H ++ [x]) H.length b = H ++ [b]
  | [] => rfl
  | y :: H => by rw [List.cons_append, List.length_cons, setB, setB_last b x H]; rfl

theorem Ext.undead : Ext c (H ++ [.dead]) w c H w where
  M g h := h
  N g h := h
  mem g _ := rfl
  shp id s hs := by
    refine ⟨?_, rfl⟩
    have e : shape (H ++ [.dead]) id = if id = H.length then none else shape H id := by
      unfold shape
      rw [getB_append]
      by_cases g : id = H.length
      · rw [if_pos g, if_pos g]
      · rw [if_neg g, if_neg g]
    rw [e] at hs
    by_cases g : id = H.length
    · rw [if_pos g] at hs; cases hs
    · rwa [if_neg g] at hs
  siz id s g cur e _ _ hg := ⟨cur, hg, rfl⟩
  x := rfl
  gi := rfl
theorem St.undead (h : St G base w0 c (H ++ [.dead]) w) (hr : c.ρ H.length = none) : St G base w0 c H w where
  below := h.below
  xk := h.xk
  size := h.size
  blk id := by
    have hb := h.blk id
    rw [getB_append] at hb
    split at hb
    · rename_i e
      rw [getB_ge H id (by omega)]
      trivial
    · exact hb.keep Ext.undead (fun _ => rfl) fun _ _ => rfl
  inj := h.inj
  own i g hi := by
    obtain ⟨h1, h2, h3, h4⟩ := h.own i g hi
    refine ⟨h1, h2, h3, ?_⟩
    rw [List.length_append, List.length_cons, List.length_nil] at h4
    rcases Nat.lt_or_ge i H.length with g' | g'
    · exact g'
    · have : i = H.length := by omega
      subst this
      rw [hr] at hi
      cases hi
  imm := h.imm
  sub := h.sub
  glob g x hx := (h.glob g x hx).ext Ext.undead

/-- A new row that is given up at once. -/
theorem St.lit (hG : GlobOk G) {c' : Cx} {w' : World} {fr : Bool} {t : Ty} {xs : List t.D} {σ : List V} {tm : List Value} {v : Value} (h0 : St G base w0 c H w) (hσ0 : VRels c H w σ tm)
    (h : St G base w0 c' (H ++ [.row fr t xs]) w') (hσ : VRels c' (H ++ [.row fr t xs]) w' σ tm) (hv : VRel c' (H ++ [.row fr t xs]) w' (.own t H.length) v) :
    ∃ c'', St G base w0 c'' H w' ∧ VRels c'' H w' σ tm ∧ VRel c'' H w' (.sl fr t xs) v := by
  have hs : shape H H.length = none := by unfold shape; rw [getB_ge H _ (Nat.le_refl _)]
  have hb : getB (H ++ [.row fr t xs]) H.length = .row fr t xs := by rw [getB_append, if_pos rfl]
  have e : setB (frzH H.length (.sl fr t xs) (H ++ [.row fr t xs])) H.length .dead = H ++ [.dead] := by
    rw [frzH_app, frzH_id _ _ H fun j cs hj => h0.nomH hs hj]
    exact setB_last _ _ H
  have s1 := h.frz hG hb
  have s2 := hσ.frz (H' := setB (frzH H.length (.sl fr t xs) (H ++ [.row fr t xs])) H.length .dead) (fun j hj => shape_frz hj) fun t' v hv => frz_row h hb t' v hv
  have s3 := frz_row h hb t v hv (H' := H ++ [.dead])
  rw [e] at s1 s2
  rw [frzL_id _ _ _ (hσ0.nom hs)] at s2
  exact ⟨c'.frz H.length, s1.undead (by simp [Cx.frz]), s2.ext Ext.undead, s3.ext Ext.undead⟩
end

section
variable {G : List (Nat × V)} {base : Nat} {w0 : W0} {c : Cx} {H : List Blk} {w : World}
theorem shape_setB_other {b : Blk} {id r : Nat} (h : id ≠ r) : shape (setB H r b) id = shape H id := by
  unfold shape
  rw [getB_setB, if_neg (by simp [h])]
theorem St.ext_at (h : St G base w0 c H w) {r : Nat} (hr : getB H r = .dead) (b : Blk) (cur : Array Value) (e : TypeId) : Ext c H w (c.push r w.heap.size) (setB H r b) (w.alloc (.cells cur e)) where
  M g hg := hg
  N g hg := hg
  mem g hg := Below.heap_alloc w _ g (h.imm g (hg.elim id fun hn => (h.sub g hn).1))
  shp id s hs := by
    have hne : id ≠ r := fun e => by subst e; simp [shape, hr] at hs
    exact ⟨by rw [shape_setB_other hne]; exact hs, by simp [Cx.push, hne]⟩
  siz id s g cur' e' _ hr hg := ⟨cur', (Below.heap_alloc w _ g (h.own id g hr).2.1).trans hg, rfl⟩
  x := rfl
  gi := rfl
theorem St.at (h : St G base w0 c H w) {r : Nat} (hr : getB H r = .dead) (hrl : r < H.length) (b : Blk) (cur : Array Value) (e : TypeId)
    (hb : BOk (c.push r w.heap.size) (setB H r b) (w.alloc (.cells cur e)) r b) : St G base w0 (c.push r w.heap.size) (setB H r b) (w.alloc (.cells cur e)) where
  below := h.below.alloc h.size _
  xk := h.xk.step rfl (fun h => h) (fun g hg => .inl hg) (fun i g hi => by
    simp only [Cx.push] at hi
    split at hi
    · exact .inr (by simp at hi; omega)
    · exact .inl ⟨i, hi⟩) (fun g o ho => .inl ((Below.heap_alloc w _ g (Array.getElem?_eq_some_iff.1 ho).1).trans ho))
  size := by have := h.size; simp; omega
  blk id := by
    rw [getB_setB]
    split
    · rename_i hid; rw [hid.1]; exact hb
    · rename_i hid
      have hne : id ≠ r := fun e => hid ⟨e, hrl⟩
      exact BOk.keep (h.ext_at hr b cur e) (fun _ => by simp [Cx.push, hne]) (fun g hg => Below.heap_alloc w _ g (h.own id g hg).2.1) (h.blk id)
  inj i j g hi hj := by
    simp only [Cx.push] at hi hj
    split at hi <;> split at hj
    · omega
    · have := (h.own j g hj).2.1; simp at hi; omega
    · have := (h.own i g hi).2.1; simp at hj; omega
    · exact h.inj i j g hi hj
  own i g hi := by
    simp only [Cx.push] at hi
    split at hi
    · rename_i hid
      simp at hi
      subst hi
      have := h.size
      exact ⟨this, by simp, fun hm => absurd (h.imm _ hm) (Nat.lt_irrefl _), by rw [length_setB, hid]; exact hrl⟩
    · obtain ⟨h1, h2, h3, h4⟩ := h.own i g hi
      exact ⟨h1, by simp; omega, h3, by rw [length_setB]; exact h4⟩
  imm g hg := by have := h.imm g hg; simp; omega
  sub := h.sub
  glob g x hx := (h.glob g x hx).ext (h.ext_at hr b cur e)
/-- Places that are set aside. -/
theorem getB_res (H : List Blk) (m : Nat) : ∀ id, getB (H ++ List.replicate m .dead) id = getB H id := by
  induction H with
  | nil =>
    intro id
    rw [List.nil_append]
    induction m generalizing id with
    | zero => rfl
    | succ m ih =>
      rw [List.replicate_succ]
      cases id with
      | zero => rfl
      | succ id => exact (ih id).trans (by cases id <;> rfl)
  | cons b H ih =>
    intro id
    cases id with
    | zero => rfl
    | succ id => exact ih id
theorem shape_res (m id : Nat) : shape (H ++ List.replicate m .dead) id = shape H id := by unfold shape; rw [getB_res]
theorem Ext.res (m : Nat) : Ext c H w c (H ++ List.replicate m .dead) w where
  M g h := h
  N g h := h
  mem g _ := rfl
  shp id s hs := ⟨by rw [shape_res]; exact hs, rfl⟩
  siz id s g cur e _ _ hg := ⟨cur, hg, rfl⟩
  x := rfl
  gi := rfl
theorem St.res (h : St G base w0 c H w) (m : Nat) : St G base w0 c (H ++ List.replicate m .dead) w where
  below := h.below
  xk := h.xk
  size := h.size
  blk id := by rw [getB_res]; exact (h.blk id).keep (Ext.res m) (fun _ => rfl) fun _ _ => rfl
  inj := h.inj
  own i g hi := by
    obtain ⟨h1, h2, h3, h4⟩ := h.own i g hi
    exact ⟨h1, h2, h3, by rw [List.length_append]; omega⟩
  imm := h.imm
  sub := h.sub
  glob g x hx := (h.glob g x hx).ext (Ext.res m)
end

section
variable {E : Env} {P : Program} {base : Nat} {w0 : W0} {c : Cx} {H : List Blk} {w : World} {σ : List V} {a : Act} {K : V → List V → List Blk → Prop} {o : Oper}
theorem After.mono {G : List (Nat × V)} {tm : List Value} {K' : V → List V → List Blk → Prop} (h : After G base w0 tm K P o a w) (hk : ∀ v w', Step G base w0 tm K v w' → Step G base w0 tm K' v w') : After G base w0 tm K' P o a w := by
  rcases h with ⟨v, w', hr, hs⟩ | ⟨w', hr, hs⟩ | ⟨f, args, w', hr, hc⟩
  · exact .inl ⟨v, w', hr, hk _ _ hs⟩
  · exact .inr (.inl ⟨w', hr, hk _ _ hs⟩)
  · exact .inr (.inr ⟨f, args, w', hr, hc.mono fun e w'' ⟨v, he, hs⟩ => ⟨v, he, hk _ _ hs⟩⟩)

theorem virt_own {op : Op} (hv : virtE E op = true) (h : aopV E σ H op K) {K2 : V → List V → List Blk → Prop} (hk2 : ∀ (f : Bool) (t : Ty) (xs : List t.D), K (.sl f t xs) σ H → K2 (.own t H.length) σ (H ++ [.row f t xs])) : aop E σ H op K2 := by
  cases op <;> first | (simp [virtE] at hv; done) | skip
  rename_i T n ps
  simp only [virtE, Bool.and_eq_true] at hv
  obtain ⟨hn, hT⟩ := hv
  have hn := Nat.eq_of_beq_eq_true hn
  subst hn
  unfold aopV at h
  unfold aop
  dsimp only at h ⊢
  obtain ⟨hb, h⟩ := bif_ok h
  rw [hb]
  simp only [show Nat.ble 1 1000 = true from rfl, Bool.and_self, cond_true]
  have hp : Point (fun K : List V → Prop => evs E σ (ps.toList.map (·.2)) K) := .evs (f := fun vs K => K vs) fun vs => .ret vs
  obtain ⟨vs, h1, h2⟩ := hp _ h
  refine h2 _ ?_
  unfold abuildSlice
  generalize lk E.ty T = r at h1 hT ⊢
  rcases r with _ | t
  · exact h1.elim
  · cases t <;> first | exact h1.elim | skip
    rename_i t
    have main : (bif Nat.ble (vs.length * t.size) 16777216 then asEls t vs fun f xs => K (.sl (t.flat || f) t xs) σ H else False) → (bif Nat.ble (vs.length * t.size) 16777216 then asEls t vs fun f xs => forceL (H ++ [.row (t.flat || f) t xs]) (K2 (.own t H.length) σ) else False) := fun hk => by
      obtain ⟨hb, hk⟩ := bif_ok hk
      rw [hb]
      simp only [cond_true]
      have hp : Point (fun K : Bool × List t.D → Prop => asEls t vs fun f xs => K (f, xs)) := .asEls (f := fun f xs K => K (f, xs)) fun f xs => .ret _
      obtain ⟨⟨f, xs⟩, h3, h4⟩ := hp (fun p => K (.sl (t.flat || p.1) t p.2) σ H) hk
      refine h4 (fun p => forceL (H ++ [.row (t.flat || p.1) t p.2]) (K2 (.own t H.length) σ)) ?_
      simp only [forceL_eq]
      exact hk2 _ _ _ h3
    cases t <;> first | exact main h1 | (simp at hT; done)

theorem op_allocAt (hE : EnvOk P E) (hst : St E.glob base w0 c H w) (hσ : VRels c H w σ a.tmps.toList) {r : Nat} (h : aopA E r σ H o.op K) : After E.glob base w0 a.tmps.toList K P o a w := by
  generalize ho : o.op = op at h
  cases op <;> first | exact h.elim | skip
  rename_i T
  unfold aopA at h
  dsimp only at h
  split at h <;> first | exact h.elim | skip
  rename_i hr
  obtain ⟨hrl, h⟩ := bif_ok h
  simp only [Nat.blt_eq] at hrl
  split at h
  · rename_i n t hT
    have hok := lk_ty hE hT
    obtain ⟨i, z, hi, hz, hzc, hsz, _⟩ := hok.info
    obtain ⟨hb, h⟩ := bif_ok h
    simp only [Bool.and_eq_true, Nat.blt_eq] at hb
    have h' := (forceL_eq _ _).1 h
    have hext := hst.ext_at hr (.row true t (List.replicate n t.dflt)) z.cells T
    have hst' := hst.at hr hrl (.row true t (List.replicate n t.dflt)) z.cells T (.inr ⟨w.heap.size, T, z.cells, by simp [Cx.push], heap_alloc_new w _, by
        have : z.cells.toList.length = n * t.size := by rw [hzc, zc_length]; rfl
        rw [List.length_replicate]; simpa using Nat.le_of_eq this.symm, fun k x hk => by
        rw [List.getElem?_replicate] at hk
        split at hk
        · rename_i hlt
          obtain rfl : t.dflt = x := by simpa using hk
          refine ⟨zc t, zc_dflt _ _ t, fun j v hj => ?_⟩
          have := flatten_replicate_get (zc t) n k j v hlt hj
          rw [zc_length] at this
          rw [← Array.getElem?_toList, hzc]
          exact this
        · simp at hk⟩)
    refine .inl ⟨.pointer (some ⟨w.heap.size, 0, none⟩), _, ?_, _, σ, _, _, h', ?_, hσ.ext hext, hst'⟩
    · simp [execOp, ho, Instr.alloc, zeroValue, typeInfo, hi, hz, newVar, newRow]
    · have := VRel.ptr (c := c.push r w.heap.size) (H := setB H r (.row true t (List.replicate n t.dflt))) (w := w.alloc (.cells z.cells T)) r t.size 0 0 w.heap.size n (by simp [shape, getB_setB, hrl]) (by simp [Cx.push]) hb.1 hb.2
      simpa using this
  · rename_i t _ hT
    have hok := lk_ty hE hT
    obtain ⟨i, z, hi, hz, hzc, hsz, _⟩ := hok.info
    obtain ⟨hb, h⟩ := bif_ok h
    simp only [Nat.blt_eq] at hb
    have h' := (forceL_eq _ _).1 ((forceL_eq _ _).1 h)
    have hext := hst.ext_at hr (.cells (zeroV t)) z.cells T
    have hrel : VRels c H w (zeroV t) z.cells.toList := by rw [hzc]; exact zeroV_ok t
    have hone : ∀ v ∈ z.cells.toList, v.oneCell' = true := by rw [hzc]; exact DRel.one t _ _ (zc_dflt w (fun _ => True) t)
    have hlen := hrel.length
    have hl : (zeroV t).length = t.size := by rw [(zeroV_ok (c := c) (H := H) (w := w) t).length, zc_length]
    have hst' := hst.at hr hrl (.cells (zeroV t)) z.cells T (.inl ⟨w.heap.size, T, z.cells, by simp [Cx.push], heap_alloc_new w _, by simpa using Nat.le_of_eq hlen, fun j hj => by
      have hj' : j < z.cells.toList.length := by omega
      have hget : z.cells[j]? = some (z.cells.toList[j]) := by simp [Array.getElem?_eq_getElem (show j < z.cells.size by simpa using hj')]
      refine ⟨z.cells.toList[j], hget, hone _ (List.getElem_mem _), ?_⟩
      have := (hrel.get j).ext hext
      simpa [List.getD_eq_getElem?_getD, List.getElem?_eq_getElem hj'] using this⟩)
    refine .inl ⟨.pointer (some ⟨w.heap.size, 0, none⟩), _, ?_, _, σ, _, _, h', ?_, hσ.ext hext, hst'⟩
    · simp [execOp, ho, Instr.alloc, zeroValue, typeInfo, hi, hz, newVar, newRow]
    · have := VRel.ptr (c := c.push r w.heap.size) (H := setB H r (.cells (zeroV t))) (w := w.alloc (.cells z.cells T)) r 1 0 0 w.heap.size t.size (by simp [shape, getB_setB, hrl, hl]) (by simp [Cx.push]) hb (by omega)
      simpa using this
  · exact h.elim

theorem killL_nom (id : Nat) : ∀ l : List V, V.mentionsL id (killL id l) = false
  | [] => rfl
  | x :: l => by
    rw [killL, V.mentionsL, killL_nom id l, Bool.or_false]
    cases h : x.mentions id with
    | true => rfl
    | false => exact h
theorem getB_ext : ∀ {A B : List Blk}, A.length = B.length → (∀ id, getB A id = getB B id) → A = B
  | [], [], _, _ => rfl
  | x :: A, y :: B, h, hg => by
    have h0 : x = y := hg 0
    subst h0
    rw [getB_ext (A := A) (B := B) (by simpa using h) fun t => hg (t + 1)]
  | [], _ :: _, h, _ => by simp at h
  | _ :: _, [], h, _ => by simp at h
theorem frz_killed (id : Nat) (y : V) (b : Blk) (H : List Blk) : setB (frzH id y (setB (killH id H) id b)) id .dead = setB (killH id H) id .dead := by
  refine getB_ext (by rw [length_setB, length_frzH, length_setB, length_setB]) fun j => ?_
  rw [getB_setB, getB_setB, length_frzH, length_setB]
  by_cases h : j = id ∧ id < (killH id H).length
  · rw [if_pos h, if_pos h]
  · rw [if_neg h, if_neg h, getB_frzH, getB_setB, if_neg h, getB_killH]
    cases getB H j with
    | cells cs => show Blk.cells (frzL id y (killL id cs)) = .cells (killL id cs); rw [frzL_id _ _ _ (killL_nom id cs)]
    | _ => rfl
theorem appF_own {op : Op} (h : aopF E σ H op K) {K2 : V → List V → List Blk → Prop} (h1 : ∀ (f : Bool) (t : Ty) (xs : List t.D), K (.sl f t xs) σ (H ++ [.dead]) → K2 (.own t H.length) σ (H ++ [.row f t xs]))
    (h2 : ∀ (id : Nat) (f : Bool) (t : Ty) (xs : List t.D), getB H id ≠ .dead → K (.sl f t xs) (killL id σ) (setB (killH id H) id .dead) → K2 (.own t id) (killL id σ) (setB (killH id H) id (.row f t xs))) : aop E σ H op K2 := by
  cases op <;> first | exact h.elim | skip
  rename_i c
  obtain ⟨callee, args, tys⟩ := c
  cases callee <;> first | exact h.elim | skip
  rename_i b
  cases b <;> first | exact h.elim | skip
  unfold aopF at h
  unfold aop
  dsimp only at h ⊢
  split at h <;> first | exact h.elim | skip
  obtain ⟨hb, h⟩ := bif_ok h
  rw [hb]
  simp only [cond_true]
  unfold aappendF at h
  unfold aappend
  split at h
  · rename_i t hT hx
    have hp : ∀ y, Point (fun K : Bool × List t.D → Prop => asRow H t y fun f ys => (ys.length ≤ 1000000000) ∧ K (f, ys)) := fun y => .asRow fun b l => .and (.ret _)
    obtain ⟨⟨f, ys⟩, g1, g2⟩ := hp _ (fun p => forceL (H ++ [.dead]) (K (.sl p.1 t p.2) σ)) h
    exact g2 (fun p => forceL (H ++ [.row p.1 t p.2]) (K2 (.own t H.length) σ)) ((forceL_eq _ _).2 (h1 f t ys ((forceL_eq _ _).1 g1)))
  · rename_i t t0 id hT hx
    split at h
    · rename_i fr t' xs hbk
      refine ⟨h.1, ?_⟩
      have hp : ∀ y, Point (fun K : List t.D × Bool × List t.D → Prop => castK xs fun xs => asRow H t y fun f ys => (xs.length + ys.length ≤ 1000000000) ∧ K (xs, f, ys)) := fun y => .castK fun l => .asRow fun b l => .and (.ret _)
      obtain ⟨⟨xs2, f, ys⟩, g1, g2⟩ := hp _ (fun p => forceL (killL id σ) fun σ => forceL (setB (killH id H) id .dead) (K (.sl (fr && p.2.1) t (p.1 ++ p.2.2)) σ)) h.2
      refine g2 (fun p => forceL (killL id σ) fun σ => forceL (setB (killH id H) id (.row (fr && p.2.1) t (p.1 ++ p.2.2))) (K2 (.own _ id) σ)) ?_
      simp only [forceL_eq] at g1 ⊢
      have := h2 id (fr && f) t (xs2 ++ ys) (by rw [hbk]; simp) g1
      exact this
    · exact h.elim
  · exact h.elim
theorem aopX_ok (hG : GlobOk E.glob) (hE : EnvOk P E) (hst : St E.glob base w0 c H w) (hσ : VRels c H w σ a.tmps.toList) {r : Nat} (h : aopX E r σ H o.op K) : After E.glob base w0 a.tmps.toList K P o a w := by
  unfold aopX at h
  cases hv : virtE E o.op with
  | false =>
    rw [hv] at h
    simp only [cond_false] at h
    cases ha : isAlO o.op with
    | true => rw [ha] at h; exact op_allocAt hE hst hσ h
    | false =>
      rw [ha] at h
      simp only [cond_false] at h
      cases hf : (Nat.beq r 1 && isApp o.op) with
      | false => rw [hf] at h; exact aop_ok hG hE hst hσ h
      | true =>
        rw [hf] at h
        refine (aop_ok (K := fun v σ' H' => (∃ (f : Bool) (t : Ty) (xs : List t.D), v = .own t H.length ∧ σ' = σ ∧ H' = H ++ [.row f t xs] ∧ K (.sl f t xs) σ (H ++ [.dead])) ∨
          ∃ (id : Nat) (f : Bool) (t : Ty) (xs : List t.D), v = .own t id ∧ σ' = killL id σ ∧ H' = setB (killH id H) id (.row f t xs) ∧ getB H id ≠ .dead ∧ K (.sl f t xs) (killL id σ) (setB (killH id H) id .dead)) hG hE hst hσ
          (appF_own h (fun f t xs hk => .inl ⟨f, t, xs, rfl, rfl, rfl, hk⟩) fun id f t xs hd hk => .inr ⟨id, f, t, xs, rfl, rfl, rfl, hd, hk⟩)).mono fun v w' ⟨x, σ', H', c', hx', hx, hσ', hst'⟩ => ?_
        rcases hx' with ⟨f, t, xs, e1, e2, e3, hk⟩ | ⟨id, f, t, xs, e1, e2, e3, hd, hk⟩
        · subst e1 e2 e3
          have hs : shape H H.length = none := by unfold shape; rw [getB_ge H _ (Nat.le_refl _)]
          have hb : getB (H ++ [.row f t xs]) H.length = .row f t xs := by rw [getB_append, if_pos rfl]
          have e : setB (frzH H.length (.sl f t xs) (H ++ [.row f t xs])) H.length .dead = H ++ [.dead] := by
            rw [frzH_app, frzH_id _ _ H fun j cs hj => hst.nomH hs hj]
            exact setB_last _ _ H
          have s1 := hst'.frz hG hb
          have s2 := hσ'.frz (H' := setB (frzH H.length (.sl f t xs) (H ++ [.row f t xs])) H.length .dead) (fun j hj => shape_frz hj) fun t' v hv => frz_row hst' hb t' v hv
          have s3 := frz_row hst' hb t v hx (H' := H ++ [.dead])
          rw [e] at s1 s2
          rw [frzL_id _ _ _ (hσ.nom hs)] at s2
          exact ⟨_, _, _, _, hk, s3, s2, s1⟩
        · subst e1 e2 e3
          have hl : id < (killH id H).length := by
            rw [length_killH]
            rcases Nat.lt_or_ge id H.length with g | g
            · exact g
            · exact absurd (getB_ge H id g) hd
          have hb : getB (setB (killH id H) id (.row f t xs)) id = .row f t xs := by rw [getB_setB, if_pos ⟨rfl, hl⟩]
          have e := frz_killed id (.sl f t xs) (.row f t xs) H
          have s1 := hst'.frz hG hb
          have s2 := hσ'.frz (H' := setB (frzH id (.sl f t xs) (setB (killH id H) id (.row f t xs))) id .dead) (fun j hj => shape_frz hj) fun t' v hv => frz_row hst' hb t' v hv
          have s3 := frz_row hst' hb t v hx (H' := setB (killH id H) id .dead)
          rw [e] at s1 s2
          rw [frzL_id _ _ _ (killL_nom id σ)] at s2
          exact ⟨_, _, _, _, hk, s3, s2, s1⟩
  | true =>
    rw [hv] at h
    refine (aop_ok (K := fun v σ' H' => ∃ (f : Bool) (t : Ty) (xs : List t.D), v = .own t H.length ∧ σ' = σ ∧ H' = H ++ [.row f t xs] ∧ K (.sl f t xs) σ H) hG hE hst hσ (virt_own hv h fun f t xs hk => ⟨f, t, xs, rfl, rfl, rfl, hk⟩)).mono fun v w' ⟨x, σ', H', c', ⟨f, t, xs, e1, e2, e3, hk⟩, hx, hσ', hst'⟩ => ?_
    subst e1 e2 e3
    obtain ⟨c'', s1, s2, s3⟩ := St.lit hG hst hσ hst' hσ' hx
    exact ⟨_, _, _, c'', hk, s3, s2, s1⟩
theorem aopX_defer {d} {r : Nat} : ¬ aopX E r σ H (.defer d) K := fun h => by
  unfold aopX at h
  cases hf : (Nat.beq r 1 && isApp (.defer d)) with
  | true => simp [isApp] at hf
  | false => exact (show aop E σ H (.defer d) K by rw [show virtE E (.defer d) = false from rfl, show isAlO (.defer d) = false from rfl, hf] at h; exact h).elim
end
end Go.Proofs.YtmkphnlpbngenaaDoor.Vc

namespace Go.Proofs.YtmkphnlpbngenaaDoor.Vc
open Go Go.RowKit

section
/-- By what a frame's state may be measured. -/
abbrev Ses := Nat → W0 → Prop

/-- Of a function, or of a round. -/
def Fen (ro : Option Nat) : Fence := { Fence.wide with round := ro }

theorem callsIn_fen {ro : Option Nat} {P : Program} {f : FuncId} {args : Array Value} {w : World} {R : Ending → World → Prop} (h : Calls P f args w R) : CallsIn (Fen ro) 0 P f args w R := by
  cases ro with
  | none => exact callsIn_wide.2 h
  | some l => exact CallsIn.inRound l (callsIn_wide.2 h)

/-- The marks that loops over functions have left. -/
def Marks (w0 : W0) (ds : List Deferred) : Prop :=
  ∃ gs : List Nat, gs.Nodup ∧ ds = gs.map (fun g => { target := .collected g, args := #[] }) ∧ ∀ g ∈ gs, w0.mks g

theorem Marks.nil {w0 : W0} : Marks w0 [] := ⟨[], List.nodup_nil, rfl, by simp⟩

variable {E : Env} {P : Program} {S : Ses} {ro : Option Nat}

/-- The state of a frame. -/
def Sta (E : Env) (S : Ses) (σ : List V) (H : List Blk) (a : Act) (w : World) : Prop :=
  ∃ c b v, S b v ∧ St E.glob b v c H w ∧ VRels c H w σ a.tmps.toList ∧ Marks v a.defers

theorem put_some (a : Act) (d : Nat) (v : Value) : (a.put (some d) v).tmps.toList = a.tmps.toList.set d v := by simp [Act.put]
theorem put_defers (a : Act) (d : Option Nat) (v : Value) : (a.put d v).defers = a.defers := by cases d <;> rfl

theorem setDst_ok {c : Cx} {H : List Blk} {w : World} {σ : List V} {a : Act} {d : Option Nat} {x : V} {v : Value} {K : List V → Prop} (h : setDst σ d x K) (hσ : VRels c H w σ a.tmps.toList) (hx : VRel c H w x v) :
    ∃ σ', K σ' ∧ VRels c H w σ' (a.put d v).tmps.toList := by
  cases d with
  | none => exact ⟨σ, h, hσ⟩
  | some d =>
    have h := (forceL_eq _ _).1 ((normV_eq x fun x => forceL (sets σ d x) K).1 h)
    exact ⟨_, h, by rw [put_some]; exact hσ.set hx d⟩

/-- One operation, its guard looked at. -/
def aopAt (E : Env) (all : List Oper) (r : Nat) (o : Oper) (σ : List V) (H : List Blk) (K : List V → List Blk → Prop) : Prop :=
  aguard all σ o.guard (aopX E r σ H o.op fun v σ H => setDst σ o.dst v fun σ => K σ H) (setDst σ o.dst .nope fun σ => K σ H)

theorem After.wpIn {G : List (Nat × V)} {base : Nat} {w0 : W0} {tm : List Value} {K : V → List V → List Blk → Prop} {o : Oper} {a : Act} {w : World}
    {next : Act → World → Prop} {Q : Exit → Act → World → Prop} (h : After G base w0 tm K P o a w) (hnd : ∀ c, o.op ≠ .defer c) (hn : ∀ v w', Step G base w0 tm K v w' → next (a.put o.dst v) w') : o.wpIn (Fen ro) 0 P a w next Q := by
  refine ⟨fun _ _ => trivial, ?_⟩
  rw [Oper.semAt_eq _ _ _ hnd]
  rcases h with ⟨v, w', hr, hs⟩ | ⟨w', hr, hs⟩ | ⟨f, args, w', hr, hc⟩
  · rw [hr]; exact hn v w' hs
  · rw [hr]; exact hn _ w' hs
  · rw [hr]
    refine ⟨(fun h => by cases h), callsIn_fen (hc.mono fun e w'' ⟨v, he, hs⟩ => ?_)⟩
    subst he
    exact hn v w'' hs

theorem aop_yes (hG : GlobOk E.glob) (hE : EnvOk P E) {o : Oper} {σ : List V} {H : List Blk} {K : List V → List Blk → Prop} {a : Act} {w : World} {next : Act → World → Prop} {Q : Exit → Act → World → Prop}
    (hs : Sta E S σ H a w) (hn : ∀ σ' H' a' w', K σ' H' → Sta E S σ' H' a' w' → next a' w') (h : aop E σ H o.op (fun v σ H => setDst σ o.dst v fun σ => K σ H)) : o.wpIn (Fen ro) 0 P a w next Q := by
  obtain ⟨c, b, v, hS, hst, hσ, hd⟩ := hs
  refine (aop_ok hG hE hst hσ h).wpIn (fun d e => by rw [e] at h; exact h.elim) fun v w' ⟨x, σ', H', c', hk, hx, hσ', hst'⟩ => ?_
  obtain ⟨σ'', hk, hσ''⟩ := setDst_ok hk hσ' hx
  exact hn _ _ _ _ hk ⟨c', b, _, hS, hst', hσ'', by rw [put_defers]; exact hd⟩

theorem aopX_yes (hG : GlobOk E.glob) (hE : EnvOk P E) {o : Oper} {σ : List V} {H : List Blk} {K : List V → List Blk → Prop} {a : Act} {w : World} {next : Act → World → Prop} {Q : Exit → Act → World → Prop}
    (hs : Sta E S σ H a w) (hn : ∀ σ' H' a' w', K σ' H' → Sta E S σ' H' a' w' → next a' w') {r : Nat} (h : aopX E r σ H o.op (fun v σ H => setDst σ o.dst v fun σ => K σ H)) : o.wpIn (Fen ro) 0 P a w next Q := by
  obtain ⟨c, b, v, hS, hst, hσ, hd⟩ := hs
  refine (aopX_ok hG hE hst hσ h).wpIn (fun d e => by rw [e] at h; exact aopX_defer h) fun v w' ⟨x, σ', H', c', hk, hx, hσ', hst'⟩ => ?_
  obtain ⟨σ'', hk, hσ''⟩ := setDst_ok hk hσ' hx
  exact hn _ _ _ _ hk ⟨c', b, _, hS, hst', hσ'', by rw [put_defers]; exact hd⟩

/-- The guard of an operation, looked at: it is run, or left out. -/
theorem guard_ok {all : Array Oper} {o : Oper} {σ : List V} {H : List Blk} {yes no : Prop} {a : Act} {w : World} {Y N : Prop}
    (hs : Sta E S σ H a w) (h : aguard all.toList σ o.guard yes no) (hY : yes → Y) (hN : no → N) : if Region.wanted o (yielded all a.tmps) then Y else N := by
  obtain ⟨c, b, v, hS, hst, hσ, hd⟩ := hs
  unfold aguard at h
  split at h
  · rename_i hg
    rw [if_pos (by simp [Region.wanted, hg])]
    exact (hY h)
  · rename_i j b hg
    split at h
    · rename_i t ht
      have hrel := hσ.get t
      have hlen := hσ.length
      have hte : (all[j]?).bind (·.dst) = some t := by simpa using ht
      have hget : t < σ.length → a.tmps[t]? = some (a.tmps.toList.getD t undef) := fun g => by
        rw [hlen] at g
        have hlt : t < a.tmps.size := by simpa using g
        simp [List.getD_eq_getElem?_getD, hlt]
      have hlt : gets σ t ≠ .undef → t < σ.length := fun hne => by
        rcases Nat.lt_or_ge t σ.length with g | g
        · exact g
        · exact absurd (by rw [gets_eq]; simp [List.getD_eq_getElem?_getD, List.getElem?_eq_none g]) hne
      have hw : ∀ x, a.tmps.toList.getD t undef = .bool x → gets σ t ≠ .undef → Region.wanted o (yielded all a.tmps) = (x == b) := fun x hx hne => by
        have hg2 := hget (hlt hne)
        rw [hx] at hg2
        have hy : yielded all a.tmps j = some x := by simp [yielded, hte, hg2]
        simp only [Region.wanted, hg, hy]; cases x <;> cases b <;> rfl
      split at h
      · rename_i p hp
        rw [hp] at hrel hw
        generalize a.tmps.toList.getD t undef = u at hrel hw
        cases hrel with | b _ x hx =>
        rw [hw x rfl (by simp)]
        cases b with
        | true =>
          cases x with
          | true => exact (hY (h.1 (hx.1 rfl)))
          | false => exact hN (h.2 fun hp => by simpa using hx.2 hp)
        | false =>
          cases x with
          | true => exact hN (h.2 (hx.1 rfl))
          | false => exact (hY (h.1 fun hp => by simpa using hx.2 hp))
      · rename_i hp
        rw [hp] at hrel
        have hlt' := hlt (by rw [hp]; simp)
        have hg2 := hget hlt'
        generalize a.tmps.toList.getD t undef = u at hrel hg2
        cases hrel
        have hy : yielded all a.tmps j = none := by simp [yielded, hte, hg2, undef]
        have hw2 : Region.wanted o (yielded all a.tmps) = false := by simp only [Region.wanted, hg, hy]; cases b <;> rfl
        rw [hw2]
        exact hN h
      · rename_i hp
        rw [hp] at hrel hw
        generalize a.tmps.toList.getD t undef = u at hrel hw
        cases hrel
        rw [hw true rfl (by simp)]
        cases b with
        | true => exact (hY h)
        | false => exact hN h
      · rename_i hp
        rw [hp] at hrel hw
        generalize a.tmps.toList.getD t undef = u at hrel hw
        cases hrel
        rw [hw false rfl (by simp)]
        cases b with
        | true => exact hN h
        | false => exact (hY h)
      · exact h.elim
    · exact h.elim

theorem aopAt_ok (hG : GlobOk E.glob) (hE : EnvOk P E) {all : Array Oper} {r : Nat} {o : Oper} {σ : List V} {H : List Blk} {K : List V → List Blk → Prop} {a : Act} {w : World} {next : Act → World → Prop} {Q : Exit → Act → World → Prop}
    (hs : Sta E S σ H a w) (h : aopAt E all.toList r o σ H K) (hn : ∀ σ' H' a' w', K σ' H' → Sta E S σ' H' a' w' → next a' w') :
    if Region.wanted o (yielded all a.tmps) then o.wpIn (Fen ro) 0 P a w next Q else (∀ f, o.about P w a.eval = some f → (Fen ro).fn f) ∧ next (a.put o.dst undef) w :=
  guard_ok hs h (aopX_yes hG hE hs hn) fun h => ⟨fun _ _ => trivial, by
    obtain ⟨c, b, v, hS, hst, hσ, hd⟩ := hs
    obtain ⟨σ'', hk, hσ''⟩ := setDst_ok h hσ .nope
    exact hn _ _ _ _ hk ⟨c, b, v, hS, hst, hσ'', by rw [put_defers]; exact hd⟩⟩

/-- What is settled in a state. -/
theorem Sta.settle {σ : List V} {H : List Blk} {a : Act} {w : World} (h : Sta E S σ H a w) {t : Nat} {x : Bool} (hx : a.tmps.toList.getD t undef = .bool x) : Sta E S (sets σ t (.bt x)) H a w := by
  obtain ⟨c, b, v, hS, hst, hσ, hd⟩ := h
  refine ⟨c, b, v, hS, hst, ?_, hd⟩
  have := hσ.set (VRel.bt (c := c) (H := H) (w := w) x) t
  have e : a.tmps.toList.set t (.bool x) = a.tmps.toList := by
    rw [← hx]
    by_cases ht : t < a.tmps.toList.length
    · apply List.ext_getElem (by simp)
      intro i h1 h2
      rw [List.getElem_set]
      split
      · rename_i e; subst e; simp only [List.getD_eq_getElem?_getD, List.getElem?_eq_getElem ht, Option.getD_some]
      · rfl
    · exact List.set_eq_of_length_le (by omega)
  rwa [e] at this

/-- One operation, or a call of yield, its guard looked at, and settled. -/
def aopAtR (E : Env) (all : List Oper) (o : Oper) (σ : List V) (H : List Blk) (K : List V → List Blk → Prop) : Prop :=
  aguardR all σ o.guard (fun σ => aopY E σ H o K) (fun σ => setDst σ o.dst .nope fun σ => K σ H)

/-- To look at a guard and to settle it: as with a state in which it is settled. -/
theorem aguardR_ok {all : List Oper} {σ : List V} {g : Option (Nat × Bool)} {yes no : List V → Prop} {H : List Blk} {a : Act} {w : World} (hs : Sta E S σ H a w) (h : aguardR all σ g yes no) :
    ∃ σ', Sta E S σ' H a w ∧ aguard all σ' g (yes σ') (no σ') := by
  unfold aguardR at h
  unfold aguard
  cases g with
  | none => exact ⟨σ, hs, h⟩
  | some g =>
    obtain ⟨j, b⟩ := g
    dsimp only at h ⊢
    cases ht : (all[j]?).bind (·.dst) with
    | none => rw [ht] at h; exact h.elim
    | some t =>
      rw [ht] at h
      dsimp only at h ⊢
      have hlt : gets σ t ≠ .undef → t < σ.length := fun hne => by
        rcases Nat.lt_or_ge t σ.length with g | g
        · exact g
        · exact absurd (by rw [gets_eq]; simp [List.getD_eq_getElem?_getD, List.getElem?_eq_none g]) hne
      have hset : ∀ x : V, gets σ t ≠ .undef → gets (sets σ t x) t = x := fun x hne => by
        rw [gets_eq, sets_eq]
        simp [List.getD_eq_getElem?_getD, hlt hne]
      obtain ⟨c, b0, v0, hS, hst, hσ, hd⟩ := id hs
      have hrel := hσ.get t
      cases hg : gets σ t <;> rw [hg] at h hrel <;> try exact h.elim
      · exact ⟨σ, hs, by rw [hg]; exact h⟩
      · rename_i p
        have hne : gets σ t ≠ .undef := by rw [hg]; simp
        generalize hu : a.tmps.toList.getD t undef = u at hrel
        cases hrel with | b _ x hx =>
        refine ⟨_, hs.settle hu, ?_⟩
        rw [hset _ hne]
        cases b with
        | true =>
          cases x with
          | true => exact (forceL_eq _ _).1 (h.1 (hx.1 rfl))
          | false => exact (forceL_eq _ _).1 (h.2 fun hp => by simpa using hx.2 hp)
        | false =>
          cases x with
          | true => exact (forceL_eq _ _).1 (h.2 (hx.1 rfl))
          | false => exact (forceL_eq _ _).1 (h.1 fun hp => by simpa using hx.2 hp)
      · rename_i x
        refine ⟨σ, hs, ?_⟩
        rw [hg]
        cases x <;> exact h

/-- What a state is measured by, where yield is called. -/
def YLaw (P : Program) (S : Ses) (L : (Nat × (Nat → List V))) : Prop :=
  ∀ b v, S b v → b = v.w.heap.size ∧ (∀ g, v.D g = none) ∧ (∀ g, v.Z g = none) ∧ (∀ g, ¬ v.mks g) ∧ v.gh = [] ∧
    (∀ k X W W', v.J k X W → Below W.heap.size W W' → v.J k X W') ∧ RoundLaw P v.l v.J L ∧ ∀ X W, S W.heap.size { v with w := W, X := X }

theorem yop_ok (hN : noRef E.glob) {ks : List PK} {L : (Nat × (Nat → List V))} (hY : YLaw P S L) {o : Oper} {t : Nat} {args : Array Operand} {ts : Array TypeId} (ho : o.op = .call { callee := .value (.tmp t), args, argTypes := ts }) {k : Nat}
    {σ : List V} {H : List Blk} {K : List V → List Blk → Prop} {a : Act} {w : World} {next : Act → World → Prop} {Q : Exit → Act → World → Prop} (hs : Sta E S σ H a w) (ht : gets σ t = .yld (some k))
    (h : evs E σ args.toList fun vs => asArgs H ks vs fun ds => (k < L.1 ∧ ds = L.2 k) ∧
      (forceL (yL (some (k + 1)) σ) fun σ => setDst σ o.dst (.bt true) fun σ => K σ []) ∧ (forceL (yL none σ) fun σ => setDst σ o.dst (.bt false) fun σ => K σ []))
    (hn : ∀ σ' H' a' w', K σ' H' → Sta E S σ' H' a' w' → next a' w') : o.wpIn (Fen none) 0 P a w next Q := by
  obtain ⟨c, b, v, hS, hst, hσ, hd⟩ := hs
  obtain ⟨hb, hD, hZ, hmk0, hgh, hJ, hR, hS'⟩ := hY b v hS
  have hrel := hσ.get t
  rw [ht] at hrel
  have hat : a.eval (.tmp t) = a.tmps.toList.getD t undef := by simp [Act.eval, Array.getD_eq_getD_getElem?]
  generalize hval : a.tmps.toList.getD t undef = fv at hrel hat
  cases hrel with | yld _ hk =>
  obtain ⟨vs, h1, h2⟩ := evs_ok hst hσ _ _ h
  let U : Nat → Prop := fun g => c.M g ∨ ∃ i, c.ρ i = some g
  obtain ⟨ds, ⟨⟨hlt, rfl⟩, hyes, hno⟩, h4⟩ := asArgs_ok (U := U) hst (fun g hg => .inl hg) (fun i g hi => .inr ⟨i, hi⟩) ks vs _ _ h1 h2
  have hcnt := hst.xk.cnt
  rw [← hk] at hcnt
  have hbel : Below v.w.heap.size v.w w := hb ▸ hst.below
  have hJw := hJ _ _ _ _ hcnt hbel
  obtain ⟨fn, tmps, as, body, hrun, hround⟩ := hR k v.X w U _ hJw hlt (fun g hg => by
    rcases hg with hg | ⟨i, hi⟩
    · exact ⟨hst.xk.dis g hg, hst.imm g hg⟩
    · exact ⟨fun hX => (hst.xk.xb g hX).2 i hi, (hst.own i g hi).2.1⟩) h4
  refine ⟨fun _ _ => trivial, ?_⟩
  rw [Oper.semAt_eq _ _ _ (fun d e => by rw [ho] at e; cases e)]
  have hex : (execOp a.eval o).run P w = .ok (.round c.x.l fn tmps as body) w := by
    have hl := hst.xk.l
    rw [← hl] at hrun
    simp only [execOp, ho, resolve, hat, Deferred.ofValue, Sem.run_bind, Sem.run_pure, Result.andThen_ok]
    rw [← Array.toList_map, Array.toArray_toList] at hrun
    simpa [invoke] using hrun
  rw [hex]
  refine ⟨(fun h => by cases h), ?_⟩
  rw [hst.xk.l]
  refine hround.mono ?_
  rintro e W' ⟨x, rfl, hsz, hkept, hJ'⟩
  have hMX : ∀ g, c.M g → W'.heap[g]? = w.heap[g]? := fun g hg => hkept g (hst.imm g hg) (hst.xk.dis g hg)
  let v' : W0 := { v with w := W', X := fun g => v.X g ∨ (w.heap.size ≤ g ∧ g < W'.heap.size) }
  let xt : Xt := ⟨[], if x then some (k + 1) else none, v.l⟩
  have hst' : St E.glob W'.heap.size v' (Cx.of c.M xt) [] W' := hst.calm hN (fun g hg => hg) hMX (Below.refl _ _)
    { keep := fun g o h => by have := hD g; rw [show v'.D g = v.D g from rfl, this] at h; cases h
      siz := fun g n h => by have := hZ g; rw [show v'.Z g = v.Z g from rfl, this] at h; cases h
      cnt := hJ'
      gh := hgh.symm
      l := rfl
      dis := fun g hg hX => by
        rcases hX with hX | hX
        · exact hst.xk.dis g hg hX
        · have := hst.imm g hg; omega
      xb := fun g hX => by
        refine ⟨?_, fun i hi => by cases hi⟩
        rcases hX with hX | hX
        · have := (hst.xk.xb g hX).1; omega
        · exact hX.2
      mks := fun g h => absurd h (hmk0 g)
      gi := fun _ => rfl }
    (Nat.le_refl _) (fun g hg => Nat.lt_of_lt_of_le (hst.imm g hg) hsz)
  have hσ' : VRels (Cx.of c.M xt) [] W' (yL (if x then some (k + 1) else none) σ) a.tmps.toList :=
    VRels.y (c := c) (c' := Cx.of c.M xt) (fun g hg => hg) (fun g hg => (hst.sub g hg).1) (fun g hg => hMX g (hg.elim id fun hg => (hst.sub g hg).1)) rfl hst.xk.l.symm hσ
  have hmk : Marks v' a.defers := by
    obtain ⟨gs, hg1, hg2, hg3⟩ := hd
    cases gs with
    | nil => exact ⟨[], hg1, hg2, by simp⟩
    | cons g gs => exact absurd (hg3 g (by simp)) (hmk0 g)
  cases x with
  | true =>
    obtain ⟨σ'', h5, h6⟩ := setDst_ok ((forceL_eq _ _).1 hyes) hσ' (VRel.bt true)
    exact hn _ _ _ _ h5 ⟨_, _, v', hS' _ _, hst', h6, by rw [put_defers]; exact hmk⟩
  | false =>
    obtain ⟨σ'', h5, h6⟩ := setDst_ok ((forceL_eq _ _).1 hno) hσ' (VRel.bt false)
    exact hn _ _ _ _ h5 ⟨_, _, v', hS' _ _, hst', h6, by rw [put_defers]; exact hmk⟩

theorem frzOps_ok (hG : GlobOk E.glob) : ∀ (l : List Operand) {σ : List V} {H : List Blk} {K : List V → List Blk → Prop} {a : Act} {w : World}, Sta E S σ H a w → frzOps l σ H K → ∃ σ' H', K σ' H' ∧ Sta E S σ' H' a w
  | [], σ, H, K, a, w, hs, h => ⟨σ, H, h, hs⟩
  | x :: l, σ, H, K, a, w, hs, h => by
    unfold frzOps at h
    split at h
    · split at h
      · rename_i t t0 id hg
        split at h
        · rename_i fr t xs hb
          have h := (forceL_eq _ _).1 ((forceL_eq _ _).1 h)
          obtain ⟨c, b, v, hS, hst, hσ, hd⟩ := hs
          have hy : ∀ t v, VRel c H w (.own t id) v → VRel (c.frz id) (setB (frzH id (.sl fr _ xs) H) id .dead) w (.sl fr _ xs) v := fun t' v hv => frz_row hst hb t' v hv
          have hsh : ∀ j, j ≠ id → shape (setB (frzH id (.sl fr _ xs) H) id .dead) j = shape H j := fun j hj => shape_frz hj
          exact frzOps_ok hG l ⟨c.frz id, b, v, hS, hst.frz hG hb, hσ.frz hsh hy, hd⟩ h
        · exact frzOps_ok hG l hs h
      · exact frzOps_ok hG l hs h
    · exact frzOps_ok hG l hs h

theorem aopY_ok (hG : GlobOk E.glob) (hN : noRef E.glob) (hE : EnvOk P E) (hY : ∀ q, E.yl = some q → ro = none ∧ YLaw P S q.2) {o : Oper} {σ : List V} {H : List Blk} {K : List V → List Blk → Prop} {a : Act} {w : World} {next : Act → World → Prop} {Q : Exit → Act → World → Prop}
    (hs : Sta E S σ H a w) (hn : ∀ σ' H' a' w', K σ' H' → Sta E S σ' H' a' w' → next a' w') (h : aopY E σ H o K) : o.wpIn (Fen ro) 0 P a w next Q := by
  unfold aopY at h
  split at h
  · split at h
    · obtain ⟨σ', H', h', hs'⟩ := frzOps_ok hG _ hs h
      exact aop_yes hG hE hs' hn h'
    · exact aop_yes hG hE hs hn h
  · rename_i t args ts ho
    split at h
    · rename_i q hq
      split at h
      · rename_i ks L k hyl
        obtain ⟨rfl, hy⟩ := hY _ hyl
        exact yop_ok hN hy ho hs hq h hn
      · exact h.elim
    · exact aop_yes hG hE hs hn h
  · split at h
    · obtain ⟨σ', H', h', hs'⟩ := frzOps_ok hG _ hs h
      exact aop_yes hG hE hs' hn h'
    · exact aop_yes hG hE hs hn h

theorem aopAtR_ok (hG : GlobOk E.glob) (hN : noRef E.glob) (hE : EnvOk P E) (hY : ∀ q, E.yl = some q → ro = none ∧ YLaw P S q.2) {all : Array Oper} {o : Oper} {σ : List V} {H : List Blk} {K : List V → List Blk → Prop} {a : Act} {w : World} {next : Act → World → Prop} {Q : Exit → Act → World → Prop}
    (hs : Sta E S σ H a w) (h : aopAtR E all.toList o σ H K) (hn : ∀ σ' H' a' w', K σ' H' → Sta E S σ' H' a' w' → next a' w') :
    if Region.wanted o (yielded all a.tmps) then o.wpIn (Fen ro) 0 P a w next Q else (∀ f, o.about P w a.eval = some f → (Fen ro).fn f) ∧ next (a.put o.dst undef) w := by
  obtain ⟨σ', hs', h'⟩ := aguardR_ok hs h
  refine guard_ok hs' h' (aopY_ok hG hN hE hY hs' hn) fun h => ⟨fun _ _ => trivial, ?_⟩
  obtain ⟨c, b, v, hS, hst, hσ, hd⟩ := hs'
  obtain ⟨σ'', hk, hσ''⟩ := setDst_ok h hσ .nope
  exact hn _ _ _ _ hk ⟨c, b, v, hS, hst, hσ'', by rw [put_defers]; exact hd⟩

theorem aops_eq (all : List Oper) (o : Oper) (l : List Oper) (σ : List V) (H : List Blk) (K : List V → List Blk → Prop) : aops E all (o :: l) σ H K = aopAtR E all o σ H (fun σ H => aops E all l σ H K) := rfl

theorem aops_ok (hG : GlobOk E.glob) (hN : noRef E.glob) (hE : EnvOk P E) (hY : ∀ q, E.yl = some q → ro = none ∧ YLaw P S q.2) {all : Array Oper} {Q : Exit → Act → World → Prop} : ∀ (l : List Oper) (σ : List V) (H : List Blk) (K : List V → List Blk → Prop) (a : Act) (w : World), Sta E S σ H a w → aops E all.toList l σ H K →
    (∀ σ' H' a' w', K σ' H' → Sta E S σ' H' a' w' → Q .normal a' w') → wpListIn (Fen ro) 0 P all Q l a w
  | [], σ, H, K, a, w, hs, h, hn => hn _ _ _ _ h hs
  | o :: l, σ, H, K, a, w, hs, h, hn => by
    rw [aops_eq] at h
    unfold wpListIn
    exact aopAtR_ok hG hN hE hY hs h fun σ' H' a' w' hk hs' => aops_ok hG hN hE hY l σ' H' K a' w' hs' hk hn

/-- What an abstract post says of the ways out. -/
def Post (E : Env) (S : Ses) (Q : Ex → List V → List Blk → Prop) : Exit → Act → World → Prop
  | .normal, a, w => ∃ σ H, Q .normal σ H ∧ Sta E S σ H a w
  | .exit i, a, w => ∃ σ H, Q (.exit i) σ H ∧ Sta E S σ H a w
  | .ret, a, w => ∃ σ H, Q .ret σ H ∧ Sta E S σ H a w
  | _, _, _ => False

/-- A region in an order that is drawn. -/
def DrawOk (E : Env) (P : Program) : Prop := ∀ (ops : Array Oper) (id : Nat) (S : Ses) (ro : Option Nat) (σ : List V) (H : List Blk) (K : List V → List Blk → Prop) (a : Act) (w : World) (Q : Exit → Act → World → Prop),
  okDraw E ops.toList = true → Sta E S σ H a w → aopsD E ops.toList (H ++ List.replicate (cntAl ops.toList) Blk.dead).length H.length 0 ops.toList σ (H ++ List.replicate (cntAl ops.toList) Blk.dead) K → (∀ σ' H' a' w', K σ' H' → Sta E S σ' H' a' w' → Q .normal a' w') → (Code.region id ops true).wpIn (Fen ro) 0 P Q a w

end
end Go.Proofs.YtmkphnlpbngenaaDoor.Vc

namespace Go.Proofs.YtmkphnlpbngenaaDoor.Vc
open Go Go.RowKit

section
variable {G : List (Nat × V)} {base : Nat} {w0 : W0} {c : Cx} {H : List Blk} {w : World}

/-! ### new numbers -/
def Cx.ren (c : Cx) (sel : List Nat) : Cx := { c with ρ := fun k => (sel[k]?).bind c.ρ, gi := c.gi.bind (idxIn sel) }

theorem inL_iff : ∀ (l : List Nat) (n : Nat), inL l n = true ↔ n ∈ l
  | [], n => by simp [inL]
  | x :: l, n => by
    simp only [inL, Bool.or_eq_true, List.mem_cons, inL_iff l n]
    constructor
    · rintro (h | h)
      · exact .inl (beq_ok h).symm
      · exact .inr h
    · rintro (h | h)
      · subst h; exact .inl (Nat.beq_refl _)
      · exact .inr h
theorem nodupB_iff : ∀ l : List Nat, nodupB l = true → l.Nodup
  | [], _ => List.nodup_nil
  | x :: l, h => by
    simp only [nodupB, Bool.and_eq_true, Bool.not_eq_true'] at h
    refine List.nodup_cons.2 ⟨fun hm => ?_, nodupB_iff l h.2⟩
    rw [(inL_iff l x).2 hm] at h
    simp at h
theorem idxIn_some : ∀ (l : List Nat) (n k : Nat), idxIn l n = some k → l[k]? = some n
  | [], n, k, h => by simp [idxIn] at h
  | x :: l, n, k, h => by
    unfold idxIn at h
    cases hb : Nat.beq x n with
    | true =>
      rw [hb] at h
      simp only [cond_true, Option.some.injEq] at h
      subst h
      have := beq_ok hb; subst this; rfl
    | false =>
      rw [hb] at h
      simp only [cond_false, Option.map_eq_some_iff] at h
      obtain ⟨j, h1, h2⟩ := h
      subst h2
      simpa using idxIn_some l n j h1

theorem idxIn_nodup : ∀ {l : List Nat}, l.Nodup → ∀ {k n : Nat}, l[k]? = some n → idxIn l n = some k
  | [], _, k, n, h => by simp at h
  | x :: l, hnd, k, n, h => by
    obtain ⟨h1, h2⟩ := List.nodup_cons.1 hnd
    unfold idxIn
    cases k with
    | zero =>
      obtain rfl : x = n := by simpa using h
      simp
    | succ k =>
      have h : l[k]? = some n := by simpa using h
      have hne : x ≠ n := fun e => by subst e; exact h1 (List.mem_of_getElem? h)
      cases hb : Nat.beq x n with
      | true => exact absurd (beq_ok hb) hne
      | false => simp [idxIn_nodup h2 h]

theorem getB_selH (sel : List Nat) (H : List Blk) : ∀ (l : List Nat) (k : Nat), getB (selH sel H l) k = match l[k]? with | some i => renB sel (getB H i) | none => .dead
  | [], k => by cases k <;> rfl
  | i :: l, 0 => rfl
  | i :: l, k + 1 => by
    show getB (selH sel H l) k = _
    rw [getB_selH sel H l k]; simp
theorem length_selH (sel : List Nat) (H : List Blk) : ∀ l : List Nat, (selH sel H l).length = l.length
  | [] => rfl
  | i :: l => by simp [selH, length_selH sel H l]
theorem length_renL (sel : List Nat) : ∀ l : List V, (renL sel l).length = l.length
  | [] => rfl
  | b :: l => by simp [renL, length_renL sel l]
theorem gets_renL (sel : List Nat) : ∀ (l : List V) (j : Nat), gets (renL sel l) j = renV sel (gets l j)
  | [], j => by cases j <;> rfl
  | b :: l, 0 => rfl
  | b :: l, j + 1 => gets_renL sel l j

section
variable {sel : List Nat} {H' : List Blk}
theorem OwnAt.ren {i k z off : Nat} {a : Option Addr} {cap : Nat} (hk : sel[k]? = some i) (h : OwnAt c w i z off a cap) : OwnAt (c.ren sel) w k z off a cap := by
  obtain ⟨g, e, cur, h1, h2⟩ := h
  exact ⟨g, e, cur, by simp [Cx.ren, hk, h1], h2⟩
mutual
theorem VRel.ren (hs : ∀ k i, sel[k]? = some i → shape H' k = shape H i) : ∀ {x : V} {v : Value}, VRel c H w x v → VRel (c.ren sel) H' w (renV sel x) v
  | _, _, .undef v => .undef v
  | _, _, .int k n h1 h2 => .int k n h1 h2
  | _, _, .u8 x => .u8 x
  | _, _, .b p x h => .b p x h
  | _, _, .bt x => .bt x
  | _, _, .nope => .nope
  | _, _, .str s h => .str s h
  | _, _, .nils => .nils
  | _, _, .sl fr t xs v h => .sl fr t xs v h
  | _, _, .own t i n a cap h1 hn hc ho => by
    unfold renV
    split
    · rename_i k hk
      have hk := idxIn_some _ _ _ hk
      exact .own t k n a cap ((hs k i hk).trans h1) hn hc (ho.imp (fun h => h) (OwnAt.ren hk))
    · exact .undef _
  | _, _, .slc t i off n m a cap h1 h2 hn hc ho => by
    unfold renV
    split
    · rename_i k hk
      have hk := idxIn_some _ _ _ hk
      exact .slc t k off n m a cap ((hs k i hk).trans h1) h2 hn hc (ho.imp (fun h => h) (OwnAt.ren hk))
    · exact .undef _
  | _, _, .rp fr t x o g p es hM hd hc => .rp fr t x o g p es hM hd hc
  | _, _, .ptr i z j o g m h1 hr hi ho => by
    unfold renV
    split
    · rename_i k hk
      have hk := idxIn_some _ _ _ hk
      exact .ptr k z j o g m ((hs k i hk).trans h1) (by simp [Cx.ren, hk, hr]) hi ho
    · exact .undef _
  | _, _, .agg cs vs h => .agg _ vs (VRels.ren hs h)
  | _, _, .tup cs vs h => .tup _ vs (VRels.ren hs h)
  | _, _, .fn f cs vs h => .fn f _ vs (VRels.ren hs h)
  | _, _, .nilfn => .nilfn
  | _, _, .yld k h => .yld (c := c.ren sel) k h
  | _, _, .dat fr t x es h => .dat fr t x es h
theorem VRels.ren (hs : ∀ k i, sel[k]? = some i → shape H' k = shape H i) : ∀ {xs : List V} {vs : List Value}, VRels c H w xs vs → VRels (c.ren sel) H' w (renL sel xs) vs
  | _, _, .nil => .nil
  | _, _, .cons x v xs vs h hx => .cons _ v _ vs (VRel.ren hs h) (VRels.ren hs hx)
end
end

theorem shape_sel {sel : List Nat} {k i : Nat} (hk : sel[k]? = some i) : shape (selH sel H sel) k = shape H i := by
  unfold shape
  rw [getB_selH, hk]
  simp only
  cases getB H i <;> simp [renB, length_renL]

theorem St.ren (hN : noRef G) (h : St G base w0 c H w) {sel : List Nat} (hnd : sel.Nodup) : St G base w0 (c.ren sel) (selH sel H sel) w where
  below := h.below
  xk := h.xk.step rfl (fun hg => by simp [Cx.ren, hg]) (fun g hg => .inl hg) (fun i g hi => by
    simp only [Cx.ren, Option.bind_eq_some_iff] at hi
    obtain ⟨j, _, hj⟩ := hi
    exact .inl ⟨j, hj⟩) (fun g o ho => .inl ho)
  size := h.size
  blk k := by
    rw [getB_selH]
    split
    · rename_i i hk
      have hbk := h.blk i
      generalize getB H i = b at hbk
      cases b with
      | dead => trivial
      | row fr t xs =>
        rcases hbk with ⟨h1, h2⟩ | ⟨g, e, cur, h1, h2⟩
        · exact .inl ⟨by simp [Cx.ren, hk, h1], h2⟩
        · exact .inr ⟨g, e, cur, by simp [Cx.ren, hk, h1], h2⟩
      | cells cs =>
        rcases hbk with ⟨g, e, cur, h1, h2, h3, h4⟩ | ⟨h0, h1, h2⟩
        · refine .inl ⟨g, e, cur, by simp [Cx.ren, hk, h1], h2, by rw [length_renL]; exact h3, fun j hj => ?_⟩
          rw [length_renL] at hj
          obtain ⟨v, h5, h6, h7⟩ := h4 j hj
          rw [gets_renL]
          exact ⟨v, h5, h6, h7.ren fun k i hk => shape_sel hk⟩
        · exact .inr ⟨by simp [Cx.ren, h0, idxIn_nodup hnd hk], by simp [Cx.ren, hk, h1], h2.ren fun k i hk => shape_sel hk⟩
    · trivial
  inj i j g hi hj := by
    simp only [Cx.ren, Option.bind_eq_some_iff] at hi hj
    obtain ⟨i', hi1, hi2⟩ := hi
    obtain ⟨j', hj1, hj2⟩ := hj
    have := h.inj i' j' g hi2 hj2
    subst this
    exact (List.getElem?_inj (by exact (List.getElem?_eq_some_iff.1 hi1).1) hnd).1 (hi1.trans hj1.symm)
  own i g hi := by
    simp only [Cx.ren, Option.bind_eq_some_iff] at hi
    obtain ⟨i', hi1, hi2⟩ := hi
    obtain ⟨h1, h2, h3, _⟩ := h.own i' g hi2
    exact ⟨h1, h2, h3, by rw [length_selH]; exact (List.getElem?_eq_some_iff.1 hi1).1⟩
  imm := h.imm
  sub := h.sub
  glob g x hx := by
    obtain ⟨t, y, o, rfl⟩ := hN g x hx
    exact (h.glob g _ hx).ren fun k i hk => shape_sel hk

/-! ### the view -/
theorem picks_ok {tm : List Value} : ∀ (keep : List (Nat × Mode)) {σ : List V} {K : List V → Prop}, VRels c H w σ tm → picks σ keep K → ∃ vs, K vs ∧ VRels c H w vs (keep.map fun x => tm.getD x.1 undef)
  | [], σ, K, _, h => ⟨[], h, .nil⟩
  | (i, m) :: l, σ, K, hσ, h => by
    have h := (forceV_eq _ _).1 h
    obtain ⟨vs, h1, h2⟩ := picks_ok l hσ h
    exact ⟨_, h1, .cons _ _ _ _ (hσ.get i).nb h2⟩

theorem VRels.rev {xs : List V} {vs : List Value} (h : VRels c H w xs vs) : VRels c H w xs.reverse vs.reverse := by
  have key : ∀ (xs : List V) (vs : List Value) (ys : List V) (us : List Value), VRels c H w xs vs → VRels c H w ys us → VRels c H w (xs.reverse ++ ys) (vs.reverse ++ us) := by
    intro xs
    induction xs with
    | nil => intro vs ys us h h'; cases h; simpa using h'
    | cons x xs ih =>
      intro vs ys us h h'
      cases h with | cons _ v _ vs h hs =>
      have := ih vs (x :: ys) (v :: us) hs (.cons _ _ _ _ h h')
      simpa using this
  have := key xs vs [] [] h .nil
  simpa using this

theorem VRels.setNil {i : Nat} {x : V} (hx : VRel c H w x (.slice none 0 0)) : ∀ {cs : List V} {vs : List Value} (i : Nat), VRels c H w cs vs → gets cs i = .nils → VRels c H w (sets cs i x) vs
  | _, _, i, .nil, h => .nil
  | _, _, 0, .cons y v xs vs hy hs, h => by
    have h : y = .nils := h
    subst h
    cases hy
    exact .cons _ _ _ _ hx hs
  | _, _, i + 1, .cons y v xs vs hy hs, h => .cons _ _ _ _ hy (VRels.setNil (i := i) hx i hs h)

theorem length_sets (l : List V) : ∀ i x, (sets l i x).length = l.length := by
  intro i x; rw [sets_eq]; simp
theorem gets_sets (l : List V) (i j : Nat) (x : V) : gets (sets l i x) j = if j = i ∧ i < l.length then x else gets l j := by
  rw [sets_eq, gets_eq, gets_eq, List.getD_eq_getElem?_getD, List.getD_eq_getElem?_getD, List.getElem?_set]
  by_cases h : i = j
  · subst h
    by_cases h2 : i < l.length
    · simp [h2]
    · simp [h2]
  · rw [if_neg h, if_neg (fun e => h e.1.symm)]

theorem ext_setCells {cs cs' : List V} {id : Nat} (hb : getB H id = .cells cs) (hl : cs'.length = cs.length) : Ext c H w c (setB H id (.cells cs')) w where
  M g hg := hg
  N g hg := hg
  mem g hg := rfl
  shp j s hs := by
    refine ⟨?_, rfl⟩
    by_cases hj : j = id
    · subst hj
      have := shape_lt hs
      unfold shape at *
      rw [getB_setB, if_pos ⟨rfl, this⟩]
      rw [hb] at hs
      simpa [hl] using hs
    · rw [shape_setB_ne hj]; exact hs
  siz id s g cur e _ _ hg := ⟨cur, hg, rfl⟩
  x := rfl
  gi := rfl

theorem St.setNil (h : St G base w0 c H w) {id i : Nat} {cs : List V} (hb : getB H id = .cells cs) {x : V} (hx : VRel c H w x (.slice none 0 0)) (hi : gets cs i = .nils) : St G base w0 c (setB H id (.cells (sets cs i x))) w := by
  have he : Ext c H w c (setB H id (.cells (sets cs i x))) w := ext_setCells hb (length_sets _ _ _)
  have hlt : id < H.length := by
    rcases Nat.lt_or_ge id H.length with g | g
    · exact g
    · rw [getB_ge H id g] at hb; cases hb
  exact
  { below := h.below
    xk := h.xk
    size := h.size
    blk := fun j => by
      rw [getB_setB]
      split
      · rename_i hj
        obtain ⟨rfl, _⟩ := hj
        have hbk := h.blk j
        rw [hb] at hbk
        rcases hbk with ⟨g, e, cur, h1, h2, h3, h4⟩ | ⟨h0, h1, h2⟩
        · refine .inl ⟨g, e, cur, h1, h2, by rw [length_sets]; exact h3, fun k hk => ?_⟩
          rw [length_sets] at hk
          obtain ⟨v, h5, h6, h7⟩ := h4 k hk
          refine ⟨v, h5, h6, ?_⟩
          rw [gets_sets]
          split
          · rename_i hk2
            obtain ⟨rfl, _⟩ := hk2
            rw [hi] at h7
            cases h7
            exact hx.ext he
          · exact h7.ext he
        · exact .inr ⟨h0, h1, (VRels.setNil (i := i) hx i h2 hi).ext he⟩
      · exact BOk.keep he (fun _ => rfl) (fun g _ => rfl) (h.blk j)
    inj := h.inj
    own := fun i g hi => by
      obtain ⟨h1, h2, h3, h4⟩ := h.own i g hi
      exact ⟨h1, h2, h3, by rw [length_setB]; exact h4⟩
    imm := h.imm
    sub := h.sub
    glob := fun g x hx => (h.glob g x hx).ext he }

theorem nilC_ok {id : Nat} : ∀ (l : List (Nat × Ty)) (H : List Blk) (K : List Blk → Prop), St G base w0 c H w → nilC id l H K → ∃ H', K H' ∧ St G base w0 c H' w ∧ Ext c H w c H' w
  | [], H, K, hst, h => ⟨H, h, hst, Ext.refl _ _ _⟩
  | (i, t) :: l, H, K, hst, h => by
    unfold nilC at h
    split at h <;> try exact h.elim
    rename_i cs hb
    split at h
    · rename_i hi
      have h := (forceL_eq _ _).1 ((forceL_eq _ _).1 h)
      have hlt : id < H.length := by
        rcases Nat.lt_or_ge id H.length with g | g
        · exact g
        · rw [getB_ge H id g] at hb; cases hb
      have hb' : getB (H ++ [.row true t []]) id = .cells cs := by rw [getB_append, if_neg (by omega)]; exact hb
      have hx : VRel c (H ++ [.row true t []]) w (.own t H.length) (.slice none 0 0) := .own t H.length 0 none 0 (by simp [shape, getB_append]) (Nat.le_refl _) (by simp) (.inl rfl)
      obtain ⟨H', h1, h2, h3⟩ := nilC_ok l _ K ((hst.virt true t).setNil hb' hx hi) h
      exact ⟨H', h1, h2, ((St.ext_virt _).trans (ext_setCells hb' (length_sets _ _ _))).trans h3⟩
    · exact nilC_ok l H K hst h

theorem nilA_ok {vs : List Value} : ∀ (l : List (Nat × Ty)) (cs : List V) (H : List Blk) (K : List V → List Blk → Prop), St G base w0 c H w → VRels c H w cs vs → nilA l cs H K → ∃ cs' H', K cs' H' ∧ St G base w0 c H' w ∧ Ext c H w c H' w ∧ VRels c H' w cs' vs
  | [], cs, H, K, hst, hv, h => ⟨cs, H, h, hst, Ext.refl _ _ _, hv⟩
  | (i, t) :: l, cs, H, K, hst, hv, h => by
    unfold nilA at h
    split at h
    · rename_i hi
      have h := (forceL_eq _ _).1 ((forceL_eq _ _).1 h)
      have hx : VRel c (H ++ [.row true t []]) w (.own t H.length) (.slice none 0 0) := .own t H.length 0 none 0 (by simp [shape, getB_append]) (Nat.le_refl _) (by simp) (.inl rfl)
      obtain ⟨cs', H', h1, h2, h3, h4⟩ := nilA_ok l _ _ K (hst.virt true t) (VRels.setNil (i := i) hx i (hv.ext (St.ext_virt _)) hi) h
      exact ⟨cs', H', h1, h2, (St.ext_virt _).trans h3, h4⟩
    · exact nilA_ok l cs H K hst hv h

/-! ### cells that hold slices become a row -/
theorem frzCs_ok (hG : GlobOk G) : ∀ (l : List V) (c : Cx) (cs vs ds : List V) (H : List Blk) (us uv ud : List Value) (K : List V → List V → List V → List Blk → Prop), St G base w0 c H w → VRels c H w cs us → VRels c H w vs uv → VRels c H w ds ud → frzCs l cs vs ds H K →
    ∃ c' cs' vs' ds' H', K cs' vs' ds' H' ∧ St G base w0 c' H' w ∧ VRels c' H' w cs' us ∧ VRels c' H' w vs' uv ∧ VRels c' H' w ds' ud ∧ (∀ g, c.M g → c'.M g) ∧ c'.gi = c.gi
  | [], c, cs, vs, ds, H, us, uv, ud, K, hst, h1, h2, h3, h => ⟨c, cs, vs, ds, H, h, hst, h1, h2, h3, fun _ h => h, rfl⟩
  | x :: l, c, cs, vs, ds, H, us, uv, ud, K, hst, h1, h2, h3, h => by
    cases x with
    | own t j =>
      unfold frzCs at h
      split at h <;> try exact h.elim
      rename_i fr t' xs hb
      have h := (forceL_eq _ _).1 ((forceL_eq _ _).1 ((forceL_eq _ _).1 ((forceL_eq _ _).1 h)))
      have hy : ∀ t v, VRel c H w (.own t j) v → VRel (c.frz j) (setB (frzH j (.sl fr _ xs) H) j .dead) w (.sl fr _ xs) v := fun t' v hv => frz_row hst hb t' v hv
      have hsh : ∀ k, k ≠ j → shape (setB (frzH j (.sl fr _ xs) H) j .dead) k = shape H k := fun k hk => shape_frz hk
      obtain ⟨c', a1, a2, a3, a4, k1, k2, k3, k4, k5, k6, k7⟩ := frzCs_ok hG l (c.frz j) _ _ _ _ us uv ud K (hst.frz hG hb) (h1.frz hsh hy) (h2.frz hsh hy) (h3.frz hsh hy) h
      exact ⟨c', a1, a2, a3, a4, k1, k2, k3, k4, k5, fun g hg => k6 g (.inl hg), k7.trans rfl⟩
    | _ => exact frzCs_ok hG l c cs vs ds H us uv ud K hst h1 h2 h3 h

theorem shape_row {id : Nat} {l : List V} {f : Bool} {t : Ty} {xs : List (Ty.sl t).D} (hb : getB H id = .cells l) (hl : xs.length = l.length) (j : Nat) : shape (setB H id (.row f (.sl t) xs)) j = shape H j := by
  by_cases hj : j = id
  · subst hj
    have hlt : j < H.length := by
      rcases Nat.lt_or_ge j H.length with g | g
      · exact g
      · rw [getB_ge H j g] at hb; cases hb
    unfold shape
    rw [getB_setB, if_pos ⟨rfl, hlt⟩, hb]
    simp only [hl]; rfl
  · exact shape_setB_ne hj

theorem ext_row {id : Nat} {l : List V} {f : Bool} {t : Ty} {xs : List (Ty.sl t).D} (hb : getB H id = .cells l) (hl : xs.length = l.length) : Ext c H w c (setB H id (.row f (.sl t) xs)) w where
  M g hg := hg
  N g hg := hg
  mem g hg := rfl
  shp j s hs := ⟨(shape_row hb hl j).trans hs, rfl⟩
  siz id s g cur e _ _ hg := ⟨cur, hg, rfl⟩
  x := rfl
  gi := rfl

theorem St.toRow (h : St G base w0 c H w) {id : Nat} {l : List V} {t t' : Ty} {u : Value} {K : Bool → List (Ty.sl t).D → Prop} (hb : getB H id = .cells l) (ho : VRel c H w (.own t' id) u) (hK : asEls (.sl t) l K) :
    ∃ f xs, K f xs ∧ xs.length = l.length ∧ St G base w0 c (setB H id (.row f (.sl t) xs)) w := by
  have hlt : id < H.length := by
    rcases Nat.lt_or_ge id H.length with g | g
    · exact g
    · rw [getB_ge H id g] at hb; cases hb
  have hN : ∀ g, c.N g → c.M g := fun g hg => (h.sub g hg).1
  have hbk := h.blk id
  rw [hb] at hbk
  have key : ∃ f xs, K f xs ∧ xs.length = l.length ∧ BOk c H w id (.row f (.sl t) xs) := by
    rcases hbk with ⟨g, e, cur, h1, h2, h3, h4⟩ | ⟨h0, h1, h2⟩
    · have hus : ∃ us : List Value, VRels c H w l us ∧ ∀ j, j < l.length → ∃ v, us[j]? = some v ∧ cur[j]? = some v ∧ v.oneCell' = true := by
        have gen : ∀ (l : List V) (k : Nat), (∀ j, j < l.length → ∃ v, cur[k + j]? = some v ∧ v.oneCell' = true ∧ VRel c H w (gets l j) v) → ∃ us : List Value, VRels c H w l us ∧ ∀ j, j < l.length → ∃ v, us[j]? = some v ∧ cur[k + j]? = some v ∧ v.oneCell' = true := by
          intro l
          induction l with
          | nil => intro k _; exact ⟨[], .nil, fun j hj => by simp at hj⟩
          | cons x l ih =>
            intro k hk
            obtain ⟨v, g1, g2, g3⟩ := hk 0 (by simp)
            obtain ⟨us, g4, g5⟩ := ih (k + 1) fun j hj => by
              have := hk (j + 1) (by simpa using hj)
              rwa [show k + (j + 1) = k + 1 + j by omega] at this
            refine ⟨v :: us, .cons _ _ _ _ g3 g4, fun j hj => ?_⟩
            cases j with
            | zero => exact ⟨v, rfl, g1, g2⟩
            | succ j =>
              obtain ⟨u, k1, k2, k3⟩ := g5 j (by simpa using hj)
              exact ⟨u, by simpa using k1, by rwa [show k + (j + 1) = k + 1 + j by omega], k3⟩
        have := gen l 0 (fun j hj => by rw [Nat.zero_add]; exact h4 j hj)
        simpa using this
      obtain ⟨us, hr, hu⟩ := hus
      obtain ⟨f, xs, k1, k2, k3⟩ := asEls_rel hK hr
      have hlen := hr.length
      refine ⟨f, xs, k1, by omega, .inr ⟨g, e, cur, h1, h2, by show xs.length * 1 ≤ _; omega, fun i x hx => ?_⟩⟩
      have hi : i < xs.length := (List.getElem?_eq_some_iff.1 hx).1
      obtain ⟨v, g1, g2, g3⟩ := hu i (by omega)
      refine ⟨v.cells.toList, k3 f (fun h => h) hN i x v hx g1, fun j v' hj => ?_⟩
      rw [one_cells g3] at hj
      cases j with
      | zero =>
        have : v = v' := by simpa using hj
        subst this
        show cur[i * 1 + 0]? = _
        rw [show i * 1 + 0 = i by omega]; exact g2
      | succ j => simp at hj
    · exfalso
      cases ho with | own _ _ n a cap hs hn hc ho =>
      simp only [shape, hb, Option.some.injEq, Prod.mk.injEq] at hs
      rcases ho with ho | ⟨g, e, cur, hr, _⟩
      · have hl0 : l = [] := List.eq_nil_of_length_eq_zero (by omega)
        subst hl0
        generalize hgh : c.x.gh = gh at h2
        cases h2
        have := h.xk.gi (h.xk.gh.symm.trans hgh)
        rw [h0] at this; cases this
      · rw [h1] at hr; cases hr
  obtain ⟨f, xs, k1, k2, k3⟩ := key
  have he : Ext c H w c (setB H id (.row f (.sl t) xs)) w := ext_row hb k2
  exact ⟨f, xs, k1, k2,
  { below := h.below
    xk := h.xk
    size := h.size
    blk := fun j => by
      rw [getB_setB]
      split
      · rename_i hj
        obtain ⟨rfl, _⟩ := hj
        exact BOk.keep he (fun _ => rfl) (fun g _ => rfl) k3
      · exact BOk.keep he (fun _ => rfl) (fun g _ => rfl) (h.blk j)
    inj := h.inj
    own := fun i g hi => by
      obtain ⟨h1, h2, h3, h4⟩ := h.own i g hi
      exact ⟨h1, h2, h3, by rw [length_setB]; exact h4⟩
    imm := h.imm
    sub := h.sub
    glob := fun g x hx => (h.glob g x hx).ext he }⟩

theorem viewA_ok (hG : GlobOk G) : ∀ (ms : List Mode) (c : Cx) (vs done : List V) (H : List Blk) (us ud : List Value) (K : List V → List Blk → Prop), St G base w0 c H w → VRels c H w vs us → VRels c H w done ud → ms.length = vs.length → viewA ms vs done H K →
    ∃ c' vs' H', K vs' H' ∧ St G base w0 c' H' w ∧ VRels c' H' w vs' (ud.reverse ++ us) ∧ (∀ g, c.M g → c'.M g) ∧ c'.gi = c.gi
  | [], c, vs, done, H, us, ud, K, hst, hv, hd, hl, h => by
    cases hv with
    | nil => exact ⟨c, _, H, h, hst, by simpa using hd.rev, fun _ h => h, rfl⟩
    | cons => simp at hl
  | m :: ms, c, [], done, H, us, ud, K, hst, hv, hd, hl, h => by simp at hl
  | m :: ms, c, v :: vs, done, H, us, ud, K, hst, hv, hd, hl, h => by
    cases hv with | cons _ u _ us hx hs =>
    have hl' : ms.length = vs.length := by simpa using hl
    have fin : ∀ {c' : Cx} {v' : V} {vs' done' : List V} {H' : List Blk}, St G base w0 c' H' w → VRels c' H' w vs' us → VRels c' H' w done' ud → VRel c' H' w v' u → (∀ g, c.M g → c'.M g) → c'.gi = c.gi → ms.length = vs'.length → viewA ms vs' (v' :: done') H' K →
        ∃ c' vs' H', K vs' H' ∧ St G base w0 c' H' w ∧ VRels c' H' w vs' (ud.reverse ++ u :: us) ∧ (∀ g, c.M g → c'.M g) ∧ c'.gi = c.gi := fun {c' v' vs' done' H'} h1 h2 h3 h4 hm hg h5 h6 => by
      obtain ⟨c2, vs2, H2, k1, k2, k3, k4, k5⟩ := viewA_ok hG ms c' vs' (v' :: done') H' us (u :: ud) K h1 h2 (.cons _ _ _ _ h4 h3) h5 h6
      exact ⟨c2, vs2, H2, k1, k2, by simpa using k3, fun g h => k4 g (hm g h), k5.trans hg⟩
    unfold viewA at h
    split at h
    · rename_i t
      cases hx
      exact fin (hst.virt true t) (hs.ext (St.ext_virt _)) (hd.ext (St.ext_virt _)) (.own t H.length 0 none 0 (by simp [shape, getB_append]) (Nat.le_refl _) (by simp) (.inl rfl)) (fun _ h => h) rfl hl' h
    · rename_i t
      cases hx
      exact fin hst hs hd (.sl _ _ _ _ ⟨none, 0, rfl, Nat.le_refl _, by simp, fun h => absurd rfl h⟩) (fun _ h => h) rfl hl' h
    · rename_i t0 t' id
      split at h
      · rename_i fr t xs hb
        obtain ⟨_, h⟩ := bif_ok h
        have hy : ∀ t v, VRel c H w (.own t id) v → VRel (c.frz id) (setB (frzH id (.sl fr _ xs) H) id .dead) w (.sl fr _ xs) v := fun t' v hv => frz_row hst hb t' v hv
        have hsh : ∀ j, j ≠ id → shape (setB (frzH id (.sl fr _ xs) H) id .dead) j = shape H j := fun j hj => shape_frz hj
        exact fin (hst.frz hG hb) (hs.frz hsh hy) (hd.frz hsh hy) (hy _ _ hx) (fun _ h => .inl h) rfl (by rw [length_frzL]; exact hl') h
      · exact h.elim
    · cases hx with | agg cs us' hr =>
      obtain ⟨cs', H', h, hst', he, hr'⟩ := nilA_ok _ _ _ _ hst hr h
      exact fin hst' (hs.ext he) (hd.ext he) (.agg _ _ hr') (fun _ h => h) rfl hl' h
    · obtain ⟨H', h, hst', he⟩ := nilC_ok _ _ _ hst h
      exact fin hst' (hs.ext he) (hd.ext he) (hx.ext he) (fun _ h => h) rfl hl' h
    · cases hx with | agg _ us' hr =>
      cases hr with | cons _ u1 _ us1 h1 h2 =>
      cases h1 with | agg _ us2 hr =>
      obtain ⟨cs', H', h, hst', he, hr'⟩ := nilA_ok _ _ _ _ hst hr h
      exact fin hst' (hs.ext he) (hd.ext he) (.agg _ _ (.cons _ _ _ _ (.agg _ _ hr') (h2.ext he))) (fun _ h => h) rfl hl' h
    · rename_i i t cs
      cases hx with | agg _ us' hr =>
      split at h
      · rename_i t1 id hi
        split at h <;> try exact h.elim
        rename_i l hb
        obtain ⟨c1, cs1, vs1, ds1, H1, h, hst1, hr1, hs1, hd1, hM1, hg1⟩ := frzCs_ok hG l c cs vs done H us' us ud _ hst hr hs hd h
        split at h <;> try exact h.elim
        rename_i l1 t2 id' hb1 hi1
        obtain ⟨hid, h⟩ := bif_ok h
        have hid := beq_ok hid
        subst hid
        have ho := hr1.get i
        rw [hi1] at ho
        obtain ⟨f, xs, h, hlx, hst2⟩ := hst1.toRow hb1 ho h
        have he : Ext c1 H1 w c1 (setB H1 id' (.row f (.sl t) xs)) w := ext_row hb1 hlx
        have hlt : id' < H1.length := by
          rcases Nat.lt_or_ge id' H1.length with g | g
          · exact g
          · rw [getB_ge H1 id' g] at hb1; cases hb1
        have hb2 : getB (setB H1 id' (.row f (.sl t) xs)) id' = .row f (.sl t) xs := by rw [getB_setB, if_pos ⟨rfl, hlt⟩]
        have hy : ∀ t3 v, VRel c1 (setB H1 id' (.row f (.sl t) xs)) w (.own t3 id') v → VRel (c1.frz id') (setB (frzH id' (.sl f _ xs) (setB H1 id' (.row f (.sl t) xs))) id' .dead) w (.sl f _ xs) v := fun t' v hv => frz_row hst2 hb2 t' v hv
        have hsh : ∀ j, j ≠ id' → shape (setB (frzH id' (.sl f _ xs) (setB H1 id' (.row f (.sl t) xs))) id' .dead) j = shape (setB H1 id' (.row f (.sl t) xs)) j := fun j hj => shape_frz hj
        exact fin (hst2.frz hG hb2) ((hs1.ext he).frz hsh hy) ((hd1.ext he).frz hsh hy) (.agg _ _ ((hr1.ext he).frz hsh hy)) (fun g hg => .inl (hM1 g hg)) hg1 (by rw [length_frzL, hs1.length, ← hs.length]; exact hl') h
      · rename_i hi
        have h := (forceL_eq _ _).1 h
        exact fin hst hs hd (.agg _ _ (VRels.setNil (i := i) (.sl _ _ _ _ ⟨none, 0, rfl, Nat.le_refl _, by simp, fun h => absurd rfl h⟩) i hr hi)) (fun _ h => h) rfl hl' h
      · exact fin hst hs hd (.agg _ _ hr) (fun _ h => h) rfl hl' h
    · exact fin hst hs hd hx (fun _ h => h) rfl hl' h

theorem viewB_ok (hN : noRef G) {np : Nat} {ms : List Mode} {vs : List V} {us : List Value} {K : List V → List Blk → Prop} (hst : St G base w0 c H w) (hv : VRels c H w vs us) (h : viewB np ms vs H K) :
    ∃ c' vs' H', K vs' H' ∧ St G base w0 c' H' w ∧ VRels c' H' w vs' us ∧ (∀ g, c.M g → c'.M g) ∧ (∀ g, c.gi = some g → inL (upTo np [] ++ (idsOf np ms vs ++ idsM np H ms vs)) g = false → c'.gi = none) ∧ (c.gi = none → c'.gi = none) := by
  obtain ⟨hnd, h⟩ := h
  have h := (forceL_eq _ _).1 ((forceL_eq _ _).1 h)
  refine ⟨_, _, _, h, hst.ren hN (nodupB_iff _ hnd), hv.ren fun k i hk => shape_sel hk, fun _ h => h, fun g hg hn => ?_, fun hg => by simp [Cx.ren, hg]⟩
  simp only [Cx.ren, hg, Option.bind_some]
  cases hi : idxIn (upTo np [] ++ (idsOf np ms vs ++ idsM np H ms vs)) g with
  | none => rfl
  | some k =>
    have := List.mem_of_getElem? (idxIn_some _ _ _ hi)
    rw [(inL_iff _ _).2 this] at hn
    cases hn

theorem length_sprd : ∀ (f i : Nat) (keep : List (Nat × Mode)) (vs : List V), (sprd f i keep vs).length = f
  | 0, _, _, _ => rfl
  | f + 1, i, keep, vs => by
    unfold sprd
    split
    · cases Nat.beq _ i <;> simp [length_sprd f]
    · simp [length_sprd f]
theorem sprd_ok {tm : List Value} : ∀ (f i : Nat) (keep : List (Nat × Mode)) (vs : List V), VRels c H w vs (keep.map fun x => tm.getD x.1 undef) → i + f = tm.length → VRels c H w (sprd f i keep vs) (tm.drop i)
  | 0, i, keep, vs, hv, hl => by
    rw [List.drop_eq_nil_of_le (by omega)]
    exact .nil
  | f + 1, i, keep, vs, hv, hl => by
    have hi : i < tm.length := by omega
    rw [List.drop_eq_getElem_cons hi]
    unfold sprd
    split
    · rename_i j m ks v us
      cases hv with | cons _ _ _ _ hx hs =>
      cases hb : Nat.beq j i with
      | true =>
        have := Nat.eq_of_beq_eq_true hb
        subst this
        have e : tm.getD j undef = tm[j] := by simp [List.getD_eq_getElem?_getD, hi]
        rw [← e]
        exact .cons _ _ _ _ hx (sprd_ok f (j + 1) ks us hs (by omega))
      | false => exact .cons _ _ _ _ (.undef _) (sprd_ok f (i + 1) ((j, m) :: ks) (v :: us) (.cons _ _ _ _ hx hs) (by omega))
    · exact .cons _ _ _ _ (.undef _) (sprd_ok f (i + 1) [] [] .nil (by omega))
theorem sprd_all {tm : List Value} {n : Nat} (keep : List (Nat × Mode)) (vs : List V) (hn : n = tm.length) (hv : VRels c H w vs (keep.map fun x => tm.getD x.1 undef)) : VRels c H w (sprd n 0 keep vs) tm := by
  have := sprd_ok n 0 keep vs hv (by omega)
  simpa using this

theorem view_ok {E : Env} {S : Ses} (hG : GlobOk E.glob) (hN : noRef E.glob) {np : Nat} {keep : List (Nat × Mode)} {σ : List V} {K : List V → List Blk → Prop} {a : Act} (hs : Sta E S σ H a w) (h : view np keep σ H K) :
    ∃ vs H', K vs H' ∧ Sta E S (sprd σ.length 0 keep vs) H' a w := by
  obtain ⟨c, b, v, hS, hst, hσ, hd⟩ := hs
  obtain ⟨vs, h, hv⟩ := picks_ok keep hσ h
  have hl : (keep.map (·.2)).length = vs.length := by rw [hv.length]; simp
  obtain ⟨c1, vs1, H1, h, hst1, hv1, _⟩ := viewA_ok hG (keep.map (·.2)) c vs [] H _ [] _ hst hv .nil hl h
  obtain ⟨c2, vs2, H2, h, hst2, hv2, _⟩ := viewB_ok hN hst1 hv1 h
  exact ⟨vs2, H2, h, c2, b, v, hS, hst2, sprd_all keep vs2 hσ.length (by simpa using hv2), hd⟩
end
end Go.Proofs.YtmkphnlpbngenaaDoor.Vc

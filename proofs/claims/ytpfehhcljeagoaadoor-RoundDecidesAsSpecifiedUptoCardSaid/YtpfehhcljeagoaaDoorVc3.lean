/- Texts of this claim: Vc.S, Vc.SA, Vc.SB, Vc.SC, Vc.DA. -/
import Derived.Test.YtpfehhcljeagoaaDoorVc2
import Derived.Lib.AppendZerosOnto
import Derived.Maps.Keyed
import Derived.Maps.RangeRun
import Derived.Carry
import Derived.Test.YtpfehhcljeagoaaDoorVc1
import Derived.ChangeKeysEq
set_option linter.unusedVariables false
set_option linter.unusedSimpArgs false
namespace Go.Proofs.YtpfehhcljeagoaaDoor.Vc
open Go Go.RowKit

section
variable {E : Env} {P : Program} {G : List (Nat × V)} {base : Nat} {w0 : W0} {c : Cx} {H : List Blk} {w : World} {σ : List V} {a : Act} {K : V → List V → List Blk → Prop} {o : Oper}

theorem madeCells_get (z : Array Value) (n s i j : Nat) (v : Value) (hz : z.size = s) (hi : i < n) (hj : z.toList[j]? = some v) : (madeCells z (n * s))[i * s + j]? = some v := by
 have hlt : j < s := by have := (List.getElem?_eq_some_iff.1 hj).1; simpa [hz] using this
 have h1 : i * s + j < n * s := by
  have : (i + 1) * s ≤ n * s := Nat.mul_le_mul_right _ (by omega)
  rw [Nat.succ_mul] at this; omega
 have h2 : (i * s + j) % z.size = j := by rw [hz, Nat.mul_comm, Nat.mul_add_mod, Nat.mod_eq_of_lt hlt]
 have h3 : z[j]? = some v := by simpa using hj
 have h4 : z[j]! = v := by simp [getElem!_def, h3]
 simp [madeCells, h1, h2, h4]

theorem op_makeSlice (hE : EnvOk P E) (hst : St E.glob base w0 c H w) (hσ : VRels c H w σ a.tmps.toList) (T : TypeId) (l m : Operand) (ho : o.op = .makeSlice T l m) (h : aop E σ H (.makeSlice T l m) K) :
  After E.glob base w0 a.tmps.toList K P o a w := by
 have hl := ev_ok hst hσ l
 have hm := ev_ok hst hσ m
 simp only [aop] at h
 generalize ev E σ l = vl at h hl
 generalize ev E σ m = vm at h hm
 generalize hal : a.eval l = al at hl
 generalize ham : a.eval m = am at hm
 split at h
 ·rename_i t kl n km k hT
  cases hfz : (inL E.frz 1000000 && isSlB t) with
  | true =>
   rw [hfz] at h
   simp only [cond_true] at h
   obtain ⟨⟨rfl, h0, h1⟩, h⟩ := h
   have h := (forceL_eq _ _).1 ((forceL_eq _ _).1 h)
   obtain ⟨e, hu, hio, hpos⟩ := (lk_ty hE hT).sl
   obtain ⟨i, z, hi, hz, hzc, hs, hb⟩ := hio.open
   cases hl; cases hm
   have hts : ∃ t', t = .sl t' := by
    cases t <;> simp [isSlB] at hfz
    exact ⟨_, rfl⟩
   obtain ⟨t', rfl⟩ := hts
   have hbytes : (i.bytes : Int) * n ≤ 281474976710656 := by
    have e1 : (i.bytes : Int) * n ≤ 65536 * n := Int.mul_le_mul_of_nonneg_right (by omega) h0
    omega
   have hr := run_make (P := P) w T e i z hu hi hz kl km n n h0 (Int.le_refl _) hbytes (by omega)
   have hzs : z.cells.size = 1 := by
    have : z.cells.toList.length = 1 := by rw [hzc]; rfl
    simpa using this
   have hs1 : i.size = 1 := hs
   have hmc : (madeCells z.cells (n.toNat * i.size)).size = n.toNat := by rw [size_madeCells, hs1, Nat.mul_one]
   have hall : ∀ (k : Nat) (v : Value), (madeCells z.cells (n.toNat * i.size)).toList[k]? = some v → v = .slice none 0 0 := fun k v hk => by
    have hkl : k < n.toNat := by
     have := (List.getElem?_eq_some_iff.1 hk).1
     have h2 : (madeCells z.cells (n.toNat * i.size)).toList.length = n.toNat := by simpa using hmc
     omega
    have := madeCells_get z.cells n.toNat 1 k 0 (.slice none 0 0) hzs hkl (by rw [hzc]; rfl)
    rw [hs1] at hk
    simp only [Nat.mul_one, Nat.add_zero] at this hk
    rw [Array.getElem?_toList] at hk
    rw [this] at hk
    exact (Option.some.inj hk).symm
   have hrel : ∀ (m : Nat) (l : List Value), l.length = m → (∀ (k : Nat) (v : Value), l[k]? = some v → v = .slice none 0 0) → VRels c H w (List.replicate m V.nils) l := by
    intro m
    induction m with
    | zero => intro l hl _; rw [List.eq_nil_of_length_eq_zero hl]; exact .nil
    | succ m ih =>
     intro l hl hv
     cases l with
     | nil => simp at hl
     | cons v l =>
      obtain rfl := hv 0 v rfl
      exact .cons _ _ _ _ .nils (ih l (by simpa using hl) fun k u hk => hv (k + 1) u hk)
   obtain ⟨hst', hext⟩ := push_cells (cs := List.replicate n.toNat V.nils) hst (madeCells z.cells (n.toNat * i.size)) e (hrel _ _ (by simpa using hmc) hall) (by
    intro v hv
    obtain ⟨k, hk⟩ := List.mem_iff_getElem?.1 (show v ∈ (madeCells z.cells (n.toNat * i.size)).toList by simpa using hv)
    rw [hall k v hk]; rfl)
   refine .inl ⟨.slice (some ⟨w.heap.size, 0, none⟩) n.toNat n.toNat, _, by simp [execOp, ho, hal, ham, hr], _, σ, _, _, h, ?_, hσ.ext hext, hst'⟩
   refine .own (.sl t') H.length n.toNat _ n.toNat (by simp [shape, getB_append, Ty.size]) (Nat.le_refl _) (by unfold maxLen; omega) (.inr ⟨w.heap.size, e, _, by simp [Cx.push], by simp [Cx.push], heap_alloc_new w _, by rw [hmc]; simp [Ty.size, Cx.push]⟩)
  | false =>
  rw [hfz] at h
  simp only [cond_false] at h
  obtain ⟨⟨rfl, h0, h1⟩, h⟩ := h
  have h := (forceL_eq _ _).1 h
  obtain ⟨e, hu, hio, hpos⟩ := (lk_ty hE hT).sl
  obtain ⟨i, z, hi, hz, hzc, hs, hb⟩ := hio.open
  cases hl; cases hm
  have hbytes : (i.bytes : Int) * n ≤ 281474976710656 := by
   have e1 : (i.bytes : Int) * n ≤ 65536 * n := Int.mul_le_mul_of_nonneg_right (by omega) h0
   omega
  have hr := run_make (P := P) w T e i z hu hi hz kl km n n h0 (Int.le_refl _) hbytes (by omega)
  have hzs : z.cells.size = t.size := by rw [← zc_length, ← hzc]; simp
  have hmc : (madeCells z.cells (n.toNat * i.size)).size = n.toNat * t.size := by rw [size_madeCells, hs]
  obtain ⟨hst', hext⟩ := push_row (f := true) (t := t) (xs := List.replicate n.toNat t.dflt) hst (madeCells z.cells (n.toNat * i.size)) e (by rw [hmc]; simp) (fun k x hk => by
   rw [List.getElem?_replicate] at hk
   split at hk
   ·rename_i hlt
    obtain rfl : t.dflt = x := by simpa using hk
    refine ⟨zc t, zc_dflt w _ t, fun j v hj => ?_⟩
    rw [hs]
    exact madeCells_get z.cells n.toNat t.size k j v hzs hlt (by rw [hzc]; exact hj)
   ·simp at hk)
  have hown := own_new (f := true) hst (t := t) (xs := List.replicate n.toNat t.dflt) (madeCells z.cells (n.toNat * i.size)) e n.toNat (by simp) (by unfold maxLen; omega) (by rw [hmc]; omega)
  rw [List.length_replicate] at hown
  exact .inl ⟨_, _, by simp [execOp, ho, hal, ham, hr], _, σ, _, _, h, hown, hσ.ext hext, hst'⟩
 ·exact h.elim

theorem op_append (hG : GlobOk E.glob) (hE : EnvOk P E) (hst : St E.glob base w0 c H w) (hσ : VRels c H w σ a.tmps.toList) (x y : Operand) (T : TypeId)
  (ho : o.op = .call { callee := .builtin .append, args := #[x, y], argTypes := #[T, T] }) (h : aappend E σ H T (ev E σ x) (ev E σ y) K) :
  After E.glob base w0 a.tmps.toList K P o a w := by
 have hx := ev_ok hst hσ x
 have hy := ev_ok hst hσ y
 generalize ev E σ x = vx at h hx
 generalize ev E σ y = vy at h hy
 have hexec : ∀ v w', (Builtin.append_ #[T, T] o.type #[a.eval x, a.eval y]).run P w = .ok v w' → (execOp a.eval o).run P w = .ok (.value v) w' := fun v w' hr => by
  unfold execOp
  simp only [ho, resolve, invoke, builtin, Sem.run_bind, Sem.run_pure, Result.andThen_ok, List.map_toArray, List.map_cons, List.map_nil, hr]
 unfold aappend at h
 split at h
 ·rename_i t hT
  obtain ⟨e, hu, hio, hpos⟩ := (lk_ty hE hT).sl
  obtain ⟨i, z, hi, hz, hzc, hs, hb⟩ := hio.open
  obtain ⟨f, ys, ay, capy, ⟨hle, h⟩, hay, hcy, hcm, hrow⟩ := asRow_ok hst h hy
  have h := (forceL_eq _ _).1 h
  generalize hax : a.eval x = ax at hx
  cases hx
  rw [hax, hay] at hexec
  by_cases hn : ys = []
  ·subst hn
   have hr : (Builtin.append_ #[T, T] o.type #[.slice none 0 0, .slice ay 0 capy]).run P w = .ok (.slice none 0 0) w := by
    cases ay <;> simp [Builtin.append_, run_underlying hu, sizeOf, typeInfo, hi, Builtin.lenOf, Builtin.firstCells, loadCells, loadCellsFrom]
   refine .inl ⟨_, _, hexec _ _ hr, _, σ, _, c, h, ?_, hσ.ext (St.ext_virt _), hst.virt f t⟩
   exact .own t H.length 0 none 0 (by simp [shape, getB_append]) (Nat.le_refl _) (by simp) (.inl rfl)
  ·obtain ⟨g, q, rfl, hg, hrw⟩ := hrow hn
   obtain ⟨news, n1, n2, n3, n4⟩ := RowAt.news ys q hrw
   have hylen : 0 < ys.length := List.length_pos_iff.2 hn
   have hbytes : ys.length * i.bytes ≤ 140737488355328 := by
    have := Nat.mul_le_mul hle hb; omega
   have hr := run_append_nil (P := P) w T o.type e i z hu hi hz ⟨g, q, none⟩ ys.length capy news (by rw [n1, hs]) (fun j v hj => by rw [Addr.add_lit]; exact n2 j v hj) hylen (by omega) (by omega)
   have hcap := grownCap_ge w ys.length 0 e
   have hcapm := grownCap_le_maxLen w ys.length 0 e (by unfold maxLen; omega)
   have hzs : z.cells.size = t.size := by rw [← zc_length, ← hzc]; simp
   have hsz : (news.toArray ++ Builtin.zeroCells z.cells (grownCap w ys.length 0 e - ys.length)).size = grownCap w ys.length 0 e * t.size := by
    simp only [Array.size_append, List.size_toArray, size_zeroCells, hzs, n1, ← Nat.add_mul]
    congr 1; omega
   have hdr : St E.glob base w0 c H w.drew := hst.world ((Below.refl _ _).drew)
   have hdrx : Ext c H w c H w.drew := hst.ext_world ((Below.refl _ _).drew)
   obtain ⟨hst', hext⟩ := push_row (f := f) hdr (t := t) (xs := ys) _ e (by rw [hsz]; exact Nat.mul_le_mul_right _ hcap) (fun k u hk => by
    obtain ⟨es, e1, e2⟩ := n4 k u hk
    exact ⟨es, hdrx.drel e1, fun j v hj => by
     have := e2 j v hj
     rw [Array.getElem?_append_left (by simpa using (List.getElem?_eq_some_iff.1 this).1)]; simpa using this⟩)
   have hown := own_new (f := f) hdr (t := t) (xs := ys) _ e (grownCap w ys.length 0 e) hcap hcapm (by rw [hsz]; omega)
   exact .inl ⟨_, _, hexec _ _ hr, _, σ, _, _, h, hown, hσ.ext (hdrx.trans hext), hst'⟩
 ·rename_i t t0 id hT
  split at h
  ·rename_i fr t' xs hbk
   obtain ⟨⟨e1, e2⟩, h⟩ := h
   subst e1
   have e4 := e2.symm
   subst e4
   obtain ⟨e0, h⟩ := castK_ok h
   have h : asRow H t0 vy fun f ys => (xs.length + ys.length ≤ 1000000000) ∧ forceL (killL id σ) fun σ => forceL (setB (killH id H) id (.row (fr && f) t0 (xs ++ ys))) (K (.own t0 id) σ) := h
   obtain ⟨e, hu, hio, hpos⟩ := (lk_ty hE hT).sl
   obtain ⟨i, z, hi, hz, hzc, hs, hb⟩ := hio.open
   obtain ⟨f, ys, ay, capy, ⟨hle, h⟩, hay, hcy, hcm, hrow⟩ := asRow_ok hst h hy
   have h := (forceL_eq _ _).1 ((forceL_eq _ _).1 h)
   generalize hax : a.eval x = ax at hx
   cases hx with | own _ _ n ax cap hsh hnc hcap ho2 =>
   rw [hax, hay] at hexec
   simp only [shape, hbk, Option.some.injEq, Prod.mk.injEq] at hsh
   obtain ⟨rfl, _⟩ := hsh
   have hzs : z.cells.size = t0.size := by rw [← zc_length, ← hzc]; simp
   -- the dead state
   have hk := hst.kill hG id
   have hkσ : VRels c (deadH H id) w (killL id σ) a.tmps.toList := hσ.killed fun j hj => shape_deadH hj
   have hidl : id < H.length := by
    rcases Nat.lt_or_ge id H.length with g | g
    ·exact g
    ·rw [getB_ge H id g] at hbk; cases hbk
   have hidl' : id < (deadH H id).length := by unfold deadH; rw [length_setB, length_killH]; exact hidl
   have hset : ∀ b, setB (deadH H id) id b = setB (killH id H) id b := fun b => by
    have key : ∀ (L : List Blk) (k : Nat), setB (setB L k .dead) k b = setB L k b := by
     intro L
     induction L with
     | nil => intro k; rfl
     | cons u L ih => intro k; cases k with
      | zero => rfl
      | succ k => simp [setB, ih]
    exact key _ _
   -- the news
   have hnews : ∃ news : List Value, news.length = ys.length * t0.size ∧ (∀ (j : Nat) (v : Value), news[j]? = some v → ∀ ad, ay = some ad → w.cell? (ad.add j) = some v) ∧ (∀ v ∈ news, v.oneCell' = true) ∧
     ∀ (k : Nat) (u : t0.D), ys[k]? = some u → ∃ es : List Value, DRel w (c.im f) t0 u es ∧ ∀ (j : Nat) (v : Value), es[j]? = some v → news[k * t0.size + j]? = some v := by
    by_cases hn : ys = []
    ·subst hn; exact ⟨[], by simp, by simp, by simp, by simp⟩
    ·obtain ⟨g, q, rfl, hg, hrw⟩ := hrow hn
     obtain ⟨news, n1, n2, n3, n4⟩ := RowAt.news ys q hrw
     exact ⟨news, n1, fun j v hj ad had => by cases had; rw [Addr.add_lit]; exact n2 j v hj, n3, n4⟩
   obtain ⟨news, n1, n2, n3, n4⟩ := hnews
   -- the old cells
   have hbo := hst.blk id
   rw [hbk] at hbo
   have hbytes : (xs.length + ys.length) * i.bytes ≤ 140737488355328 := by
    have := Nat.mul_le_mul hle hb; omega
   -- flags
   have him : ∀ (b1 b2 : Bool) (u : t0.D) (es : List Value), DRel w (c.im b1) t0 u es → DRel w (c.im (b1 && b2)) t0 u es := fun b1 b2 u es hd => by
    cases b1 <;> cases b2 <;> first | exact hd | exact DRel.ext (fun g hg => (hst.sub g hg).1) (fun _ _ => rfl) _ _ _ hd
   -- where the whole row's cells are known
   have whole : ∀ (q : Nat) (cur : Array Value), (∀ (k : Nat) (u : t0.D), xs[k]? = some u → ∃ es : List Value, DRel w (c.im fr) t0 u es ∧ ∀ (j : Nat) (v : Value), es[j]? = some v → cur[q + (k * t0.size + j)]? = some v) →
     (∀ j v, news[j]? = some v → cur[q + (xs.length * t0.size + j)]? = some v) →
     ∀ (k : Nat) (u : t0.D), (xs ++ ys)[k]? = some u → ∃ es : List Value, DRel w (c.im (fr && f)) t0 u es ∧ ∀ (j : Nat) (v : Value), es[j]? = some v → cur[q + (k * t0.size + j)]? = some v := by
    intro q cur h1 h2 k u hku
    rw [List.getElem?_append] at hku
    split at hku
    ·obtain ⟨es, e1, e2⟩ := h1 k u hku
     exact ⟨es, him fr f u es e1, e2⟩
    ·rename_i hge
     obtain ⟨es, e1, e2⟩ := n4 _ u hku
     refine ⟨es, ?_, fun j v hj => ?_⟩
     ·have := him f fr u es e1; rwa [Bool.and_comm] at this
     ·have := h2 _ _ (e2 j v hj)
      rw [show xs.length * t0.size + ((k - xs.length) * t0.size + j) = k * t0.size + j by
       have : (xs.length + (k - xs.length)) * t0.size = k * t0.size := by congr 1; omega
       rw [Nat.add_mul] at this; omega] at this
      exact this
   rw [← hset] at h
   have hlen : (xs ++ ys).length = xs.length + ys.length := List.length_append
   by_cases hroom : xs.length + ys.length ≤ cap
   ·
    rcases Nat.eq_zero_or_pos cap with h0 | hpc
    ·
     subst h0
     have hx0 : xs = [] := List.eq_nil_of_length_eq_zero (by omega)
     have hy0 : ys = [] := List.eq_nil_of_length_eq_zero (by omega)
     subst hx0 hy0
     have hr : (Builtin.append_ #[T, T] o.type #[.slice ax 0 0, .slice ay 0 capy]).run P w = .ok (.slice ax 0 0) w := by
      cases ax <;> cases ay <;> simp [Builtin.append_, run_underlying hu, sizeOf, typeInfo, hi, Builtin.lenOf, Builtin.firstCells, loadCells, loadCellsFrom, storeCells]
     cases hrho : c.ρ id with
     | some g =>
      obtain ⟨hbg1, hbg2⟩ := hst.own id g hrho
      rcases hbo with ⟨hb1, _⟩ | ⟨g', e', cur, hr', hg', hsz', hel⟩
      ·rw [hrho] at hb1; cases hb1
      ·rw [hrho] at hr'; cases hr'
       obtain ⟨hst', hext, hv⟩ := revive_row (q := 0) (w' := w) hk id g (fr && f) t0 [] cur e' hidl' getB_deadH_self (fun _ _ _ => rfl) (.inl hrho) hg' (fun o _ ho => ⟨cur, e', cur, by rw [hg'] at ho; exact (Option.some.inj ho).symm, hg', rfl⟩) (Below.refl _ _) (by simp) (by simp) 0 (by simp) (by simp) (by simp)
       refine .inl ⟨_, _, hexec _ _ hr, _, _, _, _, h, ?_, hkσ.ext hext, hst'⟩
       exact .own t0 id 0 ax 0 (by simp [shape, getB_setB, hidl']) (Nat.le_refl _) (by simp) (.inl rfl)
     | none =>
      -- no place: the number is taken up again as it was
      have hst' : St E.glob base w0 c (setB (deadH H id) id (.row (fr && f) t0 ([] ++ []))) w := by
       have hext : Ext c (deadH H id) w c (setB (deadH H id) id (.row (fr && f) t0 ([] ++ []))) w :=
        ⟨fun _ h => h, fun _ h => h, fun _ _ => rfl, fun j s hs => by
         have hj : j ≠ id := fun e => by subst e; simp [shape, getB_deadH_self] at hs
         exact ⟨by rw [shape_setB_ne hj]; exact hs, rfl⟩, fun _ _ _ cur _ _ _ h => ⟨cur, h, rfl⟩, rfl, rfl, fun _ _ _ => rfl⟩
       refine ⟨hk.below, hk.xk, hk.size, fun j => ?_, hk.inj, fun j g hj => by rw [length_setB]; exact hk.own j g hj, hk.imm, hk.sub, fun g x hx => (hk.glob g x hx).ext hext⟩
       rw [getB_setB]
       split
       ·rename_i hj; obtain ⟨rfl, _⟩ := hj; exact .inl ⟨hrho, rfl⟩
       ·exact BOk.keep hext (fun _ => rfl) (fun _ => rfl) (fun _ _ => rfl) (hk.blk j)
      have hext : Ext c (deadH H id) w c (setB (deadH H id) id (.row (fr && f) t0 ([] ++ []))) w :=
       ⟨fun _ h => h, fun _ h => h, fun _ _ => rfl, fun j s hs => by
        have hj : j ≠ id := fun e => by subst e; simp [shape, getB_deadH_self] at hs
        exact ⟨by rw [shape_setB_ne hj]; exact hs, rfl⟩, fun _ _ _ cur _ _ _ h => ⟨cur, h, rfl⟩, rfl, rfl, fun _ _ _ => rfl⟩
      refine .inl ⟨_, _, hexec _ _ hr, _, _, _, _, h, ?_, hkσ.ext hext, hst'⟩
      exact .own t0 id 0 ax 0 (by simp [shape, getB_setB, hidl']) (Nat.le_refl _) (by simp) (.inl rfl)
    ·obtain ⟨g, e', cur, hr0, ha0, hg, hsz⟩ := ho2.resolve_left (by omega)
     obtain ⟨q, hq⟩ : ∃ q, q = c.β id := ⟨_, rfl⟩
     rw [← hq, Nat.add_zero] at ha0
     subst ha0
     rw [← hq, Nat.add_zero] at hsz
     have hel : ∀ (k : Nat) (u : t0.D), xs[k]? = some u → ∃ es : List Value, DRel w (c.im fr) t0 u es ∧ ∀ (j : Nat) (v : Value), es[j]? = some v → cur[q + (k * t0.size + j)]? = some v := by
      rw [hq]
      rcases hbo with ⟨hb1, _⟩ | ⟨g', e'', cur', hr', hg', hsz', hel⟩
      ·rw [hr0] at hb1; cases hb1
      ·rw [hr0] at hr'; cases hr'
       rw [hg] at hg'; cases hg'
       exact hel
     have hfit : q + xs.length * t0.size + news.length ≤ cur.size := by
      have := Nat.mul_le_mul_right t0.size hroom
      rw [Nat.add_mul] at this; rw [n1]; omega
     obtain ⟨cur', hcur'⟩ : ∃ cur', (cur.toList.take (q + xs.length * t0.size) ++ news ++ cur.toList.drop (q + xs.length * t0.size + news.length)).toArray = cur' := ⟨_, rfl⟩
     have hsz' : cur'.size = cur.size := by
      rw [← hcur']; simp only [List.size_toArray, List.length_append, List.length_take, List.length_drop, Array.length_toList]; omega
     have hlo : ∀ j v, j < q + xs.length * t0.size → cur[j]? = some v → cur'[j]? = some v := fun j v hj hv => by
      rw [← hcur', List.getElem?_toArray, List.append_assoc, List.getElem?_append_left (by simp; omega), List.getElem?_take, if_pos hj]
      simpa using hv
     have hhi : ∀ j v, news[j]? = some v → cur'[q + (xs.length * t0.size + j)]? = some v := fun j v hj => by
      rw [← Nat.add_assoc]
      have := (List.getElem?_eq_some_iff.1 hj).1
      rw [← hcur', List.getElem?_toArray, List.append_assoc, List.getElem?_append_right (by simp; omega), List.getElem?_append_left (by simp; omega)]
      simpa [Nat.min_eq_left (show q + xs.length * t0.size ≤ cur.size by omega)] using hj
     have hr : (Builtin.append_ #[T, T] o.type #[.slice (some ⟨g, q, none⟩) xs.length cap, .slice ay ys.length capy]).run P w = .ok (.slice (some ⟨g, q, none⟩) (xs.length + ys.length) cap) (w.setRow g cur') := by
      cases ay with
      | some ad =>
       have hst1 := run_storeCells_at P g (q + xs.length * t0.size) e' news 0 cur w hg (by simpa using hfit) n3
       simp only [Nat.add_zero, hcur'] at hst1
       have hf := run_firstCells_some (P := P) w t0.size ys.length ad ys.length capy news n1 (fun j v hj => n2 j v hj ad rfl)
       simp [Builtin.append_, run_underlying hu, sizeOf, typeInfo, hi, hs, Builtin.lenOf, hroom, hf, Addr.add_lit, hst1]
      | none =>
       have hy0 : ys = [] := by
        by_cases hn : ys = []
        ·exact hn
        ·obtain ⟨_, _, hh, _⟩ := hrow hn; cases hh
       subst hy0
       have hn0 : news = [] := List.eq_nil_of_length_eq_zero (by simpa using n1)
       subst hn0
       have hcc : cur' = cur := by rw [← hcur']; simp
       have hself : w.setRow g cur = w := setRow_self w g cur e' _ hg
       have hroom' : xs.length ≤ cap := by simpa using hroom
       rw [hcc, hself]
       simp [Builtin.append_, run_underlying hu, sizeOf, typeInfo, hi, hs, Builtin.lenOf, hroom', Builtin.firstCells, storeCells]
     obtain ⟨hw1, hw2⟩ := setRow_facts w g cur cur' e' hg
     have hown0 := hst.own id g hr0
     obtain ⟨hst', hext, hv⟩ := revive_row (q := q) (w' := w.setRow g cur') hk id g (fr && f) t0 (xs ++ ys) cur' e' hidl' getB_deadH_self
      (fun k _ hk2 => hw2 k fun e => hk2 (by rw [e]; exact hr0) e.symm) (.inl hr0) hw1 (fun o _ ho => ⟨cur, e', cur', by rw [hg] at ho; exact (Option.some.inj ho).symm, hw1, hsz'⟩) (below_setRow hown0.1)
      (by rw [hlen, hsz', Nat.add_mul]; rw [n1] at hfit; omega)
      (whole q cur' (fun k u hku => by
       obtain ⟨es, e1, e2⟩ := hel k u hku
       refine ⟨es, e1, fun j v hj => hlo _ v ?_ (e2 j v hj)⟩
       have hk1 := (List.getElem?_eq_some_iff.1 hku).1
       have hj1 := (List.getElem?_eq_some_iff.1 hj).1
       rw [DRel.length _ _ _ e1] at hj1
       have : (k + 1) * t0.size ≤ xs.length * t0.size := Nat.mul_le_mul_right _ (by omega)
       rw [Nat.succ_mul] at this; omega) hhi) cap (by rw [hlen]; exact hroom) hcap (by rw [hsz']; exact hsz)
     rw [hlen] at hv
     exact .inl ⟨_, _, hexec _ _ hr, _, _, _, _, h, hv, hkσ.ext hext, hst'⟩
   ·
    have hyne : ys ≠ [] := fun e => by subst e; simp at hroom; omega
    obtain ⟨gy, qy, rfl, hgy, hrw⟩ := hrow hyne
    have holds : ∃ olds : List Value, olds.length = xs.length * t0.size ∧ (∀ ad, ax = some ad → ∀ (j : Nat) (v : Value), olds[j]? = some v → w.cell? (ad.add j) = some v) ∧
      ∀ (k : Nat) (u : t0.D), xs[k]? = some u → ∃ es : List Value, DRel w (c.im fr) t0 u es ∧ ∀ (j : Nat) (v : Value), es[j]? = some v → olds[k * t0.size + j]? = some v := by
     by_cases hx0 : xs = []
     ·subst hx0; exact ⟨[], by simp, by simp, by simp⟩
     ·have hc0 : cap ≠ 0 := fun e => hx0 (List.eq_nil_of_length_eq_zero (by omega))
      obtain ⟨g, e', cur, hr0, ha0, hg, hsz⟩ := ho2.resolve_left hc0
      rw [Nat.add_zero] at ha0
      subst ha0
      rcases hbo with ⟨hb1, _⟩ | ⟨g', e'', cur', hr', hg', hsz', hel⟩
      ·rw [hr0] at hb1; cases hb1
      ·rw [hr0] at hr'; cases hr'
       rw [hg] at hg'; cases hg'
       have hrx : RowAt w (c.im fr) t0 g (c.β id) xs := fun k u hku => by
        obtain ⟨es, e1, e2⟩ := hel k u hku
        refine ⟨es, e1, fun j v hj => ?_⟩
        rw [Go.cell_of_row w g _ cur e' (0, 0) hg]
        simpa [Nat.add_assoc] using e2 j v hj
       obtain ⟨olds, o1, o2, o3, o4⟩ := RowAt.news xs (c.β id) hrx
       exact ⟨olds, o1, fun ad had j v hj => by cases had; rw [Addr.add_lit]; exact o2 j v hj, o4⟩
    obtain ⟨olds, o1, o2, o4⟩ := holds
    have hcapg := grownCap_ge w (xs.length + ys.length) cap e
    have hcapm := grownCap_le_maxLen w (xs.length + ys.length) cap e (by unfold maxLen; omega)
    obtain ⟨cur', hcur'⟩ : ∃ cur', olds.toArray ++ news.toArray ++ Builtin.zeroCells z.cells (grownCap w (xs.length + ys.length) cap e - (xs.length + ys.length)) = cur' := ⟨_, rfl⟩
    have hr : (Builtin.append_ #[T, T] o.type #[.slice ax xs.length cap, .slice (some ⟨gy, qy, none⟩) ys.length capy]).run P w =
      .ok (.slice (some ⟨w.heap.size, 0, none⟩) (xs.length + ys.length) (grownCap w (xs.length + ys.length) cap e)) (w.drew.alloc (.cells cur' e)) := by
     rw [← hcur']
     cases ax with
     | some ad =>
      exact run_append_grow (P := P) w T o.type e i z hu hi hz ad xs.length cap olds (by rw [o1, hs]) (fun j v hj => o2 ad rfl j v hj) ⟨gy, qy, none⟩ ys.length capy news (by rw [n1, hs]) (fun j v hj => n2 j v hj _ rfl) (by omega) (by omega) (growslice_fits (by omega) hbytes)
     | none =>
      have hc0 : cap = 0 := by
       rcases ho2 with h0 | ⟨g, e', cur, _, hh, _⟩
       ·exact h0
       ·cases hh
      have hx0 : xs = [] := List.eq_nil_of_length_eq_zero (by omega)
      subst hc0 hx0
      have ho0 : olds = [] := List.eq_nil_of_length_eq_zero (by simpa using o1)
      subst ho0
      have := run_append_nil (P := P) w T o.type e i z hu hi hz ⟨gy, qy, none⟩ ys.length capy news (by rw [n1, hs]) (fun j v hj => n2 j v hj _ rfl) (List.length_pos_iff.2 hyne) (by omega) (by simp only [List.length_nil, Nat.zero_add] at hbytes; omega)
      simpa using this
    have hsz : cur'.size = grownCap w (xs.length + ys.length) cap e * t0.size := by
     rw [← hcur']
     simp only [Array.size_append, List.size_toArray, size_zeroCells, hzs, n1, o1, ← Nat.add_mul]
     congr 1; omega
    have hlo : ∀ j v, olds[j]? = some v → cur'[j]? = some v := fun j v hj => by
     have := (List.getElem?_eq_some_iff.1 hj).1
     rw [← hcur', Array.getElem?_append_left (by simp; omega), Array.getElem?_append_left (by simpa using this)]
     simpa using hj
    have hhi : ∀ j v, news[j]? = some v → cur'[xs.length * t0.size + j]? = some v := fun j v hj => by
     have := (List.getElem?_eq_some_iff.1 hj).1
     rw [← hcur', Array.getElem?_append_left (by simp; omega), Array.getElem?_append_right (by simp; omega)]
     simpa [o1] using hj
    have hdr : St E.glob base w0 c (deadH H id) w.drew := hk.world ((Below.refl _ _).drew)
    have hdrx : Ext c (deadH H id) w c (deadH H id) w.drew := hk.ext_world ((Below.refl _ _).drew)
    obtain ⟨hst', hext, hv⟩ := revive_row (q := 0) (w' := w.drew.alloc (.cells cur' e)) hdr id w.heap.size (fr && f) t0 (xs ++ ys) cur' e hidl' getB_deadH_self
     (fun k hk1 _ => Below.heap_alloc _ _ _ hk1) (.inr (Nat.le_refl _)) (heap_alloc_new _ _) (fun o _ ho => absurd (Array.getElem?_eq_some_iff.1 ho).1 (Nat.lt_irrefl _)) ((Below.refl base w.drew).alloc hk.size _)
     (by rw [hlen, hsz, Nat.zero_add]; exact Nat.mul_le_mul_right _ hcapg)
     (fun k u hku => by
      obtain ⟨es, e1, e2⟩ := whole 0 cur' (fun k u hku => by
       obtain ⟨es, e1, e2⟩ := o4 k u hku
       exact ⟨es, e1, fun j v hj => by rw [Nat.zero_add]; exact hlo _ v (e2 j v hj)⟩) (fun j v hj => by rw [Nat.zero_add]; exact hhi j v hj) k u hku
      exact ⟨es, hdrx.drel e1, e2⟩) (grownCap w (xs.length + ys.length) cap e) (by rw [hlen]; exact hcapg) hcapm (by rw [hsz, Nat.zero_add]; exact Nat.le_refl _)
    rw [hlen] at hv
    exact .inl ⟨_, _, hexec _ _ hr, _, _, _, _, h, hv, hkσ.ext (hdrx.trans hext), hst'⟩
  ·exact h.elim
 ·exact h.elim
end
end Go.Proofs.YtpfehhcljeagoaaDoor.Vc

namespace Go.Proofs.YtpfehhcljeagoaaDoor.Vc
open Go Go.RowKit

section
variable {E : Env} {P : Program} {G : List (Nat × V)} {base : Nat} {w0 : W0} {c : Cx} {H : List Blk} {w : World} {σ : List V} {a : Act} {K : V → List V → List Blk → Prop} {o : Oper}

theorem op_appendZ (hG : GlobOk E.glob) (hE : EnvOk P E) (hst : St E.glob base w0 c H w) (hσ : VRels c H w σ a.tmps.toList) (x y : Operand) (T T' : TypeId) (hTi : isIntT E T' = true)
  (ho : o.op = .call { callee := .builtin .append, args := #[x, y], argTypes := #[T, T'] }) (h : aappendZ E σ H T (ev E σ x) (ev E σ y) K) :
  After E.glob base w0 a.tmps.toList K P o a w := by
 have hx := ev_ok hst hσ x
 have hy := ev_ok hst hσ y
 obtain ⟨kn, hun⟩ : ∃ kn, P.underlying T' = some (.int kn) := by
  unfold isIntT at hTi
  split at hTi
  ·rename_i k hk; exact ⟨k, (lk_ty hE hk).2⟩
  ·cases hTi
 generalize ev E σ x = vx at h hx
 generalize ev E σ y = vy at h hy
 have hexec : ∀ v w', (Builtin.append_ #[T, T'] o.type #[a.eval x, a.eval y]).run P w = .ok v w' → (execOp a.eval o).run P w = .ok (.value v) w' := fun v w' hr => by
  unfold execOp
  simp only [ho, resolve, invoke, builtin, Sem.run_bind, Sem.run_pure, Result.andThen_ok, List.map_toArray, List.map_cons, List.map_nil, hr]
 unfold aappendZ at h
 split at h
 ·rename_i t t0 id ky n hT
  split at h
  ·rename_i fr t' xs hbk
   obtain ⟨⟨e1, e2⟩, h⟩ := h
   subst e1
   have e4 := e2.symm
   subst e4
   obtain ⟨e0, h⟩ := castK_ok h
   obtain ⟨⟨hn0, hle0⟩, h⟩ := h
   obtain ⟨ys, hys⟩ : ∃ ys, List.replicate n.toNat t0.dflt = ys := ⟨_, rfl⟩
   have h : forceL (killL id σ) fun σ => forceL (setB (killH id H) id (.row fr t0 (xs ++ ys))) (K (.own t0 id) σ) := by rw [← hys]; exact h
   have hyl : ys.length = n.toNat := by rw [← hys, List.length_replicate]
   have hy1 : 0 < ys.length := by omega
   have hle : xs.length + ys.length ≤ 1000000000 := by rw [hyl]; exact hle0
   obtain ⟨e, hu, hio, hpos⟩ := (lk_ty hE hT).sl
   obtain ⟨i, z, hi, hz, hzc, hs, hb⟩ := hio.open
   have h := (forceL_eq _ _).1 ((forceL_eq _ _).1 h)
   generalize hax : a.eval x = ax at hx
   generalize hay : a.eval y = ay at hy
   cases hx with | own _ _ n' ax cap hsh hnc hcap ho2 =>
   cases hy
   rw [hax, hay, show n = ((ys.length : Nat) : Int) by omega] at hexec
   simp only [shape, hbk, Option.some.injEq, Prod.mk.injEq] at hsh
   obtain ⟨rfl, _⟩ := hsh
   have hzs : z.cells.size = t0.size := by rw [← zc_length, ← hzc]; simp
   -- the dead state
   have hk := hst.kill hG id
   have hkσ : VRels c (deadH H id) w (killL id σ) a.tmps.toList := hσ.killed fun j hj => shape_deadH hj
   have hidl : id < H.length := by
    rcases Nat.lt_or_ge id H.length with g | g
    ·exact g
    ·rw [getB_ge H id g] at hbk; cases hbk
   have hidl' : id < (deadH H id).length := by unfold deadH; rw [length_setB, length_killH]; exact hidl
   have hset : ∀ b, setB (deadH H id) id b = setB (killH id H) id b := fun b => by
    have key : ∀ (L : List Blk) (k : Nat), setB (setB L k .dead) k b = setB L k b := by
     intro L
     induction L with
     | nil => intro k; rfl
     | cons u L ih => intro k; cases k with
      | zero => rfl
      | succ k => simp [setB, ih]
    exact key _ _
   -- the news
   obtain ⟨news, hzl⟩ : ∃ news, (Builtin.zeroCells z.cells ys.length).toList = news := ⟨_, rfl⟩
   have n1 : news.length = ys.length * t0.size := by rw [← hzl, Array.length_toList, size_zeroCells, hzs]
   have hz1 : ∀ v ∈ z.cells.toList, v.oneCell' = true := fun v hv => by rw [hzc] at hv; exact DRel.one t0 _ _ (zc_dflt w (c.im true) t0) v hv
   have n4 : ∀ (k : Nat) (u : t0.D), ys[k]? = some u → ∃ es : List Value, DRel w (c.im fr) t0 u es ∧ ∀ (j : Nat) (v : Value), es[j]? = some v → news[k * t0.size + j]? = some v := fun k u hk => by
    rw [← hys, List.getElem?_replicate] at hk
    split at hk
    ·rename_i hlt
     obtain rfl : t0.dflt = u := by simpa using hk
     refine ⟨zc t0, zc_dflt w _ t0, fun j v hj => ?_⟩
     rw [← hzl, Array.getElem?_toList]
     have := madeCells_get z.cells ys.length t0.size k j v hzs (by omega) (by rw [hzc]; exact hj)
     rw [← hzs] at this ⊢
     exact this
    ·simp at hk
   have n3 : ∀ v ∈ news, v.oneCell' = true := fun v hv => by
    rw [← hzl] at hv
    obtain ⟨q, hq, rfl⟩ := List.mem_iff_getElem.1 hv
    simp only [Builtin.zeroCells, Array.toList_map, List.getElem_map]
    have hpz : 0 < z.cells.size := by rw [hzs]; exact hpos
    have hm : q % z.cells.size < z.cells.size := Nat.mod_lt _ hpz
    simp only [Array.getElem_toList, Array.getElem_range]
    rw [getElem!_pos z.cells _ hm]
    exact hz1 _ (by simp)
   -- the old cells
   have hbo := hst.blk id
   rw [hbk] at hbo
   have hbytes : (xs.length + ys.length) * i.bytes ≤ 140737488355328 := by
    have := Nat.mul_le_mul hle hb; omega
   -- where the whole row's cells are known
   have whole : ∀ (q : Nat) (cur : Array Value), (∀ (k : Nat) (u : t0.D), xs[k]? = some u → ∃ es : List Value, DRel w (c.im fr) t0 u es ∧ ∀ (j : Nat) (v : Value), es[j]? = some v → cur[q + (k * t0.size + j)]? = some v) →
     (∀ j v, news[j]? = some v → cur[q + (xs.length * t0.size + j)]? = some v) →
     ∀ (k : Nat) (u : t0.D), (xs ++ ys)[k]? = some u → ∃ es : List Value, DRel w (c.im fr) t0 u es ∧ ∀ (j : Nat) (v : Value), es[j]? = some v → cur[q + (k * t0.size + j)]? = some v := by
    intro q cur h1 h2 k u hku
    rw [List.getElem?_append] at hku
    split at hku
    ·obtain ⟨es, e1, e2⟩ := h1 k u hku
     exact ⟨es, e1, e2⟩
    ·rename_i hge
     obtain ⟨es, e1, e2⟩ := n4 _ u hku
     refine ⟨es, e1, fun j v hj => ?_⟩
     ·have := h2 _ _ (e2 j v hj)
      rw [show xs.length * t0.size + ((k - xs.length) * t0.size + j) = k * t0.size + j by
       have : (xs.length + (k - xs.length)) * t0.size = k * t0.size := by congr 1; omega
       rw [Nat.add_mul] at this; omega] at this
      exact this
   rw [← hset] at h
   have hlen : (xs ++ ys).length = xs.length + ys.length := List.length_append
   by_cases hroom : xs.length + ys.length ≤ cap
   ·
    ·obtain ⟨g, e', cur, hr0, ha0, hg, hsz⟩ := ho2.resolve_left (by omega)
     obtain ⟨q, hq⟩ : ∃ q, q = c.β id := ⟨_, rfl⟩
     rw [← hq, Nat.add_zero] at ha0
     subst ha0
     rw [← hq, Nat.add_zero] at hsz
     have hel : ∀ (k : Nat) (u : t0.D), xs[k]? = some u → ∃ es : List Value, DRel w (c.im fr) t0 u es ∧ ∀ (j : Nat) (v : Value), es[j]? = some v → cur[q + (k * t0.size + j)]? = some v := by
      rw [hq]
      rcases hbo with ⟨hb1, _⟩ | ⟨g', e'', cur', hr', hg', hsz', hel⟩
      ·rw [hr0] at hb1; cases hb1
      ·rw [hr0] at hr'; cases hr'
       rw [hg] at hg'; cases hg'
       exact hel
     have hfit : q + xs.length * t0.size + news.length ≤ cur.size := by
      have := Nat.mul_le_mul_right t0.size hroom
      rw [Nat.add_mul] at this; rw [n1]; omega
     obtain ⟨cur', hcur'⟩ : ∃ cur', (cur.toList.take (q + xs.length * t0.size) ++ news ++ cur.toList.drop (q + xs.length * t0.size + news.length)).toArray = cur' := ⟨_, rfl⟩
     have hsz' : cur'.size = cur.size := by
      rw [← hcur']; simp only [List.size_toArray, List.length_append, List.length_take, List.length_drop, Array.length_toList]; omega
     have hlo : ∀ j v, j < q + xs.length * t0.size → cur[j]? = some v → cur'[j]? = some v := fun j v hj hv => by
      rw [← hcur', List.getElem?_toArray, List.append_assoc, List.getElem?_append_left (by simp; omega), List.getElem?_take, if_pos hj]
      simpa using hv
     have hhi : ∀ j v, news[j]? = some v → cur'[q + (xs.length * t0.size + j)]? = some v := fun j v hj => by
      rw [← Nat.add_assoc]
      have := (List.getElem?_eq_some_iff.1 hj).1
      rw [← hcur', List.getElem?_toArray, List.append_assoc, List.getElem?_append_right (by simp; omega), List.getElem?_append_left (by simp; omega)]
      simpa [Nat.min_eq_left (show q + xs.length * t0.size ≤ cur.size by omega)] using hj
     have hr : (Builtin.append_ #[T, T'] o.type #[.slice (some ⟨g, q, none⟩) xs.length cap, .int ky (ys.length : Nat)]).run P w = .ok (.slice (some ⟨g, q, none⟩) (xs.length + ys.length) cap) (w.setRow g cur') := by
      have hst1 := run_storeCells_at P g (q + xs.length * t0.size) e' news 0 cur w hg (by simpa using hfit) n3
      simp only [Nat.add_zero, hcur'] at hst1
      have hw : IntKind.i64.wrap (ys.length : Int) = ys.length := by rw [IntKind.wrap_i64]; omega
      have hneg : ¬ ((ys.length : Int) < 0) := by omega
      have hby : ys.length * i.bytes ≤ 140737488355328 := Nat.le_trans (Nat.mul_le_mul_right _ (Nat.le_add_left _ _)) hbytes
      have h48i : ¬ (281474976710656 < (ys.length : Int) * (i.bytes : Int)) := by rw [← Int.natCast_mul]; omega
      have hns : ¬ (ys.length = 0 ∨ i.size = 0) := by rw [hs]; omega
      rw [← hzl] at hst1
      have hne : ys ≠ [] := fun e => by rw [e] at hy1; simp at hy1
      have hi0 : i.size ≠ 0 := by omega
      rw [← hs] at hst1
      simp [Builtin.append_, run_underlying hu, run_underlying hun, sizeOf, typeInfo, zeroValue, hi, hz, asInt, asIntOf, hw, hneg, hne, hi0, h48i, hns, hroom, Addr.add_lit, hst1]
      intro hz0
      exact absurd hz0 (Nat.mul_ne_zero (by omega) hi0)
     obtain ⟨hw1, hw2⟩ := setRow_facts w g cur cur' e' hg
     have hown0 := hst.own id g hr0
     obtain ⟨hst', hext, hv⟩ := revive_row (q := q) (w' := w.setRow g cur') hk id g fr t0 (xs ++ ys) cur' e' hidl' getB_deadH_self
      (fun k _ hk2 => hw2 k fun e => hk2 (by rw [e]; exact hr0) e.symm) (.inl hr0) hw1 (fun o _ ho => ⟨cur, e', cur', by rw [hg] at ho; exact (Option.some.inj ho).symm, hw1, hsz'⟩) (below_setRow hown0.1)
      (by rw [hlen, hsz', Nat.add_mul]; rw [n1] at hfit; omega)
      (whole q cur' (fun k u hku => by
       obtain ⟨es, e1, e2⟩ := hel k u hku
       refine ⟨es, e1, fun j v hj => hlo _ v ?_ (e2 j v hj)⟩
       have hk1 := (List.getElem?_eq_some_iff.1 hku).1
       have hj1 := (List.getElem?_eq_some_iff.1 hj).1
       rw [DRel.length _ _ _ e1] at hj1
       have : (k + 1) * t0.size ≤ xs.length * t0.size := Nat.mul_le_mul_right _ (by omega)
       rw [Nat.succ_mul] at this; omega) hhi) cap (by rw [hlen]; exact hroom) hcap (by rw [hsz']; exact hsz)
     rw [hlen] at hv
     exact .inl ⟨_, _, hexec _ _ hr, _, _, _, _, h, hv, hkσ.ext hext, hst'⟩
   ·
    have holds : ∃ olds : List Value, olds.length = xs.length * t0.size ∧ (∀ ad, ax = some ad → ∀ (j : Nat) (v : Value), olds[j]? = some v → w.cell? (ad.add j) = some v) ∧
      ∀ (k : Nat) (u : t0.D), xs[k]? = some u → ∃ es : List Value, DRel w (c.im fr) t0 u es ∧ ∀ (j : Nat) (v : Value), es[j]? = some v → olds[k * t0.size + j]? = some v := by
     by_cases hx0 : xs = []
     ·subst hx0; exact ⟨[], by simp, by simp, by simp⟩
     ·have hc0 : cap ≠ 0 := fun e => hx0 (List.eq_nil_of_length_eq_zero (by omega))
      obtain ⟨g, e', cur, hr0, ha0, hg, hsz⟩ := ho2.resolve_left hc0
      rw [Nat.add_zero] at ha0
      subst ha0
      rcases hbo with ⟨hb1, _⟩ | ⟨g', e'', cur', hr', hg', hsz', hel⟩
      ·rw [hr0] at hb1; cases hb1
      ·rw [hr0] at hr'; cases hr'
       rw [hg] at hg'; cases hg'
       have hrx : RowAt w (c.im fr) t0 g (c.β id) xs := fun k u hku => by
        obtain ⟨es, e1, e2⟩ := hel k u hku
        refine ⟨es, e1, fun j v hj => ?_⟩
        rw [Go.cell_of_row w g _ cur e' (0, 0) hg]
        simpa [Nat.add_assoc] using e2 j v hj
       obtain ⟨olds, o1, o2, o3, o4⟩ := RowAt.news xs (c.β id) hrx
       exact ⟨olds, o1, fun ad had j v hj => by cases had; rw [Addr.add_lit]; exact o2 j v hj, o4⟩
    obtain ⟨olds, o1, o2, o4⟩ := holds
    have hcapg := grownCap_ge w (xs.length + ys.length) cap e
    have hcapm := grownCap_le_maxLen w (xs.length + ys.length) cap e (by unfold maxLen; omega)
    obtain ⟨cur', hcur'⟩ : ∃ cur', olds.toArray ++ news.toArray ++ Builtin.zeroCells z.cells (grownCap w (xs.length + ys.length) cap e - (xs.length + ys.length)) = cur' := ⟨_, rfl⟩
    have hr : (Builtin.append_ #[T, T'] o.type #[.slice ax xs.length cap, .int ky (ys.length : Nat)]).run P w =
      .ok (.slice (some ⟨w.heap.size, 0, none⟩) (xs.length + ys.length) (grownCap w (xs.length + ys.length) cap e)) (w.drew.alloc (.cells cur' e)) := by
     rw [← hcur', ← hzl, Array.toArray_toList]
     have hby : ys.length * i.bytes ≤ 140737488355328 := Nat.le_trans (Nat.mul_le_mul_right _ (Nat.le_add_left _ _)) hbytes
     refine Lib.run_append_grow_zeros (P := P) w T T' o.type e i z ky kn hu hun hi hz ax xs.length cap olds ?_ ys.length hy1 (by omega) (by omega) (by omega) (by omega) (growslice_fits (by omega) hbytes)
     cases ax with
     | some ad => exact run_firstCells_some (P := P) w.drew i.size xs.length ad xs.length cap olds (by rw [o1, hs]) (fun j v hj => o2 ad rfl j v hj)
     | none =>
      have hc0 : cap = 0 := by
       rcases ho2 with h0 | ⟨g, e', cur, _, hh, _⟩
       ·exact h0
       ·cases hh
      have hx0 : xs = [] := List.eq_nil_of_length_eq_zero (by omega)
      subst hc0 hx0
      have ho0 : olds = [] := List.eq_nil_of_length_eq_zero (by simpa using o1)
      subst ho0
      simp [Builtin.firstCells]
    have hsz : cur'.size = grownCap w (xs.length + ys.length) cap e * t0.size := by
     rw [← hcur']
     simp only [Array.size_append, List.size_toArray, size_zeroCells, hzs, n1, o1, ← Nat.add_mul]
     congr 1; omega
    have hlo : ∀ j v, olds[j]? = some v → cur'[j]? = some v := fun j v hj => by
     have := (List.getElem?_eq_some_iff.1 hj).1
     rw [← hcur', Array.getElem?_append_left (by simp; omega), Array.getElem?_append_left (by simpa using this)]
     simpa using hj
    have hhi : ∀ j v, news[j]? = some v → cur'[xs.length * t0.size + j]? = some v := fun j v hj => by
     have := (List.getElem?_eq_some_iff.1 hj).1
     rw [← hcur', Array.getElem?_append_left (by simp; omega), Array.getElem?_append_right (by simp; omega)]
     simpa [o1] using hj
    have hdr : St E.glob base w0 c (deadH H id) w.drew := hk.world ((Below.refl _ _).drew)
    have hdrx : Ext c (deadH H id) w c (deadH H id) w.drew := hk.ext_world ((Below.refl _ _).drew)
    obtain ⟨hst', hext, hv⟩ := revive_row (q := 0) (w' := w.drew.alloc (.cells cur' e)) hdr id w.heap.size fr t0 (xs ++ ys) cur' e hidl' getB_deadH_self
     (fun k hk1 _ => Below.heap_alloc _ _ _ hk1) (.inr (Nat.le_refl _)) (heap_alloc_new _ _) (fun o _ ho => absurd (Array.getElem?_eq_some_iff.1 ho).1 (Nat.lt_irrefl _)) ((Below.refl base w.drew).alloc hk.size _)
     (by rw [hlen, hsz, Nat.zero_add]; exact Nat.mul_le_mul_right _ hcapg)
     (fun k u hku => by
      obtain ⟨es, e1, e2⟩ := whole 0 cur' (fun k u hku => by
       obtain ⟨es, e1, e2⟩ := o4 k u hku
       exact ⟨es, e1, fun j v hj => by rw [Nat.zero_add]; exact hlo _ v (e2 j v hj)⟩) (fun j v hj => by rw [Nat.zero_add]; exact hhi j v hj) k u hku
      exact ⟨es, hdrx.drel e1, e2⟩) (grownCap w (xs.length + ys.length) cap e) (by rw [hlen]; exact hcapg) hcapm (by rw [hsz, Nat.zero_add]; exact Nat.le_refl _)
    rw [hlen] at hv
    exact .inl ⟨_, _, hexec _ _ hr, _, _, _, _, h, hv, hkσ.ext (hdrx.trans hext), hst'⟩
  ·exact h.elim
 ·exact h.elim
end
end Go.Proofs.YtpfehhcljeagoaaDoor.Vc

namespace Go.Proofs.YtpfehhcljeagoaaDoor.Vc
open Go Go.RowKit Go.MapKept Go.ChangeMaps

section
variable {α : Type}
theorem mget_none {n : Int} : ∀ {es : List (Int × α)}, (∀ (i : Nat) (m : Int) (x : α), es[i]? = some (m, x) → m ≠ n) → mget es n = none
 | [], _ => rfl
 | (m, y) :: l, h => by
  unfold mget
  rw [if_neg (h 0 m y rfl)]
  exact mget_none fun i m x hi => h (i + 1) m x (by simpa using hi)
theorem mput_none {n : Int} {x : α} : ∀ {es : List (Int × α)}, (∀ (i : Nat) (m : Int) (x : α), es[i]? = some (m, x) → m ≠ n) → mput es n x = es ++ [(n, x)]
 | [], _ => rfl
 | (m, y) :: l, h => by
  unfold mput
  rw [if_neg (h 0 m y rfl), mput_none fun i m x hi => h (i + 1) m x (by simpa using hi)]; rfl
theorem mget_at {n : Int} {y : α} : ∀ {es : List (Int × α)} {j : Nat}, (es.map (·.1)).Nodup → es[j]? = some (n, y) → mget es n = some y
 | [], j, _, h => by simp at h
 | (m, z) :: l, 0, _, h => by
  obtain ⟨rfl, rfl⟩ : m = n ∧ z = y := by simpa using h
  simp [mget]
 | (m, z) :: l, j + 1, hn, h => by
  have h : l[j]? = some (n, y) := by simpa using h
  simp only [List.map_cons, List.nodup_cons] at hn
  unfold mget
  rw [if_neg fun e => hn.1 (List.mem_map.2 ⟨(n, y), List.mem_of_getElem? h, e.symm⟩)]
  exact mget_at hn.2 h
theorem mput_at {n : Int} {x y : α} : ∀ {es : List (Int × α)} {j : Nat}, (es.map (·.1)).Nodup → es[j]? = some (n, y) → mput es n x = es.set j (n, x)
 | [], j, _, h => by simp at h
 | (m, z) :: l, 0, _, h => by
  obtain ⟨rfl, rfl⟩ : m = n ∧ z = y := by simpa using h
  simp [mput]
 | (m, z) :: l, j + 1, hn, h => by
  have h : l[j]? = some (n, y) := by simpa using h
  simp only [List.map_cons, List.nodup_cons] at hn
  unfold mput
  rw [if_neg fun e => hn.1 (List.mem_map.2 ⟨(n, y), List.mem_of_getElem? h, e.symm⟩), mput_at hn.2 h]; rfl
end

section
variable {E : Env} {P : Program} {base : Nat} {w0 : W0} {c : Cx} {H : List Blk} {w : World} {σ : List V} {a : Act} {K : V → List V → List Blk → Prop} {o : Oper}

theorem wf_i64 {n : Int} (h : IntKind.i64.min ≤ n ∧ n ≤ IntKind.i64.max) : (Lit.int .i64 n).wf = true := by simp only [Lit.wf, Bool.and_eq_true, decide_eq_true_eq]; exact h

theorem map_find {kT : TypeId} (hk : P.underlying kT = some (.int .i64)) {t : Ty} {ents : Array MapEntry} {es : List (Int × t.D)} (hsz : ents.size = es.length)
  (hel : ∀ (i : Nat) (n : Int) (x : t.D), es[i]? = some (n, x) → (∃ v b, ents[i]? = some ⟨.int .i64 n, v, b⟩) ∧ (IntKind.i64.min ≤ n ∧ n ≤ IntKind.i64.max)) {n : Int} (hn : IntKind.i64.min ≤ n ∧ n ≤ IntKind.i64.max) :
  ((Instr.findKey kT (.int .i64 n) ents.toList).run P w = .ok none w ∧ (∀ (i : Nat) (m : Int) (x : t.D), es[i]? = some (m, x) → m ≠ n) ∧ ∀ x ∈ ents.toList, x.key ≠ .int .i64 n) ∨
  ∃ (j : Nat) (x : t.D) (v : Value) (b : Nat), (Instr.findKey kT (.int .i64 n) ents.toList).run P w = .ok (some (j, v)) w ∧ es[j]? = some (n, x) ∧ ents[j]? = some ⟨.int .i64 n, v, b⟩ := by
 have at' : ∀ (i : Nat) (e : MapEntry), ents[i]? = some e → ∃ n x v b, es[i]? = some (n, x) ∧ e = ⟨.int .i64 n, v, b⟩ ∧ (IntKind.i64.min ≤ n ∧ n ≤ IntKind.i64.max) := fun i e he => by
  have hlt := (Array.getElem?_eq_some_iff.1 he).1
  have hx : es[i]? = some (es[i]'(by omega)) := List.getElem?_eq_getElem (by omega)
  generalize es[i]'(by omega) = nx at hx
  obtain ⟨n, x⟩ := nx
  obtain ⟨⟨v, b, h1⟩, h2⟩ := hel i n x hx
  rw [he] at h1
  exact ⟨n, x, v, b, hx, by simpa using h1, h2⟩
 have hkeys : ∀ e ∈ ents.toList, ∃ l, keyOf P kT e.key = some l := fun e he => by
  obtain ⟨i, hi⟩ := List.mem_iff_getElem?.1 he
  obtain ⟨m, x, v, b, _, rfl, hr⟩ := at' i e (by simpa using hi)
  exact ⟨_, Maps.keyOf_int_mk hk (wf_i64 hr)⟩
 rcases (Maps.int_keyed hk).find w (Maps.keyOf_int_mk hk (wf_i64 hn)) ents.toList hkeys with ⟨h1, h2⟩ | ⟨j, e, h1, h2, h3⟩
 ·refine .inl ⟨h1, fun i m x hi hm => ?_, h2⟩
  obtain ⟨⟨v, b, h3⟩, _⟩ := hel i m x hi
  subst hm
  exact h2 _ (Array.mem_toList_iff.2 (Array.mem_of_getElem? h3)) rfl
 ·obtain ⟨m, x, v, b, g1, rfl, _⟩ := at' j e (by simpa using h2)
  obtain rfl : m = n := by simpa using h3
  exact .inr ⟨j, x, v, b, h1, g1, by simpa using h2⟩

theorem op_makeMap (hE : EnvOk P E) (hst : St E.glob base w0 c H w) (hσ : VRels c H w σ a.tmps.toList) (T : TypeId) (r : Option Operand) (ho : o.op = .makeMap T r) (h : aop E σ H (.makeMap T r) K) :
  After E.glob base w0 a.tmps.toList K P o a w := by
 simp only [aop, amakeMap] at h
 cases r with
 | some r => simp at h
 | none =>
  simp only [Option.map_none] at h
  split at h
  ·rename_i t hT _
   have h := (forceL_eq _ _).1 h
   have hb : BOk (c.push H.length w.heap.size) (H ++ [.imap (!inL E.frz 1000006) t []]) (w.alloc (.map #[] 0)) H.length (.imap (!inL E.frz 1000006) t []) :=
    ⟨w.heap.size, #[], 0, by simp [Cx.push], (MapKept.heap_alloc w _).1, ⟨by simp, by simp⟩, ⟨stamped_empty 0, rfl, fun i e h => by simp at h⟩, by simp, fun i n x hi => by simp at hi⟩
   have hst' := hst.pushO _ _ hb
   have hext := hst.ext_pushO (.imap (!inL E.frz 1000006) t []) (.map #[] 0)
   refine .inl ⟨_, _, ?_, _, σ, _, _, h, .mp t H.length w.heap.size (by simp [shape, getB_append]) (by simp [Cx.push]), hσ.ext hext, hst'⟩
   have hr := run_makeMap (P := P) T w
   simp [execOp, ho, hr]
  ·exact h.elim

theorem elV_ok {fr : Bool} {t : Ty} {x : t.D} {v : Value} {k : V → Prop} (h : elV fr t x k) (hd : DRel w (c.im fr) t x v.cells.toList) (hc : canonV t v) : ∃ y, k y ∧ VRel c H w y v := by
 have one : t.size = 1 → v.oneCell' = true → VRel c H w (getCell fr t x 0) v := fun _ h1 => by
  have h0 := one_cells h1
  rw [h0] at hd
  exact getCell_ok t x [v] 0 v hd rfl
 cases t with
 | nil => exact h.elim
 | arr n t => exact h.elim
 | mapT t => exact h.elim
 | cons t ts =>
  have h := (forceL_eq _ _).1 h
  have hl := DRel.length _ _ _ hd
  have hr := getCells_ok (H := H) hd (Ty.cons t ts).size 0 (by omega)
  rw [List.drop_zero, ← hl, List.take_length] at hr
  have hc : v = .agg v.cells := hc
  refine ⟨_, h, ?_⟩
  rw [hc]
  have := VRel.agg (c := c) (H := H) (w := w) _ _ hr
  rw [hl] at this
  simpa using this
 | u8 => exact ⟨_, h, one rfl hc⟩
 | int k => exact ⟨_, h, one rfl hc⟩
 | bool => exact ⟨_, h, one rfl hc⟩
 | str => exact ⟨_, h, one rfl hc⟩
 | sl t => exact ⟨_, h, one rfl hc⟩
 | fnT => exact ⟨_, h, one rfl hc⟩

theorem elV_ret {fr : Bool} {t : Ty} {x : t.D} {k : V → Prop} (h : elV fr t x k) : t ≠ .nil ∧ (∀ n e, t ≠ .arr n e) := by
 cases t <;> first | exact h.elim | exact ⟨by simp, fun _ _ => by simp⟩

theorem zv_canon {t : Ty} (h1 : t ≠ .nil) (h2 : ∀ n e, t ≠ .arr n e) : canonV t (zv t) ∧ (zv t).cells.toList = zc t := by
 cases t <;> first | exact (h1 rfl).elim | exact (h2 _ _ rfl).elim | exact ⟨rfl, rfl⟩

theorem op_lookup (hE : EnvOk P E) (hst : St E.glob base w0 c H w) (hσ : VRels c H w σ a.tmps.toList) (T : TypeId) (m k : Operand) (ok : Bool) (ho : o.op = .lookup T m k ok) (h : aop E σ H (.lookup T m k ok) K) :
  After E.glob base w0 a.tmps.toList K P o a w := by
 have hm := ev_ok hst hσ m
 have hk := ev_ok hst hσ k
 simp only [aop, alookup] at h
 generalize ev E σ m = vm at h hm
 generalize ev E σ k = vk at h hk
 generalize hae : a.eval m = em at hm
 generalize hak : a.eval k = ek at hk
 split at h
 ·rename_i t t0 id n hT
  split at h
  ·rename_i fr t' es hb
   obtain ⟨rfl, h⟩ := h
   obtain ⟨kT, eT, hu, hku, hinf, hz⟩ := (lk_ty hE hT).2
   cases hm with | mp _ _ g hs hr =>
   cases hk with | int _ _ hn1 hn2 =>
   have hbk := hst.blk id
   rw [hb] at hbk
   obtain ⟨g', ents, clock, hr', hg, ⟨hsz, hmax⟩, hstm, hnd, hel⟩ := hbk
   rw [hr] at hr'; cases hr'
   have hfind := map_find (w := w) hku (t := t') hsz (fun i n x hi => by
    obtain ⟨v, b, h1, ⟨h2, _⟩, _⟩ := hel i n x hi
    exact ⟨⟨v, b, h1⟩, h2⟩) ⟨hn1, hn2⟩
   have hchk := (Maps.int_keyed hku).check w ents.isEmpty (Maps.keyOf_int_mk hku (wf_i64 ⟨hn1, hn2⟩))
   have hzr : (zeroValue eT).run P w = .ok (zv t') w := by
    obtain ⟨i, hi, hi2⟩ := Option.bind_eq_some_iff.1 hz
    simp [zeroValue, typeInfo, hi, hi2]
   have fin : ∀ (x : t'.D) (v : Value) (is : Bool), (Instr.lookup T (.map (some g)) (.int .i64 n) ok).run P w = .ok (if ok then .tuple #[v, .bool is] else v) w → DRel w (c.im fr) t' x v.cells.toList → canonV t' v →
     (elV fr t' x fun v => okK ok v (is = true) fun v => K v σ H) → After E.glob base w0 a.tmps.toList K P o a w := fun x v is hrun hd hc h => by
    obtain ⟨y, h1, h2⟩ := elV_ok (H := H) h hd hc
    cases ok with
    | true =>
     refine after_pure hst hσ (.tup _ _ (.cons _ _ _ _ h2 (.cons _ _ _ _ (.b _ is Iff.rfl) .nil))) h1 ?_
     simp only [if_true] at hrun
     simp [execOp, ho, hae, hak, hrun]
    | false =>
     refine after_pure hst hσ h2 h1 ?_
     simp only [Bool.false_eq_true, if_false] at hrun
     simp [execOp, ho, hae, hak, hrun]
   cases hfz : inL E.frz 1000006 with
   | true =>
    rw [hfz, cond_true] at h
    unfold missV at h
    split at h
    rotate_left
    ·exact h.elim
    rename_i x0 p0 u0 xo0 hxp
    obtain ⟨hsome, hnone⟩ := h
    rcases hfind with ⟨h1, h2, _⟩ | ⟨j, x, v, b, h1, h2, h3⟩
    ·have h := hnone (mget_none h2)
     have hrun : (Instr.lookup T (.map (some g)) (.int .i64 n) ok).run P w = .ok (if ok then .tuple #[.slice none 0 0, .bool false] else .slice none 0 0) w := by
      simp [Instr.lookup, run_underlying hu, MapKept.run_getObj_map hg, hchk, h1, hzr, Result.andThen]; rfl
     cases ok with
     | true =>
      refine after_pure hst hσ (.tup _ _ (.cons _ _ _ _ .nils (.cons _ _ _ _ (.b False false (by simp)) .nil))) h ?_
      simp only [if_true] at hrun
      simp [execOp, ho, hae, hak, hrun]
     | false =>
      refine after_pure hst hσ .nils h ?_
      simp only [Bool.false_eq_true, if_false] at hrun
      simp [execOp, ho, hae, hak, hrun]
    ·have h := hsome x (mget_at hnd h2)
     obtain ⟨v', b', g1, ⟨_, g2⟩, g3⟩ := hel j n x h2
     rw [h3] at g1
     obtain ⟨rfl, rfl⟩ : v = v' ∧ b = b' := by simpa using g1
     refine fin x v true ?_ g3 g2 (by simpa using h)
     simp [Instr.lookup, run_underlying hu, MapKept.run_getObj_map hg, hchk, h1, Result.andThen]
   | false =>
   rw [hfz, cond_false] at h
   rcases hfind with ⟨h1, h2, _⟩ | ⟨j, x, v, b, h1, h2, h3⟩
   ·rw [mget_none h2] at h
    obtain ⟨e1, e2⟩ := elV_ret h
    obtain ⟨z1, z2⟩ := zv_canon e1 e2
    refine fin t'.dflt (zv t') false ?_ (by rw [z2]; exact zc_dflt w _ t') z1 h
    simp [Instr.lookup, run_underlying hu, MapKept.run_getObj_map hg, hchk, h1, hzr, Result.andThen]
   ·rw [mget_at hnd h2] at h
    obtain ⟨v', b', g1, ⟨_, g2⟩, g3⟩ := hel j n x h2
    rw [h3] at g1
    obtain ⟨rfl, rfl⟩ : v = v' ∧ b = b' := by simpa using g1
    refine fin x v true ?_ g3 g2 h
    simp [Instr.lookup, run_underlying hu, MapKept.run_getObj_map hg, hchk, h1, Result.andThen]
  ·exact h.elim
 ·exact h.elim

theorem asEl_canon {t : Ty} {v : V} {u : Value} {k : Bool → t.D → Prop} (h : asEl t v k) (hx : VRel c H w v u) : canonV t u := by
 cases t with
 | cons t ts =>
  cases v <;> first | exact h.elim | skip
  cases hx; simp [canonV, Value.cells]
 | arr n t =>
  cases v <;> first | exact h.elim | skip
  cases hx; simp [canonV, Value.cells]
 | sl t =>
  cases v <;> first | exact h.elim | skip
  ·cases hx; rfl
  ·cases hx with | sl _ _ _ _ hd =>
   obtain ⟨ad, cap, h1, _⟩ := hd
   simp only [List.cons.injEq, and_true] at h1
   subst h1; rfl
 | u8 => cases v <;> first | exact h.elim | (cases hx; rfl)
 | int k => cases v <;> first | exact h.elim | (cases hx; rfl)
 | bool => cases v <;> first | exact h.elim | (cases hx; rfl)
 | str => cases v <;> first | exact h.elim | (cases hx; rfl)
 | nil => exact h.elim
 | fnT => exact h.elim
 | mapT t => exact h.elim

theorem below_setBlock {w : World} {g : Nat} {ents : Array MapEntry} {clock : Nat} (hg : w.heap[g]? = some (.map ents clock)) (o : Obj) {base : Nat} (hb : base ≤ g) : Below base w (setBlock w g o) :=
 ⟨rfl, rfl, rfl, by simp [setBlock], fun k hk => heap_setBlock_other hg o (by omega)⟩

theorem shape_imap {id : Nat} {fr fr' : Bool} {t t' : Ty} {es : List (Int × t.D)} {es' : List (Int × t'.D)} (hb : getB H id = .imap fr t es) : shape (setB H id (.imap fr' t' es')) id = shape H id := by
 have hlt : id < H.length := by
  rcases Nat.lt_or_ge id H.length with g | g
  ·exact g
  ·rw [getB_ge H id g] at hb; cases hb
 unfold shape
 rw [getB_setB, if_pos ⟨rfl, hlt⟩, hb]

theorem op_mapUpdate (hE : EnvOk P E) (hst : St E.glob base w0 c H w) (hσ : VRels c H w σ a.tmps.toList) (T : TypeId) (m k x : Operand) (ho : o.op = .mapUpdate T m k x) (h : aop E σ H (.mapUpdate T m k x) K) :
  After E.glob base w0 a.tmps.toList K P o a w := by
 have hm := ev_ok hst hσ m
 have hk := ev_ok hst hσ k
 have hx := ev_ok hst hσ x
 simp only [aop] at h
 have h := (forceV_eq _ _).1 h
 simp only [amapUpdate] at h
 generalize ev E σ m = vm at h hm
 generalize ev E σ k = vk at h hk
 generalize ev E σ x = vx at h hx
 generalize hae : a.eval m = em at hm
 generalize hak : a.eval k = ek at hk
 generalize hav : a.eval x = ex at hx
 split at h
 ·rename_i t t0 id n hT
  split at h
  ·rename_i fr t' es hb
   have hcan := asEl_canon h hx
   obtain ⟨f, y, ⟨⟨ett, hle⟩, h9⟩, hd⟩ := asEl_ok h hx
   clear h
   subst ett
   have h := (forceL_eq _ _).1 h9
   obtain ⟨kT, eT, hu, hku, hinf, hz⟩ := (lk_ty hE hT).2
   cases hm with | mp _ _ g hs hr =>
   cases hk with | int _ _ hn1 hn2 =>
   have hbk := hst.blk id
   rw [hb] at hbk
   obtain ⟨g', ents, clock, hr', hg, ⟨hsz, hmax⟩, hstm, hnd, hel⟩ := hbk
   rw [hr] at hr'; cases hr'
   have hN : ∀ g, c.N g → c.M g := fun g hg => (hst.sub g hg).1
   have hold : ∀ (x : t'.D) (cs : List Value), DRel w (c.im fr) t' x cs → DRel w (c.im (fr && f)) t' x cs := fun x cs hd => DRel.ext (by cases fr <;> cases f <;> first | exact fun _ h => h | exact hN) (fun _ _ => rfl) _ _ _ hd
   have hfind := map_find (w := w) hku (t := t') hsz (fun i n x hi => by
    obtain ⟨v, b, h1, ⟨h2, _⟩, _⟩ := hel i n x hi
    exact ⟨⟨v, b, h1⟩, h2⟩) ⟨hn1, hn2⟩
   have hkk := Maps.keyOf_int_mk hku (wf_i64 ⟨hn1, hn2⟩)
   have hchk := (Maps.int_keyed hku).check w false hkk
   have hstay := (Maps.int_keyed hku).stays w hkk
   have fin : ∀ (ents' : Array MapEntry) (clock' : Nat), (Instr.mapUpdate T (.map (some g)) (.int .i64 n) ex).run P w = .ok () (setBlock w g (.map ents' clock')) → (ents'.size = (mput es n y).length ∧ (mput es n y).length ≤ maxLen) → Stm ents' clock' → ((mput es n y).map (·.1)).Nodup →
     (∀ (i : Nat) (m : Int) (x : t'.D), (mput es n y)[i]? = some (m, x) → ∃ v b, ents'[i]? = some ⟨.int .i64 m, v, b⟩ ∧ ((IntKind.i64.min ≤ m ∧ m ≤ IntKind.i64.max) ∧ canonV t' v) ∧ DRel w (c.im (fr && f)) t' x v.cells.toList) → After E.glob base w0 a.tmps.toList K P o a w := fun ents' clock' hrun h1 h2 h3 h4 => by
    have hw1 := heap_setBlock_same hg (.map ents' clock')
    have hother : ∀ k, k ≠ g → (setBlock w g (.map ents' clock')).heap[k]? = w.heap[k]? := fun k hk => heap_setBlock_other hg _ hk
    have hshape : shape (setB H id (.imap (fr && f) t' (mput es n y))) id = shape H id := shape_imap hb
    have hext := hst.ext_updO id g (.imap (fr && f) t' (mput es n y)) _ (.map ents' clock') hr hg rfl hother hshape
    refine .inr (.inl ⟨setBlock w g (.map ents' clock'), ?_, .undef, σ, _, c, h, .undef _, hσ.ext hext, ?_⟩)
    ·simp [execOp, ho, hae, hak, hav, hrun]
    ·refine hst.updO id g _ _ _ hr hg rfl hw1 hother hshape (below_setBlock hg _ (hst.own id g hr).1) ⟨g, ents', clock', hr, hw1, h1, h2, h3, fun i m x hi => ?_⟩
     obtain ⟨v, b, g1, g2, g3⟩ := h4 i m x hi
     exact ⟨v, b, g1, g2, hext.drel g3⟩
   have hnew : DRel w (c.im (fr && f)) t' y ex.cells.toList := hd (fr && f) (fun e => by simp at e; exact e.2) hN
   rcases hfind with ⟨h1, h2, h3⟩ | ⟨j, x0, v0, b0, h1, h2, h3⟩
   ·have hp := mput_none (x := y) h2
    refine fin (ents.push ⟨.int .i64 n, ex, clock⟩) (clock + 1) ?_ ?_ ⟨stamped_push hstm.1 h3, by rw [Array.size_push, hstm.2.1], fun i e he => by
     rw [Array.getElem?_push] at he
     split at he
     ·rename_i hi; cases he; rw [hi]; exact hstm.2.1
     ·exact hstm.2.2 i e he⟩ ?_ ?_
    ·simp [Instr.mapUpdate, run_underlying hu, MapKept.run_getObj_map hg, hchk, h1, MapKept.run_setObj_map _ hg, Result.andThen, setBlock]
    ·rw [hp]; simp only [Array.size_push, List.length_append, List.length_cons, List.length_nil]
     unfold maxLen at *; omega
    ·rw [hp, List.map_append]
     refine List.nodup_append.2 ⟨hnd, by simp, fun a ha b hb e => ?_⟩
     obtain ⟨⟨m, x⟩, hm, rfl⟩ := List.mem_map.1 ha
     obtain ⟨i, hi⟩ := List.mem_iff_getElem?.1 hm
     simp only [List.map_cons, List.map_nil, List.mem_singleton] at hb
     exact h2 i m x hi (e.trans hb)
    ·intro i m x hi
     rw [hp] at hi
     rcases Nat.lt_or_ge i es.length with hl | hl
     ·rw [List.getElem?_append_left hl] at hi
      obtain ⟨v, b, g1, g2, g3⟩ := hel i m x hi
      exact ⟨v, b, by rw [Array.getElem?_push, if_neg (by omega)]; exact g1, g2, hold _ _ g3⟩
     ·rw [List.getElem?_append_right hl] at hi
      have h0 : i - es.length = 0 := by
       have := (List.getElem?_eq_some_iff.1 hi).1
       simp at this; omega
      rw [h0] at hi
      obtain ⟨rfl, rfl⟩ : n = m ∧ y = x := by simpa using hi
      exact ⟨ex, clock, by rw [Array.getElem?_push, if_pos (by omega)], ⟨⟨hn1, hn2⟩, hcan⟩, hnew⟩
   ·have hp := mput_at (x := y) hnd h2
    have hjl : j < es.length := (List.getElem?_eq_some_iff.1 h2).1
    refine fin (ents.modify j fun e => { e with key := .int .i64 n, val := ex }) clock ?_ ?_ ⟨stamped_modify hstm.1 j _ (fun _ _ => rfl) fun e _ he => by rw [h3] at he; cases he; rfl, by rw [Array.size_modify]; exact hstm.2.1, fun i e he => by
     rw [Array.getElem?_modify] at he
     split at he
     ·obtain ⟨e', h1', rfl⟩ := Option.map_eq_some_iff.1 he
      exact hstm.2.2 i e' h1'
     ·exact hstm.2.2 i e he⟩ ?_ ?_
    ·simp [Instr.mapUpdate, run_underlying hu, MapKept.run_getObj_map hg, hchk, h1, h3, hstay, MapKept.run_setObj_map _ hg, Result.andThen, setBlock]
    ·rw [hp]; simp only [Array.size_modify, List.length_set]; exact ⟨hsz, hmax⟩
    ·have e : ((es.set j (n, y)).map (·.1)) = es.map (·.1) := by
      apply List.ext_getElem?
      intro i
      rw [List.getElem?_map, List.getElem?_map, List.getElem?_set]
      by_cases hij : j = i
      ·subst hij; rw [if_pos rfl, if_pos hjl, h2]; rfl
      ·rw [if_neg hij]
     rw [hp, e]; exact hnd
    ·intro i m x hi
     rw [hp, List.getElem?_set] at hi
     by_cases hij : j = i
     ·subst hij
      rw [if_pos rfl, if_pos hjl] at hi
      obtain ⟨rfl, rfl⟩ : n = m ∧ y = x := by simpa using hi
      exact ⟨ex, b0, by rw [Array.getElem?_modify, if_pos rfl, h3]; rfl, ⟨⟨hn1, hn2⟩, hcan⟩, hnew⟩
     ·rw [if_neg hij] at hi
      obtain ⟨v, b, g1, g2, g3⟩ := hel i m x hi
      exact ⟨v, b, by rw [Array.getElem?_modify, if_neg hij]; exact g1, g2, hold _ _ g3⟩
  ·exact h.elim
 ·exact h.elim

theorem shape_mit {id mid n : Nat} {s s' : List Nat} {l l' : Option Nat} (hb : getB H id = .mit (some mid) n s l) : shape (setB H id (.mit (some mid) n s' l')) id = shape H id := by
 have hlt : id < H.length := by
  rcases Nat.lt_or_ge id H.length with g | g
  ·exact g
  ·rw [getB_ge H id g] at hb; cases hb
 unfold shape
 rw [getB_setB, if_pos ⟨rfl, hlt⟩, hb]
theorem op_range (hE : EnvOk P E) (hst : St E.glob base w0 c H w) (hσ : VRels c H w σ a.tmps.toList) (T : TypeId) (x : Operand) (ho : o.op = .range T x) (h : aop E σ H (.range T x) K) : After E.glob base w0 a.tmps.toList K P o a w := by
 have hx := ev_ok hst hσ x
 simp only [aop, arange] at h
 generalize ev E σ x = vx at h hx
 generalize hae : a.eval x = ex at hx
 split at h
 ·rename_i t t0 id hT
  split at h
  ·rename_i fr t' es hb
   obtain ⟨rfl, h⟩ := h
   have h := (forceL_eq _ _).1 h
   obtain ⟨kT, eT, hu, hku, hinf, hz⟩ := (lk_ty hE hT).2
   cases hx with | mp _ _ g hs hr =>
   have hbk := hst.blk id
   rw [hb] at hbk
   obtain ⟨g', ents, clock, hr', hg, ⟨hsz, hmax⟩, hstm, hnd, hel⟩ := hbk
   rw [hr] at hr'; cases hr'
   have hidl := (hst.own id g hr).2.2.2
   have hclk : clock = es.length := by rw [hstm.2.1, hsz]
   have hbn : BOk (c.push H.length w.heap.size) (H ++ [.mit (some id) es.length [] none]) (w.alloc (.mapIter (some g) es.length #[] es.length)) H.length (.mit (some id) es.length [] none) :=
    ⟨w.heap.size, g, (0, 0), by simp [Cx.push], (MapKept.heap_alloc w _).1, by simp only [Cx.push]; rw [if_neg (by omega)]; exact hr, shape_append hs, fun j hj => by simp at hj, beta_push _ _ _⟩
   have hst' := hst.pushO _ _ hbn
   have hext := hst.ext_pushO (.mit (some id) es.length [] none) (.mapIter (some g) es.length #[] es.length)
   have hp := VRel.ptr (c := c.push H.length w.heap.size) (H := H ++ [.mit (some id) es.length [] none]) (w := w.alloc (.mapIter (some g) es.length #[] es.length)) H.length 1 0 0 w.heap.size 1 (by simp [shape, getB_append]) (by simp [Cx.push]) (by omega) (by omega)
   rw [beta_push] at hp
   refine .inl ⟨_, _, ?_, _, σ, _, _, h, hp, hσ.ext hext, hst'⟩
   have hrun := run_range_map (P := P) w T kT eT g ents clock hu hg
   rw [hclk] at hrun
   simp [execOp, ho, hae, hrun]
  ·exact h.elim
 ·exact h.elim

theorem left_none {ents : Array MapEntry} {clock : Nat} (hs : Stm ents clock) {s : List Nat} (h : (leftOf ents s.toArray).size = 0) : ∀ i, i < ents.size → i ∈ s := fun i hi => by
 have he : ents[i]? = some (ents[i]'hi) := Array.getElem?_eq_getElem hi
 have hb := hs.2.2 i _ he
 have h0 : leftOf ents s.toArray = #[] := Array.eq_empty_of_size_eq_zero h
 unfold leftOf at h0
 rw [Array.filter_eq_empty_iff] at h0
 have := h0 _ (Array.mem_of_getElem? he)
 rw [hb] at this
 simpa using this
theorem left_mem {ents : Array MapEntry} {clock : Nat} (hs : Stm ents clock) {s : List Nat} {e : MapEntry} (h : e ∈ (leftOf ents s.toArray).toList) : ∃ i, i < ents.size ∧ ents[i]? = some e ∧ e.born = i ∧ ¬ i ∈ s := by
 unfold leftOf at h
 simp only [Array.toList_filter, List.mem_filter] at h
 obtain ⟨h1, h2⟩ := h
 obtain ⟨i, hi⟩ := List.mem_iff_getElem?.1 h1
 have hi : ents[i]? = some e := by simpa using hi
 refine ⟨i, (Array.getElem?_eq_some_iff.1 hi).1, hi, hs.2.2 i e hi, ?_⟩
 rw [hs.2.2 i e hi] at h2
 simpa using h2

theorem op_next (hE : EnvOk P E) (hst : St E.glob base w0 c H w) (hσ : VRels c H w σ a.tmps.toList) (x : Operand) (ho : o.op = .next x false) (h : aop E σ H (.next x false) K) : After E.glob base w0 a.tmps.toList K P o a w := by
 have hx := ev_ok hst hσ x
 simp only [aop, anext] at h
 generalize ev E σ x = vx at h hx
 generalize hae : a.eval x = ex at hx
 split at h
 ·rename_i id zz
  split at h
  ·rename_i mid n s l hbi
   split at h
   ·rename_i fr t es hbm
    obtain ⟨rfl, hover, hstep⟩ := h
    cases hx with | ptr _ _ _ _ gx m hsx hrx hix hox =>
    have hbi' := hst.blk id
    rw [hbi] at hbi'
    obtain ⟨g, gm, z, h1, h2, h3, h4, h5, h6⟩ := hbi'
    rw [hrx] at h1; cases h1
    have hbm' := hst.blk mid
    rw [hbm] at hbm'
    obtain ⟨g', ents, clock, hr', hg, ⟨hsz, hmax⟩, hstm, hnd, hel⟩ := hbm'
    rw [h3] at hr'; cases hr'
    have hclk : clock = es.length := by rw [hstm.2.1, hsz]
    have hadr : c.β id + (0 * zz + 0) = 0 := by rw [h6]; omega
    rw [hadr] at hae
    have hgm : gm ≠ gx := fun e => by
     subst e
     rw [h2] at hg; cases hg
    have hbold : ∀ e ∈ ents.toList, e.born < es.length := fun e he => by have := hstm.1.1 e he; omega
    rcases run_next_at (P := P) w o.type gx gm es.length es.length (s ++ l.toList).toArray ents clock h2 hg hbold (Nat.le_refl _) with ⟨hz0, hrun⟩ | ⟨e, he, w1, hw1, hrun⟩
    ·have hall := left_none hstm hz0
     refine .inl ⟨_, w, ?_, .tup [.bt false], σ, H, c, hover (fun i hi => hall i (by omega)), .tup _ _ (.cons _ _ _ _ (.bt false) .nil), hσ, hst⟩
     simp [execOp, ho, hae, hrun]
    ·obtain ⟨i, hil, hie, hbn, hni⟩ := left_mem hstm he
     have hil' : i < es.length := by omega
     have hes : es[i]? = some (es[i]'hil') := List.getElem?_eq_getElem hil'
     have hgd : es.getD i (0, t.dflt) = es[i]'hil' := by rw [List.getD_eq_getElem?_getD, hes]; rfl
     have hk := hstep i hil' hni
     rw [hgd] at hk
     obtain ⟨v, b, e1, ⟨e2, e3⟩, e4⟩ := hel i (es[i]'hil').1 (es[i]'hil').2 hes
     rw [hie] at e1
     cases e1
     have hb1 : Below w.heap.size w w1 := by rcases hw1 with rfl | rfl <;> exact ⟨rfl, rfl, rfl, Nat.le_refl _, fun _ _ => rfl⟩
     have hheap : w1.heap = w.heap := by rcases hw1 with rfl | rfl <;> rfl
     have hst1 := hst.world hb1
     have hext1 := hst.ext_world hb1
     have hg1 : w1.heap[gx]? = some (.mapIter (some gm) es.length (s ++ l.toList).toArray es.length) := by rw [hheap]; exact h2
     have hxl := (hst.own id gx hrx).2.1
     have hnewo : (setBlock w1 gx (.mapIter (some gm) es.length ((s ++ l.toList).toArray.push i) clock)).heap[gx]? = some (.mapIter (some gm) es.length (((s ++ l.toList) ++ [i]).toArray) es.length) := by
      have e5 : (s ++ l.toList).toArray.push i = ((s ++ l.toList) ++ [i]).toArray := by simp
      rw [e5, hclk]
      simp [setBlock, hheap, hxl]
     have hother : ∀ k, k ≠ gx → (setBlock w1 gx (.mapIter (some gm) es.length ((s ++ l.toList).toArray.push i) clock)).heap[k]? = w1.heap[k]? := fun k hk => by
      simp [setBlock, Array.getElem?_setIfInBounds, Array.getElem?_set, Ne.symm hk]
     have hshape := shape_mit (H := H) (s' := s ++ l.toList) (l' := some i) hbi
     have hbel : Below base w1 (setBlock w1 gx (.mapIter (some gm) es.length ((s ++ l.toList).toArray.push i) clock)) := ⟨rfl, rfl, rfl, by simp [setBlock], fun k hk => hother k (by have := (hst.own id gx hrx).1; omega)⟩
     have hne : mid ≠ id := fun e => by subst e; rw [hbm] at hbi; cases hbi
     have hext2 := hst1.ext_updO id gx (.mit (some mid) es.length (s ++ l.toList) (some i)) _ (.mapIter (some gm) es.length ((s ++ l.toList).toArray.push i) clock) hrx hg1 rfl hother hshape
     have hbok : BOk c (setB H id (.mit (some mid) es.length (s ++ l.toList) (some i))) (setBlock w1 gx (.mapIter (some gm) es.length ((s ++ l.toList).toArray.push i) clock)) id (.mit (some mid) es.length (s ++ l.toList) (some i)) :=
      ⟨gx, gm, z, hrx, hnewo, h3, (hext2.shp mid z h4).1, fun j hj => by
       rcases List.mem_append.1 hj with g1 | g1
       ·exact h5 j g1
       ·simp at g1; omega, h6⟩
     have hst2 := hst1.updO id gx _ _ _ hrx hg1 rfl hnewo hother hshape hbel hbok
     have hext := hext1.trans hext2
     obtain ⟨y, k1, k2⟩ := elV_ok (H := H) hk e4 e3
     have k1 := (forceL_eq _ _).1 k1
     rw [hbn] at hrun
     refine .inl ⟨_, _, ?_, _, σ, _, c, k1, .tup _ _ (.cons _ _ _ _ (.bt true) (.cons _ _ _ _ (.int _ _ e2.1 e2.2) (.cons _ _ _ _ (k2.ext hext) .nil))), hσ.ext hext, hst2⟩
     simp [execOp, ho, hae, hrun]
   ·exact h.elim
  ·exact h.elim
 ·exact h.elim

theorem op_entry (hE : EnvOk P E) (hst : St E.glob base w0 c H w) (hσ : VRels c H w σ a.tmps.toList) (x : Operand) (ho : o.op = .entry x) (h : aop E σ H (.entry x) K) : After E.glob base w0 a.tmps.toList K P o a w := by
 have hx := ev_ok hst hσ x
 simp only [aop, aentry] at h
 generalize ev E σ x = vx at h hx
 generalize hae : a.eval x = ex at hx
 split at h
 ·rename_i id zz
  split at h
  ·rename_i mid n s i hbi
   split at h
   ·rename_i fr t es hbm
    obtain ⟨rfl, h⟩ := h
    cases hx with | ptr _ _ _ _ gx m hsx hrx hix hox =>
    have hbi' := hst.blk id
    rw [hbi] at hbi'
    obtain ⟨g, gm, z, h1, h2, h3, h4, h5, h6⟩ := hbi'
    rw [hrx] at h1; cases h1
    have hbm' := hst.blk mid
    rw [hbm] at hbm'
    obtain ⟨g', ents, clock, hr', hg, ⟨hsz, hmax⟩, hstm, hnd, hel⟩ := hbm'
    rw [h3] at hr'; cases hr'
    have hclk : clock = es.length := by rw [hstm.2.1, hsz]
    have hadr : c.β id + (0 * zz + 0) = 0 := by rw [h6]; omega
    rw [hadr] at hae
    have hil' : i < es.length := h5 i (by simp)
    have hes : es[i]? = some (es[i]'hil') := List.getElem?_eq_getElem hil'
    have hgd : es.getD i (0, t.dflt) = es[i]'hil' := by rw [List.getD_eq_getElem?_getD, hes]; rfl
    rw [hgd] at h
    obtain ⟨v, b, e1, ⟨e2, e3⟩, e4⟩ := hel i (es[i]'hil').1 (es[i]'hil').2 hes
    have hb0 := hstm.2.2 i _ e1
    obtain ⟨y, k1, k2⟩ := elV_ok (H := H) h e4 e3
    have hrun := run_entry_at (P := P) w gx gm es.length s.toArray ents clock ⟨.int .i64 (es[i]'hil').1, v, b⟩ (by
     rw [h2]
     have e5 : (s ++ (some i).toList).toArray = s.toArray.push b := by
      have e6 : b = i := hb0
      rw [e6]; simp
     rw [e5, hclk]) hg (Array.mem_toList_iff.2 (Array.mem_of_getElem? e1)) hstm.1.2.1
    refine after_pure hst hσ (.tup _ _ (.cons _ _ _ _ (.int _ _ e2.1 e2.2) (.cons _ _ _ _ k2 .nil))) k1 ?_
    simp [execOp, ho, hae, hrun]
   ·exact h.elim
  ·exact h.elim
 ·exact h.elim
end
end Go.Proofs.YtpfehhcljeagoaaDoor.Vc

namespace Go.Proofs.YtpfehhcljeagoaaDoor.Vc
open Go Go.RowKit

theorem asRow_nc {H : List Blk} {t : Ty} {y : V} {K : Bool → List t.D → Prop} (h : asRow H t y K) : isCellsV H y = false := by
 unfold isCellsV
 split
 ·rename_i id
  have h : (match getB H id with | .row fr _ xs => castK xs fun xs => K (fr || t.flat) xs | _ => False) := h
  split
  ·rename_i hb; rw [hb] at h; exact h.elim
  ·rfl
 ·rfl
theorem aappend_nc {E : Env} {σ : List V} {H : List Blk} {T : TypeId} {x y : V} {K : V → List V → List Blk → Prop} (h : aappend E σ H T x y K) : isCellsV H y = false := by
 unfold aappend at h
 split at h
 ·exact asRow_nc h
 ·split at h
  ·obtain ⟨_, h⟩ := h
   obtain ⟨e0, h⟩ := castK_ok h
   exact asRow_nc h
  ·exact h.elim
 ·exact h.elim
theorem aappendB_of {E : Env} {σ : List V} {H : List Blk} {T : TypeId} {x y : V} {K : V → List V → List Blk → Prop} (h : aappend E σ H T x y K) : aappendB E σ H T x y K := by
 rw [aappendB_eq]
 rw [aappend_nc h]
 exact h

section
variable {E : Env} {P : Program} {G : List (Nat × V)} {base : Nat} {w0 : W0} {c : Cx} {H : List Blk} {w : World} {σ : List V} {a : Act} {K : V → List V → List Blk → Prop} {o : Oper}

theorem cells_news (hst : St G base w0 c H w) {t : Ty} {id : Nat} {ds : List V} (hb : getB H id = .cells ds) (h0 : 0 < ds.length) {v : Value} (hv : VRel c H w (.own t id) v) (hz : t.size = 1) :
  ∃ g e cur cap news, v = .slice (some ⟨g, c.β id, none⟩) ds.length cap ∧ ds.length ≤ cap ∧ cap ≤ maxLen ∧ c.ρ id = some g ∧ w.heap[g]? = some (.cells cur e (0, 0)) ∧ (c.β id = 0 ∧ c.β id + cap ≤ cur.size) ∧ news.length = ds.length ∧ (∀ (j : Nat) (v : Value), news[j]? = some v → w.cell? ⟨g, c.β id + j, none⟩ = some v) ∧
   (∀ (j : Nat) (v : Value), news[j]? = some v → cur[c.β id + j]? = some v) ∧ (∀ v ∈ news, v.oneCell' = true) ∧ VRels c H w ds news := by
 cases hv with | own _ _ n ax cap hsh hnc hcap ho =>
 simp only [shape, hb, Option.some.injEq, Prod.mk.injEq] at hsh
 obtain ⟨rfl, _⟩ := hsh
 obtain ⟨g, e, cur, hr, rfl, hg, hsz⟩ := ho.resolve_left (by omega)
 rw [hz] at hsz
 simp only [Nat.add_zero] at hsz
 have hbo := hst.blk id
 rw [hb] at hbo
 rcases hbo with ⟨g', e', cur', hr', hg', h3, h4⟩ | ⟨_, h1, _⟩
 ·rw [hr] at hr'; cases hr'
  rw [hg] at hg'; cases hg'
  have hget : ∀ (j : Nat) (v : Value), ((cur.toList.drop (c.β id)).take ds.length)[j]? = some v → j < ds.length ∧ cur[c.β id + j]? = some v := fun j v hj => by
   rw [List.getElem?_take] at hj
   split at hj
   ·rename_i hlt; exact ⟨hlt, by simpa [List.getElem?_drop] using hj⟩
   ·cases hj
  refine ⟨g, e, cur, cap, (cur.toList.drop (c.β id)).take ds.length, by simp, hnc, hcap, hr, hg, ⟨h3.1, by omega⟩, by simp; omega, fun j v hj => ?_, fun j v hj => (hget j v hj).2, fun v hv => ?_, ?_⟩
  ·rw [Go.cell_of_row w g _ cur e (0, 0) hg]; exact (hget j v hj).2
  ·obtain ⟨j, hj⟩ := List.mem_iff_getElem?.1 hv
   obtain ⟨hlt, h5⟩ := hget j v hj
   obtain ⟨u, h6, h7, _⟩ := h4 j hlt
   rw [h5] at h6; cases h6; exact h7
  ·have key : ∀ (ds : List V) (l : List Value), ds.length = l.length → (∀ j, j < ds.length → ∃ v, l[j]? = some v ∧ VRel c H w (gets ds j) v) → VRels c H w ds l := by
    intro ds
    induction ds with
    | nil => intro l hl _; cases l with
     | nil => exact .nil
     | cons _ _ => simp at hl
    | cons d ds ih => intro l hl hx; cases l with
     | nil => simp at hl
     | cons u l =>
      obtain ⟨v, e1, e2⟩ := hx 0 (by simp)
      simp only [List.getElem?_cons_zero, Option.some.injEq] at e1
      subst e1
      exact .cons _ _ _ _ e2 (ih l (by simpa using hl) fun j hj => by
       obtain ⟨v, e1, e2⟩ := hx (j + 1) (by simpa using hj)
       exact ⟨v, by simpa using e1, e2⟩)
   refine key ds _ (by simp; omega) fun j hj => ?_
   obtain ⟨u, h6, _, h8⟩ := h4 j hj
   exact ⟨u, by rw [List.getElem?_take, if_pos hj, List.getElem?_drop]; simpa using h6, h8⟩
 ·rw [hr] at h1; cases h1

theorem op_appendC (hG : GlobOk E.glob) (hE : EnvOk P E) (hst : St E.glob base w0 c H w) (hσ : VRels c H w σ a.tmps.toList) (x y : Operand) (T : TypeId)
  (ho : o.op = .call { callee := .builtin .append, args := #[x, y], argTypes := #[T, T] }) (h : aappendC E σ H T (ev E σ x) (ev E σ y) K) :
  After E.glob base w0 a.tmps.toList K P o a w := by
 have hx := ev_ok hst hσ x
 have hy := ev_ok hst hσ y
 generalize ev E σ x = vx at h hx
 generalize ev E σ y = vy at h hy
 have hexec : ∀ v w', (Builtin.append_ #[T, T] o.type #[a.eval x, a.eval y]).run P w = .ok v w' → (execOp a.eval o).run P w = .ok (.value v) w' := fun v w' hr => by
  unfold execOp
  simp only [ho, resolve, invoke, builtin, Sem.run_bind, Sem.run_pure, Result.andThen_ok, List.map_toArray, List.map_cons, List.map_nil, hr]
 unfold aappendC at h
 split at h
 ·rename_i t t2 id2 hT
  split at h
  ·rename_i ds hb2
   obtain ⟨⟨rfl, hd0, hd1⟩, h⟩ := h
   have hd0 : 0 < ds.length := by simpa using hd0
   have hd1 : ds.length ≤ 1000000 := ble_ok hd1
   have h := (forceL_eq _ _).1 h
   obtain ⟨e, hu, hio, hpos⟩ := (lk_ty hE hT).sl
   obtain ⟨i, z, hi, hz, hzc, hs, hb⟩ := hio.open
   have hs1 : i.size = 1 := hs
   obtain ⟨g2, e2, cur2, cap2, news, hay, n1, n2, n3, n4, n5, n6, n7, n8, n9, n10⟩ := cells_news hst hb2 hd0 hy rfl
   generalize hax : a.eval x = ax at hx
   cases hx
   rw [hax, hay] at hexec
   have hbytes : ds.length * i.bytes ≤ 140737488355328 := by
    have := Nat.mul_le_mul hd1 hb; omega
   have hr := run_append_nil (P := P) w T o.type e i z hu hi hz ⟨g2, c.β id2, none⟩ ds.length cap2 news (by rw [n6, hs1]; omega) (fun j v hj => by rw [Addr.add_lit]; exact n7 j v hj) hd0 (by omega) (by omega)
   have hcap := grownCap_ge w ds.length 0 e
   have hcapm := grownCap_le_maxLen w ds.length 0 e (by unfold maxLen; omega)
   have hzs : z.cells.size = 1 := by
    have := congrArg List.length hzc
    rw [zc_length] at this
    exact (by simpa using this : z.cells.size = (Ty.sl t).size)
   obtain ⟨cur', hcur'⟩ : ∃ cur', news.toArray ++ Builtin.zeroCells z.cells (grownCap w ds.length 0 e - ds.length) = cur' := ⟨_, rfl⟩
   have hsz : cur'.size = grownCap w ds.length 0 e := by
    rw [← hcur']
    simp only [Array.size_append, List.size_toArray, size_zeroCells, hzs, n6]
    omega
   rw [hcur'] at hr
   have hdr : St E.glob base w0 c H w.drew := hst.world ((Below.refl _ _).drew)
   have hdrx : Ext c H w c H w.drew := hst.ext_world ((Below.refl _ _).drew)
   have hext := hdr.ext_push (.cells ds) cur' e
   have hst' := hdr.push (.cells ds) cur' e (.inl ⟨w.heap.size, e, cur', by simp [Cx.push], heap_alloc_new w.drew _, ⟨beta_push _ _ _, by omega⟩, fun j hj => by
    rw [beta_push, Nat.zero_add]
    have hjn : news[j]? = some (news[j]'(by omega)) := List.getElem?_eq_getElem (by omega)
    refine ⟨news[j]'(by omega), ?_, n9 _ (List.getElem_mem _), ?_⟩
    ·rw [← hcur', Array.getElem?_append_left (by simp; omega)]; simp
    ·have := (n10.get j).ext (hdrx.trans hext)
     simpa [List.getD_eq_getElem?_getD, hjn] using this⟩)
   refine .inl ⟨_, _, hexec _ _ hr, _, σ, _, _, h, ?_, hσ.ext (hdrx.trans hext), hst'⟩
   exact .own (.sl t) H.length ds.length _ (grownCap w ds.length 0 e) (by simp [shape, getB_append, Ty.size]) hcap hcapm (.inr ⟨w.heap.size, e, cur', by simp [Cx.push], by simp [Cx.push], heap_alloc_new w.drew _, by simp [Ty.size, hsz, Cx.push]⟩)
  ·exact h.elim
 ·rename_i t t0 id t2 id2 hT
  split at h
  ·rename_i cs ds hb1 hb2
   obtain ⟨⟨rfl, rfl, hne, hc0, hd0, hl⟩, h⟩ := h
   have hne : id ≠ id2 := fun e => by rw [e, Nat.beq_refl] at hne; cases hne
   have hc0 : 0 < cs.length := by simpa using hc0
   have hd0 : 0 < ds.length := by simpa using hd0
   have hl : cs.length + ds.length ≤ 1000000 := ble_ok hl
   have h := (forceL_eq _ _).1 ((forceL_eq _ _).1 ((forceL_eq _ _).1 h))
   obtain ⟨e, hu, hio, hpos⟩ := (lk_ty hE hT).sl
   obtain ⟨i, z, hi, hz, hzc, hs, hb⟩ := hio.open
   have hs1 : i.size = 1 := hs
   obtain ⟨g2, e2, cur2, cap2, news, hay, n1, n2, n3, n4, n5, n6, n7, n8, n9, n10⟩ := cells_news hst hb2 hd0 hy rfl
   obtain ⟨g, e1, cur, cap, olds, hax, o1, o2, o3, o4, o5, o6, o7, o8, o9, o10⟩ := cells_news hst hb1 hc0 hx rfl
   rw [hax, hay] at hexec
   have hzs : z.cells.size = 1 := by
    have := congrArg List.length hzc
    rw [zc_length] at this
    exact (by simpa using this : z.cells.size = (Ty.sl t).size)
   have hbytes : (cs.length + ds.length) * i.bytes ≤ 140737488355328 := by
    have := Nat.mul_le_mul hl hb; omega
   have hk := hst.kill hG id
   have hkσ : VRels c (deadH H id) w (killL id σ) a.tmps.toList := hσ.killed fun j hj => shape_deadH hj
   have hrel : VRels c (deadH H id) w (killL id (cs ++ ds)) (olds ++ news) := (o10.append n10).killed fun j hj => shape_deadH hj
   have hlen : (killL id (cs ++ ds)).length = cs.length + ds.length := by rw [length_killL, List.length_append]
   have hidl : id < H.length := by
    rcases Nat.lt_or_ge id H.length with g | g
    ·exact g
    ·rw [getB_ge H id g] at hb1; cases hb1
   have hidl' : id < (deadH H id).length := by unfold deadH; rw [length_setB, length_killH]; exact hidl
   have hset : ∀ b, setB (deadH H id) id b = setB (killH id H) id b := fun b => by
    have key : ∀ (L : List Blk) (k : Nat), setB (setB L k .dead) k b = setB L k b := by
     intro L
     induction L with
     | nil => intro k; rfl
     | cons u L ih => intro k; cases k with
      | zero => rfl
      | succ k => simp [setB, ih]
    exact key _ _
   rw [← hset] at h
   have hone : ∀ v ∈ olds ++ news, v.oneCell' = true := fun v hv => (List.mem_append.1 hv).elim (o9 v) (n9 v)
   -- what the new block stands for
   have fin : ∀ (c' : Cx) (w' : World) (g' : Nat) (e' : TypeId) (cur' : Array Value), Ext c (deadH H id) w c' (setB (deadH H id) id (.cells (killL id (cs ++ ds)))) w' → c'.ρ id = some g' → w'.heap[g']? = some (.cells cur' e' (0, 0)) → c'.β id = 0 ∧ cs.length + ds.length ≤ cur'.size →
     (∀ (j : Nat) (v : Value), (olds ++ news)[j]? = some v → cur'[c'.β id + j]? = some v) → BOk c' (setB (deadH H id) id (.cells (killL id (cs ++ ds)))) w' id (.cells (killL id (cs ++ ds))) := fun c' w' g' e' cur' he hr hg hsz hel => by
    refine .inl ⟨g', e', cur', hr, hg, by omega, fun j hj => ?_⟩
    have hjn : (olds ++ news)[j]? = some ((olds ++ news)[j]'(by rw [List.length_append]; omega)) := List.getElem?_eq_getElem _
    refine ⟨_, hel j _ hjn, hone _ (List.getElem_mem _), ?_⟩
    have := (hrel.get j).ext he
    simpa [List.getD_eq_getElem?_getD, hjn] using this
   by_cases hroom : cs.length + ds.length ≤ cap
   ·obtain ⟨q, hq⟩ : ∃ q, q = c.β id := ⟨_, rfl⟩
    rw [← hq] at o5 o7 o8 hexec
    obtain ⟨cur', hcur'⟩ : ∃ cur', (cur.toList.take (q + cs.length) ++ news ++ cur.toList.drop (q + cs.length + news.length)).toArray = cur' := ⟨_, rfl⟩
    have hsz' : cur'.size = cur.size := by
     rw [← hcur']; simp only [List.size_toArray, List.length_append, List.length_take, List.length_drop, Array.length_toList]; omega
    have hel : ∀ (j : Nat) (v : Value), (olds ++ news)[j]? = some v → cur'[q + j]? = some v := fun j v hj => by
     rw [List.getElem?_append] at hj
     split at hj
     ·rename_i hlt
      rw [← hcur', List.getElem?_toArray, List.append_assoc, List.getElem?_append_left (by simp; omega), List.getElem?_take, if_pos (by omega)]
      simpa using o8 j v hj
     ·rename_i hge
      have := (List.getElem?_eq_some_iff.1 hj).1
      rw [← hcur', List.getElem?_toArray, List.append_assoc, List.getElem?_append_right (by simp; omega), List.getElem?_append_left (by simp; omega)]
      have e9 : (cur.toList.take (q + cs.length)).length = q + olds.length := by rw [List.length_take, Array.length_toList, o6]; exact Nat.min_eq_left (Nat.le_trans (Nat.add_le_add_left o1 q) o5.2)
      rw [e9, show q + j - (q + olds.length) = j - olds.length by omega]
      exact hj
    have hst1 := run_storeCells_at P g (q + cs.length) e1 news 0 cur w o4 (by omega) n9
    simp only [Nat.add_zero, hcur'] at hst1
    have hf := run_firstCells_some (P := P) w 1 ds.length ⟨g2, c.β id2, none⟩ ds.length cap2 news (by omega) (fun j v hj => by rw [Addr.add_lit]; exact n7 j v hj)
    have hr : (Builtin.append_ #[T, T] o.type #[.slice (some ⟨g, q, none⟩) cs.length cap, .slice (some ⟨g2, c.β id2, none⟩) ds.length cap2]).run P w = .ok (.slice (some ⟨g, q, none⟩) (cs.length + ds.length) cap) (w.setRow g cur') := by
     simp [Builtin.append_, run_underlying hu, sizeOf, typeInfo, hi, hs1, Builtin.lenOf, hroom, hf, Addr.add_lit]
     rw [hst1]; rfl
    obtain ⟨hw1, hw2⟩ := setRow_facts w g cur cur' e1 o4
    have hown0 := hst.own id g o3
    have hother : ∀ k, k < w.heap.size → (c.ρ id = some k → g ≠ k) → (w.setRow g cur').heap[k]? = w.heap[k]? := fun k _ hk2 => hw2 k fun e => hk2 (by rw [e]; exact o3) e.symm
    have hext := hk.ext_revive (w' := w.setRow g cur') (q := q) id g (.cells (killL id (cs ++ ds))) getB_deadH_self hother (.inl o3)
    have hst' := hk.revive (w' := w.setRow g cur') (q := q) id g (.cells (killL id (cs ++ ds))) hidl' getB_deadH_self hother (.inl o3) (Array.getElem?_eq_some_iff.1 hw1).1
     (fun o _ ho => ⟨cur, e1, cur', by rw [o4] at ho; exact (Option.some.inj ho).symm, hw1, hsz'⟩) (below_setRow hown0.1) (fin _ _ g e1 cur' hext (by simp [Cx.at]) hw1 (by simp [Cx.at]; omega) (by simpa [Cx.at] using hel))
    refine .inl ⟨_, _, hexec _ _ hr, _, _, _, _, h, ?_, hkσ.ext hext, hst'⟩
    exact .own (.sl t) id _ _ cap (by simp [shape, getB_setB, hidl', hlen, Ty.size]) hroom o2 (.inr ⟨g, e1, cur', by simp [Cx.at], by simp [Cx.at], hw1, by simp [Ty.size, Cx.at]; omega⟩)
   ·have hcapg := grownCap_ge w (cs.length + ds.length) cap e
    have hcapm := grownCap_le_maxLen w (cs.length + ds.length) cap e (by unfold maxLen; omega)
    obtain ⟨cur', hcur'⟩ : ∃ cur', olds.toArray ++ news.toArray ++ Builtin.zeroCells z.cells (grownCap w (cs.length + ds.length) cap e - (cs.length + ds.length)) = cur' := ⟨_, rfl⟩
    have hr := run_append_grow (P := P) w T o.type e i z hu hi hz ⟨g, c.β id, none⟩ cs.length cap olds (by rw [o6, hs1]; omega) (fun j v hj => by rw [Addr.add_lit]; exact o7 j v hj) ⟨g2, c.β id2, none⟩ ds.length cap2 news (by rw [n6, hs1]; omega) (fun j v hj => by rw [Addr.add_lit]; exact n7 j v hj) (by omega) (by omega) (growslice_fits (by omega) hbytes)
    rw [hcur'] at hr
    have hsz : cur'.size = grownCap w (cs.length + ds.length) cap e := by
     rw [← hcur']
     simp only [Array.size_append, List.size_toArray, size_zeroCells, hzs, n6, o6]
     omega
    have hel : ∀ (j : Nat) (v : Value), (olds ++ news)[j]? = some v → cur'[j]? = some v := fun j v hj => by
     have := (List.getElem?_eq_some_iff.1 hj).1
     rw [List.length_append] at this
     rw [← hcur', Array.getElem?_append_left (by simp; omega), List.append_toArray]
     simpa using hj
    have hdr : St E.glob base w0 c (deadH H id) w.drew := hk.world ((Below.refl _ _).drew)
    have hdrx : Ext c (deadH H id) w c (deadH H id) w.drew := hk.ext_world ((Below.refl _ _).drew)
    have hother : ∀ k, k < w.drew.heap.size → (c.ρ id = some k → w.heap.size ≠ k) → (w.drew.alloc (.cells cur' e)).heap[k]? = w.drew.heap[k]? := fun k hk1 _ => Below.heap_alloc _ _ _ hk1
    have hnew : (w.drew.alloc (.cells cur' e)).heap[w.heap.size]? = some (.cells cur' e (0, 0)) := heap_alloc_new w.drew _
    have hext := hdr.ext_revive (w' := w.drew.alloc (.cells cur' e)) (q := 0) id w.heap.size (.cells (killL id (cs ++ ds))) getB_deadH_self hother (.inr (Nat.le_refl _))
    have hst' := hdr.revive (w' := w.drew.alloc (.cells cur' e)) (q := 0) id w.heap.size (.cells (killL id (cs ++ ds))) hidl' getB_deadH_self hother (.inr (Nat.le_refl _)) (Array.getElem?_eq_some_iff.1 hnew).1
     (fun o _ ho => absurd (Array.getElem?_eq_some_iff.1 ho).1 (Nat.lt_irrefl _)) ((Below.refl base w.drew).alloc hk.size _) (fin _ _ w.heap.size e cur' (hdrx.trans hext) (by simp [Cx.at]) hnew (by simp [Cx.at]; omega) (by simpa [Cx.at] using hel))
    refine .inl ⟨_, _, hexec _ _ hr, _, _, _, _, h, ?_, hkσ.ext (hdrx.trans hext), hst'⟩
    exact .own (.sl t) id _ _ _ (by simp [shape, getB_setB, hidl', hlen, Ty.size]) hcapg hcapm (.inr ⟨w.heap.size, e, cur', by simp [Cx.at], by simp [Cx.at], hnew, by simp [Ty.size, Cx.at]; omega⟩)
  ·exact h.elim
 ·exact h.elim
theorem op_appendB (hG : GlobOk E.glob) (hE : EnvOk P E) (hst : St E.glob base w0 c H w) (hσ : VRels c H w σ a.tmps.toList) (x y : Operand) (T : TypeId)
  (ho : o.op = .call { callee := .builtin .append, args := #[x, y], argTypes := #[T, T] }) (h : aappendB E σ H T (ev E σ x) (ev E σ y) K) :
  After E.glob base w0 a.tmps.toList K P o a w := by
 rw [aappendB_eq] at h
 cases hb : isCellsV H (ev E σ y) with
 | true => rw [hb] at h; exact op_appendC hG hE hst hσ x y T ho h
 | false => rw [hb] at h; exact op_append hG hE hst hσ x y T ho h
end
end Go.Proofs.YtpfehhcljeagoaaDoor.Vc

namespace Go.Proofs.YtpfehhcljeagoaaDoor.Vc
open Go Go.RowKit
variable {P : Program} {E : Env} {c : Cx} {H : List Blk} {w : World}

theorem scal_agg {T : TypeId} {t : Ty} (h : scalOk P T t = true) : (isAgg T).run P w = .ok false w := by
 unfold scalOk at h
 split at h <;> first | (cases h; done) | skip
 all_goals (rename_i hu; simp [isAgg, run_underlying hu])
theorem scal_part {T : TypeId} {t : Ty} (h : scalOk P T t = true) {xs : Array Value} {o : Nat} {v : Value} (hv : xs[o]? = some v) : (part T xs o).run P w = .ok v w := by
 simp [part, Sem.run_bind, scal_agg h, hv]

theorem eq1_ok {T : TypeId} {t : Ty} (hs : scalOk P T t = true) {x y : V} {u v : Value} {K : Prop → Prop} (h : eq1 t x y K) (hx : VRel c H w x u) (hy : VRel c H w y v) (d : Nat) :
  ∃ (p : Prop) (r : Bool), K p ∧ (r = true ↔ p) ∧ (Op.equalIn (d + 1) T u v).run P w = .ok r w := by
 unfold eq1 at h
 split at h
 ·rename_i k0 k a k' b
  cases hx; cases hy
  cases hk : decide (k = k') with
  | false => rw [hk] at h; exact h.elim
  | true =>
   rw [hk] at h
   have := of_decide_eq_true hk
   subst this
   unfold scalOk at hs
   split at hs <;> first | (cases hs; done) | skip
   all_goals (rename_i e1 hu; cases e1)
   exact ⟨_, a == b, h, by simp, run_equalIn_int w d T k _ a b hu⟩
 ·rename_i a b
  cases hx; cases hy
  unfold scalOk at hs
  split at hs <;> first | (cases hs; done) | skip
  all_goals (rename_i e1 hu; cases e1)
  refine ⟨_, (a.toNat : Int) == (b.toNat : Int), h, ?_, run_equalIn_int w d T .u8 _ _ _ hu⟩
  rw [beq_iff_eq]
  constructor
  ·intro e; exact UInt8.toNat_inj.1 (by omega)
  ·intro e; rw [e]
 ·rename_i a b
  cases hx; cases hy
  unfold scalOk at hs
  split at hs <;> first | (cases hs; done) | skip
  all_goals (rename_i e1 hu; cases e1)
  refine ⟨_, _, h, ?_, run_equalIn_string w d T _ _ hu⟩
  simp
 ·rename_i p q
  cases hx with | b _ bx hbx => cases hy with | b _ by_ hby =>
  unfold scalOk at hs
  split at hs <;> first | (cases hs; done) | skip
  all_goals (rename_i e1 hu; cases e1)
  refine ⟨_, bx == by_, h, ?_, run_equalIn_bool w d T bx by_ hu⟩
  rw [← hbx, ← hby]; cases bx <;> cases by_ <;> simp
 ·exact h.elim

theorem eqS_ok : ∀ {t : Ty} {fs : List Field} {o : Nat} {xs ys : List V} {us vs : List Value} {U W : Array Value} {K : Prop → Prop} (d : Nat), fieldsOk P fs o t = true → eqS t xs ys K → VRels c H w xs us → VRels c H w ys vs →
  (∀ i, U[o + i]? = us[i]?) → (∀ i, W[o + i]? = vs[i]?) → ∃ (p : Prop) (r : Bool), K p ∧ (r = true ↔ p) ∧ (Op.eqFields (d + 1) U W fs).run P w = .ok r w
 | .cons t ts, [], o, xs, ys, us, vs, U, W, K, d, hf, _, _, _, _, _ => by simp [fieldsOk] at hf
 | .cons t ts, f :: fs, o, xs, ys, us, vs, U, W, K, d, hf, h, hx, hy, hU, hW => by
  simp only [fieldsOk, Bool.and_eq_true] at hf
  obtain ⟨⟨⟨ho, hn⟩, hs⟩, hr⟩ := hf
  have ho := Nat.eq_of_beq_eq_true ho
  have hn : f.name ≠ "_" := by simpa using hn
  cases hx with
  | nil => simp [eqS] at h
  | cons x u xs us hx hxs =>
  cases hy with
  | nil => simp [eqS] at h
  | cons y v ys vs hy hys =>
  have hu : U[f.offset]? = some u := by have := hU 0; rw [ho]; simpa using this
  have hv : W[f.offset]? = some v := by have := hW 0; rw [ho]; simpa using this
  have hU' : ∀ i, U[o + 1 + i]? = us[i]? := fun i => by have := hU (i + 1); rw [show o + 1 + i = o + (i + 1) by omega]; simpa using this
  have hW' : ∀ i, W[o + 1 + i]? = vs[i]? := fun i => by have := hW (i + 1); rw [show o + 1 + i = o + (i + 1) by omega]; simpa using this
  have step : ∀ {p : Prop} {r : Bool}, (r = true ↔ p) → (Op.equalIn (d + 1) f.type u v).run P w = .ok r w → ∀ {q : Prop} {r' : Bool}, (r' = true ↔ q) → (Op.eqFields (d + 1) U W fs).run P w = .ok r' w →
    ∃ r2 : Bool, (r2 = true ↔ (p ∧ q)) ∧ (Op.eqFields (d + 1) U W (f :: fs)).run P w = .ok r2 w := fun {p r} e1 e2 {q r'} e3 e4 => by
   refine ⟨r && r', by rw [Bool.and_eq_true, e1, e3], ?_⟩
   simp only [Op.eqFields, hn, ne_eq, not_false_eq_true, if_true, Sem.run_bind, scal_part hs hu, scal_part hs hv, Result.andThen_ok, e2]
   cases r
   ·simp [Sem.run_pure]
   ·simpa using e4
  unfold eqS at h
  obtain ⟨p, r, a1, a2, a3⟩ := eq1_ok hs h hx hy d
  obtain ⟨q, r', b1, b2, b3⟩ := eqS_ok d hr a1 hxs hys hU' hW'
  obtain ⟨r2, c1, c2⟩ := step a2 a3 b2 b3
  exact ⟨_, r2, b1, c1, c2⟩
 | .nil, [], o, xs, ys, us, vs, U, W, K, d, hf, h, hx, hy, _, _ => by
  cases hx with
  | cons => cases ys <;> simp [eqS] at h
  | nil =>
   cases hy with
   | cons => simp [eqS] at h
   | nil => exact ⟨True, true, h, by simp, by simp [Op.eqFields, Sem.run_pure]⟩
 | .nil, f :: fs, o, xs, ys, us, vs, U, W, K, d, hf, h, _, _, _, _ => by simp [fieldsOk] at hf
 | .u8, fs, o, xs, ys, us, vs, U, W, K, d, hf, h, _, _, _, _ => by simp [eqS] at h
 | .int k, fs, o, xs, ys, us, vs, U, W, K, d, hf, h, _, _, _, _ => by simp [eqS] at h
 | .bool, fs, o, xs, ys, us, vs, U, W, K, d, hf, h, _, _, _, _ => by simp [eqS] at h
 | .str, fs, o, xs, ys, us, vs, U, W, K, d, hf, h, _, _, _, _ => by simp [eqS] at h
 | .sl t, fs, o, xs, ys, us, vs, U, W, K, d, hf, h, _, _, _, _ => by simp [eqS] at h
 | .arr n t, fs, o, xs, ys, us, vs, U, W, K, d, hf, h, _, _, _, _ => by simp [eqS] at h
 | .fnT, fs, o, xs, ys, us, vs, U, W, K, d, hf, h, _, _, _, _ => by simp [eqS] at h
 | .mapT t, fs, o, xs, ys, us, vs, U, W, K, d, hf, h, _, _, _, _ => by simp [eqS] at h

theorem eqItems_ok {e : TypeId} {k : IntKind} (hs : scalOk P e (.int k) = true) (hc : P.cellsOf e = 1) (d : Nat) {U W : Array Value} : ∀ (is : List Nat) (xs ys : List Int), xs.length = is.length → ys.length = is.length →
  (∀ (j i : Nat) (a b : Int), is[j]? = some i → xs[j]? = some a → ys[j]? = some b → U[i]? = some (.int k a) ∧ W[i]? = some (.int k b)) → (Op.eqItems (d + 1) e (P.cellsOf e) U W is).run P w = .ok (decide (xs = ys)) w
 | [], xs, ys, h1, h2, _ => by
  have e1 := List.eq_nil_of_length_eq_zero h1
  have e2 := List.eq_nil_of_length_eq_zero h2
  subst e1 e2
  simp [Op.eqItems, Sem.run_pure]
 | i :: is, [], ys, h1, h2, _ => by simp at h1
 | i :: is, x :: xs, [], h1, h2, _ => by simp at h2
 | i :: is, x :: xs, y :: ys, h1, h2, h3 => by
  obtain ⟨g1, g2⟩ := h3 0 i x y rfl rfl rfl
  have ih := eqItems_ok hs hc d is xs ys (by simpa using h1) (by simpa using h2) fun j i a b e1 e2 e3 => h3 (j + 1) i a b (by simpa using e1) (by simpa using e2) (by simpa using e3)
  have hu : ∃ k', P.underlying e = some (.int k') := by
   unfold scalOk at hs
   split at hs <;> first | (cases hs; done) | skip
   all_goals (rename_i e1 hu; cases e1)
   exact ⟨_, hu⟩
  obtain ⟨k', hu⟩ := hu
  simp only [Op.eqItems, Sem.run_bind, hc, Nat.mul_one, scal_part hs g1, scal_part hs g2, Result.andThen_ok, run_equalIn_int w d e k k' x y hu]
  rw [hc] at ih
  by_cases hxy : x = y
  ·subst hxy
   simpa using ih
  ·have : (x == y) = false := by simpa using hxy
   simp [this, Sem.run_pure, hxy]

theorem scal_cells {T : TypeId} {t : Ty} (h : InfoOk P T t) (hz : t.size = 1) : P.cellsOf T = 1 := by
 obtain ⟨i, z, h1, _, _, h2, _⟩ := h.open
 simp [Program.cellsOf, h1, h2, hz]

theorem arr_ints {fr : Bool} {n : Nat} {k : IntKind} {xs : List Int} {es : List Value} (h : DRel w (c.im fr) (.arr n (.int k)) xs es) : xs.length = n ∧ es = xs.map (Value.int k) := by
 obtain ⟨h0, ess, h1, h2, h3⟩ := h
 refine ⟨h0, ?_⟩
 subst h1
 have key : ∀ (ess : List (List Value)) (xs : List Int), ess.length = xs.length → (∀ (i : Nat) (x : Int) (es : List Value), xs[i]? = some x → ess[i]? = some es → es = [Value.int k x]) → ess.flatten = xs.map (Value.int k) := by
  intro ess
  induction ess with
  | nil => intro xs h2 _; have := List.eq_nil_of_length_eq_zero (l := xs) (by simpa using h2.symm); subst this; rfl
  | cons e ess ih =>
   intro xs h2 h3
   cases xs with
   | nil => simp at h2
   | cons x xs =>
    have e0 : e = [Value.int k x] := h3 0 x e rfl rfl
    rw [List.flatten_cons, ih xs (by simpa using h2) (fun i y e hy he => h3 (i + 1) y e (by simpa using hy) (by simpa using he)), e0]
    rfl
 exact key ess xs (by rw [h2, h0]) fun i x es hx he => (h3 i x es hx he).1

theorem eq1_scal {t : Ty} {x y : V} {K : Prop → Prop} (h : eq1 t x y K) : scal1 t = true ∧ ∃ p, K p := by
 unfold eq1 at h
 split at h
 ·rename_i k0 k a k' b
  cases hk : decide (k = k') with
  | false => rw [hk] at h; exact h.elim
  | true => rw [hk] at h; exact ⟨rfl, _, h⟩
 ·exact ⟨rfl, _, h⟩
 ·exact ⟨rfl, _, h⟩
 ·exact ⟨rfl, _, h⟩
 ·exact h.elim
theorem eqS_scal : ∀ {t : Ty} {cs ds : List V} {K : Prop → Prop}, eqS t cs ds K → scalB t = true
 | .nil, _, _, _, _ => rfl
 | .cons t ts, [], ds, K, h => by simp [eqS] at h
 | .cons t ts, _ :: _, [], K, h => by simp [eqS] at h
 | .cons t ts, x :: xs, y :: ys, K, h => by
  unfold eqS at h
  obtain ⟨h1, p, h2⟩ := eq1_scal h
  rw [scalB, h1, eqS_scal h2]; rfl
 | .u8, cs, ds, K, h => by simp [eqS] at h
 | .int k, cs, ds, K, h => by simp [eqS] at h
 | .bool, cs, ds, K, h => by simp [eqS] at h
 | .str, cs, ds, K, h => by simp [eqS] at h
 | .sl t, cs, ds, K, h => by simp [eqS] at h
 | .arr n t, cs, ds, K, h => by simp [eqS] at h
 | .fnT, cs, ds, K, h => by simp [eqS] at h
 | .mapT t, cs, ds, K, h => by simp [eqS] at h

theorem aeqA_ok (hE : EnvOk P E) {op : BinOp} {x y : V} {vx vy : Value} (hx : VRel c H w x vx) (hy : VRel c H w y vy) {k : V → Prop} {T : TypeId} (h : aeqA E T op x y k) (ox oy : Operand) :
  ∃ r v, k r ∧ VRel c H w r v ∧ (do eqGuard op T ox oy vx vy; binOp op T vx vy : Sem Value).run P w = .ok v w := by
 unfold aeqA at h
 split at h
 ·rename_i t ts cs ds hT
  cases hx with | agg _ us hus =>
  cases hy with | agg _ vs hvs =>
  have heq := hE.eq T _ hT
  have hok := hE.ty T _ hT
  obtain ⟨fs, hu, _⟩ := hok.2
  have key : ∀ K : Prop → Prop, eqS (.cons t ts) cs ds K → (∀ op', op' = .eql ∨ op' = .neq → (eqGuard op' T ox oy (.agg us.toArray) (.agg vs.toArray)).run P w = .ok () w) ∧ ∃ (p : Prop) (r : Bool), K p ∧ (r = true ↔ p) ∧ (Op.equalIn 10000 T (.agg us.toArray) (.agg vs.toArray)).run P w = .ok r w := fun K hK => by
   have hsc := eqS_scal hK
   rw [eqTyOk, hsc, hu] at heq
   simp only [cond_true, Bool.and_eq_true, Bool.not_eq_true'] at heq
   obtain ⟨⟨h1, h2⟩, h3⟩ := heq
   obtain ⟨p, r, a1, a2, a3⟩ := eqS_ok (P := P) (U := us.toArray) (W := vs.toArray) 9998 h3 hK hus hvs (fun i => by simp) (fun i => by simp)
   refine ⟨fun op' _ => run_eqGuard_agg w op' T ox oy _ _ h2, p, r, a1, a2, ?_⟩
   have hfs : P.fieldsOf T = fs := by simp [Program.fieldsOf, hu]
   rw [run_equalIn_struct w 9999 T _ _ (by rw [hfs]; exact hu) h1, hfs]
   exact a3
  split at h
  ·obtain ⟨g, p, r, a1, a2, a3⟩ := key _ h
   refine ⟨_, _, a1, .b _ r a2, ?_⟩
   simp only [Sem.run_bind, g .eql (.inl rfl), Result.andThen_ok, run_eql_struct, a3]
  ·obtain ⟨g, p, r, a1, a2, a3⟩ := key _ h
   refine ⟨_, _, a1, .b _ (!r) (by rw [← a2]; cases r <;> simp), ?_⟩
   simp only [Sem.run_bind, g .neq (.inr rfl), Result.andThen_ok, run_neq_struct, a3]
  ·exact h.elim
 ·rename_i n k f1 n1 k1 xs f2 n2 k2 ys hT
  have hb : (Nat.beq n1 n && Nat.beq n2 n && decide (k1 = k) && decide (k2 = k)) = true := by
   cases hb : (Nat.beq n1 n && Nat.beq n2 n && decide (k1 = k) && decide (k2 = k)) with
   | false => rw [hb] at h; exact h.elim
   | true => rfl
  rw [hb] at h
  simp only [cond_true] at h
  simp only [Bool.and_eq_true, decide_eq_true_eq] at hb
  obtain ⟨⟨⟨hn1, hn2⟩, rfl⟩, rfl⟩ := hb
  obtain rfl := Nat.eq_of_beq_eq_true hn1
  obtain rfl := Nat.eq_of_beq_eq_true hn2
  cases hx with | dat _ _ _ es hd =>
  cases hy with | dat _ _ _ es' hd' =>
  obtain ⟨l1, E1⟩ := arr_ints hd
  obtain ⟨l2, E2⟩ := arr_ints hd'
  have heq := hE.eq T _ hT
  obtain ⟨e, hu, hio, _⟩ := (hE.ty T _ hT).2
  rw [eqTyOk, hu] at heq
  simp only [Bool.and_eq_true, Bool.not_eq_true'] at heq
  obtain ⟨⟨_, hs⟩, hg⟩ := heq
  obtain ⟨i, z, hi, _⟩ := hio.open
  have hr : (Op.equalIn 10000 T (.agg es.toArray) (.agg es'.toArray)).run P w = .ok (decide ((xs : List Int) = ys)) w := by
   rw [run_equalIn_array w 9999 _ _ hu hi]
   exact eqItems_ok hs (scal_cells hio rfl) 9998 _ xs ys (by simpa using l1) (by simpa using l2) fun j i a b e1 e2 e3 => by
    have : j = i := by
     have := List.getElem?_eq_some_iff.1 e1
     obtain ⟨_, h⟩ := this
     simpa using h
    subst this
    rw [E1, E2]
    simp [e2, e3]
  have hgd := fun op' (U V : Array Value) => run_eqGuard_agg w op' T ox oy U V hg
  split at h
  ·exact ⟨_, _, h, .b _ (decide ((xs : List Int) = ys)) (by simp), by simp only [Sem.run_bind, hgd, Result.andThen_ok, run_eql_struct, hr]⟩
  ·exact ⟨_, _, h, .b _ (!decide ((xs : List Int) = ys)) (by simp), by simp only [Sem.run_bind, hgd, Result.andThen_ok, run_neq_struct, hr]⟩
  ·exact h.elim
 ·exact h.elim
end Go.Proofs.YtpfehhcljeagoaaDoor.Vc

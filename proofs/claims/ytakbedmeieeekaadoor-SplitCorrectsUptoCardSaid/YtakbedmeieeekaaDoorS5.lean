/- Texts of this claim: S26.P6h, S26.Pw, S26.Cd0. -/
import Derived.Test.YtakbedmeieeekaaDoorS4
import Derived.Test.YtakbedmeieeekaaDoorS1
import Derived.Test.YtakbedmeieeekaaDoorVc8
import Derived.Test.YtakbedmeieeekaaDoorCards
import Derived.Test.YtakbedmeieeekaaDoorTie
import Derived.WalkKit
import Derived.ProofKit
import Derived.OpenShut
import Derived.Deep.DeepHandedRow
import Derived.Lib.LaidTab
set_option linter.unusedVariables false
set_option linter.unusedSimpArgs false
namespace Go.Proofs.YtakbedmeieeekaaDoor.S26
open Go Go.Proofs.YtakbedmeieeekaaDoor.Vc Go.Proofs
set_option maxRecDepth 100000

/-! ### shares that are replaced -/
def rp1 (n : Nat) (s g : (Int × List UInt8 × Unit)) : (Int × List UInt8 × Unit) := if g.1 = s.1 ∧ s.2.1.length = n then s else g
def rpK (n : Nat) (s : (Int × List UInt8 × Unit)) (g : List (Int × List UInt8 × Unit)) (k : Nat) : List (Int × List UInt8 × Unit) := (g.take k).map (rp1 n s) ++ g.drop k
theorem rpK_zero (n : Nat) (s : (Int × List UInt8 × Unit)) (g : List (Int × List UInt8 × Unit)) : rpK n s g 0 = g := rfl
theorem rpK_len (n : Nat) (s : (Int × List UInt8 × Unit)) (g : List (Int × List UInt8 × Unit)) (k : Nat) : (rpK n s g k).length = g.length := by
  unfold rpK
  rw [List.length_append, List.length_map, List.length_take, List.length_drop]; omega
theorem rpK_get {n : Nat} {s : (Int × List UInt8 × Unit)} {g : List (Int × List UInt8 × Unit)} {k : Nat} (h : k < g.length) : (rpK n s g k).getD k (0, [], ()) = g.getD k (0, [], ()) := by
  unfold rpK
  rw [List.getD_eq_getElem?_getD, List.getElem?_append_right (by rw [List.length_map, List.length_take]; omega), List.length_map, List.length_take, List.getElem?_drop, List.getD_eq_getElem?_getD]
  rw [show k + (k - min k g.length) = k by omega]
theorem rpK_next {n : Nat} {s : (Int × List UInt8 × Unit)} {g : List (Int × List UInt8 × Unit)} {k : Nat} (h : k < g.length) : (rpK n s g k).set k (rp1 n s (g.getD k (0, [], ()))) = rpK n s g (k + 1) := by
  unfold rpK
  have hl : ((g.take k).map (rp1 n s)).length = k := by rw [List.length_map, List.length_take]; omega
  rw [List.set_append_right k _ (by rw [hl]; exact Nat.le_refl _), hl, dropD (0, [], ()) g k h, takeD (0, [], ()) g k h, List.map_append, List.append_assoc]
  simp
theorem rpK_yes {n : Nat} {s : (Int × List UInt8 × Unit)} {g : List (Int × List UInt8 × Unit)} {k : Nat} (h : k < g.length) (h1 : (g.getD k (0, [], ())).1 = s.1) (h2 : s.2.1.length = n) : (rpK n s g k).set k s = rpK n s g (k + 1) := by
  rw [← rpK_next h, rp1, if_pos ⟨h1, h2⟩]
theorem rpK_no {n : Nat} {s : (Int × List UInt8 × Unit)} {g : List (Int × List UInt8 × Unit)} {k : Nat} (h : k < g.length) (h1 : ¬ ((g.getD k (0, [], ())).1 = s.1 ∧ s.2.1.length = n)) : rpK n s g (k + 1) = rpK n s g k := by
  rw [← rpK_next h, rp1, if_neg h1, ← rpK_get (n := n) (s := s) h]
  apply List.ext_getElem
  · simp
  · intro i hi1 hi2
    rw [List.getElem_set]
    split
    · rename_i e; subst e; simp [List.getD_eq_getElem?_getD, hi2]
    · rfl
theorem rpK_all {n : Nat} {s : (Int × List UInt8 × Unit)} {g : List (Int × List UInt8 × Unit)} {k : Nat} (h : g.length ≤ k) : rpK n s g k = g.map (rp1 n s) := by
  unfold rpK
  rw [List.take_of_length_le h, List.drop_of_length_le h, List.append_nil]
def rpW (n : Nat) (l ws : List (Int × List UInt8 × Unit)) : List (Int × List UInt8 × Unit) := ws.foldl (fun g s => g.map (rp1 n s)) l
theorem rpW_snoc {n : Nat} {l ws : List (Int × List UInt8 × Unit)} {k : Nat} (h : k < ws.length) : rpW n l (ws.take (k + 1)) = (rpW n l (ws.take k)).map (rp1 n (ws.getD k (0, [], ()))) := by
  unfold rpW
  rw [takeD (0, [], ()) ws k h, List.foldl_append]
  rfl
structure Like (n : Nat) (l g : List (Int × List UInt8 × Unit)) : Prop where
  len : g.length = l.length
  house : g.map (·.1) = l.map (·.1)
  bytes : ∀ s ∈ g, s.2.1.length = n
theorem rp1_house (n : Nat) (s g : (Int × List UInt8 × Unit)) : (rp1 n s g).1 = g.1 := by
  unfold rp1
  split
  · rename_i h; exact h.1.symm
  · rfl
theorem like_next {n : Nat} {l g : List (Int × List UInt8 × Unit)} (h : Like n l g) (s : (Int × List UInt8 × Unit)) : Like n l (g.map (rp1 n s)) where
  len := by rw [List.length_map]; exact h.len
  house := by
    rw [List.map_map, ← h.house]
    apply List.map_congr_left
    intro x _
    exact rp1_house n s x
  bytes := fun x hx => by
    obtain ⟨y, hy, rfl⟩ := List.mem_map.1 hx
    unfold rp1
    split
    · rename_i e; exact e.2
    · exact h.bytes y hy
theorem like_all {n : Nat} {l : List (Int × List UInt8 × Unit)} : ∀ (ws g : List (Int × List UInt8 × Unit)), Like n l g → Like n l (ws.foldl (fun g s => g.map (rp1 n s)) g)
  | [], g, h => h
  | s :: ws, g, h => like_all ws _ (like_next h s)
theorem Spl.like {sec : List UInt8} {nd : Int} {hs : List Int} {nz : List UInt8} (h : Spl sec nd hs nz) (ws : List (Int × List UInt8 × Unit)) : Like sec.length (splL sec nd hs nz) (rpW sec.length (splL sec nd hs nz) ws) :=
  like_all ws _ ⟨rfl, rfl, fun s hs' => (h.mem hs').2.1⟩
/-- The houses of those that differ. -/
def odK (g l : List (Int × List UInt8 × Unit)) (k : Nat) : List Int := ((List.range k).filter fun i => decide (g.getD i (0, [], ()) ≠ l.getD i (0, [], ()))).map fun i => (g.getD i (0, [], ())).1
theorem odK_yes {g l : List (Int × List UInt8 × Unit)} {k : Nat} (h : g.getD k (0, [], ()) ≠ l.getD k (0, [], ())) : odK g l (k + 1) = odK g l k ++ [(g.getD k (0, [], ())).1] := by
  unfold odK
  rw [List.range_succ, List.filter_append, List.map_append, List.filter_cons, if_pos (decide_eq_true h)]
  rfl
theorem odK_no {g l : List (Int × List UInt8 × Unit)} {k : Nat} (h : ¬ g.getD k (0, [], ()) ≠ l.getD k (0, [], ())) : odK g l (k + 1) = odK g l k := by
  unfold odK
  rw [List.range_succ, List.filter_append, List.map_append, List.filter_cons, if_neg (fun e => h (of_decide_eq_true e))]
  simp
theorem odK_len (g l : List (Int × List UInt8 × Unit)) (k : Nat) : (odK g l k).length ≤ k := by
  unfold odK
  rw [List.length_map]
  have := List.length_filter_le (fun i => decide (g.getD i (0, [], ()) ≠ l.getD i (0, [], ()))) (List.range k)
  rwa [List.length_range] at this
theorem sh_ne {a b : (Int × List UInt8 × Unit)} : a ≠ b ↔ ¬ (a.1 = b.1 ∧ (a.2.1 = b.2.1 ∧ True)) :=
  ⟨fun h e => h (Prod.ext e.1 (Prod.ext e.2.1 rfl)), fun h e => h ⟨by rw [e], by rw [e], trivial⟩⟩
theorem crr {sec : List UInt8} {nd : Int} {hs : List Int} {nz : List UInt8} (h : Spl sec nd hs nz) {g : List (Int × List UInt8 × Unit)} (hg : Like sec.length (splL sec nd hs nz) g) {w : Int} (hw : 0 ≤ w) (hl : nd + 2 * w ≤ (hs.length : Int)) (ho : ((odK g (splL sec nd hs nz) hs.length).length : Int) ≤ w) :
    rbE g nd w = 0 ∧ rbS g nd w = sec ∧ rbH g nd w = odK g (splL sec nd hs nz) hs.length := by
  have h1 := h.n1; have h12 := h.n12
  have hlen : g.length = hs.length := by rw [hg.len, h.llen]
  have hgh : ∀ i, i < g.length → (g.getD i (0, [], ())).1 = ((splL sec nd hs nz).getD i (0, [], ())).1 := fun i hi => by
    have := congrArg (fun l : List Int => l.getD i 0) hg.house
    rwa [map_getD (d := (0, [], ())) _ hi, map_getD (d := (0, [], ())) _ (by rw [← hg.len]; exact hi)] at this
  have hpair : g.Pairwise fun a b => a.1 < b.1 := by
    have := (chk0 h.chk).pair
    have : (g.map (·.1)).Pairwise (· < ·) := by rw [hg.house]; exact List.pairwise_map.2 this
    exact List.pairwise_map.1 this
  have hchk : chkE g = 0 := chk_of (n := sec.length) (fun s hs' => ⟨by
    obtain ⟨i, hi, rfl⟩ := getD_mem' (d := (0, [], ())) hs'
    rw [hgh i hi]
    exact (h.mem (getD_mem _ _ i (by rw [← hg.len]; exact hi))).1, hg.bytes s hs'⟩) h.len hpair
  have hc := chk0 hchk
  have hln : lnS g = sec.length := hg.bytes _ (getD_mem (0, [], ()) g 0 (by omega))
  have hbd : ∀ i, i < g.length → bdB (polK sec nz nd) (lnS g) (g.getD i (0, [], ())) = decide (g.getD i (0, [], ()) ≠ (splL sec nd hs nz).getD i (0, [], ())) := fun i hi => by
    have hm := h.mem (getD_mem (0, [], ()) _ i (show i < (splL sec nd hs nz).length by rw [← hg.len]; exact hi))
    rw [Bool.eq_iff_iff, bd_iff, decide_eq_true_eq, hln, hgh i hi]
    constructor
    · rintro ⟨k, hk, hne⟩ e
      apply hne
      rw [e, hm.2.2 k hk]
    · intro hne
      refine Classical.byContradiction fun hno => hne (Prod.ext (hgh i hi) (Prod.ext ?_ rfl))
      refine ext_get (hg.bytes _ (getD_mem _ _ i hi)) hm.2.1 fun k hk => ?_
      rw [hm.2.2 k hk]
      exact (Classical.byContradiction fun e => hno ⟨k, hk, e⟩ : horner _ _ = _).symm
  have hfil : (g.filter (bdB (polK sec nz nd) (lnS g))).map (·.1) = odK g (splL sec nd hs nz) hs.length := by
    rw [filter_range (0, [], ()) g, List.map_map, hlen]
    unfold odK
    rw [List.filter_congr fun i hi => hbd i (by rw [hlen]; exact List.mem_range.1 hi)]
    rfl
  have hn : ((g.filter (bdB (polK sec nz nd) (lnS g))).length : Int) ≤ w := by
    have := congrArg List.length hfil
    rw [List.length_map] at this
    omega
  obtain ⟨e, e1, e2⟩ := rob_poly hc h1 h12 hw (by rw [hlen]; exact hl) (P := polK sec nz nd) (fun k _ => polK_sz sec nz h1 k) hn hchk
  refine ⟨e, ?_, by rw [e2, hfil]⟩
  rw [e1, hln]
  refine Eq.trans ?_ (range_self sec)
  apply List.map_congr_left
  intro k _
  exact horner_z _ _
end Go.Proofs.YtakbedmeieeekaaDoor.S26

namespace Go.Proofs.YtakbedmeieeekaaDoor.S26
open Go Go.Proofs.YtakbedmeieeekaaDoor.Vc

/-! ### how large the parts of a datum are -/
theorem wt_mem {t : Ty} {xs : List t.D} {x : t.D} (h : x ∈ xs) : wt t x + 1 ≤ wt (.sl t) xs := by
  have e : wt (.sl t) xs = (xs.map (wt t)).sum + 1 := rfl
  rw [e]
  clear e
  induction xs with
  | nil => cases h
  | cons y ys ih =>
    rw [List.map_cons, List.sum_cons]
    rcases List.mem_cons.1 h with rfl | h
    · omega
    · have := ih h; omega
theorem wt_len {t : Ty} (h1 : ∀ x, 1 ≤ wt t x) (xs : List t.D) : xs.length + 1 ≤ wt (.sl t) xs := by
  have e : wt (.sl t) xs = (xs.map (wt t)).sum + 1 := rfl
  rw [e]
  clear e
  induction xs with
  | nil => simp
  | cons x xs ih => have := h1 x; rw [List.map_cons, List.sum_cons, List.length_cons]; omega
theorem wt_s (s : List UInt8) : wt .str s = s.length + 1 := rfl
theorem wt_sh (s : (Int × List UInt8 × Unit)) : wt (Ty.cons (.int .i64) (.cons .str .nil)) s = 1 + ((s.2.1.length + 1) + 0) := rfl
theorem mxS {l : List (Int × List UInt8 × Unit)} {N : Nat} (h : wt (.sl (Ty.cons (.int .i64) (.cons .str .nil))) l ≤ N) : l.length ≤ N ∧ ∀ s ∈ l, s.2.1.length ≤ N := by
  refine ⟨?_, fun s hs => ?_⟩
  · have := wt_len (t := (Ty.cons (.int .i64) (.cons .str .nil))) (fun x => by rw [wt_sh]; omega) l; omega
  · have := wt_mem (t := (Ty.cons (.int .i64) (.cons .str .nil))) hs; rw [wt_sh] at this; omega
theorem wt_task (t : (Ty.cons .str (.cons (.int .i64) (.cons (.sl (.int .i64)) (.cons .str .nil)))).D) : wt (Ty.cons .str (.cons (.int .i64) (.cons (.sl (.int .i64)) (.cons .str .nil)))) t = (t.1.length + 1) + (1 + (wt (.sl (.int .i64)) t.2.2.1 + ((t.2.2.2.1.length + 1) + 0))) := rfl
theorem mxT {t : (Ty.cons .str (.cons (.int .i64) (.cons (.sl (.int .i64)) (.cons .str .nil)))).D} {N : Nat} (h : wt (Ty.cons .str (.cons (.int .i64) (.cons (.sl (.int .i64)) (.cons .str .nil)))) t ≤ N) : t.1.length ≤ N ∧ t.2.2.1.length ≤ N ∧ t.2.2.2.1.length ≤ N := by
  rw [wt_task] at h
  have := wt_len (t := .int .i64) (fun x => Nat.le_refl 1) t.2.2.1
  exact ⟨by omega, by have : List.length (α := Int) t.2.2.1 + 1 ≤ _ := this; omega, by omega⟩
end Go.Proofs.YtakbedmeieeekaaDoor.S26

namespace Go.Proofs.YtakbedmeieeekaaDoor.Cd
open Go Go.Proofs.YtakbedmeieeekaaDoor.Vc Go.Proofs Go.Proofs.YtakbedmeieeekaaDoor.S26 Go.ChangeShapes Go.WideShapes Go.ChangeAt Go.RowKit
set_option maxRecDepth 100000
set_option linter.unusedVariables false

theorem bulkAll {H : Type} : ∀ l : List (DataW H), Rows.uptoBulkAll l = (l.map Rows.uptoBulk).sum
  | [] => rfl
  | d :: l => by rw [Rows.uptoBulkAll, bulkAll l]; rfl
theorem bulk {H : Type} : Bulk (H := H) Rows.uptoBulk where
  one d := by cases d with
    | lit l => cases l <;> simp [Rows.uptoBulk]
    | _ => simp [Rows.uptoBulk]
  str b := by simp [Rows.uptoBulk]
  sl es sp := by rw [Rows.uptoBulk, bulkAll, bulkAll]; omega
  agg ps := by rw [Rows.uptoBulk, bulkAll]; omega
theorem wt_cons (t ts : Ty) (x : (Ty.cons t ts).D) : wt (.cons t ts) x = wt t x.1 + wt ts x.2 := rfl
theorem wt_int (k : IntKind) (x : Int) : wt (.int k) x = 1 := rfl
theorem wt_nil (x : Unit) : wt .nil x = 0 := rfl
theorem laidOut : laidOutB Tryd.prog = true := by kernel_rfl
theorem own : ownKnob Tryd.prog.godebug = none := by kernel_rfl

section
variable {H : Type} {enc : TypeId × Value → H} {P : Program}
theorem post_same {f : Func} {s : ChangeSpec} {apart fresh handsOn again : Bool} {W W' : World} {args : Array Value} {v : Value} {ds gs : List (DataW H)} {before pa pv : List MemPlace}
    (hW : DataW.Whole enc P f.params.toList s.vars apart W args.toList ds gs before)
    (hres : ∀ (b : Nat) (sp : Nat → Bool) (hd : Bool), DataW.TrodAll enc P W' b sp hd f.resultTypes.toList (v.resultList f.resultTypes.size) (s.fn H (ds ++ gs)).results [])
    (hargs : ∀ sp : Nat → Bool, (∀ p ∈ before, sp p.block = true) → DataW.TrodAll enc P W' 0 sp true f.params.toList args.toList (s.fn H (ds ++ gs)).args pa)
    (hvars : ∀ sp : Nat → Bool, (∀ p ∈ before, sp p.block = true) → DataW.TrodVars enc P W' sp s.vars (s.fn H (ds ++ gs)).vars pv)
    (hps : before = pa ++ pv) (hb : Below W.heap.size W W')
    (hok : ∀ (j : Nat) (t : TypeId) (r : Value), f.resultTypes[j]? = some t → (v.resultList f.resultTypes.size)[j]? = some r → Value.okWide P W' .any 0 t r) :
    s.post enc P f apart fresh handsOn again W args v W' := by
  have hlt : ∀ p ∈ before, p.block < W.heap.size := fun p hp => by simpa using hW.lt p hp
  have hold : ∀ p ∈ before, (fun b => decide (b < W.heap.size)) p.block = true := fun p hp => by simpa using hW.lt p hp
  refine ⟨ds, gs, before, [], pa, pv, hW, hres _ _ _, hargs _ hold, hvars _ hold, World.keptBut_mono (fun p hp => ⟨hp, ?_⟩) (hb.frame (· ∈ before)), fun _ => ?_⟩
  · rw [hps, List.mem_append] at hp
    exact Or.inr hp
  · obtain ⟨_, _, _, _, _, hz, hn⟩ := hW
    refine ⟨hok, _, _, ([] ++ pa) ++ pv, ⟨[] ++ pa, pv, trodAll_append (hargs _ (fun _ _ => rfl)) (hres _ _ _), hvars _ (fun _ _ => rfl), rfl, ?_, ?_⟩, ?_⟩
    · intro b off hp
      have hp' : MemPlace.cell b off ∈ before := by rw [hps]; simpa using hp
      rw [hb.frozen (hlt _ hp')]
      exact hz b off hp'
    · intro ha
      have := hn ha
      rw [hps] at this
      simpa using this
    · intro p hp _
      rw [hps]
      simpa using hp
end
end Go.Proofs.YtakbedmeieeekaaDoor.Cd

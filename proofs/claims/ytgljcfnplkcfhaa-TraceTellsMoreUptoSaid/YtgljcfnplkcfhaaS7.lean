/- Texts of this claim: S38.Cd0. -/
import Derived.Test.YtgljcfnplkcfhaaRows
import Derived.WalkKit
import Derived.ProofKit
import Derived.OpenShut
import Derived.Deep.DeepHandedRow
import Derived.Lib.LaidTab
import Derived.Test.YtgljcfnplkcfhaaVc10
import Derived.Test.YtgljcfnplkcfhaaS0
set_option linter.unusedVariables false
set_option linter.unusedSimpArgs false
namespace Go.Proofs.Ytgljcfnplkcfhaa.Cd
open Go Go.Proofs.Ytgljcfnplkcfhaa.Vc Go.Proofs Go.Proofs.Ytgljcfnplkcfhaa.S38 Go.ChangeShapes Go.WideShapes Go.ChangeAt Go.RowKit
set_option maxRecDepth 100000
set_option linter.unusedVariables false

theorem bulkAll {H : Type} : ∀ l : List (DataW H), Rows.uptoBulkAll l = (l.map Rows.uptoBulk).sum
  | [] => rfl
  | d :: l => by rw [Rows.uptoBulkAll, bulkAll l]; rfl
theorem bulk {H : Type} : Bulk (H := H) Rows.uptoBulk where
  one d := by cases d with
    | lit l => cases l <;> simp [Rows.uptoBulk]
    | _ => simp [Rows.uptoBulk]
  str b := by simp [Rows.uptoBulk]
  sl es sp := by rw [Rows.uptoBulk, bulkAll, bulkAll]; omega
  agg ps := by rw [Rows.uptoBulk, bulkAll]; omega
theorem wt_cons (t ts : Ty) (x : (Ty.cons t ts).D) : wt (.cons t ts) x = wt t x.1 + wt ts x.2 := rfl
theorem wt_int (k : IntKind) (x : Int) : wt (.int k) x = 1 := rfl
theorem wt_nil (x : Unit) : wt .nil x = 0 := rfl
theorem wt_sl (t : Ty) (h : ∀ x, 1 ≤ wt t x) (xs : List t.D) : xs.length ≤ wt (.sl t) xs := by
  have e : wt (.sl t) xs = (xs.map (wt t)).sum + 1 := rfl
  rw [e]
  clear e
  induction xs with
  | nil => simp
  | cons x xs ih => have := h x; simp only [List.map_cons, List.sum_cons, List.length_cons]; omega
theorem wt_mem (t : Ty) (xs : List t.D) : ∀ a ∈ xs, wt t a ≤ wt (.sl t) xs := fun a ha => by
  have e : wt (.sl t) xs = (xs.map (wt t)).sum + 1 := rfl
  rw [e]
  clear e
  induction xs with
  | nil => cases ha
  | cons x xs ih =>
    simp only [List.map_cons, List.sum_cons]
    rcases List.mem_cons.1 ha with g | g
    · subst g; omega
    · have := ih g; omega
theorem wt_art (a : (Int × (Int × (Int × (List Int × (Int × (Int × (Int × (Int × (Int × (Int × Unit))))))))))) : a.2.2.2.1.length ≤ wt (.cons (.int .i64) (.cons (.int .i64) (.cons (.int .i64) (.cons (.sl (.int .i64)) (.cons (.int .i64) (.cons (.int .i64) (.cons (.int .i64) (.cons (.int .i64) (.cons (.int .i64) (.cons (.int .i64) .nil)))))))))) a ∧ 1 ≤ wt (.cons (.int .i64) (.cons (.int .i64) (.cons (.int .i64) (.cons (.sl (.int .i64)) (.cons (.int .i64) (.cons (.int .i64) (.cons (.int .i64) (.cons (.int .i64) (.cons (.int .i64) (.cons (.int .i64) .nil)))))))))) a := by
  simp only [wt_cons, wt_int, wt_nil, wt_ints]
  omega
theorem led_len (xs : List (Int × (Int × (Int × (List Int × (Int × (Int × (Int × (Int × (Int × (Int × Unit))))))))))) : xs.length ≤ wt (.sl (.cons (.int .i64) (.cons (.int .i64) (.cons (.int .i64) (.cons (.sl (.int .i64)) (.cons (.int .i64) (.cons (.int .i64) (.cons (.int .i64) (.cons (.int .i64) (.cons (.int .i64) (.cons (.int .i64) .nil))))))))))) xs := wt_sl (.cons (.int .i64) (.cons (.int .i64) (.cons (.int .i64) (.cons (.sl (.int .i64)) (.cons (.int .i64) (.cons (.int .i64) (.cons (.int .i64) (.cons (.int .i64) (.cons (.int .i64) (.cons (.int .i64) .nil)))))))))) (fun x => (wt_art x).2) xs
theorem led_of (xs : List (Int × (Int × (Int × (List Int × (Int × (Int × (Int × (Int × (Int × (Int × Unit))))))))))) : ∀ a ∈ xs, a.2.2.2.1.length ≤ wt (.sl (.cons (.int .i64) (.cons (.int .i64) (.cons (.int .i64) (.cons (.sl (.int .i64)) (.cons (.int .i64) (.cons (.int .i64) (.cons (.int .i64) (.cons (.int .i64) (.cons (.int .i64) (.cons (.int .i64) .nil))))))))))) xs := fun a ha => Nat.le_trans (wt_art a).1 (wt_mem (.cons (.int .i64) (.cons (.int .i64) (.cons (.int .i64) (.cons (.sl (.int .i64)) (.cons (.int .i64) (.cons (.int .i64) (.cons (.int .i64) (.cons (.int .i64) (.cons (.int .i64) (.cons (.int .i64) .nil)))))))))) xs a ha)
theorem cap_len (xs : List (Int × (Int × Unit))) : xs.length ≤ wt (.sl (.cons (.int .i64) (.cons (.int .i64) .nil))) xs := wt_sl (.cons (.int .i64) (.cons (.int .i64) .nil)) (fun x => by simp only [wt_cons, wt_int, wt_nil]; omega) xs
theorem spy_len (xs : List (Int × (List (Int × (Int × Unit)) × Unit))) : ∀ s ∈ xs, s.2.1.length ≤ wt (.arr 2 (.cons (.int .i64) (.cons (.sl (.cons (.int .i64) (.cons (.int .i64) .nil))) .nil))) xs := fun s hs => by
  have e : wt (.arr 2 (.cons (.int .i64) (.cons (.sl (.cons (.int .i64) (.cons (.int .i64) .nil))) .nil))) xs = (xs.map (wt (.cons (.int .i64) (.cons (.sl (.cons (.int .i64) (.cons (.int .i64) .nil))) .nil)))).sum := rfl
  rw [e]
  clear e
  have h1 : s.2.1.length ≤ wt (.cons (.int .i64) (.cons (.sl (.cons (.int .i64) (.cons (.int .i64) .nil))) .nil)) s := by
    have := cap_len s.2.1
    have e : wt (.cons (.int .i64) (.cons (.sl (.cons (.int .i64) (.cons (.int .i64) .nil))) .nil)) s = 1 + (wt (.sl (.cons (.int .i64) (.cons (.int .i64) .nil))) s.2.1 + 0) := rfl
    omega
  induction xs with
  | nil => cases hs
  | cons x xs ih =>
    simp only [List.map_cons, List.sum_cons]
    rcases List.mem_cons.1 hs with g | g
    · subst g; omega
    · have := ih g; omega
theorem laidOut : laidOutB Try.prog = true := by kernel_rfl
theorem own : ownKnob Try.prog.godebug = none := by kernel_rfl

section
variable {H : Type} {enc : TypeId × Value → H} {P : Program}
theorem post_same {f : Func} {s : ChangeSpec} {apart fresh handsOn again : Bool} {W W' : World} {args : Array Value} {v : Value} {ds gs : List (DataW H)} {before pa pv : List MemPlace}
    (hW : DataW.Whole enc P f.params.toList s.vars apart W args.toList ds gs before)
    (hres : ∀ (b : Nat) (sp : Nat → Bool) (hd : Bool), DataW.TrodAll enc P W' b sp hd f.resultTypes.toList (v.resultList f.resultTypes.size) (s.fn H (ds ++ gs)).results [])
    (hargs : ∀ sp : Nat → Bool, (∀ p ∈ before, sp p.block = true) → DataW.TrodAll enc P W' 0 sp true f.params.toList args.toList (s.fn H (ds ++ gs)).args pa)
    (hvars : ∀ sp : Nat → Bool, (∀ p ∈ before, sp p.block = true) → DataW.TrodVars enc P W' sp s.vars (s.fn H (ds ++ gs)).vars pv)
    (hps : before = pa ++ pv) (hb : Below W.heap.size W W')
    (hok : ∀ (j : Nat) (t : TypeId) (r : Value), f.resultTypes[j]? = some t → (v.resultList f.resultTypes.size)[j]? = some r → Value.okWide P W' .any 0 t r) :
    s.post enc P f apart fresh handsOn again W args v W' := by
  have hlt : ∀ p ∈ before, p.block < W.heap.size := fun p hp => by simpa using hW.lt p hp
  have hold : ∀ p ∈ before, (fun b => decide (b < W.heap.size)) p.block = true := fun p hp => by simpa using hW.lt p hp
  refine ⟨ds, gs, before, [], pa, pv, hW, hres _ _ _, hargs _ hold, hvars _ hold, World.keptBut_mono (fun p hp => ⟨hp, ?_⟩) (hb.frame (· ∈ before)), fun _ => ?_⟩
  · rw [hps, List.mem_append] at hp
    exact Or.inr hp
  · obtain ⟨_, _, _, _, _, hz, hn⟩ := hW
    refine ⟨hok, _, _, ([] ++ pa) ++ pv, ⟨[] ++ pa, pv, trodAll_append (hargs _ (fun _ _ => rfl)) (hres _ _ _), hvars _ (fun _ _ => rfl), rfl, ?_, ?_⟩, ?_⟩
    · intro b off hp
      have hp' : MemPlace.cell b off ∈ before := by rw [hps]; simpa using hp
      rw [hb.frozen (hlt _ hp')]
      exact hz b off hp'
    · intro ha
      have := hn ha
      rw [hps] at this
      simpa using this
    · intro p hp _
      rw [hps]
      simpa using hp
end
end Go.Proofs.Ytgljcfnplkcfhaa.Cd

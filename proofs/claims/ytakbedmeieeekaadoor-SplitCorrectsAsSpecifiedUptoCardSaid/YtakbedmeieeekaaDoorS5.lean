/- Texts of this claim: S26.Pw, S26.Cd0. -/
import Derived.Test.YtakbedmeieeekaaDoorS1
import Derived.Test.YtakbedmeieeekaaDoorVc8
import Derived.Test.YtakbedmeieeekaaDoorCards
import Derived.Test.YtakbedmeieeekaaDoorTie
import Derived.WalkKit
import Derived.ProofKit
import Derived.OpenShut
import Derived.Deep.DeepHandedRow
import Derived.Lib.LaidTab
set_option linter.unusedVariables false
set_option linter.unusedSimpArgs false
namespace Go.Proofs.YtakbedmeieeekaaDoor.S26
open Go Go.Proofs.YtakbedmeieeekaaDoor.Vc

/-! ### how large the parts of a datum are -/
theorem wt_mem {t : Ty} {xs : List t.D} {x : t.D} (h : x ∈ xs) : wt t x + 1 ≤ wt (.sl t) xs := by
  have e : wt (.sl t) xs = (xs.map (wt t)).sum + 1 := rfl
  rw [e]
  clear e
  induction xs with
  | nil => cases h
  | cons y ys ih =>
    rw [List.map_cons, List.sum_cons]
    rcases List.mem_cons.1 h with rfl | h
    · omega
    · have := ih h; omega
theorem wt_len {t : Ty} (h1 : ∀ x, 1 ≤ wt t x) (xs : List t.D) : xs.length + 1 ≤ wt (.sl t) xs := by
  have e : wt (.sl t) xs = (xs.map (wt t)).sum + 1 := rfl
  rw [e]
  clear e
  induction xs with
  | nil => simp
  | cons x xs ih => have := h1 x; rw [List.map_cons, List.sum_cons, List.length_cons]; omega
theorem wt_s (s : List UInt8) : wt .str s = s.length + 1 := rfl
theorem wt_sh (s : (Int × List UInt8 × Unit)) : wt (Ty.cons (.int .i64) (.cons .str .nil)) s = 1 + ((s.2.1.length + 1) + 0) := rfl
theorem mxS {l : List (Int × List UInt8 × Unit)} {N : Nat} (h : wt (.sl (Ty.cons (.int .i64) (.cons .str .nil))) l ≤ N) : l.length ≤ N ∧ ∀ s ∈ l, s.2.1.length ≤ N := by
  refine ⟨?_, fun s hs => ?_⟩
  · have := wt_len (t := (Ty.cons (.int .i64) (.cons .str .nil))) (fun x => by rw [wt_sh]; omega) l; omega
  · have := wt_mem (t := (Ty.cons (.int .i64) (.cons .str .nil))) hs; rw [wt_sh] at this; omega
theorem wt_task (t : (Ty.cons .str (.cons (.int .i64) (.cons (.sl (.int .i64)) (.cons .str .nil)))).D) : wt (Ty.cons .str (.cons (.int .i64) (.cons (.sl (.int .i64)) (.cons .str .nil)))) t = (t.1.length + 1) + (1 + (wt (.sl (.int .i64)) t.2.2.1 + ((t.2.2.2.1.length + 1) + 0))) := rfl
theorem mxT {t : (Ty.cons .str (.cons (.int .i64) (.cons (.sl (.int .i64)) (.cons .str .nil)))).D} {N : Nat} (h : wt (Ty.cons .str (.cons (.int .i64) (.cons (.sl (.int .i64)) (.cons .str .nil)))) t ≤ N) : t.1.length ≤ N ∧ t.2.2.1.length ≤ N ∧ t.2.2.2.1.length ≤ N := by
  rw [wt_task] at h
  have := wt_len (t := .int .i64) (fun x => Nat.le_refl 1) t.2.2.1
  exact ⟨by omega, by have : List.length (α := Int) t.2.2.1 + 1 ≤ _ := this; omega, by omega⟩
end Go.Proofs.YtakbedmeieeekaaDoor.S26

namespace Go.Proofs.YtakbedmeieeekaaDoor.Cd
open Go Go.Proofs.YtakbedmeieeekaaDoor.Vc Go.Proofs Go.Proofs.YtakbedmeieeekaaDoor.S26 Go.ChangeShapes Go.WideShapes Go.ChangeAt Go.RowKit
set_option maxRecDepth 100000
set_option linter.unusedVariables false

theorem bulkAll {H : Type} : ∀ l : List (DataW H), Rows.uptoBulkAll l = (l.map Rows.uptoBulk).sum
  | [] => rfl
  | d :: l => by rw [Rows.uptoBulkAll, bulkAll l]; rfl
theorem bulk {H : Type} : Bulk (H := H) Rows.uptoBulk where
  one d := by cases d with
    | lit l => cases l <;> simp [Rows.uptoBulk]
    | _ => simp [Rows.uptoBulk]
  str b := by simp [Rows.uptoBulk]
  sl es sp := by rw [Rows.uptoBulk, bulkAll, bulkAll]; omega
  agg ps := by rw [Rows.uptoBulk, bulkAll]; omega
theorem wt_cons (t ts : Ty) (x : (Ty.cons t ts).D) : wt (.cons t ts) x = wt t x.1 + wt ts x.2 := rfl
theorem wt_int (k : IntKind) (x : Int) : wt (.int k) x = 1 := rfl
theorem wt_nil (x : Unit) : wt .nil x = 0 := rfl
theorem laidOut : laidOutB Tryd.prog = true := by kernel_rfl
theorem own : ownKnob Tryd.prog.godebug = none := by kernel_rfl

section
variable {H : Type} {enc : TypeId × Value → H} {P : Program}
theorem post_same {f : Func} {s : ChangeSpec} {apart fresh handsOn again : Bool} {W W' : World} {args : Array Value} {v : Value} {ds gs : List (DataW H)} {before pa pv : List MemPlace}
    (hW : DataW.Whole enc P f.params.toList s.vars apart W args.toList ds gs before)
    (hres : ∀ (b : Nat) (sp : Nat → Bool) (hd : Bool), DataW.TrodAll enc P W' b sp hd f.resultTypes.toList (v.resultList f.resultTypes.size) (s.fn H (ds ++ gs)).results [])
    (hargs : ∀ sp : Nat → Bool, (∀ p ∈ before, sp p.block = true) → DataW.TrodAll enc P W' 0 sp true f.params.toList args.toList (s.fn H (ds ++ gs)).args pa)
    (hvars : ∀ sp : Nat → Bool, (∀ p ∈ before, sp p.block = true) → DataW.TrodVars enc P W' sp s.vars (s.fn H (ds ++ gs)).vars pv)
    (hps : before = pa ++ pv) (hb : Below W.heap.size W W')
    (hok : ∀ (j : Nat) (t : TypeId) (r : Value), f.resultTypes[j]? = some t → (v.resultList f.resultTypes.size)[j]? = some r → Value.okWide P W' .any 0 t r) :
    s.post enc P f apart fresh handsOn again W args v W' := by
  have hlt : ∀ p ∈ before, p.block < W.heap.size := fun p hp => by simpa using hW.lt p hp
  have hold : ∀ p ∈ before, (fun b => decide (b < W.heap.size)) p.block = true := fun p hp => by simpa using hW.lt p hp
  refine ⟨ds, gs, before, [], pa, pv, hW, hres _ _ _, hargs _ hold, hvars _ hold, World.keptBut_mono (fun p hp => ⟨hp, ?_⟩) (hb.frame (· ∈ before)), fun _ => ?_⟩
  · rw [hps, List.mem_append] at hp
    exact Or.inr hp
  · obtain ⟨_, _, _, _, _, hz, hn⟩ := hW
    refine ⟨hok, _, _, ([] ++ pa) ++ pv, ⟨[] ++ pa, pv, trodAll_append (hargs _ (fun _ _ => rfl)) (hres _ _ _), hvars _ (fun _ _ => rfl), rfl, ?_, ?_⟩, ?_⟩
    · intro b off hp
      have hp' : MemPlace.cell b off ∈ before := by rw [hps]; simpa using hp
      rw [hb.frozen (hlt _ hp')]
      exact hz b off hp'
    · intro ha
      have := hn ha
      rw [hps] at this
      simpa using this
    · intro p hp _
      rw [hps]
      simpa using hp
end
end Go.Proofs.YtakbedmeieeekaaDoor.Cd

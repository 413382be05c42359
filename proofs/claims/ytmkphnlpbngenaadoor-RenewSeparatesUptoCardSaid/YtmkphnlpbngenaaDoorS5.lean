/- Texts of this claim: S27.Pw, S27.Cd0. -/
import Derived.Test.YtmkphnlpbngenaaDoorS3
import Derived.Test.YtmkphnlpbngenaaDoorVc8
import Derived.Test.YtmkphnlpbngenaaDoorCards
import Derived.Test.YtmkphnlpbngenaaDoorTie
import Derived.WalkKit
import Derived.ProofKit
import Derived.OpenShut
import Derived.Deep.DeepHandedRow
import Derived.Lib.LaidTab
set_option linter.unusedVariables false
set_option linter.unusedSimpArgs false
namespace Go.Proofs.YtmkphnlpbngenaaDoor.S27
open Go Go.Proofs.YtmkphnlpbngenaaDoor.Vc

/-! ### how large the parts of a datum are -/
theorem wt_mem {t : Ty} {xs : List t.D} {x : t.D} (h : x ∈ xs) : wt t x + 1 ≤ wt (.sl t) xs := by
  have e : wt (.sl t) xs = (xs.map (wt t)).sum + 1 := rfl
  rw [e]
  clear e
  induction xs with
  | nil => cases h
  | cons y ys ih =>
    rw [List.map_cons, List.sum_cons]
    rcases List.mem_cons.1 h with rfl | h
    · omega
    · have := ih h; omega
theorem wt_len {t : Ty} (h1 : ∀ x, 1 ≤ wt t x) (xs : List t.D) : xs.length + 1 ≤ wt (.sl t) xs := by
  have e : wt (.sl t) xs = (xs.map (wt t)).sum + 1 := rfl
  rw [e]
  clear e
  induction xs with
  | nil => simp
  | cons x xs ih => have := h1 x; rw [List.map_cons, List.sum_cons, List.length_cons]; omega
theorem wt_s (s : List UInt8) : wt .str s = s.length + 1 := rfl
theorem wt_sl1 {t : Ty} (xs : List t.D) : 1 ≤ wt (.sl t) xs := by
  have e : wt (.sl t) xs = (xs.map (wt t)).sum + 1 := rfl
  omega
theorem mx1 (r : Rw) : r.length ≤ wt (.sl .str) r ∧ ∀ x ∈ r, x.length ≤ wt (.sl .str) r := by
  refine ⟨?_, fun x hx => ?_⟩
  · have := wt_len (t := .str) (fun x => by rw [wt_s]; omega) r; omega
  · have := wt_mem (t := .str) hx; rw [wt_s] at this; omega
theorem mx2 (cf : List Rw) : cf.length ≤ wt (.sl (.sl .str)) cf ∧ ∀ l ∈ cf, l.length ≤ wt (.sl (.sl .str)) cf ∧ ∀ x ∈ l, x.length ≤ wt (.sl (.sl .str)) cf := by
  refine ⟨?_, fun l hl => ?_⟩
  · have := wt_len (t := .sl .str) (fun x => wt_sl1 x) cf; omega
  · have h := wt_mem (t := .sl .str) hl
    obtain ⟨h1, h2⟩ := mx1 l
    exact ⟨by omega, fun x hx => by have := h2 x hx; omega⟩
theorem mxP (l : List (List UInt8)) : l.length ≤ wt (.sl (.sl .u8)) l ∧ ∀ x ∈ l, x.length ≤ wt (.sl (.sl .u8)) l := by
  refine ⟨?_, fun x hx => ?_⟩
  · have := wt_len (t := .sl .u8) (fun x => wt_sl1 x) l; omega
  · have := wt_mem (t := .sl .u8) hx; rw [wt_bytes] at this; omega
abbrev dealT : Ty := .cons (.int .i64) (.cons (.sl (.sl .str)) .nil)
theorem wt_deal (d : Dl) : wt dealT d = 1 + (wt (.sl (.sl .str)) d.2.1 + 0) := rfl
theorem mx3 (ds : List Dl) : ds.length ≤ wt (.sl dealT) ds ∧ ∀ d ∈ ds, d.2.1.length ≤ wt (.sl dealT) ds ∧ ∀ l ∈ d.2.1, l.length ≤ wt (.sl dealT) ds ∧ ∀ x ∈ l, x.length ≤ wt (.sl dealT) ds := by
  refine ⟨?_, fun d hd => ?_⟩
  · have := wt_len (t := dealT) (fun x => by rw [wt_deal]; omega) ds; omega
  · have h := wt_mem (t := dealT) hd
    rw [wt_deal] at h
    obtain ⟨h1, h2⟩ := mx2 d.2.1
    exact ⟨by omega, fun l hl => by obtain ⟨a, b⟩ := h2 l hl; exact ⟨by omega, fun x hx => by have := b x hx; omega⟩⟩
section
variable {N : Nat}
theorem mx2' {cf : List Rw} (h : wt (.sl (.sl .str)) cf ≤ N) : cf.length ≤ N ∧ ∀ l ∈ cf, l.length ≤ N ∧ ∀ x ∈ l, x.length ≤ N := by
  obtain ⟨a, b⟩ := mx2 cf
  exact ⟨by omega, fun l hl => ⟨by have := (b l hl).1; omega, fun x hx => by have := (b l hl).2 x hx; omega⟩⟩
theorem mxP' {l : List (List UInt8)} (h : wt (.sl (.sl .u8)) l ≤ N) : l.length ≤ N ∧ ∀ x ∈ l, x.length ≤ N := by
  obtain ⟨a, b⟩ := mxP l
  exact ⟨by omega, fun x hx => by have := b x hx; omega⟩
theorem mx3' {ds : List Dl} (h : wt (.sl dealT) ds ≤ N) : ds.length ≤ N ∧ ∀ d ∈ ds, d.2.1.length ≤ N ∧ ∀ l ∈ d.2.1, l.length ≤ N ∧ ∀ x ∈ l, x.length ≤ N := by
  obtain ⟨a, b⟩ := mx3 ds
  exact ⟨by omega, fun d hd => ⟨by have := (b d hd).1; omega, fun l hl => ⟨by have := ((b d hd).2 l hl).1; omega, fun x hx => by have := ((b d hd).2 l hl).2 x hx; omega⟩⟩⟩
end
end Go.Proofs.YtmkphnlpbngenaaDoor.S27

namespace Go.Proofs.YtmkphnlpbngenaaDoor.Cd
open Go Go.Proofs.YtmkphnlpbngenaaDoor.Vc Go.Proofs Go.Proofs.YtmkphnlpbngenaaDoor.S27 Go.ChangeShapes Go.WideShapes Go.ChangeAt Go.RowKit
set_option maxRecDepth 100000
set_option linter.unusedVariables false

theorem bulkAll {H : Type} : ∀ l : List (DataW H), Rows.uptoBulkAll l = (l.map Rows.uptoBulk).sum
  | [] => rfl
  | d :: l => by rw [Rows.uptoBulkAll, bulkAll l]; rfl
theorem bulk {H : Type} : Bulk (H := H) Rows.uptoBulk where
  one d := by cases d with
    | lit l => cases l <;> simp [Rows.uptoBulk]
    | _ => simp [Rows.uptoBulk]
  str b := by simp [Rows.uptoBulk]
  sl es sp := by rw [Rows.uptoBulk, bulkAll, bulkAll]; omega
  agg ps := by rw [Rows.uptoBulk, bulkAll]; omega
theorem wt_cons (t ts : Ty) (x : (Ty.cons t ts).D) : wt (.cons t ts) x = wt t x.1 + wt ts x.2 := rfl
theorem wt_int (k : IntKind) (x : Int) : wt (.int k) x = 1 := rfl
theorem wt_nil (x : Unit) : wt .nil x = 0 := rfl
theorem laidOut : laidOutB Tryd.prog = true := by kernel_rfl
theorem own : ownKnob Tryd.prog.godebug = none := by kernel_rfl

section
variable {H : Type} {enc : TypeId × Value → H} {P : Program}
theorem post_same {f : Func} {s : ChangeSpec} {apart fresh handsOn again : Bool} {W W' : World} {args : Array Value} {v : Value} {ds gs : List (DataW H)} {before pa pv : List MemPlace}
    (hW : DataW.Whole enc P f.params.toList s.vars apart W args.toList ds gs before)
    (hres : ∀ (b : Nat) (sp : Nat → Bool) (hd : Bool), DataW.TrodAll enc P W' b sp hd f.resultTypes.toList (v.resultList f.resultTypes.size) (s.fn H (ds ++ gs)).results [])
    (hargs : ∀ sp : Nat → Bool, (∀ p ∈ before, sp p.block = true) → DataW.TrodAll enc P W' 0 sp true f.params.toList args.toList (s.fn H (ds ++ gs)).args pa)
    (hvars : ∀ sp : Nat → Bool, (∀ p ∈ before, sp p.block = true) → DataW.TrodVars enc P W' sp s.vars (s.fn H (ds ++ gs)).vars pv)
    (hps : before = pa ++ pv) (hb : Below W.heap.size W W')
    (hok : ∀ (j : Nat) (t : TypeId) (r : Value), f.resultTypes[j]? = some t → (v.resultList f.resultTypes.size)[j]? = some r → Value.okWide P W' .any 0 t r) :
    s.post enc P f apart fresh handsOn again W args v W' := by
  have hlt : ∀ p ∈ before, p.block < W.heap.size := fun p hp => by simpa using hW.lt p hp
  have hold : ∀ p ∈ before, (fun b => decide (b < W.heap.size)) p.block = true := fun p hp => by simpa using hW.lt p hp
  refine ⟨ds, gs, before, [], pa, pv, hW, hres _ _ _, hargs _ hold, hvars _ hold, World.keptBut_mono (fun p hp => ⟨hp, ?_⟩) (hb.frame (· ∈ before)), fun _ => ?_⟩
  · rw [hps, List.mem_append] at hp
    exact Or.inr hp
  · obtain ⟨_, _, _, _, _, hz, hn⟩ := hW
    refine ⟨hok, _, _, ([] ++ pa) ++ pv, ⟨[] ++ pa, pv, trodAll_append (hargs _ (fun _ _ => rfl)) (hres _ _ _), hvars _ (fun _ _ => rfl), rfl, ?_, ?_⟩, ?_⟩
    · intro b off hp
      have hp' : MemPlace.cell b off ∈ before := by rw [hps]; simpa using hp
      rw [hb.frozen (hlt _ hp')]
      exact hz b off hp'
    · intro ha
      have := hn ha
      rw [hps] at this
      simpa using this
    · intro p hp _
      rw [hps]
      simpa using hp
end
end Go.Proofs.YtmkphnlpbngenaaDoor.Cd

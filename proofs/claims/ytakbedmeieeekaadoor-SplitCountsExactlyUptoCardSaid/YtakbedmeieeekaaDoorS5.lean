/- Texts of this claim: S26.P6j, S26.Pw, S26.Cd0. -/
import Derived.Test.YtakbedmeieeekaaDoorS4
import Derived.Test.YtakbedmeieeekaaDoorS1
import Derived.Test.YtakbedmeieeekaaDoorVc9
import Derived.Test.YtakbedmeieeekaaDoorCards
import Derived.Test.YtakbedmeieeekaaDoorTie
import Derived.WalkKit
import Derived.ProofKit
import Derived.OpenShut
import Derived.Deep.DeepHandedRow
import Derived.Lib.LaidTab
set_option linter.unusedVariables false
set_option linter.unusedSimpArgs false
namespace Go.Proofs.YtakbedmeieeekaaDoor.S26
open Go Go.Proofs.YtakbedmeieeekaaDoor.Vc Go.Proofs
set_option maxRecDepth 100000

/-! ### counting noises -/
def okN (sec : UInt8) (a b : Int) (K : List (Int × List UInt8 × Unit)) (r : Nat) : Bool := decide ((splL [sec] 2 [a, b] [UInt8.ofNat r]).take K.length = K)
def cnK (sec : UInt8) (a b : Int) (K : List (Int × List UInt8 × Unit)) (q : Nat) : Nat := ((List.range q).filter (okN sec a b K)).length
theorem cnK_yes {sec : UInt8} {a b : Int} {K : List (Int × List UInt8 × Unit)} {q : Nat} (h : okN sec a b K q = true) : cnK sec a b K (q + 1) = cnK sec a b K q + 1 := by
  unfold cnK
  rw [List.range_succ, List.filter_append, List.length_append, List.filter_cons, if_pos h]
  rfl
theorem cnK_no {sec : UInt8} {a b : Int} {K : List (Int × List UInt8 × Unit)} {q : Nat} (h : ¬ okN sec a b K q = true) : cnK sec a b K (q + 1) = cnK sec a b K q := by
  unfold cnK
  rw [List.range_succ, List.filter_append, List.length_append, List.filter_cons, if_neg h]
  simp
theorem cnK_le (sec : UInt8) (a b : Int) (K : List (Int × List UInt8 × Unit)) (q : Nat) : cnK sec a b K q ≤ q := by
  unfold cnK
  have := List.length_filter_le (okN sec a b K) (List.range q)
  rwa [List.length_range] at this
theorem spl2 {sec r : UInt8} {a b : Int} (ha : knw a) (hb : knw b) (hab : a < b) : Spl [sec] 2 [a, b] [r] := by
  refine ⟨by simp, by omega, by omega, by simp, ?_, by simp⟩
  refine List.all_eq_true.2 fun k hk => decide_eq_true ?_
  have hk : k < 2 := List.mem_range.1 hk
  rcases (by omega : k = 0 ∨ k = 1) with rfl | rfl
  · exact ⟨ha, .inl rfl⟩
  · exact ⟨hb, .inr hab⟩
theorem shS2 (sec r : UInt8) (h : Int) : shS [sec] 2 [r] h = (h, [horner (pt h) [sec, r]], ()) := rfl
theorem lin_z (x c r : UInt8) : horner x [c, r] = c ^^^ mulL x r := by
  rw [horner, horner, horner, mul_comm' x]
  rw [show mulL 0 x = 0 from zero_mul' x]
  simp [UInt8.xor_comm]
/-- The noise that is the only one. -/
def nsR (sec y : UInt8) (a : Int) : UInt8 := mulL (y ^^^ sec) (invL (pt a))
theorem pt_nz {a : Int} (ha : knw a) : pt a ≠ 0 := fun e => by
  have := pt_nat' ha
  rw [e] at this
  simp at this
theorem lin_iff {sec y r : UInt8} {a : Int} (ha : knw a) : horner (pt a) [sec, r] = y ↔ r = nsR sec y a := by
  rw [lin_z]
  unfold nsR
  constructor
  · intro h
    have h2 : y ^^^ sec = mulL (pt a) r := by rw [← h, UInt8.xor_comm sec, UInt8.xor_assoc, UInt8.xor_self, UInt8.xor_zero]
    rw [h2, mul_comm' (pt a) r, mul_assoc', mul_inv' _ (pt_nz ha), mul_one']
  · intro h
    rw [h, mul_comm' (pt a), mul_assoc', mul_comm' (invL (pt a)), mul_inv' _ (pt_nz ha), mul_one', UInt8.xor_comm y, ← UInt8.xor_assoc, UInt8.xor_self, UInt8.zero_xor]
theorem filter_one {f : Nat → Bool} {n m : Nat} (h : ∀ q, q < n → (f q = true ↔ q = m)) (hm : m < n) : ((List.range n).filter f).length = 1 := by
  have hp : ((List.range n).filter f).Perm [m] := (List.perm_ext_iff_of_nodup (List.nodup_range.sublist List.filter_sublist) (by simp)).2 fun q => by
    rw [List.mem_filter, List.mem_range, List.mem_singleton]
    exact ⟨fun e => (h q e.1).1 e.2, fun e => by subst e; exact ⟨hm, (h _ hm).2 rfl⟩⟩
  rw [hp.length_eq]; rfl
theorem filter_none {f : Nat → Bool} {n : Nat} (h : ∀ q, q < n → ¬ f q = true) : ((List.range n).filter f).length = 0 := by
  rw [List.length_eq_zero_iff, List.filter_eq_nil_iff]
  intro q hq
  exact h q (List.mem_range.1 hq)
theorem of_nat_iff {r : UInt8} {q : Nat} (hq : q < 256) : UInt8.ofNat q = r ↔ q = r.toNat := by
  constructor
  · intro h; rw [← h, UInt8.toNat_ofNat', Nat.mod_eq_of_lt hq]
  · intro h; rw [h]; simp
theorem cnt1 {sec y : UInt8} {a b : Int} (ha : knw a) (hb : knw b) (hab : a < b) :
    ftN [(a, [y], ())] 2 [sec] = 0 ∧ (ftP [(a, [y], ())] 2 [sec] ↔ cnK sec a b [(a, [y], ())] 256 = 1) ∧ cnK sec a b [(a, [y], ())] 256 = 1 := by
  have hc : chkE [(a, [y], ())] = 0 := chk_of (n := 1) (fun s hs => by rw [List.mem_singleton] at hs; subst hs; exact ⟨ha, rfl⟩) (by omega) (by simp)
  have hr : rdE [(a, [y], ())] 2 = 0 := by unfold rdE; rw [if_pos hc, if_neg (by omega)]
  have hl : lnS [((a, [y], ()) : (Int × List UInt8 × Unit))] = 1 := rfl
  have hone : cnK sec a b [(a, [y], ())] 256 = 1 := by
    refine filter_one (m := (nsR sec y a).toNat) (fun q hq => ?_) (nsR sec y a).toNat_lt
    unfold okN
    rw [decide_eq_true_eq, (spl2 ha hb hab).l, ← of_nat_iff hq, ← lin_iff (a := a) (y := y) ha]
    show ([shS [sec] 2 [UInt8.ofNat q] a] : List (Int × List UInt8 × Unit)) = _ ↔ _
    rw [shS2]
    constructor
    · intro h
      have := congrArg (fun l : List (Int × List UInt8 × Unit) => (l.getD 0 (0, [], ())).2.1.getD 0 0) h
      exact this
    · intro h; rw [h]
  have hp : ftP [(a, [y], ())] 2 [sec] := ⟨hr, by simp, .inr (by rw [hl]; rfl), .inl (by simp)⟩
  refine ⟨?_, ⟨fun _ => hone, fun _ => hp⟩, hone⟩
  unfold ftN
  rw [if_pos ⟨hr, by simp, .inr (by rw [hl]; rfl), by simp⟩]
  simp
theorem cnt2 {sec y z : UInt8} {a b : Int} (ha : knw a) (hb : knw b) (hab : a < b) :
    ftN [(a, [y], ()), (b, [z], ())] 2 [sec] = 0 ∧ (ftP [(a, [y], ()), (b, [z], ())] 2 [sec] ↔ cnK sec a b [(a, [y], ()), (b, [z], ())] 256 = 1) ∧ (cnK sec a b [(a, [y], ()), (b, [z], ())] 256 = 0 ∨ cnK sec a b [(a, [y], ()), (b, [z], ())] 256 = 1) := by
  obtain ⟨K, hK⟩ : ∃ K : List (Int × List UInt8 × Unit), K = [(a, [y], ()), (b, [z], ())] := ⟨_, rfl⟩
  rw [← hK]
  have hc : chkE K = 0 := by
    rw [hK]
    refine chk_of (n := 1) (fun s hs => ?_) (by omega) (by simp [hab])
    rcases List.mem_cons.1 hs with rfl | hs
    · exact ⟨ha, rfl⟩
    · rw [List.mem_singleton] at hs; subst hs; exact ⟨hb, rfl⟩
  have hk2 : K.length = 2 := by rw [hK]; rfl
  have hr : rdE K 2 = 0 := by unfold rdE; rw [if_pos hc, if_neg (by omega)]
  have hl : lnS K = 1 := by rw [hK]; rfl
  have hC := chk0 hc
  have hj := fun x => join_poly hC (nd := 2) (by omega) (by omega) (P := fun k => lineL (xsL K) (ysL K k)) (fun k hk => by
    refine ⟨by have := lineL_sz (xsL K) (ysL K k); rw [xsL_len, hk2] at this; exact this, fun s hs => ?_⟩
    obtain ⟨i, hi, rfl⟩ := getD_mem' (d := (0, [], ())) hs
    have := lineL_val (xsL K) (ysL K k) hC.nodup i (by rw [xsL_len]; exact hi)
    rw [xsL_get hi, ysL_get hi] at this
    exact this.symm) x
  have hva : horner (pt a) (lineL (xsL K) (ysL K 0)) = y := by
    have := lineL_val (xsL K) (ysL K 0) hC.nodup 0 (by rw [xsL_len]; omega)
    rw [hK] at this ⊢; exact this
  have hvb : horner (pt b) (lineL (xsL K) (ysL K 0)) = z := by
    have := lineL_val (xsL K) (ysL K 0) hC.nodup 1 (by rw [xsL_len]; omega)
    rw [hK] at this ⊢; exact this
  have hlz : sz (lineL (xsL K) (ysL K 0)) ≤ 2 := by have := lineL_sz (xsL K) (ysL K 0); rw [xsL_len, hk2] at this; exact this
  have hok : ∀ q, q < 256 → (okN sec a b K q = true ↔ (horner (pt a) [sec, UInt8.ofNat q] = y ∧ horner (pt b) [sec, UInt8.ofNat q] = z)) := fun q hq => by
    unfold okN
    rw [decide_eq_true_eq, (spl2 ha hb hab).l, hk2, hK]
    show ([shS [sec] 2 [UInt8.ofNat q] a, shS [sec] 2 [UInt8.ofNat q] b] : List (Int × List UInt8 × Unit)) = _ ↔ _
    rw [shS2, shS2]
    constructor
    · intro h
      exact ⟨congrArg (fun l : List (Int × List UInt8 × Unit) => (l.getD 0 (0, [], ())).2.1.getD 0 0) h, congrArg (fun l : List (Int × List UInt8 × Unit) => (l.getD 1 (0, [], ())).2.1.getD 0 0) h⟩
    · rintro ⟨h1, h2⟩; rw [h1, h2]
  have hP : ftP K 2 [sec] ↔ horner 0 (lineL (xsL K) (ysL K 0)) = sec := by
    have e : jnS K 2 0 = [horner 0 (lineL (xsL K) (ysL K 0))] := by rw [(hj 0).2, hl]; rfl
    constructor
    · intro h
      have := (h.2.2.2.resolve_left (by rw [hk2]; omega)).2
      rw [e] at this
      simpa using this
    · intro h
      exact ⟨hr, by simp, .inr (by rw [hl]; rfl), .inr ⟨(hj 0).1, by rw [e, h]⟩⟩
  have hline : horner 0 (lineL (xsL K) (ysL K 0)) = sec → horner (pt a) [sec, co (lineL (xsL K) (ysL K 0)) 1] = y ∧ horner (pt b) [sec, co (lineL (xsL K) (ysL K 0)) 1] = z := fun h => by
    have hx : ∀ x, horner x [sec, co (lineL (xsL K) (ysL K 0)) 1] = horner x (lineL (xsL K) (ysL K 0)) := fun x => horner_ext x fun i => by
      rcases i with _ | _ | i
      · show sec = (lineL (xsL K) (ysL K 0)).getD 0 0
        rw [← h]
        cases lineL (xsL K) (ysL K 0) with
        | nil => rfl
        | cons c p => exact horner_z c p
      · rfl
      · have hlen := sz_eq_len (lineL_trim (xsL K) (ysL K 0))
        rw [co_ge _ _ (by simp), co_ge _ _ (by omega)]
    rw [hx, hx]; exact ⟨hva, hvb⟩
  refine ⟨by unfold ftN; rw [if_neg (fun g => by have := g.2.2.2; rw [hk2] at this; omega)], ?_⟩
  by_cases h : horner (pt b) [sec, nsR sec y a] = z
  · have hone : cnK sec a b K 256 = 1 := by
      refine filter_one (m := (nsR sec y a).toNat) (fun q hq => ?_) (nsR sec y a).toNat_lt
      rw [hok q hq, ← of_nat_iff hq, lin_iff ha]
      exact ⟨fun g => g.1, fun g => ⟨g, by rw [g]; exact h⟩⟩
    refine ⟨⟨fun _ => hone, fun _ => hP.2 ?_⟩, .inr hone⟩
    have hb0 : ∀ s ∈ K, s.2.1.getD 0 0 = horner (pt s.1) [sec, nsR sec y a] := fun s hs => by
      rw [hK] at hs
      rcases List.mem_cons.1 hs with rfl | hs
      · exact ((lin_iff ha).2 rfl).symm
      · rw [List.mem_singleton] at hs; subst hs; exact h.symm
    rw [line_of hC (by have := sz_len [sec, nsR sec y a]; rw [hk2]; exact this) hb0]
    exact horner_z _ _
  · have hno : cnK sec a b K 256 = 0 := filter_none fun q hq g => by
      obtain ⟨g1, g2⟩ := (hok q hq).1 g
      rw [(lin_iff ha).1 g1] at g2
      exact h g2
    refine ⟨⟨fun g => ?_, fun g => by rw [hno] at g; cases g⟩, .inl hno⟩
    exfalso
    obtain ⟨g1, g2⟩ := hline (hP.1 g)
    rw [(lin_iff ha).1 g1] at g2
    exact h g2
end Go.Proofs.YtakbedmeieeekaaDoor.S26

namespace Go.Proofs.YtakbedmeieeekaaDoor.S26
open Go Go.Proofs.YtakbedmeieeekaaDoor.Vc

/-! ### how large the parts of a datum are -/
theorem wt_mem {t : Ty} {xs : List t.D} {x : t.D} (h : x ∈ xs) : wt t x + 1 ≤ wt (.sl t) xs := by
  have e : wt (.sl t) xs = (xs.map (wt t)).sum + 1 := rfl
  rw [e]
  clear e
  induction xs with
  | nil => cases h
  | cons y ys ih =>
    rw [List.map_cons, List.sum_cons]
    rcases List.mem_cons.1 h with rfl | h
    · omega
    · have := ih h; omega
theorem wt_len {t : Ty} (h1 : ∀ x, 1 ≤ wt t x) (xs : List t.D) : xs.length + 1 ≤ wt (.sl t) xs := by
  have e : wt (.sl t) xs = (xs.map (wt t)).sum + 1 := rfl
  rw [e]
  clear e
  induction xs with
  | nil => simp
  | cons x xs ih => have := h1 x; rw [List.map_cons, List.sum_cons, List.length_cons]; omega
theorem wt_s (s : List UInt8) : wt .str s = s.length + 1 := rfl
theorem wt_sh (s : (Int × List UInt8 × Unit)) : wt (Ty.cons (.int .i64) (.cons .str .nil)) s = 1 + ((s.2.1.length + 1) + 0) := rfl
theorem mxS {l : List (Int × List UInt8 × Unit)} {N : Nat} (h : wt (.sl (Ty.cons (.int .i64) (.cons .str .nil))) l ≤ N) : l.length ≤ N ∧ ∀ s ∈ l, s.2.1.length ≤ N := by
  refine ⟨?_, fun s hs => ?_⟩
  · have := wt_len (t := (Ty.cons (.int .i64) (.cons .str .nil))) (fun x => by rw [wt_sh]; omega) l; omega
  · have := wt_mem (t := (Ty.cons (.int .i64) (.cons .str .nil))) hs; rw [wt_sh] at this; omega
theorem wt_task (t : (Ty.cons .str (.cons (.int .i64) (.cons (.sl (.int .i64)) (.cons .str .nil)))).D) : wt (Ty.cons .str (.cons (.int .i64) (.cons (.sl (.int .i64)) (.cons .str .nil)))) t = (t.1.length + 1) + (1 + (wt (.sl (.int .i64)) t.2.2.1 + ((t.2.2.2.1.length + 1) + 0))) := rfl
theorem mxT {t : (Ty.cons .str (.cons (.int .i64) (.cons (.sl (.int .i64)) (.cons .str .nil)))).D} {N : Nat} (h : wt (Ty.cons .str (.cons (.int .i64) (.cons (.sl (.int .i64)) (.cons .str .nil)))) t ≤ N) : t.1.length ≤ N ∧ t.2.2.1.length ≤ N ∧ t.2.2.2.1.length ≤ N := by
  rw [wt_task] at h
  have := wt_len (t := .int .i64) (fun x => Nat.le_refl 1) t.2.2.1
  exact ⟨by omega, by have : List.length (α := Int) t.2.2.1 + 1 ≤ _ := this; omega, by omega⟩
end Go.Proofs.YtakbedmeieeekaaDoor.S26

namespace Go.Proofs.YtakbedmeieeekaaDoor.Cd
open Go Go.Proofs.YtakbedmeieeekaaDoor.Vc Go.Proofs Go.Proofs.YtakbedmeieeekaaDoor.S26 Go.ChangeShapes Go.WideShapes Go.ChangeAt Go.RowKit
set_option maxRecDepth 100000
set_option linter.unusedVariables false

theorem bulkAll {H : Type} : ∀ l : List (DataW H), Rows.uptoBulkAll l = (l.map Rows.uptoBulk).sum
  | [] => rfl
  | d :: l => by rw [Rows.uptoBulkAll, bulkAll l]; rfl
theorem bulk {H : Type} : Bulk (H := H) Rows.uptoBulk where
  one d := by cases d with
    | lit l => cases l <;> simp [Rows.uptoBulk]
    | _ => simp [Rows.uptoBulk]
  str b := by simp [Rows.uptoBulk]
  sl es sp := by rw [Rows.uptoBulk, bulkAll, bulkAll]; omega
  agg ps := by rw [Rows.uptoBulk, bulkAll]; omega
theorem wt_cons (t ts : Ty) (x : (Ty.cons t ts).D) : wt (.cons t ts) x = wt t x.1 + wt ts x.2 := rfl
theorem wt_int (k : IntKind) (x : Int) : wt (.int k) x = 1 := rfl
theorem wt_nil (x : Unit) : wt .nil x = 0 := rfl
theorem laidOut : laidOutB Tryd.prog = true := by kernel_rfl
theorem own : ownKnob Tryd.prog.godebug = none := by kernel_rfl

section
variable {H : Type} {enc : TypeId × Value → H} {P : Program}
theorem post_same {f : Func} {s : ChangeSpec} {apart fresh handsOn again : Bool} {W W' : World} {args : Array Value} {v : Value} {ds gs : List (DataW H)} {before pa pv : List MemPlace}
    (hW : DataW.Whole enc P f.params.toList s.vars apart W args.toList ds gs before)
    (hres : ∀ (b : Nat) (sp : Nat → Bool) (hd : Bool), DataW.TrodAll enc P W' b sp hd f.resultTypes.toList (v.resultList f.resultTypes.size) (s.fn H (ds ++ gs)).results [])
    (hargs : ∀ sp : Nat → Bool, (∀ p ∈ before, sp p.block = true) → DataW.TrodAll enc P W' 0 sp true f.params.toList args.toList (s.fn H (ds ++ gs)).args pa)
    (hvars : ∀ sp : Nat → Bool, (∀ p ∈ before, sp p.block = true) → DataW.TrodVars enc P W' sp s.vars (s.fn H (ds ++ gs)).vars pv)
    (hps : before = pa ++ pv) (hb : Below W.heap.size W W')
    (hok : ∀ (j : Nat) (t : TypeId) (r : Value), f.resultTypes[j]? = some t → (v.resultList f.resultTypes.size)[j]? = some r → Value.okWide P W' .any 0 t r) :
    s.post enc P f apart fresh handsOn again W args v W' := by
  have hlt : ∀ p ∈ before, p.block < W.heap.size := fun p hp => by simpa using hW.lt p hp
  have hold : ∀ p ∈ before, (fun b => decide (b < W.heap.size)) p.block = true := fun p hp => by simpa using hW.lt p hp
  refine ⟨ds, gs, before, [], pa, pv, hW, hres _ _ _, hargs _ hold, hvars _ hold, World.keptBut_mono (fun p hp => ⟨hp, ?_⟩) (hb.frame (· ∈ before)), fun _ => ?_⟩
  · rw [hps, List.mem_append] at hp
    exact Or.inr hp
  · obtain ⟨_, _, _, _, _, hz, hn⟩ := hW
    refine ⟨hok, _, _, ([] ++ pa) ++ pv, ⟨[] ++ pa, pv, trodAll_append (hargs _ (fun _ _ => rfl)) (hres _ _ _), hvars _ (fun _ _ => rfl), rfl, ?_, ?_⟩, ?_⟩
    · intro b off hp
      have hp' : MemPlace.cell b off ∈ before := by rw [hps]; simpa using hp
      rw [hb.frozen (hlt _ hp')]
      exact hz b off hp'
    · intro ha
      have := hn ha
      rw [hps] at this
      simpa using this
    · intro p hp _
      rw [hps]
      simpa using hp
end
end Go.Proofs.YtakbedmeieeekaaDoor.Cd

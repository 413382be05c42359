/- Texts of this claim: S27.D1, S27.CdRenewIsOne. -/
import Derived.Test.YtmkphnlpbngenaaDoorS4
set_option linter.unusedVariables false
set_option linter.unusedSimpArgs false
namespace Go.Proofs.YtmkphnlpbngenaaDoor.S27
open Go Go.Proofs.YtmkphnlpbngenaaDoor.Vc Go.Proofs
set_option maxRecDepth 100000
set_option linter.unusedVariables false

def sLRef : List V → Option (Prop × V × List Blk)
  | [.agg [.int .i64 nd, .sl false (.sl .str) cf], .int .u16 set, .u8 hs] => some (cf.length ≤ 1048576 ∧ (∀ l ∈ cf, l.length ≤ 1048576 ∧ ∀ x ∈ l, x.length ≤ 1048576) ∧ 0 ≤ set ∧ set ≤ 65535, .b True, [])
  | _ => none
set_option maxHeartbeats 4000000 in
theorem bLRef (nd : Int) (cf : List (List (List UInt8))) (set : Int) (hs : UInt8) (hp0 : cf.length ≤ 1048576) (hp1 : (∀ l ∈ cf, l.length ≤ 1048576 ∧ ∀ x ∈ l, x.length ≤ 1048576)) (hp2 : 0 ≤ set) (hp3 : set ≤ 65535) : bodyP (En CSan tys G6 QPrs) Tryd.f5 [.k] [.agg [.int .i64 nd, .sl false (.sl .str) cf], .int .u16 set, .u8 hs] (.b True) [] := by
  refine ⟨trivial, fun h0 => ?_, fun h0 => absurd h0 (show ¬ (¬ True) by simp)⟩
  refine ⟨rfl, ⟨by show cf.length ≤ 1048576; first | omega | assumption, by first | assumption | simp⟩, fun h1 => ?_, fun h1 => ?_⟩
  · replace h1 : ¬ (lightP nd cf) := h1
    exact ⟨rfl, rfl, rfl, rfl⟩
  · replace h1 : ¬ (¬ (lightP nd cf)) := h1
    have hl := Classical.not_not.1 h1
    have hD := chkD0 hl.2
    have hX : knw ((hs.toNat : Int) % 12) := ⟨by omega, by omega⟩
    have hrow := row0 (h := ((hs.toNat : Int) % 12)) hl.2 hX
    obtain ⟨hc1, hc2⟩ := dlt_cmp (s := (set % 4096)) hD
    have hn2 := hD.n2
    have hn12 := hD.n12
    refine ⟨⟨by show (-9223372036854775808 : Int) ≤ set; omega, by show set ≤ (9223372036854775807 : Int); omega⟩, .inl ⟨⟨by show (0 : Int) ≤ set; omega, by show (0 : Int) < 4096; omega⟩, ?_⟩⟩
    refine .inl ⟨⟨by show (0 : Int) ≤ (hs.toNat : Int); omega, by show (0 : Int) < 12; omega⟩, ?_⟩
    refine ⟨rfl, rfl, ⟨by show cf.length ≤ 1048576; first | omega | assumption, by first | assumption | simp, hl.2, by show 0 ≤ (set % 4096); first | omega | assumption, by show (set % 4096) < 4096; first | omega | assumption⟩, rfl, rfl, ⟨by show cf.length ≤ 1048576; first | omega | assumption, by first | assumption | simp⟩, fun h2 => ?_, fun h2 => absurd h2 (show ¬ (¬ True) by simp)⟩
    refine ⟨fun h3 => ?_, fun h3 => ?_⟩
    · replace h3 : (rowE nd cf ((hs.toNat : Int) % 12)) ≠ 0 := h3
      exact absurd hrow.1 h3
    · replace h3 : ¬ ((rowE nd cf ((hs.toNat : Int) % 12)) ≠ 0) := h3
      refine ⟨⟨by rw [dltK_len]; omega, dlt_mx hD⟩, rfl, ⟨by rw [dltK_len]; omega, dlt_mx hD⟩, fun h4 => ?_, fun h4 => ?_⟩
      · replace h4 : ¬ ((cmpE (dltK cf (set % 4096) 12)) ≠ 0) := h4
        refine ⟨fun h5 => ?_, fun h5 => ?_⟩
        · replace h5 : 0 < (((cmpL (dltK cf (set % 4096) 12)).length : Nat) : Int) := h5
          (rw [hc2] at h5; exact absurd h5 (by decide))
        · replace h5 : ¬ (0 < (((cmpL (dltK cf (set % 4096) 12)).length : Nat) : Int)) := h5
          refine ⟨by kernel_rfl, rfl, ⟨by show 0 ≤ (set % 4096); first | omega | assumption, by show (set % 4096) < 4096; first | omega | assumption⟩, ⟨by show (-9223372036854775808 : Int) ≤ (nd - 1); omega, by show (nd - 1) ≤ (9223372036854775807 : Int); omega⟩, fun h6 => ?_, fun h6 => ?_⟩
          · replace h6 : ((cntK 12 (set % 4096).toNat : Nat) : Int) < (nd - 1) := h6
            exact ⟨rfl, rfl, congrArg V.b (propext ⟨fun _ => trivial, fun _ => dlt_few hD (by omega) hX h6⟩), rfl⟩
          · replace h6 : ¬ (((cntK 12 (set % 4096).toNat : Nat) : Int) < (nd - 1)) := h6
            have hre := dlt_refill hD (s := (set % 4096)) (by omega) hX h6
            refine ⟨fun h7 => ?_, fun h7 => ?_⟩
            · replace h7 : (rflE (dltK cf (set % 4096) 12) ((hs.toNat : Int) % 12)) = 0 := h7
              refine ⟨⟨Nat.le_trans (rflL_len _ _) (by omega), by rw [hrow.2, rowD_len]; exact hp0⟩, ?_⟩
              exact ⟨rfl, rfl, congrArg V.b (propext ⟨fun _ => trivial, fun _ => by rw [hre.2, hrow.2]⟩), rfl⟩
            · replace h7 : ¬ ((rflE (dltK cf (set % 4096) 12) ((hs.toNat : Int) % 12)) = 0) := h7
              exact absurd hre.1 h7
      · replace h4 : (cmpE (dltK cf (set % 4096) 12)) ≠ 0 := h4
        exact absurd hc1 h4
def sLOne : List V → Option (Prop × V × List Blk)
  | [.sl false (.sl .str) rows] => some (rows.length ≤ 1048576 ∧ (∀ l ∈ rows, l.length ≤ 1048576 ∧ ∀ x ∈ l, x.length ≤ 1048576), .b True, [])
  | _ => none
set_option maxHeartbeats 4000000 in
theorem bLOne (rows : List (List (List UInt8))) (hp0 : rows.length ≤ 1048576) (hp1 : (∀ l ∈ rows, l.length ≤ 1048576 ∧ ∀ x ∈ l, x.length ≤ 1048576)) : bodyP (En CSan tys G6 QPrs [1000002]) Tryd.f6 [.k] [.sl false (.sl .str) rows] (.b True) [] := by
  refine ⟨trivial, rfl, ⟨by show rows.length ≤ 1048576; first | omega | assumption, by first | assumption | simp⟩, fun h0 => ?_, fun h0 => absurd h0 (show ¬ (¬ True) by simp)⟩
  refine ⟨fun h1 => ?_, fun h1 => ?_⟩
  · replace h1 : ¬ (¬ (fewP rows 30)) := h1
    refine ⟨fun h2 => ?_, fun h2 => ?_⟩
    · replace h2 : 12 < (rows.length : Int) := h2
      exact ⟨rfl, rfl, rfl, rfl⟩
    · replace h2 : ¬ (12 < (rows.length : Int)) := h2
      refine ⟨⟨by show rows.length ≤ 1048576; first | omega | assumption, by first | assumption | simp⟩, rfl, ⟨by show rows.length ≤ 1048576; first | omega | assumption, by first | assumption | simp⟩, fun h3 => ?_, fun h3 => ?_⟩
      · replace h3 : ¬ ((cmpE rows) ≠ 0) := h3
        refine ⟨fun h4 => ?_, fun h4 => ?_⟩
        · replace h4 : ¬ (0 < (((cmpL rows).length : Nat) : Int)) := h4
          refine ⟨fun h5 => ?_, fun h5 => ?_⟩
          · replace h5 : (rflE rows 0) ≠ 0 := h5
            refine ⟨fun h6 => ?_, fun h6 => absurd h6 (show ¬ ((cmpE rows) ≠ 0) by first | omega | assumption | simp_all)⟩
            refine ⟨fun h7 => ?_, fun h7 => absurd h7 (show ¬ (0 < (((cmpL rows).length : Nat) : Int)) by first | omega | assumption | simp_all)⟩
            exact ⟨rfl, rfl, congrArg V.b (propext ⟨fun _ => trivial, fun _ => (rfl0_cases (Classical.not_not.1 h3) (List.eq_nil_of_length_eq_zero (by omega))).resolve_left h5⟩), rfl⟩
          · replace h5 : ¬ ((rflE rows 0) ≠ 0) := h5
            have hone := one_ok (Classical.not_not.1 h3) (List.eq_nil_of_length_eq_zero (by omega)) (Classical.not_not.1 h5)
            refine ⟨⟨rfl, by show (0 : Int) ≤ 12; omega, by show 12 ≤ (1000000000 : Int); omega⟩, 2, [(0, .k), (9, .o (.sl .str)), (10, .k)], fun n vs H => ∃ (k : Nat), k ≤ 12 ∧ n = 12 - k ∧ vs = [.sl false (.sl .str) rows, .own (.sl .str) 2, .int .i64 (k : Int)] ∧ H = [.row true (.arr 2 (.int .i64)) (cmpL rows), .row true .str (rflL rows 0), .row true (.sl .str) (allR rows k)], ⟨rfl, 12, 0, by omega, by omega, rfl, by rw [allR_zero]; rfl⟩, ?_⟩
            rintro n vs H ⟨k, hc1_0, rfl, rfl, rfl⟩
            refine ⟨fun h8 => ?_, fun h8 => ?_⟩
            · replace h8 : (k : Int) < 12 := h8
              have hal := allR_len rows k
              have hek := hone.e k (by omega)
              refine ⟨rfl, ⟨by show rows.length ≤ 1048576; first | omega | assumption, by first | assumption | simp⟩, fun h9 => ?_, fun h9 => ?_⟩
              · replace h9 : ¬ ((rflE rows (k : Int)) ≠ 0) := h9
                refine ⟨fun h10 => ?_, fun h10 => ?_⟩
                · replace h10 : (k : Int) < (rows.length : Int) := h10
                  refine ⟨⟨by show (0 : Int) ≤ (k : Int); omega, by show (k : Int) < (rows.length : Int); omega⟩, fun h11 => ?_, fun h11 => ?_⟩
                  · replace h11 : 0 < (((rows.getD k []).length : Nat) : Int) := h11
                    refine ⟨⟨by show (0 : Int) ≤ (k : Int); omega, by show (k : Int) < (rows.length : Int); omega⟩, ⟨Nat.le_trans (rflL_len _ _) (by omega), (hp1 _ (getD_mem [] rows k (by omega))).1⟩, fun h12 => ?_, fun h12 => ?_⟩
                    · replace h12 : ¬ ((rflL rows (k : Int)) = (rows.getD k [])) := h12
                      exact absurd (hone.same k (by omega) (by omega)) h12
                    · replace h12 : ¬ (¬ ((rflL rows (k : Int)) = (rows.getD k []))) := h12
                      refine ⟨⟨by show (0 : Int) ≤ (k : Int); omega, by show (k : Int) < ((allR rows k).length : Int); omega⟩, ⟨fun h => (by first | rfl | cases h), rfl, rfl⟩, ⟨by show (-9223372036854775808 : Int) ≤ ((k : Int) + 1); omega, by show ((k : Int) + 1) ≤ (9223372036854775807 : Int); omega⟩, ?_⟩
                      exact ⟨rfl, 12 - (k + 1), by omega, k + 1, by omega, rfl, rfl, by rw [← allR_set (by omega : k < 12)]; rfl⟩
                  · replace h11 : ¬ (0 < (((rows.getD k []).length : Nat) : Int)) := h11
                    refine ⟨⟨by show (0 : Int) ≤ (k : Int); omega, by show (k : Int) < ((allR rows k).length : Int); omega⟩, ⟨fun h => (by first | rfl | cases h), rfl, rfl⟩, ⟨by show (-9223372036854775808 : Int) ≤ ((k : Int) + 1); omega, by show ((k : Int) + 1) ≤ (9223372036854775807 : Int); omega⟩, ?_⟩
                    exact ⟨rfl, 12 - (k + 1), by omega, k + 1, by omega, rfl, rfl, by rw [← allR_set (by omega : k < 12)]; rfl⟩
                · replace h10 : ¬ ((k : Int) < (rows.length : Int)) := h10
                  refine ⟨⟨by show (0 : Int) ≤ (k : Int); omega, by show (k : Int) < ((allR rows k).length : Int); omega⟩, ⟨fun h => (by first | rfl | cases h), rfl, rfl⟩, ⟨by show (-9223372036854775808 : Int) ≤ ((k : Int) + 1); omega, by show ((k : Int) + 1) ≤ (9223372036854775807 : Int); omega⟩, ?_⟩
                  exact ⟨rfl, 12 - (k + 1), by omega, k + 1, by omega, rfl, rfl, by rw [← allR_set (by omega : k < 12)]; rfl⟩
              · replace h9 : (rflE rows (k : Int)) ≠ 0 := h9
                exact absurd hek h9
            · replace h8 : ¬ ((k : Int) < 12) := h8
              have hk12 : k = 12 := by omega
              have hcm := hone.cmp
              have hcl := hone.cmpl
              rw [← hk12] at hcm hcl
              refine ⟨⟨by rw [allR_len]; omega, allR_mx rows k⟩, fun h13 => ?_, fun h13 => ?_⟩
              · replace h13 : (cmpE (allR rows k)) = 0 := h13
                exact ⟨rfl, rfl, congrArg V.b (propext ⟨fun _ => trivial, fun _ => by rw [hcl]; rfl⟩), rfl⟩
              · replace h13 : ¬ ((cmpE (allR rows k)) = 0) := h13
                exact absurd hcm h13
        · replace h4 : 0 < (((cmpL rows).length : Nat) : Int) := h4
          refine ⟨fun h14 => ?_, fun h14 => absurd h14 (show ¬ ((cmpE rows) ≠ 0) by first | omega | assumption | simp_all)⟩
          refine ⟨fun h15 => absurd (show 0 < (((cmpL rows).length : Nat) : Int) by first | omega | assumption | simp_all) h15, fun h15 => ?_⟩
          exact ⟨rfl, rfl, congrArg V.b (propext ⟨fun _ => trivial, fun _ => rfl⟩), rfl⟩
      · replace h3 : (cmpE rows) ≠ 0 := h3
        refine ⟨fun h16 => absurd (show (cmpE rows) ≠ 0 by first | omega | assumption | simp_all) h16, fun h16 => ?_⟩
        exact ⟨rfl, rfl, congrArg V.b (propext ⟨fun _ => trivial, fun _ => rfl⟩), rfl⟩
  · replace h1 : ¬ (fewP rows 30) := h1
    exact ⟨rfl, rfl, rfl, rfl⟩
end Go.Proofs.YtmkphnlpbngenaaDoor.S27

namespace Go.Proofs.YtmkphnlpbngenaaDoor
open Go Go.Proofs.YtmkphnlpbngenaaDoor.Vc Go.Proofs Go.Proofs.YtmkphnlpbngenaaDoor.S27 Go.ChangeShapes Go.WideShapes Go.ChangeAt Go.RowKit
set_option maxRecDepth 100000
set_option linter.unusedVariables false
namespace Cd.renewIsOne
open Go.Proofs.YtmkphnlpbngenaaDoor.Cd
theorem deep0 : Deep Tryd.prog (.sl (.sl .str)) (.inl 22) := ⟨34, Tryd.underlying22, by kernel_rfl, by decide, ⟨9, Tryd.underlying34, by kernel_rfl, by decide, Tryd.underlying9⟩⟩
theorem rec0 : Tryd.prog.readableRec 22 = true := by kernel_rfl
theorem lt0 : 22 < Tryd.prog.types.size := of_decide_eq_true (by kernel_rfl)
theorem globs {W : World} (h : laidMetH Tryd.prog Rows.renewIsOneUptoRow.laid W) : ∀ g x, lk G6 g = some x → VRel (c0 W) [] W x (.pointer (some ⟨g, 0, none⟩)) := fun g x hx => by
  have hg : Tryd.prog.globalNamed "quietus/gf.high" = some 0 := by kernel_rfl
  have ht : Lib.TabIs Tryd.prog W "quietus/gf.high" .u8 [0, 29, 58, 39, 116, 105, 78, 83, 232, 245, 210, 207, 156, 129, 166, 187] := Lib.tabIs_of_head (rest := []) hg (by kernel_rfl) Tryd.underlying129 Tryd.underlying5 (by kernel_rfl) (by kernel_rfl) h
  have key : ∀ i, i < 16 → ([0, 29, 58, 39, 116, 105, 78, 83, 232, 245, 210, 207, 156, 129, 166, 187] : List Int).getD i 0 = ((hi.getD i 0).toNat : Int) := by decide
  have hc : ∀ i, i < hi.length → W.cell? ⟨0, i, none⟩ = some (.int .u8 ((hi.getD i 0).toNat : Int)) := fun i hi' => by
    have := ht.cell hg i hi'
    rwa [key i hi'] at this
  unfold G6 lk at hx
  cases hb : Nat.beq 0 g with
  | false => rw [hb] at hx; simp [lk] at hx
  | true =>
    rw [hb] at hx
    simp only [cond_true, Option.some.injEq] at hx
    have := beq_ok hb
    subst this hx
    exact tab_ok (spot_none (hc 0 (by decide))).2 hc rfl
theorem contract (H : Type) (enc : TypeId × Value → H) (W : World) (base : Nat) (args : Array Value) (ds gs : List (DataW H)) (before : List MemPlace)
    (hval : ∀ (j : Nat) t v, Tryd.f6.params[j]? = some t → args[j]? = some v → Value.okWide Tryd.prog W .any base t v)
    (hW : DataW.Whole enc Tryd.prog Tryd.f6.params.toList Rows.renewIsOneSpec.vars false W args.toList ds gs before) (hc : Rows.uptoSmall H (ds ++ gs) = true) (hL : laidMetH Tryd.prog Rows.renewIsOneUptoRow.laid W) :
    Calls Tryd.prog 6 args W fun e W' => ∃ v, e = .returned v ∧ Rows.renewIsOneSpec.post enc Tryd.prog Tryd.f6 false true false false W args v W' := by
  have hW' := hW
  obtain ⟨p, q, hA0, hV, rfl, hfz, hnd⟩ := hW
  have hA : DataW.TrodAll enc Tryd.prog W 0 (fun _ => true) true Tryd.f6.params.toList args.toList ds p := hA0
  rw [Tryd.params6] at hA hval
  obtain ⟨v0, vs0, d0, ds0, p0, q0, hargs, rfl, rfl, h0, r0⟩ := trodAll_cons hA
  obtain ⟨rfl, rfl, rfl⟩ := trodAll_nil r0
  obtain rfl : args = #[v0] := by cases args; simp_all
  obtain ⟨rfl, rfl⟩ := trodVars_none hV
  obtain ⟨x0, rel0, w0, wf0⟩ := arg_ok (bk := Rows.uptoBulk) bulk deep0 (hval 0 22 v0 rfl rfl) h0
  have hsum : Rows.uptoBulkAll [d0] ≤ 1048576 := by simpa [Rows.uptoSmall] using hc
  simp only [Rows.uptoBulkAll] at hsum
  have hlt : ∀ x ∈ p0, x.block < W.heap.size := fun x hx => by simpa using hW'.lt x (by simpa using hx)
  refine (law_ok (kSan.frz [1000002]) rfl Tryd.func6 (.cons _ _ _ _ rel0 (VRels.nil)) (globs hL) (bLOne x0 (mx2' (N := 1048576) (cf := x0) (by omega)).1 (mx2' (N := 1048576) (cf := x0) (by omega)).2)).mono fun e W' ⟨he, hb⟩ => ?_
  subst he
  exact ⟨_, rfl, post_same (pa := (p0 ++ [])) (pv := []) hW' (fun _ _ _ => trodAll_cons_mk (shut_bool Tryd.underlying4 _) trodAll_mk0) (fun sp hsp => trodAll_cons_mk (WideElems.Trod_stays laidOut rec0 lt0 h0 (fun x hx => hb.same (hlt x (by simp [hx]))) (fun x hx => hsp x (by simp [hx]))) (trodAll_mk0)) (fun _ _ => rfl) rfl hb (ok_one (by kernel_rfl) rfl (okWide_bool_mk Tryd.underlying4 _))⟩
noncomputable def laidWorld (os : Os) : World :=
  { World.holding Tryd.prog os ⟨#[], #[], []⟩ with heap := (World.holding Tryd.prog os ⟨#[], #[], []⟩).heap.modify 0 fun
      | .cells _ t frozen => .cells #[.int .u8 0, .int .u8 29, .int .u8 58, .int .u8 39, .int .u8 116, .int .u8 105, .int .u8 78, .int .u8 83, .int .u8 232, .int .u8 245, .int .u8 210, .int .u8 207, .int .u8 156, .int .u8 129, .int .u8 166, .int .u8 187] t frozen
      | o => o }
theorem laid_met (os : Os) : laidMet Tryd.prog Rows.renewIsOneUptoRow.laid ((laidWorld os).forCall (fun _ _ => 0) ⟨#[], #[.slice none 0 0], []⟩).memory :=
  laidMet_of_run' 8 (by kernel_rfl) (by kernel_rfl)
theorem reads (os : Os) {H : Type} (enc : TypeId × Value → H) : ∃ places, DataW.whole enc Tryd.prog ((laidWorld os).forCall (fun _ _ => 0) ⟨#[], #[.slice none 0 0], []⟩).memory Tryd.f6.params.toList Rows.renewIsOneSpec.vars false (#[.slice none 0 0] : Array Value).toList 8 = some ([.nil], [], places) :=
  ⟨[], by kernel_rfl⟩
theorem liftedUpto (os : Os) (started : os.Started) (H : Type) (enc : TypeId × Value → H) (F : Stop.Interp) :
    ReturnsInHanded {} Tryd.checked os 6 .any ((Rows.OpenSpec.upto Rows.renewIsOneSpec).preRow enc Tryd.prog Tryd.f6 Rows.renewIsOneUptoRow.domain false Rows.renewIsOneUptoRow.laid) (((Rows.OpenSpec.upto Rows.renewIsOneSpec).at F).post enc Tryd.prog Tryd.f6 false true false false) := by
  obtain ⟨places, hx⟩ := reads os enc
  refine returnsInHanded_of_row (C := Tryd.checked) (s := Rows.OpenSpec.upto Rows.renewIsOneSpec) own started (by kernel_rfl) Tryd.func6
    (witness_row_at (enc := enc) (C := Tryd.checked) false (laidWorld os) #[.slice none 0 0] rfl (by kernel_rfl) (by kernel_rfl) (by kernel_rfl)
      (OpenSpec.preRow_of_cond 8 hx (by kernel_rfl) (fun k hk => by cases hk; kernel_rfl) (by kernel_rfl) (laid_met os))) ?_
  intro W base args ds gs before hval hW _ hcond _ hL _ _
  exact contract H enc W base args ds gs before hval hW (hcond _ rfl) hL
theorem saidUpto : Rows.RenewIsOneUptoSaid :=
  OpenClaim.holds_of_cond 6 Tryd.f6 rfl rfl rfl rfl rfl rfl rfl ⟨rfl, rfl, rfl, rfl, rfl⟩ rfl rfl rfl rfl rfl (by kernel_rfl) Tryd.func6 (by kernel_rfl)
    (of_decide_eq_true (by kernel_rfl)) (by unfold Func.isWrapper; first | (rw [if_pos (by decide +kernel)]; kernel_rfl) | (rw [if_neg (by decide +kernel)]; exact ⟨rfl, rfl⟩))
    (fun os started H enc _ F => by rw [OpenClaim.pre_eq_preRow]; exact liftedUpto os started H enc F)
theorem plain (f : FuncId) (fn : Func) (hf : Tryd.pinned.checked.prog.funcNamed "quietus/quietuslaw27.RenewIsOne" = some f) (hfn : Tryd.pinned.checked.prog.funcs[f]? = some fn) :
    false = Tryd.pinned.checked.prog.looks [] ∧ ∀ (j : Nat) t, fn.params[j]? = some t → Tryd.pinned.checked.prog.wantsStandIn t = false := by
  obtain rfl : f = 6 := Option.some.inj ((show Tryd.prog.funcNamed "quietus/quietuslaw27.RenewIsOne" = some 6 by kernel_rfl).symm.trans hf) |>.symm
  obtain rfl : fn = Tryd.f6 := (Option.some.inj (Tryd.func6.symm.trans hfn)).symm
  refine ⟨by kernel_rfl, fun j t ht => ?_⟩
  rw [Tryd.params6] at ht
  have hm := Array.mem_of_getElem? ht
  simp only [List.mem_toArray, List.mem_cons, List.not_mem_nil, or_false] at hm
  subst hm
  exact (show Tryd.prog.wantsStandIn 22 = false by kernel_rfl)
theorem cardUpto : Rows.RenewIsOneUptoCardSaid :=
  Claim7.holds_tied_plain_at .later [] _ _ _ _ saidUpto (fun _ h => by cases h) (by kernel_rfl) (fun _ h => by cases h) renewIsOneUpto_row_tie rfl ⟨rfl, rfl⟩ (by kernel_rfl) rfl plain (by kernel_rfl)
end Cd.renewIsOne
theorem renewIsOne_holds : Rows.RenewIsOneUptoCardSaid := Cd.renewIsOne.cardUpto
end Go.Proofs.YtmkphnlpbngenaaDoor

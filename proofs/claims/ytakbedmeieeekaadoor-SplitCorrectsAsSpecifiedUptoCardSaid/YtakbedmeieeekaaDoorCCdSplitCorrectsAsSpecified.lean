/- Texts of this claim: S26.D3, S26.CdSplitCorrectsAsSpecified. -/
import Derived.Test.YtakbedmeieeekaaDoorS4
import Derived.Test.YtakbedmeieeekaaDoorS5
set_option linter.unusedVariables false
set_option linter.unusedSimpArgs false
namespace Go.Proofs.YtakbedmeieeekaaDoor.S26
open Go Go.Proofs.YtakbedmeieeekaaDoor.Vc Go.Proofs
set_option maxRecDepth 100000
set_option linter.unusedVariables false

def sLCor : List V → Option (Prop × V × List Blk)
  | [.sl false (.cons (.int .i64) (.cons .str .nil)) l, .dat false (.arr 2 (.int .i64)) ns] => some (l.length ≤ 1048576 ∧ (∀ s ∈ l, s.2.1.length ≤ 1048576) ∧ ns.length = 2, .b True, [])
  | _ => none
set_option maxHeartbeats 4000000 in
theorem bLCor (l : List (Int × (List UInt8 × Unit))) (ns : List Int) (hp0 : l.length ≤ 1048576) (hp1 : (∀ s ∈ l, s.2.1.length ≤ 1048576)) (hp2 : ns.length = 2) : bodyP (En CSan tys G6 QCo2 [1000002]) Tryd.f5 [.k] [.sl false (.cons (.int .i64) (.cons .str .nil)) l, .dat false (.arr 2 (.int .i64)) ns] (.b True) [] := by
  have hrr := rr_eq l (ns.getD 0 0) (ns.getD 1 0)
  have e1 : (rrR l (ns.getD 0 0) (ns.getD 1 0)).1 = rbS l (ns.getD 0 0) (ns.getD 1 0) := congrArg (·.1) hrr
  have e2 : (rrR l (ns.getD 0 0) (ns.getD 1 0)).2.1 = rbH l (ns.getD 0 0) (ns.getD 1 0) := congrArg (·.2.1) hrr
  have e3 : (rrR l (ns.getD 0 0) (ns.getD 1 0)).2.2 = rbE l (ns.getD 0 0) (ns.getD 1 0) := congrArg (·.2.2) hrr
  have e4 : (rrR l (ns.getD 0 0) (ns.getD 1 0)).2.1.length = (rbH l (ns.getD 0 0) (ns.getD 1 0)).length := by rw [e2]
  have hrl := rbH_len l (ns.getD 0 0) (ns.getD 1 0)
  refine ⟨⟨rfl, by first | assumption | rfl | simp⟩, rfl, by show l.length ≤ 1048576; first | omega | assumption, fun h0 => ?_, fun h0 => ?_⟩
  · replace h0 : ¬ (¬ (fewS l 4)) := h0
    refine ⟨fun h1 => ?_, fun h1 => ?_⟩
    · replace h1 : 7 < (l.length : Int) := h1
      refine ⟨fun h2 => ?_, fun h2 => ?_⟩
      · replace h2 : (l.length : Int) ≤ 12 := h2
        refine ⟨trivial, ?_⟩
        exact ⟨rfl, rfl, rfl, rfl⟩
      · replace h2 : ¬ ((l.length : Int) ≤ 12) := h2
        refine ⟨⟨by show (0 : Int) ≤ 0; omega, by show 0 < (2 : Int); omega, by first | assumption | rfl | simp⟩, ⟨by show (0 : Int) ≤ 1; omega, by show 1 < (2 : Int); omega, by first | assumption | rfl | simp⟩, rfl, rfl, by show l.length ≤ 1048576; first | omega | assumption, ⟨by show (0 : Int) ≤ 0; omega, by show 0 < (2 : Int); omega, by first | assumption | rfl | simp⟩, ⟨by show (0 : Int) ≤ 1; omega, by show 1 < (2 : Int); omega, by first | assumption | rfl | simp⟩, rfl, rfl, by show l.length ≤ 1048576; first | omega | assumption, ⟨rfl, rfl, rfl, Nat.le_of_ble_eq_true rfl⟩, fun h3 => ?_, fun h3 => ?_⟩
        · replace h3 : ¬ ((rbS l (ns.getD 0 0) (ns.getD 1 0)) ≠ ((rrR l (ns.getD 0 0) (ns.getD 1 0)).1)) := h3
          refine ⟨fun h4 => ?_, fun h4 => ?_⟩
          · replace h4 : ¬ ((rbE l (ns.getD 0 0) (ns.getD 1 0)) ≠ ((rrR l (ns.getD 0 0) (ns.getD 1 0)).2.2)) := h4
            refine ⟨fun h5 => ?_, fun h5 => ?_⟩
            · replace h5 : (((rbH l (ns.getD 0 0) (ns.getD 1 0)).length : Nat) : Int) ≠ ((((rrR l (ns.getD 0 0) (ns.getD 1 0)).2.1).length : Nat) : Int) := h5
              omega
            · replace h5 : ¬ ((((rbH l (ns.getD 0 0) (ns.getD 1 0)).length : Nat) : Int) ≠ ((((rrR l (ns.getD 0 0) (ns.getD 1 0)).2.1).length : Nat) : Int)) := h5
              refine ⟨4, [(8, .k), (59, .k), (60, .k), (61, .k)], fun nM vs H => ∃ (q : Nat), q ≤ (rbH l (ns.getD 0 0) (ns.getD 1 0)).length ∧ nM = (rbH l (ns.getD 0 0) (ns.getD 1 0)).length - q ∧ vs = [.ptr 3 1 0 0, .own (.int .i64) 1, .int .i64 (((rbH l (ns.getD 0 0) (ns.getD 1 0)).length : Nat) : Int), .int .i64 (q : Int)] ∧ H = [.row true (.int .i64) ns, .row true (.int .i64) (rbH l (ns.getD 0 0) (ns.getD 1 0)), .row true (.int .i64) ((rrR l (ns.getD 0 0) (ns.getD 1 0)).2.1), .cells [.str ((rrR l (ns.getD 0 0) (ns.getD 1 0)).1), .own (.int .i64) 2, .int .i64 ((rrR l (ns.getD 0 0) (ns.getD 1 0)).2.2)]], ⟨rfl, (rbH l (ns.getD 0 0) (ns.getD 1 0)).length, 0, by omega, by omega, rfl, rfl⟩, ?_⟩
              rintro nM vs H ⟨q, hc1_0, rfl, rfl, rfl⟩
              refine ⟨fun h6 => ?_, fun h6 => ?_⟩
              · replace h6 : (q : Int) < (((rbH l (ns.getD 0 0) (ns.getD 1 0)).length : Nat) : Int) := h6
                have hq : q < (rbH l (ns.getD 0 0) (ns.getD 1 0)).length := by omega
                refine ⟨⟨by show (0 : Int) ≤ (q : Int); omega, by show (q : Int) < ((rbH l (ns.getD 0 0) (ns.getD 1 0)).length : Int); omega⟩, ⟨by show (0 : Int) ≤ (q : Int); omega, by show (q : Int) < (((rrR l (ns.getD 0 0) (ns.getD 1 0)).2.1).length : Int); omega⟩, fun h7 => ?_, fun h7 => ?_⟩
                · replace h7 : ((rbH l (ns.getD 0 0) (ns.getD 1 0)).getD q 0) ≠ (((rrR l (ns.getD 0 0) (ns.getD 1 0)).2.1).getD q 0) := h7
                  exact absurd (by rw [e2]) h7
                · replace h7 : ¬ (((rbH l (ns.getD 0 0) (ns.getD 1 0)).getD q 0) ≠ (((rrR l (ns.getD 0 0) (ns.getD 1 0)).2.1).getD q 0)) := h7
                  refine ⟨⟨by show (-9223372036854775808 : Int) ≤ ((q : Int) + 1); omega, by show ((q : Int) + 1) ≤ (9223372036854775807 : Int); omega⟩, ?_⟩
                  exact ⟨rfl, (rbH l (ns.getD 0 0) (ns.getD 1 0)).length - (q + 1), by omega, q + 1, by omega, rfl, rfl, rfl⟩
              · replace h6 : ¬ ((q : Int) < (((rbH l (ns.getD 0 0) (ns.getD 1 0)).length : Nat) : Int)) := h6
                refine ⟨trivial, ?_⟩
                exact ⟨rfl, rfl, rfl, rfl⟩
          · replace h4 : (rbE l (ns.getD 0 0) (ns.getD 1 0)) ≠ ((rrR l (ns.getD 0 0) (ns.getD 1 0)).2.2) := h4
            exact absurd e3.symm h4
        · replace h3 : (rbS l (ns.getD 0 0) (ns.getD 1 0)) ≠ ((rrR l (ns.getD 0 0) (ns.getD 1 0)).1) := h3
          exact absurd e1.symm h3
    · replace h1 : ¬ (7 < (l.length : Int)) := h1
      refine ⟨⟨by show (0 : Int) ≤ 0; omega, by show 0 < (2 : Int); omega, by first | assumption | rfl | simp⟩, ⟨by show (0 : Int) ≤ 1; omega, by show 1 < (2 : Int); omega, by first | assumption | rfl | simp⟩, rfl, rfl, by show l.length ≤ 1048576; first | omega | assumption, ⟨by show (0 : Int) ≤ 0; omega, by show 0 < (2 : Int); omega, by first | assumption | rfl | simp⟩, ⟨by show (0 : Int) ≤ 1; omega, by show 1 < (2 : Int); omega, by first | assumption | rfl | simp⟩, rfl, rfl, by show l.length ≤ 1048576; first | omega | assumption, ⟨rfl, rfl, rfl, Nat.le_of_ble_eq_true rfl⟩, fun h8 => ?_, fun h8 => ?_⟩
      · replace h8 : ¬ ((rbS l (ns.getD 0 0) (ns.getD 1 0)) ≠ ((rrR l (ns.getD 0 0) (ns.getD 1 0)).1)) := h8
        refine ⟨fun h9 => ?_, fun h9 => ?_⟩
        · replace h9 : ¬ ((rbE l (ns.getD 0 0) (ns.getD 1 0)) ≠ ((rrR l (ns.getD 0 0) (ns.getD 1 0)).2.2)) := h9
          refine ⟨fun h10 => ?_, fun h10 => ?_⟩
          · replace h10 : (((rbH l (ns.getD 0 0) (ns.getD 1 0)).length : Nat) : Int) ≠ ((((rrR l (ns.getD 0 0) (ns.getD 1 0)).2.1).length : Nat) : Int) := h10
            omega
          · replace h10 : ¬ ((((rbH l (ns.getD 0 0) (ns.getD 1 0)).length : Nat) : Int) ≠ ((((rrR l (ns.getD 0 0) (ns.getD 1 0)).2.1).length : Nat) : Int)) := h10
            refine ⟨4, [(8, .k), (59, .k), (60, .k), (61, .k)], fun nM vs H => ∃ (q : Nat), q ≤ (rbH l (ns.getD 0 0) (ns.getD 1 0)).length ∧ nM = (rbH l (ns.getD 0 0) (ns.getD 1 0)).length - q ∧ vs = [.ptr 3 1 0 0, .own (.int .i64) 1, .int .i64 (((rbH l (ns.getD 0 0) (ns.getD 1 0)).length : Nat) : Int), .int .i64 (q : Int)] ∧ H = [.row true (.int .i64) ns, .row true (.int .i64) (rbH l (ns.getD 0 0) (ns.getD 1 0)), .row true (.int .i64) ((rrR l (ns.getD 0 0) (ns.getD 1 0)).2.1), .cells [.str ((rrR l (ns.getD 0 0) (ns.getD 1 0)).1), .own (.int .i64) 2, .int .i64 ((rrR l (ns.getD 0 0) (ns.getD 1 0)).2.2)]], ⟨rfl, (rbH l (ns.getD 0 0) (ns.getD 1 0)).length, 0, by omega, by omega, rfl, rfl⟩, ?_⟩
            rintro nM vs H ⟨q, hc2_0, rfl, rfl, rfl⟩
            refine ⟨fun h11 => ?_, fun h11 => ?_⟩
            · replace h11 : (q : Int) < (((rbH l (ns.getD 0 0) (ns.getD 1 0)).length : Nat) : Int) := h11
              have hq : q < (rbH l (ns.getD 0 0) (ns.getD 1 0)).length := by omega
              refine ⟨⟨by show (0 : Int) ≤ (q : Int); omega, by show (q : Int) < ((rbH l (ns.getD 0 0) (ns.getD 1 0)).length : Int); omega⟩, ⟨by show (0 : Int) ≤ (q : Int); omega, by show (q : Int) < (((rrR l (ns.getD 0 0) (ns.getD 1 0)).2.1).length : Int); omega⟩, fun h12 => ?_, fun h12 => ?_⟩
              · replace h12 : ((rbH l (ns.getD 0 0) (ns.getD 1 0)).getD q 0) ≠ (((rrR l (ns.getD 0 0) (ns.getD 1 0)).2.1).getD q 0) := h12
                exact absurd (by rw [e2]) h12
              · replace h12 : ¬ (((rbH l (ns.getD 0 0) (ns.getD 1 0)).getD q 0) ≠ (((rrR l (ns.getD 0 0) (ns.getD 1 0)).2.1).getD q 0)) := h12
                refine ⟨⟨by show (-9223372036854775808 : Int) ≤ ((q : Int) + 1); omega, by show ((q : Int) + 1) ≤ (9223372036854775807 : Int); omega⟩, ?_⟩
                exact ⟨rfl, (rbH l (ns.getD 0 0) (ns.getD 1 0)).length - (q + 1), by omega, q + 1, by omega, rfl, rfl, rfl⟩
            · replace h11 : ¬ ((q : Int) < (((rbH l (ns.getD 0 0) (ns.getD 1 0)).length : Nat) : Int)) := h11
              refine ⟨trivial, ?_⟩
              exact ⟨rfl, rfl, rfl, rfl⟩
        · replace h9 : (rbE l (ns.getD 0 0) (ns.getD 1 0)) ≠ ((rrR l (ns.getD 0 0) (ns.getD 1 0)).2.2) := h9
          exact absurd e3.symm h9
      · replace h8 : (rbS l (ns.getD 0 0) (ns.getD 1 0)) ≠ ((rrR l (ns.getD 0 0) (ns.getD 1 0)).1) := h8
        exact absurd e1.symm h8
  · replace h0 : ¬ (fewS l 4) := h0
    refine ⟨trivial, ?_⟩
    exact ⟨rfl, rfl, rfl, rfl⟩
end Go.Proofs.YtakbedmeieeekaaDoor.S26

namespace Go.Proofs.YtakbedmeieeekaaDoor
open Go Go.Proofs.YtakbedmeieeekaaDoor.Vc Go.Proofs Go.Proofs.YtakbedmeieeekaaDoor.S26 Go.ChangeShapes Go.WideShapes Go.ChangeAt Go.RowKit
set_option maxRecDepth 100000
set_option linter.unusedVariables false
namespace Cd.splitCorrectsAsSpecified
open Go.Proofs.YtakbedmeieeekaaDoor.Cd
theorem deep0 : Deep Tryd.prog (.sl (.cons (.int .i64) (.cons .str .nil))) (.inl 27) := ⟨44, Tryd.underlying27, by kernel_rfl, by decide, ⟨_, _, _, Tryd.underlying44, rfl, by kernel_rfl, by kernel_rfl, by kernel_rfl, Tryd.underlying3, ⟨by kernel_rfl, by kernel_rfl, Tryd.underlying9, trivial⟩⟩⟩
theorem rec0 : Tryd.prog.readableRec 27 = true := by kernel_rfl
theorem lt0 : 27 < Tryd.prog.types.size := of_decide_eq_true (by kernel_rfl)
theorem deep1 : Deep Tryd.prog (.arr 2 (.int .i64)) (.inl 36) := ⟨3, Tryd.underlying36, by kernel_rfl, by kernel_rfl, Tryd.underlying3⟩
theorem rec1 : Tryd.prog.readableRec 36 = true := by kernel_rfl
theorem lt1 : 36 < Tryd.prog.types.size := of_decide_eq_true (by kernel_rfl)
theorem globs {W : World} (h : laidMetH Tryd.prog Rows.splitCorrectsAsSpecifiedUptoRow.laid W) : ∀ g x, lk G6 g = some x → VRel (c0 W) [] W x (.pointer (some ⟨g, 0, none⟩)) := fun g x hx => by
  have hg : Tryd.prog.globalNamed "quietus/gf.high" = some 0 := by kernel_rfl
  have ht : Lib.TabIs Tryd.prog W "quietus/gf.high" .u8 [0, 29, 58, 39, 116, 105, 78, 83, 232, 245, 210, 207, 156, 129, 166, 187] := Lib.tabIs_of_head (rest := []) hg (by kernel_rfl) Tryd.underlying131 Tryd.underlying5 (by kernel_rfl) (by kernel_rfl) h
  have key : ∀ i, i < 16 → ([0, 29, 58, 39, 116, 105, 78, 83, 232, 245, 210, 207, 156, 129, 166, 187] : List Int).getD i 0 = ((hi.getD i 0).toNat : Int) := by decide
  have hc : ∀ i, i < hi.length → W.cell? ⟨0, i, none⟩ = some (.int .u8 ((hi.getD i 0).toNat : Int)) := fun i hi' => by
    have := ht.cell hg i hi'
    rwa [key i hi'] at this
  unfold G6 lk at hx
  cases hb : Nat.beq 0 g with
  | false => rw [hb] at hx; simp [lk] at hx
  | true =>
    rw [hb] at hx
    simp only [cond_true, Option.some.injEq] at hx
    have := beq_ok hb
    subst this hx
    exact tab_ok (spot_none (hc 0 (by decide))).2 hc rfl
theorem contract (H : Type) (enc : TypeId × Value → H) (W : World) (base : Nat) (args : Array Value) (ds gs : List (DataW H)) (before : List MemPlace)
    (hval : ∀ (j : Nat) t v, Tryd.f5.params[j]? = some t → args[j]? = some v → Value.okWide Tryd.prog W .any base t v)
    (hW : DataW.Whole enc Tryd.prog Tryd.f5.params.toList Rows.splitCorrectsAsSpecifiedSpec.vars false W args.toList ds gs before) (hc : Rows.uptoSmall H (ds ++ gs) = true) (hL : laidMetH Tryd.prog Rows.splitCorrectsAsSpecifiedUptoRow.laid W) :
    Calls Tryd.prog 5 args W fun e W' => ∃ v, e = .returned v ∧ Rows.splitCorrectsAsSpecifiedSpec.post enc Tryd.prog Tryd.f5 false true false false W args v W' := by
  have hW' := hW
  obtain ⟨p, q, hA0, hV, rfl, hfz, hnd⟩ := hW
  have hA : DataW.TrodAll enc Tryd.prog W 0 (fun _ => true) true Tryd.f5.params.toList args.toList ds p := hA0
  rw [Tryd.params5] at hA hval
  obtain ⟨v0, vs0, d0, ds0, p0, q0, hargs, rfl, rfl, h0, r0⟩ := trodAll_cons hA
  obtain ⟨v1, vs1, d1, ds1, p1, q1, rfl, rfl, rfl, h1, r1⟩ := trodAll_cons r0
  obtain ⟨rfl, rfl, rfl⟩ := trodAll_nil r1
  obtain rfl : args = #[v0, v1] := by cases args; simp_all
  obtain ⟨rfl, rfl⟩ := trodVars_none hV
  obtain ⟨x0, rel0, w0, wf0⟩ := arg_ok (bk := Rows.uptoBulk) bulk deep0 (hval 0 27 v0 rfl rfl) h0
  obtain ⟨x1, rel1, w1, wf1⟩ := arg_ok (bk := Rows.uptoBulk) bulk deep1 (hval 1 36 v1 rfl rfl) h1
  have hsum : Rows.uptoBulkAll [d0, d1] ≤ 1048576 := by simpa [Rows.uptoSmall] using hc
  simp only [Rows.uptoBulkAll] at hsum
  have hlt : ∀ x ∈ p0 ++ p1, x.block < W.heap.size := fun x hx => by simpa using hW'.lt x (by simpa using hx)
  refine (law_ok (kSan.frz [1000002]) rfl Tryd.func5 (.cons _ _ _ _ rel0 (.cons _ _ _ _ rel1 (VRels.nil))) (globs hL) (bLCor x0 x1 (mxS (N := 1048576) (l := x0) (by omega)).1 (mxS (N := 1048576) (l := x0) (by omega)).2 wf1.1)).mono fun e W' ⟨he, hb⟩ => ?_
  subst he
  exact ⟨_, rfl, post_same (pa := (p0 ++ (p1 ++ []))) (pv := []) hW' (fun _ _ _ => trodAll_cons_mk (shut_bool Tryd.underlying4 _) trodAll_mk0) (fun sp hsp => trodAll_cons_mk (WideElems.Trod_stays laidOut rec0 lt0 h0 (fun x hx => hb.same (hlt x (by simp [hx]))) (fun x hx => hsp x (by simp [hx]))) (trodAll_cons_mk (WideElems.Trod_stays laidOut rec1 lt1 h1 (fun x hx => hb.same (hlt x (by simp [hx]))) (fun x hx => hsp x (by simp [hx]))) (trodAll_mk0))) (fun _ _ => rfl) rfl hb (ok_one (by kernel_rfl) rfl (okWide_bool_mk Tryd.underlying4 _))⟩
noncomputable def laidWorld (os : Os) : World :=
  { World.holding Tryd.prog os ⟨#[], #[], []⟩ with heap := (World.holding Tryd.prog os ⟨#[], #[], []⟩).heap.modify 0 fun
      | .cells _ t frozen => .cells #[.int .u8 0, .int .u8 29, .int .u8 58, .int .u8 39, .int .u8 116, .int .u8 105, .int .u8 78, .int .u8 83, .int .u8 232, .int .u8 245, .int .u8 210, .int .u8 207, .int .u8 156, .int .u8 129, .int .u8 166, .int .u8 187] t frozen
      | o => o }
theorem laid_met (os : Os) : laidMet Tryd.prog Rows.splitCorrectsAsSpecifiedUptoRow.laid ((laidWorld os).forCall (fun _ _ => 0) ⟨#[], #[.slice none 0 0, .agg #[.int .i64 0, .int .i64 0]], []⟩).memory :=
  laidMet_of_run' 8 (by kernel_rfl) (by kernel_rfl)
theorem reads (os : Os) {H : Type} (enc : TypeId × Value → H) : ∃ places, DataW.whole enc Tryd.prog ((laidWorld os).forCall (fun _ _ => 0) ⟨#[], #[.slice none 0 0, .agg #[.int .i64 0, .int .i64 0]], []⟩).memory Tryd.f5.params.toList Rows.splitCorrectsAsSpecifiedSpec.vars false (#[.slice none 0 0, .agg #[.int .i64 0, .int .i64 0]] : Array Value).toList 8 = some ([.nil, .agg [.lit (.int .i64 0), .lit (.int .i64 0)]], [], places) :=
  ⟨[], by kernel_rfl⟩
theorem liftedUpto (os : Os) (started : os.Started) (H : Type) (enc : TypeId × Value → H) (F : Stop.Interp) :
    ReturnsInHanded {} Tryd.checked os 5 .any ((Rows.OpenSpec.upto Rows.splitCorrectsAsSpecifiedSpec).preRow enc Tryd.prog Tryd.f5 Rows.splitCorrectsAsSpecifiedUptoRow.domain false Rows.splitCorrectsAsSpecifiedUptoRow.laid) (((Rows.OpenSpec.upto Rows.splitCorrectsAsSpecifiedSpec).at F).post enc Tryd.prog Tryd.f5 false true false false) := by
  obtain ⟨places, hx⟩ := reads os enc
  refine returnsInHanded_of_row (C := Tryd.checked) (s := Rows.OpenSpec.upto Rows.splitCorrectsAsSpecifiedSpec) own started (by kernel_rfl) Tryd.func5
    (witness_row_at (enc := enc) (C := Tryd.checked) false (laidWorld os) #[.slice none 0 0, .agg #[.int .i64 0, .int .i64 0]] rfl (by kernel_rfl) (by kernel_rfl) (by kernel_rfl)
      (OpenSpec.preRow_of_cond 8 hx (by kernel_rfl) (fun k hk => by cases hk; kernel_rfl) (by kernel_rfl) (laid_met os))) ?_
  intro W base args ds gs before hval hW _ hcond _ hL _ _
  exact contract H enc W base args ds gs before hval hW (hcond _ rfl) hL
theorem saidUpto : Rows.SplitCorrectsAsSpecifiedUptoSaid :=
  OpenClaim.holds_of_cond 5 Tryd.f5 rfl rfl rfl rfl rfl rfl rfl ⟨rfl, rfl, rfl, rfl, rfl⟩ rfl rfl rfl rfl rfl (by kernel_rfl) Tryd.func5 (by kernel_rfl)
    (of_decide_eq_true (by kernel_rfl)) (by unfold Func.isWrapper; first | (rw [if_pos (by decide +kernel)]; kernel_rfl) | (rw [if_neg (by decide +kernel)]; exact ⟨rfl, rfl⟩))
    (fun os started H enc _ F => by rw [OpenClaim.pre_eq_preRow]; exact liftedUpto os started H enc F)
theorem plain (f : FuncId) (fn : Func) (hf : Tryd.pinned.checked.prog.funcNamed "quietus/quietuslaw26.SplitCorrectsAsSpecified" = some f) (hfn : Tryd.pinned.checked.prog.funcs[f]? = some fn) :
    false = Tryd.pinned.checked.prog.looks [] ∧ ∀ (j : Nat) t, fn.params[j]? = some t → Tryd.pinned.checked.prog.wantsStandIn t = false := by
  obtain rfl : f = 5 := Option.some.inj ((show Tryd.prog.funcNamed "quietus/quietuslaw26.SplitCorrectsAsSpecified" = some 5 by kernel_rfl).symm.trans hf) |>.symm
  obtain rfl : fn = Tryd.f5 := (Option.some.inj (Tryd.func5.symm.trans hfn)).symm
  refine ⟨by kernel_rfl, fun j t ht => ?_⟩
  rw [Tryd.params5] at ht
  have hm := Array.mem_of_getElem? ht
  simp only [List.mem_toArray, List.mem_cons, List.not_mem_nil, or_false] at hm
  rcases hm with rfl | rfl
  · exact (show Tryd.prog.wantsStandIn 27 = false by kernel_rfl)
  · exact (show Tryd.prog.wantsStandIn 36 = false by kernel_rfl)
theorem cardUpto : Rows.SplitCorrectsAsSpecifiedUptoCardSaid :=
  Claim7.holds_tied_plain_at .later [] _ _ _ _ saidUpto (fun _ h => by cases h) (by kernel_rfl) (fun _ h => by cases h) splitCorrectsAsSpecifiedUpto_row_tie rfl ⟨rfl, rfl⟩ (by kernel_rfl) rfl plain (by kernel_rfl)
end Cd.splitCorrectsAsSpecified
theorem splitCorrectsAsSpecified_holds : Rows.SplitCorrectsAsSpecifiedUptoCardSaid := Cd.splitCorrectsAsSpecified.cardUpto
end Go.Proofs.YtakbedmeieeekaaDoor

/- Texts of this claim: S26.D5, S26.CdSplitAdds. -/
import Derived.Test.YtakbedmeieeekaaDoorS4
import Derived.Test.YtakbedmeieeekaaDoorS5
set_option linter.unusedVariables false
set_option linter.unusedSimpArgs false
namespace Go.Proofs.YtakbedmeieeekaaDoor.S26
open Go Go.Proofs.YtakbedmeieeekaaDoor.Vc Go.Proofs
set_option maxRecDepth 100000
set_option linter.unusedVariables false

def sLAdd : List V → Option (Prop × V × List Blk)
  | [.agg [.str sec, .int .i64 nd, .sl false (.int .i64) hs, .str nz], .str sc, .str nn] => some (sec.length ≤ 1048576 ∧ hs.length ≤ 1048576 ∧ nz.length ≤ 1048576 ∧ sc.length ≤ 1048576 ∧ nn.length ≤ 1048576, .b True, [])
  | _ => none
set_option maxHeartbeats 4000000 in
theorem bLAdd (sec : List UInt8) (nd : Int) (hs : List Int) (nz : List UInt8) (sc : List UInt8) (nn : List UInt8) (hp0 : sec.length ≤ 1048576) (hp1 : hs.length ≤ 1048576) (hp2 : nz.length ≤ 1048576) (hp3 : sc.length ≤ 1048576) (hp4 : nn.length ≤ 1048576) : bodyP (En CSan tys G6 QCo2 [1000002]) Tryd.f9 [.k] [.agg [.str sec, .int .i64 nd, .sl false (.int .i64) hs, .str nz], .str sc, .str nn] (.b True) [] := by
  refine ⟨rfl, rfl, ⟨by show sec.length ≤ 1048576; first | omega | assumption, by show hs.length ≤ 1048576; first | omega | assumption⟩, fun h0 => ?_, fun h0 => ?_⟩
  · replace h0 : ¬ (¬ (smlP sec hs 40)) := h0
    refine ⟨fun h1 => ?_, fun h1 => ?_⟩
    · replace h1 : ¬ ((sc.length : Int) ≠ (sec.length : Int)) := h1
      refine ⟨fun h2 => ?_, fun h2 => ?_⟩
      · replace h2 : (nn.length : Int) ≠ (nz.length : Int) := h2
        refine ⟨trivial, ?_⟩
        exact ⟨rfl, rfl, rfl, rfl⟩
      · replace h2 : ¬ ((nn.length : Int) ≠ (nz.length : Int)) := h2
        have h1l : sc.length = sec.length := by omega
        have h2l : nn.length = nz.length := by omega
        refine ⟨rfl, ⟨by show sec.length ≤ 1048576; first | omega | assumption, by show hs.length ≤ 1048576; first | omega | assumption, by show nz.length ≤ 1048576; first | omega | assumption⟩, rfl, ⟨by show sc.length ≤ 1048576; first | omega | assumption, by show hs.length ≤ 1048576; first | omega | assumption, by show nn.length ≤ 1048576; first | omega | assumption⟩, fun h3 => ?_, fun h3 => ?_⟩
        · replace h3 : (splE sec nd hs nz) ≠ 0 := h3
          refine ⟨trivial, fun h4 => ?_, fun h4 => absurd (show True by simp) h4⟩
          exact ⟨rfl, rfl, congrArg V.b (propext ⟨fun _ => trivial, fun _ => splE_len h1l h2l nd hs⟩), rfl⟩
        · replace h3 : ¬ ((splE sec nd hs nz) ≠ 0) := h3
          have hS := spl0 (Classical.not_not.1 h3)
          have hll := hS.llen
          have hl12 := hs_12 hS.ok
          have hB := spl0 ((splE_len h1l h2l nd hs).trans hS.e)
          have hbl := hB.llen
          have hU := spl0 ((splE_len (sc := sumB sec sc) (nn := sumB nz nn) (by rw [sum_len]; omega) (by rw [sum_len]; omega) nd hs).trans hS.e)
          have hul := hU.llen
          have hsl := hS.len
          have hbb := hB.len
          refine ⟨by kernel_rfl, ⟨by show sec.length ≤ 1000000000; first | omega | assumption, by show sc.length ≤ 1000000000; first | omega | assumption⟩, ⟨by show nz.length ≤ 1000000000; first | omega | assumption, by show nn.length ≤ 1000000000; first | omega | assumption⟩, rfl, ⟨by show (sumB sec sc).length ≤ 1048576; rw [sum_len]; omega, by show hs.length ≤ 1048576; first | omega | assumption, by show (sumB nz nn).length ≤ 1048576; rw [sum_len]; omega⟩, fun h5 => ?_, fun h5 => ?_⟩
          · replace h5 : ¬ ((splE sc nd hs nn) ≠ 0) := h5
            refine ⟨fun h6 => ?_, fun h6 => ?_⟩
            · replace h6 : ¬ ((splE (sumB sec sc) nd hs (sumB nz nn)) ≠ 0) := h6
              refine ⟨fun h7 => ?_, fun h7 => ?_⟩
              · replace h7 : ¬ ((((splL sec nd hs nz).length : Nat) : Int) ≠ (((splL sc nd hs nn).length : Nat) : Int)) := h7
                refine ⟨fun h8 => ?_, fun h8 => ?_⟩
                · replace h8 : (((splL sec nd hs nz).length : Nat) : Int) ≠ (((splL (sumB sec sc) nd hs (sumB nz nn)).length : Nat) : Int) := h8
                  omega
                · replace h8 : ¬ ((((splL sec nd hs nz).length : Nat) : Int) ≠ (((splL (sumB sec sc) nd hs (sumB nz nn)).length : Nat) : Int)) := h8
                  refine ⟨4, [(7, .k), (9, .k), (11, .k), (103, .k), (104, .k)], fun nM vs H => ∃ (q : Nat), q ≤ hs.length ∧ nM = hs.length - q ∧ vs = [.own (.cons (.int .i64) (.cons .str .nil)) 1, .own (.cons (.int .i64) (.cons .str .nil)) 2, .own (.cons (.int .i64) (.cons .str .nil)) 3, .int .i64 (((splL sec nd hs nz).length : Nat) : Int), .int .i64 (q : Int)] ∧ H = [.cells [.str sec, .int .i64 nd, .sl false (.int .i64) hs, .str nz], .row true (.cons (.int .i64) (.cons .str .nil)) (splL sec nd hs nz), .row true (.cons (.int .i64) (.cons .str .nil)) (splL sc nd hs nn), .row true (.cons (.int .i64) (.cons .str .nil)) (splL (sumB sec sc) nd hs (sumB nz nn))], ⟨rfl, hs.length, 0, by omega, by omega, rfl, rfl⟩, ?_⟩
                  rintro nM vs H ⟨q, hc1_0, rfl, rfl, rfl⟩
                  refine ⟨fun h9 => ?_, fun h9 => ?_⟩
                  · replace h9 : (q : Int) < (((splL sec nd hs nz).length : Nat) : Int) := h9
                    have hq : q < hs.length := by omega
                    have hd := adds hS h1l h2l hq
                    have hm1 : ((splL sec nd hs nz).getD q (0, [], ())).2.1.length ≤ 1048576 := by rw [(hS.mem (getD_mem (0, [], ()) _ q (by omega))).2.1]; omega
                    have hm2 : ((splL sc nd hs nn).getD q (0, [], ())).2.1.length ≤ 1048576 := by rw [(hB.mem (getD_mem (0, [], ()) _ q (by omega))).2.1]; omega
                    refine ⟨by kernel_rfl, ⟨by show (0 : Int) ≤ (q : Int); omega, by show (q : Int) < ((splL sec nd hs nz).length : Int); omega⟩, ⟨by show (0 : Int) ≤ (q : Int); omega, by show (q : Int) < ((splL sc nd hs nn).length : Int); omega⟩, rfl, rfl, ⟨by show ((((splL sec nd hs nz).getD q (0, ([], ()))).2).1).length ≤ 1048576; first | omega | assumption | (simp only [List.length_cons, List.length_nil, List.length_append, List.length_take, List.length_drop, List.length_set, List.length_replicate]; omega), by show ((((splL sc nd hs nn).getD q (0, ([], ()))).2).1).length ≤ 1048576; first | omega | assumption | (simp only [List.length_cons, List.length_nil, List.length_append, List.length_take, List.length_drop, List.length_set, List.length_replicate]; omega)⟩, ⟨rfl, rfl, rfl, Nat.le_of_ble_eq_true rfl⟩, by kernel_rfl, fun h10 => ?_, fun h10 => ?_⟩
                    · replace h10 : ¬ ((adE ((((splL sec nd hs nz).getD q (0, ([], ()))).1), ((((splL sec nd hs nz).getD q (0, ([], ()))).2).1), ()) ((((splL sc nd hs nn).getD q (0, ([], ()))).1), ((((splL sc nd hs nn).getD q (0, ([], ()))).2).1), ())) ≠ 0) := h10
                      refine ⟨fun h11 => ?_, fun h11 => absurd h11 (show ¬ ((adE ((((splL sec nd hs nz).getD q (0, ([], ()))).1), ((((splL sec nd hs nz).getD q (0, ([], ()))).2).1), ()) ((((splL sc nd hs nn).getD q (0, ([], ()))).1), ((((splL sc nd hs nn).getD q (0, ([], ()))).2).1), ())) ≠ 0) by first | omega | assumption | simp_all)⟩
                      refine ⟨fun h12 => ?_, fun h12 => absurd h12 (show ¬ ((adE ((((splL sec nd hs nz).getD q (0, ([], ()))).1), ((((splL sec nd hs nz).getD q (0, ([], ()))).2).1), ()) ((((splL sc nd hs nn).getD q (0, ([], ()))).1), ((((splL sc nd hs nn).getD q (0, ([], ()))).2).1), ())) ≠ 0) by first | omega | assumption | simp_all)⟩
                      refine ⟨fun h13 => ?_, fun h13 => absurd h13 (show ¬ ((adE ((((splL sec nd hs nz).getD q (0, ([], ()))).1), ((((splL sec nd hs nz).getD q (0, ([], ()))).2).1), ()) ((((splL sc nd hs nn).getD q (0, ([], ()))).1), ((((splL sc nd hs nn).getD q (0, ([], ()))).2).1), ())) ≠ 0) by first | omega | assumption | simp_all)⟩
                      refine ⟨⟨by show (0 : Int) ≤ (q : Int); omega, by show (q : Int) < ((splL (sumB sec sc) nd hs (sumB nz nn)).length : Int); omega⟩, fun h14 => ?_, fun h14 => absurd h14 (show ¬ ((adE ((((splL sec nd hs nz).getD q (0, ([], ()))).1), ((((splL sec nd hs nz).getD q (0, ([], ()))).2).1), ()) ((((splL sc nd hs nn).getD q (0, ([], ()))).1), ((((splL sc nd hs nn).getD q (0, ([], ()))).2).1), ())) ≠ 0) by first | omega | assumption | simp_all)⟩
                      refine ⟨fun h15 => ?_, fun h15 => absurd h15 (show ¬ ((adE ((((splL sec nd hs nz).getD q (0, ([], ()))).1), ((((splL sec nd hs nz).getD q (0, ([], ()))).2).1), ()) ((((splL sc nd hs nn).getD q (0, ([], ()))).1), ((((splL sc nd hs nn).getD q (0, ([], ()))).2).1), ())) ≠ 0) by first | omega | assumption | simp_all)⟩
                      refine ⟨fun h16 => absurd h16 (show ¬ ((adE ((((splL sec nd hs nz).getD q (0, ([], ()))).1), ((((splL sec nd hs nz).getD q (0, ([], ()))).2).1), ()) ((((splL sc nd hs nn).getD q (0, ([], ()))).1), ((((splL sc nd hs nn).getD q (0, ([], ()))).2).1), ())) ≠ 0) by first | omega | assumption | simp_all), fun h16 => ?_⟩
                      refine ⟨fun h17 => ?_, fun h17 => ?_⟩
                      · replace h17 : ¬ ((adH ((((splL sec nd hs nz).getD q (0, ([], ()))).1), ((((splL sec nd hs nz).getD q (0, ([], ()))).2).1), ()) ((((splL sc nd hs nn).getD q (0, ([], ()))).1), ((((splL sc nd hs nn).getD q (0, ([], ()))).2).1), ())) = (((splL (sumB sec sc) nd hs (sumB nz nn)).getD q (0, ([], ()))).1) ∧ ((adS ((((splL sec nd hs nz).getD q (0, ([], ()))).1), ((((splL sec nd hs nz).getD q (0, ([], ()))).2).1), ()) ((((splL sc nd hs nn).getD q (0, ([], ()))).1), ((((splL sc nd hs nn).getD q (0, ([], ()))).2).1), ())) = ((((splL (sumB sec sc) nd hs (sumB nz nn)).getD q (0, ([], ()))).2).1) ∧ True)) := h17
                        exact absurd ⟨hd.h, hd.s, trivial⟩ h17
                      · replace h17 : ¬ (¬ ((adH ((((splL sec nd hs nz).getD q (0, ([], ()))).1), ((((splL sec nd hs nz).getD q (0, ([], ()))).2).1), ()) ((((splL sc nd hs nn).getD q (0, ([], ()))).1), ((((splL sc nd hs nn).getD q (0, ([], ()))).2).1), ())) = (((splL (sumB sec sc) nd hs (sumB nz nn)).getD q (0, ([], ()))).1) ∧ ((adS ((((splL sec nd hs nz).getD q (0, ([], ()))).1), ((((splL sec nd hs nz).getD q (0, ([], ()))).2).1), ()) ((((splL sc nd hs nn).getD q (0, ([], ()))).1), ((((splL sc nd hs nn).getD q (0, ([], ()))).2).1), ())) = ((((splL (sumB sec sc) nd hs (sumB nz nn)).getD q (0, ([], ()))).2).1) ∧ True))) := h17
                        refine ⟨⟨by show (-9223372036854775808 : Int) ≤ ((q : Int) + 1); omega, by show ((q : Int) + 1) ≤ (9223372036854775807 : Int); omega⟩, ?_⟩
                        exact ⟨rfl, hs.length - (q + 1), by omega, q + 1, by omega, rfl, rfl, rfl⟩
                    · replace h10 : (adE ((((splL sec nd hs nz).getD q (0, ([], ()))).1), ((((splL sec nd hs nz).getD q (0, ([], ()))).2).1), ()) ((((splL sc nd hs nn).getD q (0, ([], ()))).1), ((((splL sc nd hs nn).getD q (0, ([], ()))).2).1), ())) ≠ 0 := h10
                      exact absurd hd.e h10
                  · replace h9 : ¬ ((q : Int) < (((splL sec nd hs nz).length : Nat) : Int)) := h9
                    refine ⟨trivial, ?_⟩
                    exact ⟨rfl, rfl, rfl, rfl⟩
              · replace h7 : (((splL sec nd hs nz).length : Nat) : Int) ≠ (((splL sc nd hs nn).length : Nat) : Int) := h7
                omega
            · replace h6 : (splE (sumB sec sc) nd hs (sumB nz nn)) ≠ 0 := h6
              exact absurd hU.e h6
          · replace h5 : (splE sc nd hs nn) ≠ 0 := h5
            exact absurd hB.e h5
    · replace h1 : (sc.length : Int) ≠ (sec.length : Int) := h1
      refine ⟨trivial, ?_⟩
      exact ⟨rfl, rfl, rfl, rfl⟩
  · replace h0 : ¬ (smlP sec hs 40) := h0
    refine ⟨trivial, ?_⟩
    exact ⟨rfl, rfl, rfl, rfl⟩
end Go.Proofs.YtakbedmeieeekaaDoor.S26

namespace Go.Proofs.YtakbedmeieeekaaDoor
open Go Go.Proofs.YtakbedmeieeekaaDoor.Vc Go.Proofs Go.Proofs.YtakbedmeieeekaaDoor.S26 Go.ChangeShapes Go.WideShapes Go.ChangeAt Go.RowKit
set_option maxRecDepth 100000
set_option linter.unusedVariables false
namespace Cd.splitAdds
open Go.Proofs.YtakbedmeieeekaaDoor.Cd
theorem deep0 : Deep Tryd.prog (.cons .str (.cons (.int .i64) (.cons (.sl (.int .i64)) (.cons .str .nil)))) (.inl 24) := ⟨_, _, _, Tryd.underlying24, rfl, by kernel_rfl, by kernel_rfl, by kernel_rfl, Tryd.underlying9, ⟨by kernel_rfl, by kernel_rfl, Tryd.underlying3, ⟨by kernel_rfl, by kernel_rfl, ⟨3, Tryd.underlying22, by kernel_rfl, by decide, Tryd.underlying3⟩, ⟨by kernel_rfl, by kernel_rfl, Tryd.underlying9, trivial⟩⟩⟩⟩
theorem rec0 : Tryd.prog.readableRec 24 = true := by kernel_rfl
theorem lt0 : 24 < Tryd.prog.types.size := of_decide_eq_true (by kernel_rfl)
theorem deep1 : Deep Tryd.prog .str (.inl 9) := Tryd.underlying9
theorem rec1 : Tryd.prog.readableRec 9 = true := by kernel_rfl
theorem lt1 : 9 < Tryd.prog.types.size := of_decide_eq_true (by kernel_rfl)
theorem deep2 : Deep Tryd.prog .str (.inl 9) := Tryd.underlying9
theorem rec2 : Tryd.prog.readableRec 9 = true := by kernel_rfl
theorem lt2 : 9 < Tryd.prog.types.size := of_decide_eq_true (by kernel_rfl)
theorem globs {W : World} (h : laidMetH Tryd.prog Rows.splitAddsUptoRow.laid W) : ∀ g x, lk G6 g = some x → VRel (c0 W) [] W x (.pointer (some ⟨g, 0, none⟩)) := fun g x hx => by
  have hg : Tryd.prog.globalNamed "quietus/gf.high" = some 0 := by kernel_rfl
  have ht : Lib.TabIs Tryd.prog W "quietus/gf.high" .u8 [0, 29, 58, 39, 116, 105, 78, 83, 232, 245, 210, 207, 156, 129, 166, 187] := Lib.tabIs_of_head (rest := []) hg (by kernel_rfl) Tryd.underlying131 Tryd.underlying5 (by kernel_rfl) (by kernel_rfl) h
  have key : ∀ i, i < 16 → ([0, 29, 58, 39, 116, 105, 78, 83, 232, 245, 210, 207, 156, 129, 166, 187] : List Int).getD i 0 = ((hi.getD i 0).toNat : Int) := by decide
  have hc : ∀ i, i < hi.length → W.cell? ⟨0, i, none⟩ = some (.int .u8 ((hi.getD i 0).toNat : Int)) := fun i hi' => by
    have := ht.cell hg i hi'
    rwa [key i hi'] at this
  unfold G6 lk at hx
  cases hb : Nat.beq 0 g with
  | false => rw [hb] at hx; simp [lk] at hx
  | true =>
    rw [hb] at hx
    simp only [cond_true, Option.some.injEq] at hx
    have := beq_ok hb
    subst this hx
    exact tab_ok (spot_none (hc 0 (by decide))).2 hc rfl
theorem contract (H : Type) (enc : TypeId × Value → H) (W : World) (base : Nat) (args : Array Value) (ds gs : List (DataW H)) (before : List MemPlace)
    (hval : ∀ (j : Nat) t v, Tryd.f9.params[j]? = some t → args[j]? = some v → Value.okWide Tryd.prog W .any base t v)
    (hW : DataW.Whole enc Tryd.prog Tryd.f9.params.toList Rows.splitAddsSpec.vars false W args.toList ds gs before) (hc : Rows.uptoSmall H (ds ++ gs) = true) (hL : laidMetH Tryd.prog Rows.splitAddsUptoRow.laid W) :
    Calls Tryd.prog 9 args W fun e W' => ∃ v, e = .returned v ∧ Rows.splitAddsSpec.post enc Tryd.prog Tryd.f9 false true false false W args v W' := by
  have hW' := hW
  obtain ⟨p, q, hA0, hV, rfl, hfz, hnd⟩ := hW
  have hA : DataW.TrodAll enc Tryd.prog W 0 (fun _ => true) true Tryd.f9.params.toList args.toList ds p := hA0
  rw [Tryd.params9] at hA hval
  obtain ⟨v0, vs0, d0, ds0, p0, q0, hargs, rfl, rfl, h0, r0⟩ := trodAll_cons hA
  obtain ⟨v1, vs1, d1, ds1, p1, q1, rfl, rfl, rfl, h1, r1⟩ := trodAll_cons r0
  obtain ⟨v2, vs2, d2, ds2, p2, q2, rfl, rfl, rfl, h2, r2⟩ := trodAll_cons r1
  obtain ⟨rfl, rfl, rfl⟩ := trodAll_nil r2
  obtain rfl : args = #[v0, v1, v2] := by cases args; simp_all
  obtain ⟨rfl, rfl⟩ := trodVars_none hV
  obtain ⟨x0, rel0, w0, wf0⟩ := arg_ok (bk := Rows.uptoBulk) bulk deep0 (hval 0 24 v0 rfl rfl) h0
  obtain ⟨x1, rel1, w1, wf1⟩ := arg_ok (bk := Rows.uptoBulk) bulk deep1 (hval 1 9 v1 rfl rfl) h1
  obtain ⟨x2, rel2, w2, wf2⟩ := arg_ok (bk := Rows.uptoBulk) bulk deep2 (hval 2 9 v2 rfl rfl) h2
  have hsum : Rows.uptoBulkAll [d0, d1, d2] ≤ 1048576 := by simpa [Rows.uptoSmall] using hc
  simp only [Rows.uptoBulkAll] at hsum
  have hlt : ∀ x ∈ p0 ++ p1 ++ p2, x.block < W.heap.size := fun x hx => by simpa using hW'.lt x (by simpa using hx)
  refine (law_ok (kSan.frz [1000002]) rfl Tryd.func9 (.cons _ _ _ _ rel0 (.cons _ _ _ _ rel1 (.cons _ _ _ _ rel2 (VRels.nil)))) (globs hL) (bLAdd x0.1 x0.2.1 x0.2.2.1 x0.2.2.2.1 x1 x2 (mxT (N := 1048576) (t := x0) (by omega)).1 (mxT (N := 1048576) (t := x0) (by omega)).2.1 (mxT (N := 1048576) (t := x0) (by omega)).2.2 (by have e : wt .str x1 = List.length x1 + 1 := rfl; omega) (by have e : wt .str x2 = List.length x2 + 1 := rfl; omega))).mono fun e W' ⟨he, hb⟩ => ?_
  subst he
  exact ⟨_, rfl, post_same (pa := (p0 ++ (p1 ++ (p2 ++ [])))) (pv := []) hW' (fun _ _ _ => trodAll_cons_mk (shut_bool Tryd.underlying4 _) trodAll_mk0) (fun sp hsp => trodAll_cons_mk (WideElems.Trod_stays laidOut rec0 lt0 h0 (fun x hx => hb.same (hlt x (by simp [hx]))) (fun x hx => hsp x (by simp [hx]))) (trodAll_cons_mk (WideElems.Trod_stays laidOut rec1 lt1 h1 (fun x hx => hb.same (hlt x (by simp [hx]))) (fun x hx => hsp x (by simp [hx]))) (trodAll_cons_mk (WideElems.Trod_stays laidOut rec2 lt2 h2 (fun x hx => hb.same (hlt x (by simp [hx]))) (fun x hx => hsp x (by simp [hx]))) (trodAll_mk0)))) (fun _ _ => rfl) rfl hb (ok_one (by kernel_rfl) rfl (okWide_bool_mk Tryd.underlying4 _))⟩
noncomputable def laidWorld (os : Os) : World :=
  { World.holding Tryd.prog os ⟨#[], #[], []⟩ with heap := (World.holding Tryd.prog os ⟨#[], #[], []⟩).heap.modify 0 fun
      | .cells _ t frozen => .cells #[.int .u8 0, .int .u8 29, .int .u8 58, .int .u8 39, .int .u8 116, .int .u8 105, .int .u8 78, .int .u8 83, .int .u8 232, .int .u8 245, .int .u8 210, .int .u8 207, .int .u8 156, .int .u8 129, .int .u8 166, .int .u8 187] t frozen
      | o => o }
theorem laid_met (os : Os) : laidMet Tryd.prog Rows.splitAddsUptoRow.laid ((laidWorld os).forCall (fun _ _ => 0) ⟨#[], #[.agg #[.string ⟨#[]⟩, .int .i64 0, .slice none 0 0, .string ⟨#[]⟩], .string ⟨#[]⟩, .string ⟨#[]⟩], []⟩).memory :=
  laidMet_of_run' 8 (by kernel_rfl) (by kernel_rfl)
theorem reads (os : Os) {H : Type} (enc : TypeId × Value → H) : ∃ places, DataW.whole enc Tryd.prog ((laidWorld os).forCall (fun _ _ => 0) ⟨#[], #[.agg #[.string ⟨#[]⟩, .int .i64 0, .slice none 0 0, .string ⟨#[]⟩], .string ⟨#[]⟩, .string ⟨#[]⟩], []⟩).memory Tryd.f9.params.toList Rows.splitAddsSpec.vars false (#[.agg #[.string ⟨#[]⟩, .int .i64 0, .slice none 0 0, .string ⟨#[]⟩], .string ⟨#[]⟩, .string ⟨#[]⟩] : Array Value).toList 8 = some ([.agg [.lit (.string []), .lit (.int .i64 0), .nil, .lit (.string [])], .lit (.string []), .lit (.string [])], [], places) :=
  ⟨[], by kernel_rfl⟩
theorem liftedUpto (os : Os) (started : os.Started) (H : Type) (enc : TypeId × Value → H) (F : Stop.Interp) :
    ReturnsInHanded {} Tryd.checked os 9 .any ((Rows.OpenSpec.upto Rows.splitAddsSpec).preRow enc Tryd.prog Tryd.f9 Rows.splitAddsUptoRow.domain false Rows.splitAddsUptoRow.laid) (((Rows.OpenSpec.upto Rows.splitAddsSpec).at F).post enc Tryd.prog Tryd.f9 false true false false) := by
  obtain ⟨places, hx⟩ := reads os enc
  refine returnsInHanded_of_row (C := Tryd.checked) (s := Rows.OpenSpec.upto Rows.splitAddsSpec) own started (by kernel_rfl) Tryd.func9
    (witness_row_at (enc := enc) (C := Tryd.checked) false (laidWorld os) #[.agg #[.string ⟨#[]⟩, .int .i64 0, .slice none 0 0, .string ⟨#[]⟩], .string ⟨#[]⟩, .string ⟨#[]⟩] rfl (by kernel_rfl) (by kernel_rfl) (by kernel_rfl)
      (OpenSpec.preRow_of_cond 8 hx (by kernel_rfl) (fun k hk => by cases hk; kernel_rfl) (by kernel_rfl) (laid_met os))) ?_
  intro W base args ds gs before hval hW _ hcond _ hL _ _
  exact contract H enc W base args ds gs before hval hW (hcond _ rfl) hL
theorem saidUpto : Rows.SplitAddsUptoSaid :=
  OpenClaim.holds_of_cond 9 Tryd.f9 rfl rfl rfl rfl rfl rfl rfl ⟨rfl, rfl, rfl, rfl, rfl⟩ rfl rfl rfl rfl rfl (by kernel_rfl) Tryd.func9 (by kernel_rfl)
    (of_decide_eq_true (by kernel_rfl)) (by unfold Func.isWrapper; first | (rw [if_pos (by decide +kernel)]; kernel_rfl) | (rw [if_neg (by decide +kernel)]; exact ⟨rfl, rfl⟩))
    (fun os started H enc _ F => by rw [OpenClaim.pre_eq_preRow]; exact liftedUpto os started H enc F)
theorem plain (f : FuncId) (fn : Func) (hf : Tryd.pinned.checked.prog.funcNamed "quietus/quietuslaw26.SplitAdds" = some f) (hfn : Tryd.pinned.checked.prog.funcs[f]? = some fn) :
    false = Tryd.pinned.checked.prog.looks [] ∧ ∀ (j : Nat) t, fn.params[j]? = some t → Tryd.pinned.checked.prog.wantsStandIn t = false := by
  obtain rfl : f = 9 := Option.some.inj ((show Tryd.prog.funcNamed "quietus/quietuslaw26.SplitAdds" = some 9 by kernel_rfl).symm.trans hf) |>.symm
  obtain rfl : fn = Tryd.f9 := (Option.some.inj (Tryd.func9.symm.trans hfn)).symm
  refine ⟨by kernel_rfl, fun j t ht => ?_⟩
  rw [Tryd.params9] at ht
  have hm := Array.mem_of_getElem? ht
  simp only [List.mem_toArray, List.mem_cons, List.not_mem_nil, or_false] at hm
  rcases hm with rfl | rfl | rfl
  · exact (show Tryd.prog.wantsStandIn 24 = false by kernel_rfl)
  · exact (show Tryd.prog.wantsStandIn 9 = false by kernel_rfl)
  · exact (show Tryd.prog.wantsStandIn 9 = false by kernel_rfl)
theorem cardUpto : Rows.SplitAddsUptoCardSaid :=
  Claim7.holds_tied_plain_at .later [] _ _ _ _ saidUpto (fun _ h => by cases h) (by kernel_rfl) (fun _ h => by cases h) splitAddsUpto_row_tie rfl ⟨rfl, rfl⟩ (by kernel_rfl) rfl plain (by kernel_rfl)
end Cd.splitAdds
theorem splitAdds_holds : Rows.SplitAddsUptoCardSaid := Cd.splitAdds.cardUpto
end Go.Proofs.YtakbedmeieeekaaDoor

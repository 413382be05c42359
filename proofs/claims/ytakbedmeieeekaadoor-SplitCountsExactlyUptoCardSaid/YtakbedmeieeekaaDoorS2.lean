/- Texts of this claim: S26.B1, S26.B2, S26.B3, S26.B4, S26.B5, S26.B6, S26.P6b, S26.RefA, S26.Pu, S26.RefB. -/
import Derived.Test.YtakbedmeieeekaaDoorS1
import Derived.Test.YtakbedmeieeekaaDoorS0
set_option linter.unusedVariables false
set_option linter.unusedSimpArgs false
namespace Go.Proofs.YtakbedmeieeekaaDoor.S26
open Go Go.Proofs.YtakbedmeieeekaaDoor.Vc Go.Proofs
set_option maxRecDepth 100000
set_option linter.unusedVariables false

def sCk1 : List V → Option (Prop × V × List Blk)
  | [.agg [.int .i64 h, .str s]] => some (True, .b (smB (h, s, ()) = false), [])
  | _ => none
set_option maxHeartbeats 1000000 in
theorem bCk1 (h : Int) (s : List UInt8)  : bodyP (En CGSum tys G6 []) Tryd.f43 [.k] [.agg [.int .i64 h, .str s]] (.b (smB (h, s, ()) = false)) [] := by
  exact ⟨rfl, rfl, congrArg V.b (propext (by show _ ↔ decide (s.length ≤ 4096) = false; rw [decide_eq_false_iff_not]; constructor <;> intro g <;> omega)), rfl⟩
def CCk1 : List (Nat × Con) := (43, pureC [.v (.cons (.int .i64) (.cons .str .nil))] sCk1) :: CGSum
theorem kCk1 : Known Tryd.prog (En CCk1 tys G6 []) := kGSum.add Tryd.func43 Tryd.call43 [.k] fun ds p v bs h hp => by
  unfold sCk1 at h
  split at h <;> simp only [Option.some.injEq, Prod.mk.injEq, reduceCtorEq] at h
  obtain ⟨rfl, rfl, rfl⟩ := h
  exact bCk1 _ _
set_option maxHeartbeats 1000000 in
theorem bIxf0 (l : List (Int × (List UInt8 × Unit))) (hp0 : l.length ≤ 1048576) : bodyP (En CCk1 tys G6 []) Tryd.f61 [.k] [.sl false (.cons (.int .i64) (.cons .str .nil)) l, .fn 43 []] (.int .i64 (ixF l)) [] := by
  refine ⟨0, [(0, .k), (1, .k), (7, .k), (8, .k)], fun nM vs H => ∃ (k : Nat), k ≤ l.length ∧ (l.take k).all smB = true ∧ nM = l.length - k ∧ vs = [.sl false (.cons (.int .i64) (.cons .str .nil)) l, .fn 43 [], .int .i64 (l.length : Int), .int .i64 (k : Int)] ∧ H = [], ⟨rfl, l.length, 0, by omega, rfl, by omega, rfl, rfl⟩, ?_⟩
  rintro nM vs H ⟨k, hc1_0, hc1_1, rfl, rfl, rfl⟩
  refine ⟨fun h0 => ?_, fun h0 => ?_⟩
  · replace h0 : (k : Int) < (l.length : Int) := h0
    have hk : k < l.length := by omega
    refine ⟨⟨by show (0 : Int) ≤ (k : Int); omega, by show (k : Int) < (l.length : Int); omega⟩, rfl, trivial, fun h1 => ?_, fun h1 => ?_⟩
    · replace h1 : smB (((l.getD k (0, ([], ()))).1), (((l.getD k (0, ([], ()))).2).1), ()) = false := h1
      rw [ixF_at hk hc1_1 h1]
      exact ⟨rfl, rfl, rfl, rfl⟩
    · replace h1 : ¬ (smB (((l.getD k (0, ([], ()))).1), (((l.getD k (0, ([], ()))).2).1), ()) = false) := h1
      have hok : smB (l.getD k (0, [], ())) = true := by simpa using h1
      refine ⟨⟨by show (-9223372036854775808 : Int) ≤ ((k : Int) + 1); omega, by show ((k : Int) + 1) ≤ (9223372036854775807 : Int); omega⟩, ?_⟩
      exact ⟨rfl, l.length - (k + 1), by omega, k + 1, by omega, take_all hk hc1_1 hok, rfl, rfl, rfl⟩
  · replace h0 : ¬ ((k : Int) < (l.length : Int)) := h0
    rw [ixF_all (by omega) hc1_1]
    exact ⟨rfl, rfl, rfl, rfl⟩
def sIxf : List V → Option (Prop × V × List Blk)
  | [.sl false (.cons (.int .i64) (.cons .str .nil)) l, .fn 43 []] => some (l.length ≤ 1048576, .int .i64 (ixF l), [])
  | _ => none
def CIxf : List (Nat × Con) := (61, pureC [.v (.sl (.cons (.int .i64) (.cons .str .nil))), .fn [(43, [])]] sIxf) :: CCk1
theorem kIxf : Known Tryd.prog (En CIxf tys G6 []) := kCk1.add Tryd.func61 Tryd.call61 [.k] fun ds p v bs h hp => by
  unfold sIxf at h
  split at h <;> simp only [Option.some.injEq, Prod.mk.injEq, reduceCtorEq] at h
  · obtain ⟨rfl, rfl, rfl⟩ := h
    exact bIxf0 _ hp
set_option maxHeartbeats 1000000 in
theorem bCtf0 (l : List (Int × (List UInt8 × Unit))) (hp0 : l.length ≤ 1048576) : bodyP (En CIxf tys G6 []) Tryd.f42 [.k] [.sl false (.cons (.int .i64) (.cons .str .nil)) l, .fn 43 []] (.b (l.all smB = false)) [] := by
  refine ⟨by show l.length ≤ 1048576; first | omega | assumption, ?_⟩
  exact ⟨rfl, rfl, congrArg V.b (propext (ixF_ge l)), rfl⟩
def sCtf : List V → Option (Prop × V × List Blk)
  | [.sl false (.cons (.int .i64) (.cons .str .nil)) l, .fn 43 []] => some (l.length ≤ 1048576, .b (l.all smB = false), [])
  | _ => none
def CCtf : List (Nat × Con) := (42, pureC [.v (.sl (.cons (.int .i64) (.cons .str .nil))), .fn [(43, [])]] sCtf) :: CIxf
theorem kCtf : Known Tryd.prog (En CCtf tys G6 []) := kIxf.add Tryd.func42 Tryd.call42 [.k] fun ds p v bs h hp => by
  unfold sCtf at h
  split at h <;> simp only [Option.some.injEq, Prod.mk.injEq, reduceCtorEq] at h
  · obtain ⟨rfl, rfl, rfl⟩ := h
    exact bCtf0 _ hp
def sHou : List V → Option (Prop × V × List Blk)
  | [.int .i64 h] => some (True, .b (knw h), [])
  | _ => none
set_option maxHeartbeats 1000000 in
theorem bHou (h : Int)  : bodyP (En CCtf tys G6 []) Tryd.f33 [.k] [.int .i64 h] (.b (knw h)) [] := by
  refine ⟨fun h0 => ?_, fun h0 => ?_⟩
  · replace h0 : 0 ≤ h := h0
    exact ⟨rfl, rfl, congrArg V.b (propext (by unfold knw; constructor <;> intro g <;> first | omega | exact Bool.noConfusion g | (exfalso; omega))), rfl⟩
  · replace h0 : ¬ (0 ≤ h) := h0
    exact ⟨rfl, rfl, congrArg V.b (propext (by unfold knw; constructor <;> intro g <;> first | omega | exact Bool.noConfusion g | (exfalso; omega))), rfl⟩
def CHou : List (Nat × Con) := (33, pureC [.v (.int .i64)] sHou) :: CCtf
theorem kHou : Known Tryd.prog (En CHou tys G6 []) := kCtf.add Tryd.func33 Tryd.call33 [.k] fun ds p v bs h hp => by
  unfold sHou at h
  split at h <;> simp only [Option.some.injEq, Prod.mk.injEq, reduceCtorEq] at h
  obtain ⟨rfl, rfl, rfl⟩ := h
  exact bHou _
def sPoi : List V → Option (Prop × V × List Blk)
  | [.int .i64 h] => some (0 ≤ h ∧ h < 1000000, .u8 (pt h), [])
  | _ => none
set_option maxHeartbeats 1000000 in
theorem bPoi (h : Int) (hp0 : 0 ≤ h) (hp1 : h < 1000000) : bodyP (En CHou tys G6 []) Tryd.f35 [.k] [.int .i64 h] (.u8 (pt h)) [] := by
  refine ⟨⟨by show (-9223372036854775808 : Int) ≤ (h + 1); omega, by show (h + 1) ≤ (9223372036854775807 : Int); omega⟩, ?_⟩
  exact ⟨rfl, rfl, rfl, rfl⟩
def CPoi : List (Nat × Con) := (35, pureC [.v (.int .i64)] sPoi) :: CHou
theorem kPoi : Known Tryd.prog (En CPoi tys G6 []) := kHou.add Tryd.func35 Tryd.call35 [.k] fun ds p v bs h hp => by
  unfold sPoi at h
  split at h <;> simp only [Option.some.injEq, Prod.mk.injEq, reduceCtorEq] at h
  obtain ⟨rfl, rfl, rfl⟩ := h
  exact bPoi _ hp.1 hp.2
def sChk : List V → Option (Prop × V × List Blk)
  | [.sl false (.cons (.int .i64) (.cons .str .nil)) l] => some (l.length ≤ 1048576, .int .i64 (chkE l), [])
  | _ => none
set_option maxHeartbeats 1000000 in
theorem bChk (l : List (Int × (List UInt8 × Unit))) (hp0 : l.length ≤ 1048576) : bodyP (En CPoi tys G6 []) Tryd.f23 [.k] [.sl false (.cons (.int .i64) (.cons .str .nil)) l] (.int .i64 (chkE l)) [] := by
  refine ⟨fun h0 => ?_, fun h0 => ?_⟩
  · replace h0 : ¬ (12 < (l.length : Int)) := h0
    refine ⟨by show l.length ≤ 1048576; first | omega | assumption, fun h1 => ?_, fun h1 => ?_⟩
    · replace h1 : l.all smB = false := h1
      rw [chk2 (.inr h1)]
      exact ⟨rfl, rfl, rfl, rfl⟩
    · replace h1 : ¬ (l.all smB = false) := h1
      refine ⟨0, [(0, .k), (12, .k), (13, .k), (14, .k)], fun nM vs H => ∃ (k : Nat), k ≤ l.length ∧ (∀ j, j < k → okS l j = true) ∧ nM = l.length - k ∧ vs = [.sl false (.cons (.int .i64) (.cons .str .nil)) l, .sl false (.cons (.int .i64) (.cons .str .nil)) l, .int .i64 (l.length : Int), .int .i64 (k : Int)] ∧ H = [], ⟨rfl, l.length, 0, by omega, fun j h => absurd h (Nat.not_lt_zero j), by omega, rfl, rfl⟩, ?_⟩
      rintro nM vs H ⟨k, hc1_0, hc1_1, rfl, rfl, rfl⟩
      refine ⟨fun h2 => ?_, fun h2 => ?_⟩
      · replace h2 : (k : Int) < (l.length : Int) := h2
        have hk : k < l.length := by omega
        refine ⟨⟨by show (0 : Int) ≤ (k : Int); omega, by show (k : Int) < (l.length : Int); omega⟩, ⟨rfl, rfl, rfl, Nat.le_of_ble_eq_true rfl⟩, by kernel_rfl, rfl, trivial, fun h3 => ?_, fun h3 => ?_⟩
        · replace h3 : ¬ (¬ (knw ((l.getD k (0, ([], ()))).1))) := h3
          refine ⟨fun h4 => ?_, fun h4 => absurd h4 (show ¬ (¬ (knw ((l.getD k (0, ([], ()))).1))) by first | omega | assumption | simp_all)⟩
          refine ⟨fun h5 => ?_, fun h5 => absurd h5 (show ¬ (¬ (knw ((l.getD k (0, ([], ()))).1))) by first | omega | assumption | simp_all)⟩
          refine ⟨fun h6 => ?_, fun h6 => ?_⟩
          · replace h6 : 0 < (k : Int) := h6
            refine ⟨fun h7 => ?_, fun h7 => absurd (show 0 < (k : Int) by first | omega | assumption | simp_all) h7⟩
            refine ⟨fun h8 => ?_, fun h8 => absurd (show 0 < (k : Int) by first | omega | assumption | simp_all) h8⟩
            refine ⟨⟨by show (-9223372036854775808 : Int) ≤ ((k : Int) - 1); omega, by show ((k : Int) - 1) ≤ (9223372036854775807 : Int); omega⟩, fun h9 => ?_, fun h9 => absurd (show 0 < (k : Int) by first | omega | assumption | simp_all) h9⟩
            refine ⟨⟨by show (0 : Int) ≤ ((k : Int) - 1); omega, by show ((k : Int) - 1) < (l.length : Int); omega⟩, fun h10 => ?_, fun h10 => absurd (show 0 < (k : Int) by first | omega | assumption | simp_all) h10⟩
            refine ⟨fun h11 => ?_, fun h11 => absurd (show 0 < (k : Int) by first | omega | assumption | simp_all) h11⟩
            refine ⟨fun h12 => ?_, fun h12 => absurd (show 0 < (k : Int) by first | omega | assumption | simp_all) h12⟩
            refine ⟨fun h13 => ?_, fun h13 => absurd (show 0 < (k : Int) by first | omega | assumption | simp_all) h13⟩
            refine ⟨fun h14 => ?_, fun h14 => absurd (show 0 < (k : Int) by first | omega | assumption | simp_all) h14⟩
            refine ⟨fun h15 => ?_, fun h15 => absurd h15 (show ¬ (¬ (knw ((l.getD k (0, ([], ()))).1))) by first | omega | assumption | simp_all)⟩
            refine ⟨fun h16 => ?_, fun h16 => absurd (show 0 < (k : Int) by first | omega | assumption | simp_all) h16⟩
            refine ⟨fun h17 => absurd h17 (show ¬ (¬ (knw ((l.getD k (0, ([], ()))).1))) by first | omega | assumption | simp_all), fun h17 => ?_⟩
            refine ⟨fun h18 => ?_, fun h18 => ?_⟩
            · replace h18 : ¬ (((l.getD k (0, ([], ()))).1) ≤ ((l.getD (((k : Int) - 1).toNat) (0, ([], ()))).1)) := h18
              refine ⟨fun h19 => ?_, fun h19 => absurd h19 (show ¬ (((l.getD k (0, ([], ()))).1) ≤ ((l.getD (((k : Int) - 1).toNat) (0, ([], ()))).1)) by first | omega | assumption | simp_all)⟩
              refine ⟨fun h20 => ?_, fun h20 => absurd h20 (show ¬ (((l.getD k (0, ([], ()))).1) ≤ ((l.getD (((k : Int) - 1).toNat) (0, ([], ()))).1)) by first | omega | assumption | simp_all)⟩
              refine ⟨fun h21 => ?_, fun h21 => absurd h21 (show ¬ (((l.getD k (0, ([], ()))).1) ≤ ((l.getD (((k : Int) - 1).toNat) (0, ([], ()))).1)) by first | omega | assumption | simp_all)⟩
              refine ⟨fun h22 => ?_, fun h22 => absurd h22 (show ¬ (((l.getD k (0, ([], ()))).1) ≤ ((l.getD (((k : Int) - 1).toNat) (0, ([], ()))).1)) by first | omega | assumption | simp_all)⟩
              refine ⟨⟨by show (0 : Int) ≤ 0; omega, by show 0 < (l.length : Int); omega⟩, fun h23 => ?_, fun h23 => absurd h23 (show ¬ (((l.getD k (0, ([], ()))).1) ≤ ((l.getD (((k : Int) - 1).toNat) (0, ([], ()))).1)) by first | omega | assumption | simp_all)⟩
              refine ⟨fun h24 => ?_, fun h24 => absurd h24 (show ¬ (((l.getD k (0, ([], ()))).1) ≤ ((l.getD (((k : Int) - 1).toNat) (0, ([], ()))).1)) by first | omega | assumption | simp_all)⟩
              refine ⟨fun h25 => ?_, fun h25 => absurd h25 (show ¬ (((l.getD k (0, ([], ()))).1) ≤ ((l.getD (((k : Int) - 1).toNat) (0, ([], ()))).1)) by first | omega | assumption | simp_all)⟩
              refine ⟨fun h26 => ?_, fun h26 => absurd h26 (show ¬ (((l.getD k (0, ([], ()))).1) ≤ ((l.getD (((k : Int) - 1).toNat) (0, ([], ()))).1)) by first | omega | assumption | simp_all)⟩
              refine ⟨fun h27 => absurd h27 (show ¬ (((l.getD k (0, ([], ()))).1) ≤ ((l.getD (((k : Int) - 1).toNat) (0, ([], ()))).1)) by first | omega | assumption | simp_all), fun h27 => ?_⟩
              refine ⟨fun h28 => ?_, fun h28 => ?_⟩
              · replace h28 : (((((l.getD k (0, ([], ()))).2).1).length : Nat) : Int) ≠ (((((l.getD 0 (0, ([], ()))).2).1).length : Nat) : Int) := h28
                have e : chkE l = 1 := chk1 (by omega) h1 hk (fun g => by have := g.2.2; unfold lnS at this; omega)
                rw [e]
                exact ⟨rfl, rfl, rfl, rfl⟩
              · replace h28 : ¬ ((((((l.getD k (0, ([], ()))).2).1).length : Nat) : Int) ≠ (((((l.getD 0 (0, ([], ()))).2).1).length : Nat) : Int)) := h28
                have hok := okS_yes (l := l) (Classical.not_not.1 h3) (.inr h18) h28
                refine ⟨⟨by show (-9223372036854775808 : Int) ≤ ((k : Int) + 1); omega, by show ((k : Int) + 1) ≤ (9223372036854775807 : Int); omega⟩, ?_⟩
                exact ⟨rfl, l.length - (k + 1), by omega, k + 1, by omega, ok_next hc1_1 hok, rfl, rfl, rfl⟩
            · replace h18 : ((l.getD k (0, ([], ()))).1) ≤ ((l.getD (((k : Int) - 1).toNat) (0, ([], ()))).1) := h18
              refine ⟨fun h29 => absurd (show ((l.getD k (0, ([], ()))).1) ≤ ((l.getD (((k : Int) - 1).toNat) (0, ([], ()))).1) by first | omega | assumption | simp_all) h29, fun h29 => ?_⟩
              refine ⟨fun h30 => absurd (show ((l.getD k (0, ([], ()))).1) ≤ ((l.getD (((k : Int) - 1).toNat) (0, ([], ()))).1) by first | omega | assumption | simp_all) h30, fun h30 => ?_⟩
              refine ⟨fun h31 => absurd (show ((l.getD k (0, ([], ()))).1) ≤ ((l.getD (((k : Int) - 1).toNat) (0, ([], ()))).1) by first | omega | assumption | simp_all) h31, fun h31 => ?_⟩
              refine ⟨fun h32 => absurd (show ((l.getD k (0, ([], ()))).1) ≤ ((l.getD (((k : Int) - 1).toNat) (0, ([], ()))).1) by first | omega | assumption | simp_all) h32, fun h32 => ?_⟩
              refine ⟨fun h33 => absurd (show ((l.getD k (0, ([], ()))).1) ≤ ((l.getD (((k : Int) - 1).toNat) (0, ([], ()))).1) by first | omega | assumption | simp_all) h33, fun h33 => ?_⟩
              refine ⟨fun h34 => absurd (show ((l.getD k (0, ([], ()))).1) ≤ ((l.getD (((k : Int) - 1).toNat) (0, ([], ()))).1) by first | omega | assumption | simp_all) h34, fun h34 => ?_⟩
              refine ⟨fun h35 => absurd (show ((l.getD k (0, ([], ()))).1) ≤ ((l.getD (((k : Int) - 1).toNat) (0, ([], ()))).1) by first | omega | assumption | simp_all) h35, fun h35 => ?_⟩
              refine ⟨fun h36 => absurd (show ((l.getD k (0, ([], ()))).1) ≤ ((l.getD (((k : Int) - 1).toNat) (0, ([], ()))).1) by first | omega | assumption | simp_all) h36, fun h36 => ?_⟩
              refine ⟨fun h37 => ?_, fun h37 => absurd (show ((l.getD k (0, ([], ()))).1) ≤ ((l.getD (((k : Int) - 1).toNat) (0, ([], ()))).1) by first | omega | assumption | simp_all) h37⟩
              have e : chkE l = 1 := chk1 (by omega) h1 hk (fun g => by rw [show ((k : Int) - 1).toNat = k - 1 by omega] at h18; have := g.2.1; omega)
              rw [e]
              exact ⟨rfl, rfl, rfl, rfl⟩
          · replace h6 : ¬ (0 < (k : Int)) := h6
            refine ⟨fun h38 => absurd h38 (show ¬ (0 < (k : Int)) by first | omega | assumption | simp_all), fun h38 => ?_⟩
            refine ⟨fun h39 => absurd h39 (show ¬ (0 < (k : Int)) by first | omega | assumption | simp_all), fun h39 => ?_⟩
            refine ⟨fun h40 => absurd h40 (show ¬ (0 < (k : Int)) by first | omega | assumption | simp_all), fun h40 => ?_⟩
            refine ⟨fun h41 => absurd h41 (show ¬ (0 < (k : Int)) by first | omega | assumption | simp_all), fun h41 => ?_⟩
            refine ⟨fun h42 => absurd h42 (show ¬ (0 < (k : Int)) by first | omega | assumption | simp_all), fun h42 => ?_⟩
            refine ⟨fun h43 => absurd h43 (show ¬ (0 < (k : Int)) by first | omega | assumption | simp_all), fun h43 => ?_⟩
            refine ⟨fun h44 => absurd h44 (show ¬ (0 < (k : Int)) by first | omega | assumption | simp_all), fun h44 => ?_⟩
            refine ⟨fun h45 => absurd h45 (show ¬ (0 < (k : Int)) by first | omega | assumption | simp_all), fun h45 => ?_⟩
            refine ⟨fun h46 => ?_, fun h46 => absurd h46 (show ¬ (¬ (knw ((l.getD k (0, ([], ()))).1))) by first | omega | assumption | simp_all)⟩
            refine ⟨fun h47 => absurd h47 (show ¬ (0 < (k : Int)) by first | omega | assumption | simp_all), fun h47 => ?_⟩
            refine ⟨fun h48 => absurd h48 (show ¬ (¬ (knw ((l.getD k (0, ([], ()))).1))) by first | omega | assumption | simp_all), fun h48 => ?_⟩
            refine ⟨⟨by show (0 : Int) ≤ 0; omega, by show 0 < (l.length : Int); omega⟩, fun h49 => ?_, fun h49 => ?_⟩
            · replace h49 : (((((l.getD k (0, ([], ()))).2).1).length : Nat) : Int) ≠ (((((l.getD 0 (0, ([], ()))).2).1).length : Nat) : Int) := h49
              have e : chkE l = 1 := chk1 (by omega) h1 hk (fun g => by have := g.2.2; unfold lnS at this; omega)
              rw [e]
              exact ⟨rfl, rfl, rfl, rfl⟩
            · replace h49 : ¬ ((((((l.getD k (0, ([], ()))).2).1).length : Nat) : Int) ≠ (((((l.getD 0 (0, ([], ()))).2).1).length : Nat) : Int)) := h49
              have hok := okS_yes (l := l) (Classical.not_not.1 h3) (.inl (by omega)) h49
              refine ⟨⟨by show (-9223372036854775808 : Int) ≤ ((k : Int) + 1); omega, by show ((k : Int) + 1) ≤ (9223372036854775807 : Int); omega⟩, ?_⟩
              exact ⟨rfl, l.length - (k + 1), by omega, k + 1, by omega, ok_next hc1_1 hok, rfl, rfl, rfl⟩
        · replace h3 : ¬ (knw ((l.getD k (0, ([], ()))).1)) := h3
          refine ⟨fun h50 => absurd (show ¬ (knw ((l.getD k (0, ([], ()))).1)) by first | omega | assumption | simp_all) h50, fun h50 => ?_⟩
          refine ⟨fun h51 => absurd (show ¬ (knw ((l.getD k (0, ([], ()))).1)) by first | omega | assumption | simp_all) h51, fun h51 => ?_⟩
          refine ⟨fun h52 => absurd (show ¬ (knw ((l.getD k (0, ([], ()))).1)) by first | omega | assumption | simp_all) h52, fun h52 => ?_⟩
          refine ⟨fun h53 => ?_, fun h53 => absurd (show ¬ (knw ((l.getD k (0, ([], ()))).1)) by first | omega | assumption | simp_all) h53⟩
          have e : chkE l = 1 := chk1 (by omega) h1 hk (fun g => h3 g.1)
          rw [e]
          exact ⟨rfl, rfl, rfl, rfl⟩
      · replace h2 : ¬ ((k : Int) < (l.length : Int)) := h2
        rw [chk0'' (by omega) h1 hc1_1 (by omega)]
        exact ⟨rfl, rfl, rfl, rfl⟩
  · replace h0 : 12 < (l.length : Int) := h0
    rw [chk2 (.inl (by omega))]
    exact ⟨rfl, rfl, rfl, rfl⟩
def CChk : List (Nat × Con) := (23, pureC [.v (.sl (.cons (.int .i64) (.cons .str .nil)))] sChk) :: CPoi
theorem kChk : Known Tryd.prog (En CChk tys G6 []) := kPoi.add Tryd.func23 Tryd.call23 [.k] fun ds p v bs h hp => by
  unfold sChk at h
  split at h <;> simp only [Option.some.injEq, Prod.mk.injEq, reduceCtorEq] at h
  obtain ⟨rfl, rfl, rfl⟩ := h
  exact bChk _ hp
end Go.Proofs.YtakbedmeieeekaaDoor.S26

namespace Go.Proofs.YtakbedmeieeekaaDoor.S26
open Go Go.Proofs.YtakbedmeieeekaaDoor.Vc Go.Proofs
set_option maxRecDepth 100000
set_option linter.unusedVariables false

def sSpl : List V → Option (Prop × V × List Blk)
  | [.str s, .int .i64 nd, .sl false (.int .i64) hs, .str nz] => some (s.length ≤ 1048576 ∧ hs.length ≤ 1048576 ∧ nz.length ≤ 1048576, .tup [.own (.cons (.int .i64) (.cons .str .nil)) 0, .int .i64 (splE s nd hs nz)], [.row true (.cons (.int .i64) (.cons .str .nil)) (splL s nd hs nz)])
  | _ => none
set_option maxHeartbeats 2000000 in
theorem bSpl (s : List UInt8) (nd : Int) (hs : List Int) (nz : List UInt8) (hp0 : s.length ≤ 1048576) (hp1 : hs.length ≤ 1048576) (hp2 : nz.length ≤ 1048576) : bodyP (En CChk tys G6 []) Tryd.f13 [.o (.cons (.int .i64) (.cons .str .nil)), .k] [.str s, .int .i64 nd, .sl false (.int .i64) hs, .str nz] (.tup [.own (.cons (.int .i64) (.cons .str .nil)) 0, .int .i64 (splE s nd hs nz)]) [.row true (.cons (.int .i64) (.cons .str .nil)) (splL s nd hs nz)] := by
  refine ⟨fun h0 => ?_, fun h0 => ?_⟩
  · replace h0 : 4096 < (s.length : Int) := h0
    have e : splE s nd hs nz = 2 := by unfold splE; rw [if_pos (by omega)]
    rw [splL, if_neg (by rw [e]; decide), e]
    exact ⟨rfl, rfl, rfl, rfl⟩
  · replace h0 : ¬ (4096 < (s.length : Int)) := h0
    refine ⟨fun h1 => ?_, fun h1 => ?_⟩
    · replace h1 : ¬ (nd < 1) := h1
      refine ⟨fun h2 => ?_, fun h2 => ?_⟩
      · replace h2 : 12 < nd := h2
        have e : splE s nd hs nz = 3 := by unfold splE; rw [if_neg (by omega : ¬ 4096 < s.length), if_pos (by omega)]
        rw [splL, if_neg (by rw [e]; decide), e]
        exact ⟨rfl, rfl, rfl, rfl⟩
      · replace h2 : ¬ (12 < nd) := h2
        refine ⟨fun h3 => ?_, fun h3 => ?_⟩
        · replace h3 : (hs.length : Int) < nd := h3
          have e : splE s nd hs nz = 1 := by unfold splE; rw [if_neg (by omega : ¬ 4096 < s.length), if_neg (by omega : ¬ (nd < 1 ∨ 12 < nd)), if_pos (by omega)]
          rw [splL, if_neg (by rw [e]; decide), e]
          exact ⟨rfl, rfl, rfl, rfl⟩
        · replace h3 : ¬ ((hs.length : Int) < nd) := h3
          refine ⟨0, [(0, .k), (1, .k), (2, .k), (3, .k), (10, .k), (35, .k), (36, .k), (37, .k)], fun nM vs H => ∃ (k : Nat), k ≤ hs.length ∧ (∀ j, j < k → hsB hs j = true) ∧ nM = hs.length - k ∧ vs = [.str s, .int .i64 nd, .sl false (.int .i64) hs, .str nz, .int .i64 (s.length : Int), .sl false (.int .i64) hs, .int .i64 (hs.length : Int), .int .i64 (k : Int)] ∧ H = [], ⟨rfl, hs.length, 0, by omega, fun j h => absurd h (Nat.not_lt_zero j), by omega, rfl, rfl⟩, ?_⟩
          rintro nM vs H ⟨k, hc1_0, hc1_1, rfl, rfl, rfl⟩
          refine ⟨fun h4 => ?_, fun h4 => ?_⟩
          · replace h4 : (k : Int) < (hs.length : Int) := h4
            have hk : k < hs.length := by omega
            refine ⟨⟨by show (0 : Int) ≤ (k : Int); omega, by show (k : Int) < (hs.length : Int); omega⟩, rfl, trivial, fun h5 => ?_, fun h5 => ?_⟩
            · replace h5 : ¬ (¬ (knw (hs.getD k 0))) := h5
              refine ⟨fun h6 => ?_, fun h6 => ?_⟩
              · replace h6 : 0 < (k : Int) := h6
                refine ⟨⟨by show (-9223372036854775808 : Int) ≤ ((k : Int) - 1); omega, by show ((k : Int) - 1) ≤ (9223372036854775807 : Int); omega⟩, ⟨by show (0 : Int) ≤ ((k : Int) - 1); omega, by show ((k : Int) - 1) < (hs.length : Int); omega⟩, fun h7 => ?_, fun h7 => ?_⟩
                · replace h7 : (hs.getD k 0) ≤ (hs.getD (((k : Int) - 1).toNat) 0) := h7
                  have hf : hsOk hs = false := hs_bad (fun g => by rw [show ((k : Int) - 1).toNat = k - 1 by omega] at h7; have := g.2; omega) hk
                  have e : splE s nd hs nz = 1 := by unfold splE; rw [if_neg (by omega : ¬ 4096 < s.length), if_neg (by omega : ¬ (nd < 1 ∨ 12 < nd)), if_neg (by omega : ¬ (hs.length : Int) < nd), if_pos hf]
                  rw [splL, if_neg (by rw [e]; decide), e]
                  exact ⟨rfl, rfl, rfl, rfl⟩
                · replace h7 : ¬ ((hs.getD k 0) ≤ (hs.getD (((k : Int) - 1).toNat) 0)) := h7
                  have hok := hs_yes (l := hs) (Classical.not_not.1 h5) (.inr h7)
                  refine ⟨⟨by show (-9223372036854775808 : Int) ≤ ((k : Int) + 1); omega, by show ((k : Int) + 1) ≤ (9223372036854775807 : Int); omega⟩, ?_⟩
                  exact ⟨rfl, hs.length - (k + 1), by omega, k + 1, by omega, hs_next hc1_1 hok, rfl, rfl, rfl⟩
              · replace h6 : ¬ (0 < (k : Int)) := h6
                have hok := hs_yes (l := hs) (Classical.not_not.1 h5) (.inl (by omega))
                refine ⟨⟨by show (-9223372036854775808 : Int) ≤ ((k : Int) + 1); omega, by show ((k : Int) + 1) ≤ (9223372036854775807 : Int); omega⟩, ?_⟩
                exact ⟨rfl, hs.length - (k + 1), by omega, k + 1, by omega, hs_next hc1_1 hok, rfl, rfl, rfl⟩
            · replace h5 : ¬ (knw (hs.getD k 0)) := h5
              have hf : hsOk hs = false := hs_bad (fun g => h5 g.1) hk
              have e : splE s nd hs nz = 1 := by unfold splE; rw [if_neg (by omega : ¬ 4096 < s.length), if_neg (by omega : ¬ (nd < 1 ∨ 12 < nd)), if_neg (by omega : ¬ (hs.length : Int) < nd), if_pos hf]
              rw [splL, if_neg (by rw [e]; decide), e]
              exact ⟨rfl, rfl, rfl, rfl⟩
          · replace h4 : ¬ ((k : Int) < (hs.length : Int)) := h4
            have hso := hs_all hc1_1 (by omega)
            obtain ⟨hm1, hm2⟩ := mul_bd (a := (s.length : Int)) (b := nd - 1) (A := 4096) (B := 11) (by omega) (by omega) (by omega) (by omega)
            refine ⟨⟨by show (-9223372036854775808 : Int) ≤ (nd - 1); omega, by show (nd - 1) ≤ (9223372036854775807 : Int); omega⟩, ⟨by show (-9223372036854775808 : Int) ≤ ((s.length : Int) * (nd - 1)); omega, by show ((s.length : Int) * (nd - 1)) ≤ (9223372036854775807 : Int); omega⟩, fun h8 => ?_, fun h8 => ?_⟩
            · replace h8 : (nz.length : Int) ≠ ((s.length : Int) * (nd - 1)) := h8
              have e : splE s nd hs nz = 1 := by unfold splE; rw [if_neg (by omega : ¬ 4096 < s.length), if_neg (by omega : ¬ (nd < 1 ∨ 12 < nd)), if_neg (by omega : ¬ (hs.length : Int) < nd), if_neg (by rw [hso]; decide), if_neg h8]
              rw [splL, if_neg (by rw [e]; decide), e]
              exact ⟨rfl, rfl, rfl, rfl⟩
            · replace h8 : ¬ ((nz.length : Int) ≠ ((s.length : Int) * (nd - 1))) := h8
              have hn : nz.length = s.length * (nd - 1).toNat := Int.ofNat_inj.1 (by rw [Int.natCast_mul, Int.toNat_of_nonneg (by omega)]; exact Classical.not_not.1 h8)
              refine ⟨⟨rfl, by show (0 : Int) ≤ (hs.length : Int); omega, by show (hs.length : Int) ≤ (1000000000 : Int); omega⟩, 0, [(0, .k), (1, .k), (3, .k), (10, .k), (13, .o (.cons (.int .i64) (.cons .str .nil))), (69, .k), (70, .k), (71, .k)], fun nM vs H => ∃ (k : Nat), k ≤ hs.length ∧ nM = hs.length - k ∧ vs = [.str s, .int .i64 nd, .str nz, .int .i64 (s.length : Int), .own (.cons (.int .i64) (.cons .str .nil)) 0, .sl false (.int .i64) hs, .int .i64 (hs.length : Int), .int .i64 (k : Int)] ∧ H = [.row true (.cons (.int .i64) (.cons .str .nil)) (outL s nd hs nz k)], ⟨rfl, hs.length, 0, by omega, by omega, rfl, by rw [out_zero]; rfl⟩, ?_⟩
              rintro nM vs H ⟨k, hc2_0, rfl, rfl, rfl⟩
              have hol := out_len s nd hs nz k
              refine ⟨fun h9 => ?_, fun h9 => ?_⟩
              · replace h9 : (k : Int) < (hs.length : Int) := h9
                have hk : k < hs.length := by omega
                obtain ⟨⟨q1, q2⟩, _⟩ := hs_get hso hk
                refine ⟨⟨by show (0 : Int) ≤ (k : Int); omega, by show (k : Int) < (hs.length : Int); omega⟩, ⟨rfl, by show (0 : Int) ≤ (s.length : Int); omega, by show (s.length : Int) ≤ (1000000000 : Int); omega⟩, ⟨by show (-9223372036854775808 : Int) ≤ (nd - 2); omega, by show (nd - 2) ≤ (9223372036854775807 : Int); omega⟩, 1, [(0, .k), (1, .k), (3, .k), (10, .k), (13, .k), (14, .k), (15, .k), (16, .k), (17, .k), (69, .k), (70, .k), (71, .k)], fun nM vs H => ∃ (j : Nat), j ≤ (nd - 1).toNat ∧ nM = j + 1 ∧ vs = [.str s, .int .i64 nd, .str nz, .int .i64 (s.length : Int), .own (.cons (.int .i64) (.cons .str .nil)) 0, .int .i64 (k : Int), .int .i64 (hs.getD k 0), .str (accL nz s.length (nd - 1).toNat (pt (hs.getD k 0)) j), .int .i64 ((j : Int) - 1), .sl false (.int .i64) hs, .int .i64 (hs.length : Int), .int .i64 (k : Int)] ∧ H = [.row true (.cons (.int .i64) (.cons .str .nil)) (outL s nd hs nz k)], ⟨rfl, (nd - 1).toNat + 1, (nd - 1).toNat, by omega, by omega, by rw [acc_top, show (((nd - 1).toNat : Nat) : Int) - 1 = nd - 2 by omega]; rfl, rfl⟩, ?_⟩
                rintro nM vs H ⟨j, hc3_0, rfl, rfl, rfl⟩
                refine ⟨fun h10 => ?_, fun h10 => ?_⟩
                · replace h10 : 0 ≤ ((j : Int) - 1) := h10
                  obtain ⟨i, hj⟩ : ∃ i, j = i + 1 := ⟨j - 1, by omega⟩
                  have e1 : (((j : Int) - 1) * (s.length : Int)) = ((i * s.length : Nat) : Int) := by rw [show (j : Int) - 1 = (i : Int) by omega, Int.natCast_mul]
                  have e2 : ((((j : Int) - 1) + 1) * (s.length : Int)) = ((i * s.length : Nat) : Int) + (s.length : Int) := by rw [show ((j : Int) - 1) + 1 = (i : Int) + 1 by omega, Int.add_mul, Int.one_mul, Int.natCast_mul]
                  have e3 : i * s.length + s.length ≤ nz.length := by (have := Nat.mul_le_mul_left s.length (show i + 1 ≤ (nd - 1).toNat by omega); rw [← hn, Nat.mul_succ, Nat.mul_comm] at this; exact this)
                  have e4 : i * s.length ≤ 11 * 4096 := Nat.mul_le_mul (by omega) (by omega)
                  have ey : ((((j : Int) - 1) + 1) * (s.length : Int)).toNat - (((j : Int) - 1) * (s.length : Int)).toNat = s.length := by omega
                  have ex : (((j : Int) - 1) * (s.length : Int)).toNat = i * s.length := by omega
                  have hst : scaleB (pt (hs.getD k 0)) (sumB (accL nz s.length (nd - 1).toNat (pt (hs.getD k 0)) j) ((nz.drop ((((j : Int) - 1) * (s.length : Int)).toNat)).take (((((j : Int) - 1) + 1) * (s.length : Int)).toNat - (((j : Int) - 1) * (s.length : Int)).toNat))) = accL nz s.length (nd - 1).toNat (pt (hs.getD k 0)) i := by rw [ey, ex, hj]; exact acc_step (by omega) hn rfl
                  have hal := acc_len nz s.length (nd - 1).toNat (pt (hs.getD k 0)) j
                  have hcl : ((nz.drop ((((j : Int) - 1) * (s.length : Int)).toNat)).take (((((j : Int) - 1) + 1) * (s.length : Int)).toNat - (((j : Int) - 1) * (s.length : Int)).toNat)).length = s.length := by rw [ey, List.length_take, List.length_drop]; omega
                  refine ⟨by kernel_rfl, rfl, ⟨by show 0 ≤ (hs.getD k 0); first | omega | assumption, by show (hs.getD k 0) < 1000000; first | omega | assumption⟩, ⟨by show (-9223372036854775808 : Int) ≤ (((j : Int) - 1) * (s.length : Int)); omega, by show (((j : Int) - 1) * (s.length : Int)) ≤ (9223372036854775807 : Int); omega⟩, ⟨by show (-9223372036854775808 : Int) ≤ (((j : Int) - 1) + 1); omega, by show (((j : Int) - 1) + 1) ≤ (9223372036854775807 : Int); omega⟩, ⟨by show (-9223372036854775808 : Int) ≤ ((((j : Int) - 1) + 1) * (s.length : Int)); omega, by show ((((j : Int) - 1) + 1) * (s.length : Int)) ≤ (9223372036854775807 : Int); omega⟩, ⟨by omega, by omega, by omega⟩, ⟨by show (accL nz s.length (nd - 1).toNat (pt (hs.getD k 0)) j).length ≤ 1000000000; first | omega | assumption, by show ((nz.drop ((((j : Int) - 1) * (s.length : Int)).toNat)).take (((((j : Int) - 1) + 1) * (s.length : Int)).toNat - (((j : Int) - 1) * (s.length : Int)).toNat)).length ≤ 1000000000; first | omega | assumption | (simp only [List.length_cons, List.length_nil, List.length_append, List.length_take, List.length_drop, List.length_set, List.length_replicate]; omega)⟩, by show (sumB _ _).length ≤ _; rw [sum_len, hcl, hal]; omega, ⟨by show (-9223372036854775808 : Int) ≤ (((j : Int) - 1) - 1); omega, by show (((j : Int) - 1) - 1) ≤ (9223372036854775807 : Int); omega⟩, ?_⟩
                  exact ⟨rfl, i + 1, by omega, i, by omega, rfl, by rw [hst, show (j : Int) - 1 - 1 = (i : Int) - 1 by omega]; rfl, rfl⟩
                · replace h10 : ¬ (0 ≤ ((j : Int) - 1)) := h10
                  have hfin : sumB (accL nz s.length (nd - 1).toNat (pt (hs.getD k 0)) j) s = shB s nz (nd - 1).toNat (pt (hs.getD k 0)) := by rw [show j = 0 by omega]; exact acc_end
                  have hal := acc_len nz s.length (nd - 1).toNat (pt (hs.getD k 0)) j
                  refine ⟨⟨by show (accL nz s.length (nd - 1).toNat (pt (hs.getD k 0)) j).length ≤ 1000000000; first | omega | assumption, by show s.length ≤ 1000000000; first | omega | assumption⟩, ⟨by show (0 : Int) ≤ (k : Int); omega, by show (k : Int) < ((outL s nd hs nz k).length : Int); omega⟩, rfl, ⟨fun h => (by first | rfl | cases h), rfl, rfl⟩, ⟨by show (-9223372036854775808 : Int) ≤ ((k : Int) + 1); omega, by show ((k : Int) + 1) ≤ (9223372036854775807 : Int); omega⟩, ?_⟩
                  exact ⟨rfl, hs.length - (k + 1), by omega, k + 1, by omega, rfl, rfl, by rw [← out_set (x := (hs.getD k 0, sumB (accL nz s.length (nd - 1).toNat (pt (hs.getD k 0)) j) s, ())) hk (by rw [hfin]; rfl)]; rfl⟩
              · replace h9 : ¬ ((k : Int) < (hs.length : Int)) := h9
                have e : splE s nd hs nz = 0 := by unfold splE; rw [if_neg (by omega : ¬ 4096 < s.length), if_neg (by omega : ¬ (nd < 1 ∨ 12 < nd)), if_neg (by omega : ¬ (hs.length : Int) < nd), if_neg (by rw [hso]; decide), if_pos (Classical.not_not.1 h8)]
                rw [splL, if_pos e, e, ← out_all (by omega : hs.length ≤ k)]
                exact ⟨rfl, rfl, rfl, rfl⟩
    · replace h1 : nd < 1 := h1
      have e : splE s nd hs nz = 3 := by unfold splE; rw [if_neg (by omega : ¬ 4096 < s.length), if_pos (by omega)]
      rw [splL, if_neg (by rw [e]; decide), e]
      exact ⟨rfl, rfl, rfl, rfl⟩
def CSpl : List (Nat × Con) := (13, pureC [.v .str, .v (.int .i64), .v (.sl (.int .i64)), .v .str] sSpl) :: CChk
theorem kSpl : Known Tryd.prog (En CSpl tys G6 []) := kChk.add Tryd.func13 Tryd.call13 [.o (.cons (.int .i64) (.cons .str .nil)), .k] fun ds p v bs h hp => by
  unfold sSpl at h
  split at h <;> simp only [Option.some.injEq, Prod.mk.injEq, reduceCtorEq] at h
  obtain ⟨rfl, rfl, rfl⟩ := h
  exact bSpl _ _ _ _ hp.1 hp.2.1 hp.2.2
end Go.Proofs.YtakbedmeieeekaaDoor.S26

namespace Go.Proofs.YtakbedmeieeekaaDoor.S26
open Go Go.Proofs.YtakbedmeieeekaaDoor.Vc Go.Proofs
set_option maxRecDepth 100000
set_option linter.unusedVariables false

def sCo1 : List V → Option (Prop × V × List Blk)
  | [.int .i64 k, .rp false (.sl (.cons (.int .i64) (.cons .str .nil))) l 0] => some (0 ≤ k ∧ l.length ≤ 1048576 ∧ (∀ x ∈ l, k < (x.2.1.length : Int)), .own .u8 0, [.row true .u8 (ysL l k.toNat)])
  | _ => none
set_option maxHeartbeats 1000000 in
theorem bCo1 (k : Int) (l : List (Int × (List UInt8 × Unit))) (hp0 : 0 ≤ k) (hp1 : l.length ≤ 1048576) (hp2 : (∀ x ∈ l, k < (x.2.1.length : Int))) : bodyP (En CSpl tys G6 []) Tryd.f63 [.o .u8] [.int .i64 k, .rp false (.sl (.cons (.int .i64) (.cons .str .nil))) l 0] (.own .u8 0) [.row true .u8 (ysL l k.toNat)] := by
  refine ⟨⟨rfl, by show (0 : Int) ≤ (l.length : Int); omega, by show (l.length : Int) ≤ (1000000000 : Int); omega⟩, 0, [(0, .k), (4, .o .u8), (10, .k), (11, .k), (12, .k)], fun nM vs H => ∃ (i : Nat), i ≤ l.length ∧ nM = l.length - i ∧ vs = [.int .i64 k, .own .u8 0, .sl false (.cons (.int .i64) (.cons .str .nil)) l, .int .i64 (l.length : Int), .int .i64 (i : Int)] ∧ H = [.row true .u8 (fillF (yF l k.toNat) l.length i)], ⟨rfl, l.length, 0, by omega, by omega, rfl, by rw [fill_zero]; rfl⟩, ?_⟩
  rintro nM vs H ⟨i, hc1_0, rfl, rfl, rfl⟩
  have hfl := fill_len (yF l k.toNat) l.length i
  refine ⟨fun h0 => ?_, fun h0 => ?_⟩
  · replace h0 : (i : Int) < (l.length : Int) := h0
    have hi : i < l.length := by omega
    have hkl := hp2 _ (getD_mem (0, [], ()) l i hi)
    refine ⟨⟨by show (0 : Int) ≤ (i : Int); omega, by show (i : Int) < (l.length : Int); omega⟩, ⟨rfl, rfl, rfl, Nat.le_of_ble_eq_true rfl⟩, ⟨by show (0 : Int) ≤ k; omega, by show k < ((((l.getD i (0, ([], ()))).2).1).length : Int); omega⟩, ⟨by show (0 : Int) ≤ (i : Int); omega, by show (i : Int) < ((fillF (yF l k.toNat) l.length i).length : Int); omega⟩, ⟨rfl, rfl⟩, ⟨by show (-9223372036854775808 : Int) ≤ ((i : Int) + 1); omega, by show ((i : Int) + 1) ≤ (9223372036854775807 : Int); omega⟩, ?_⟩
    exact ⟨rfl, l.length - (i + 1), by omega, i + 1, by omega, rfl, rfl, by rw [← fill_set (yF l k.toNat) hi]; rfl⟩
  · replace h0 : ¬ ((i : Int) < (l.length : Int)) := h0
    rw [show i = l.length by omega, ys_fill]
    exact ⟨rfl, rfl, rfl, rfl⟩
def CCo1 : List (Nat × Con) := (63, pureC [.v (.int .i64), .ref (.sl (.cons (.int .i64) (.cons .str .nil)))] sCo1) :: CSpl
theorem kCo1 : Known Tryd.prog (En CCo1 tys G6 []) := kSpl.add Tryd.func63 Tryd.call63 [.o .u8] fun ds p v bs h hp => by
  unfold sCo1 at h
  split at h <;> simp only [Option.some.injEq, Prod.mk.injEq, reduceCtorEq] at h
  obtain ⟨rfl, rfl, rfl⟩ := h
  exact bCo1 _ _ hp.1 hp.2.1 hp.2.2
def sPts : List V → Option (Prop × V × List Blk)
  | [.sl false (.cons (.int .i64) (.cons .str .nil)) l] => some (l.length ≤ 1048576 ∧ (∀ x ∈ l, knw x.1), .own .u8 0, [.row true .u8 (xsL l)])
  | _ => none
set_option maxHeartbeats 1000000 in
theorem bPts (l : List (Int × (List UInt8 × Unit))) (hp0 : l.length ≤ 1048576) (hp1 : (∀ x ∈ l, knw x.1)) : bodyP (En CCo1 tys G6 []) Tryd.f47 [.o .u8] [.sl false (.cons (.int .i64) (.cons .str .nil)) l] (.own .u8 0) [.row true .u8 (xsL l)] := by
  refine ⟨⟨rfl, by show (0 : Int) ≤ (l.length : Int); omega, by show (l.length : Int) ≤ (1000000000 : Int); omega⟩, 0, [(3, .o .u8), (9, .k), (10, .k), (11, .k)], fun nM vs H => ∃ (i : Nat), i ≤ l.length ∧ nM = l.length - i ∧ vs = [.own .u8 0, .sl false (.cons (.int .i64) (.cons .str .nil)) l, .int .i64 (l.length : Int), .int .i64 (i : Int)] ∧ H = [.row true .u8 (fillF (xF l) l.length i)], ⟨rfl, l.length, 0, by omega, by omega, rfl, by rw [fill_zero]; rfl⟩, ?_⟩
  rintro nM vs H ⟨i, hc1_0, rfl, rfl, rfl⟩
  have hfl := fill_len (xF l) l.length i
  refine ⟨fun h0 => ?_, fun h0 => ?_⟩
  · replace h0 : (i : Int) < (l.length : Int) := h0
    have hi : i < l.length := by omega
    obtain ⟨q1, q2⟩ := hp1 _ (getD_mem (0, [], ()) l i hi)
    refine ⟨⟨by show (0 : Int) ≤ (i : Int); omega, by show (i : Int) < (l.length : Int); omega⟩, ⟨rfl, rfl, rfl, Nat.le_of_ble_eq_true rfl⟩, rfl, ⟨by show 0 ≤ ((l.getD i (0, ([], ()))).1); first | omega | assumption | (simp only [List.length_cons, List.length_nil, List.length_append, List.length_take, List.length_drop, List.length_set, List.length_replicate]; omega), by show ((l.getD i (0, ([], ()))).1) < 1000000; first | omega | assumption | (simp only [List.length_cons, List.length_nil, List.length_append, List.length_take, List.length_drop, List.length_set, List.length_replicate]; omega)⟩, ⟨by show (0 : Int) ≤ (i : Int); omega, by show (i : Int) < ((fillF (xF l) l.length i).length : Int); omega⟩, ⟨rfl, rfl⟩, ⟨by show (-9223372036854775808 : Int) ≤ ((i : Int) + 1); omega, by show ((i : Int) + 1) ≤ (9223372036854775807 : Int); omega⟩, ?_⟩
    exact ⟨rfl, l.length - (i + 1), by omega, i + 1, by omega, rfl, rfl, by rw [← fill_set (xF l) hi]; rfl⟩
  · replace h0 : ¬ ((i : Int) < (l.length : Int)) := h0
    rw [show i = l.length by omega, xs_fill]
    exact ⟨rfl, rfl, rfl, rfl⟩
def CPts : List (Nat × Con) := (47, pureC [.v (.sl (.cons (.int .i64) (.cons .str .nil)))] sPts) :: CCo1
theorem kPts : Known Tryd.prog (En CPts tys G6 []) := kCo1.add Tryd.func47 Tryd.call47 [.o .u8] fun ds p v bs h hp => by
  unfold sPts at h
  split at h <;> simp only [Option.some.injEq, Prod.mk.injEq, reduceCtorEq] at h
  obtain ⟨rfl, rfl, rfl⟩ := h
  exact bPts _ hp.1 hp.2
def sCo2 : List V → Option (Prop × Nat × (Nat → List V))
  | [.rp false (.sl (.cons (.int .i64) (.cons .str .nil))) l 0, .rb (.fn 63 [.rp false (.sl (.cons (.int .i64) (.cons .str .nil))) l2 0])] => some (1 ≤ l.length ∧ l.length ≤ 1048576 ∧ lnS l ≤ 1048576 ∧ (∀ x ∈ l, x.2.1.length = lnS l) ∧ l2 = l, (lnS l, fun n => [.int .i64 ((n : Nat) : Int), .sl false .u8 (ysL l n)]))
  | _ => none
set_option maxHeartbeats 1000000 in
theorem bCo2 (l : List (Int × (List UInt8 × Unit))) (l2 : List (Int × (List UInt8 × Unit))) (hp0 : 1 ≤ l.length) (hp1 : l.length ≤ 1048576) (hp2 : lnS l ≤ 1048576) (hp3 : (∀ x ∈ l, x.2.1.length = lnS l)) (hp4 : l2 = l) : bodyS (En CPts tys G6 []).inR Tryd.f64 [.rp false (.sl (.cons (.int .i64) (.cons .str .nil))) l 0, .rb (.fn 63 [.rp false (.sl (.cons (.int .i64) (.cons .str .nil))) l2 0])] [.v (.int .i64), .v (.sl .u8)] (lnS l, fun n => [.int .i64 ((n : Nat) : Int), .sl false .u8 (ysL l n)]) := by
  have hlS : (l.getD 0 (0, [], ())).2.1.length = lnS l := rfl
  refine ⟨rfl, ⟨by show (0 : Int) ≤ 0; omega, by show 0 < (l.length : Int); omega⟩, 0, [(0, .k), (2, .k), (9, .k), (10, .k)], fun nM vs H => ∃ (k : Nat), k ≤ lnS l ∧ nM = lnS l - k ∧ vs = [.yld (some k), .rb (.fn 63 [.rp false (.sl (.cons (.int .i64) (.cons .str .nil))) l2 0]), .int .i64 (((((l.getD 0 (0, ([], ()))).2).1).length : Nat) : Int), .int .i64 (k : Int)] ∧ H = [], ⟨rfl, lnS l, 0, by omega, by omega, rfl, rfl⟩, ?_⟩
  rintro nM vs H ⟨k, hc1_0, rfl, rfl, rfl⟩
  refine ⟨fun h0 => ?_, fun h0 => ?_⟩
  · replace h0 : (k : Int) < (((((l.getD 0 (0, ([], ()))).2).1).length : Nat) : Int) := h0
    refine ⟨rfl, ⟨by show 0 ≤ (k : Int); first | omega | assumption, by rw [hp4]; omega, by rw [hp4]; exact fun x hx => by rw [hp3 x hx]; omega⟩, rfl, ⟨(by omega), by rw [hp4]; rfl⟩, ?_, ?_⟩
    · refine ⟨⟨by show (-9223372036854775808 : Int) ≤ ((k : Int) + 1); omega, by show ((k : Int) + 1) ≤ (9223372036854775807 : Int); omega⟩, ?_⟩
      exact ⟨rfl, lnS l - (k + 1), by omega, k + 1, by omega, rfl, rfl, rfl⟩
    · trivial
  · replace h0 : ¬ ((k : Int) < (((((l.getD 0 (0, ([], ()))).2).1).length : Nat) : Int)) := h0
    show (k : Nat) = lnS l
    omega
def QCo2 : List (Nat × SeqC) := (64, [.ref (.sl (.cons (.int .i64) (.cons .str .nil))), .rf [(63, [.ref (.sl (.cons (.int .i64) (.cons .str .nil)))])]], sCo2) :: []
def CCo2 : List (Nat × Con) := CPts
theorem kCo2 : Known Tryd.prog (En CCo2 tys G6 QCo2) := kPts.addSeq Tryd.func64 Tryd.call64 [.v (.int .i64), .v (.sl .u8)] fun ds p L h hp => by
  unfold sCo2 at h
  split at h <;> simp only [Option.some.injEq, Prod.mk.injEq, reduceCtorEq] at h
  obtain ⟨rfl, rfl⟩ := h
  exact bCo2 _ _ hp.1 hp.2.1 hp.2.2.1 hp.2.2.2.1 hp.2.2.2.2
end Go.Proofs.YtakbedmeieeekaaDoor.S26

namespace Go.Proofs.YtakbedmeieeekaaDoor.S26
open Go Go.Proofs.YtakbedmeieeekaaDoor.Vc Go.Proofs
set_option maxRecDepth 100000
set_option linter.unusedVariables false

def sCol : List V → Option (Prop × V × List Blk)
  | [.sl false (.cons (.int .i64) (.cons .str .nil)) l] => some (True, .fn 64 [.ptr 0 1 0 0, .ptr 1 1 0 0], [.cells [.sl false (.cons (.int .i64) (.cons .str .nil)) (l)], .cells [.fn 63 [.ptr 0 1 0 0]]])
  | _ => none
set_option maxHeartbeats 1000000 in
theorem bCol (l : List (Int × (List UInt8 × Unit)))  : bodyI (En CCo2 tys G6 QCo2) Tryd.f45 [.c []] [.sl false (.cons (.int .i64) (.cons .str .nil)) l] (.fn 64 [.ptr 0 1 0 0, .ptr 1 1 0 0]) [.cells [.sl false (.cons (.int .i64) (.cons .str .nil)) (l)], .cells [.fn 63 [.ptr 0 1 0 0]]] := by
  refine ⟨⟨rfl, rfl, rfl⟩, ?_⟩
  exact ⟨rfl, rfl, rfl, rfl⟩
def CCol : List (Nat × Con) := (45, immC [.v (.sl (.cons (.int .i64) (.cons .str .nil)))] sCol) :: CCo2
theorem kCol : Known Tryd.prog (En CCol tys G6 QCo2) := kCo2.addI Tryd.func45 Tryd.call45 [.c []] fun ds p v bs h hp => by
  unfold sCol at h
  split at h <;> simp only [Option.some.injEq, Prod.mk.injEq, reduceCtorEq] at h
  obtain ⟨rfl, rfl, rfl⟩ := h
  exact bCol _
def sjoi : List V → Option (Prop × V × List Blk)
  | [.sl false (.cons (.int .i64) (.cons .str .nil)) l, .int .i64 nd, .u8 x] => some (chkE l = 0 ∧ 1 ≤ nd ∧ nd ≤ 12, .tup [.str (jnS l nd x), .int .i64 (jnE l nd)], [])
  | _ => none
set_option maxHeartbeats 2000000 in
theorem bjoi (l : List (Int × (List UInt8 × Unit))) (nd : Int) (x : UInt8) (hp0 : chkE l = 0) (hp1 : 1 ≤ nd) (hp2 : nd ≤ 12) : bodyP (En CCol tys G6 QCo2) Tryd.f39 [.k, .k] [.sl false (.cons (.int .i64) (.cons .str .nil)) l, .int .i64 nd, .u8 x] (.tup [.str (jnS l nd x), .int .i64 (jnE l nd)]) [] := by
  have hc := chk0 hp0
  have hcl := hc.len
  have hcm := hc.max
  have hcb := hc.bytes
  have hch := hc.house
  refine ⟨fun h0 => ?_, fun h0 => ?_⟩
  · replace h0 : (l.length : Int) < nd := h0
    refine ⟨⟨rfl, rfl, rfl⟩, ⟨rfl, rfl, rfl⟩, ?_⟩
    have e : jnE l nd = 29 := jn29 h0
    rw [jnSn (by rw [e]; decide), e]
    exact ⟨rfl, rfl, rfl, rfl⟩
  · replace h0 : ¬ ((l.length : Int) < nd) := h0
    refine ⟨trivial, rfl, rfl, ⟨⟨by show 1 ≤ l.length; first | omega | assumption, by show l.length ≤ 1048576; first | omega | assumption, by show lnS l ≤ 1048576; first | omega | assumption, hcb, rfl⟩, fun _ _ => rfl⟩, 9, [(3, .k), (4, .k), (5, .k), (6, .k), (7, .k), (8, .c [(0, .u8)])], fun n vs H => n ≤ lnS l ∧ (∀ i, i < n → (tpL (xsL l) (ysL l i) (nd - 1)).2 = 0) ∧ vs = [.ptr 0 1 0 0, .ptr 1 1 0 0, .ptr 2 1 0 0, .ptr 3 1 0 0, .ptr 4 1 0 0, .ptr 5 1 0 0] ∧ H = [.cells [.sl false (.cons (.int .i64) (.cons .str .nil)) l], .cells [.int .i64 nd], .cells [.u8 x], .cells [.str ([])], .cells [.int .i64 0], .cells [.own .u8 8], .dead, .dead, .row true .u8 (jnK l nd x n)], ⟨rfl, by omega, fun i h => absurd h (Nat.not_lt_zero i), rfl, rfl⟩, ?_, ?_⟩
    · rintro n vs H ⟨hc1_0, hc1_1, rfl, rfl⟩ hn1
      replace hn1 : n < lnS l := hn1
      have hjl := jnK_len l nd x n
      refine ⟨by kernel_rfl, ⟨by show l.length ≤ 1048576; first | omega | assumption, by assumption⟩, ⟨by show (-9223372036854775808 : Int) ≤ (nd - 1); omega, by show (nd - 1) ≤ (9223372036854775807 : Int); omega⟩, rfl, ⟨by show (xsL l).length ≤ 10000; rw [xsL_len]; omega, by show (ysL l n).length ≤ 10000; rw [ysL_len]; omega⟩, fun h1 => ?_, fun h1 => ?_⟩
      · replace h1 : ((tpL (xsL l) (ysL l n) (nd - 1)).2) ≠ 0 := h1
        refine ⟨⟨rfl, rfl, rfl⟩, ⟨rfl, rfl, rfl⟩, rfl, rfl, ?_⟩
        have e : jnE l nd = 14 := jn14 h0 hn1 h1
        rw [jnSn (by rw [e]; decide), e]
        exact ⟨rfl, rfl, rfl, rfl⟩
      · replace h1 : ¬ (((tpL (xsL l) (ysL l n) (nd - 1)).2) ≠ 0) := h1
        refine ⟨by kernel_rfl, by show ((tpL (xsL l) (ysL l n) (nd - 1)).1).length ≤ 1000000; have := tp_len (xsL l) (ysL l n) (nd - 1); rw [xsL_len] at this; omega, ⟨rfl, rfl⟩, by show (jnK l nd x n).length + ([horner x ((tpL (xsL l) (ysL l n) (nd - 1)).1)] : List UInt8).length ≤ 1000000000; simp only [List.length_cons, List.length_nil]; omega, ⟨rfl, rfl, rfl⟩, ?_⟩
        exact ⟨rfl, rfl, by omega, up_next (P := fun i => (tpL (xsL l) (ysL l i) (nd - 1)).2 = 0) hc1_1 (Classical.not_not.1 h1), rfl, by rw [jnK_snoc]; rfl⟩
    · rintro vs H ⟨hc1_0, hc1_1, rfl, rfl⟩
      refine ⟨⟨rfl, rfl, rfl⟩, ⟨rfl, rfl, rfl⟩, ?_⟩
      have e := jn0 h0 hc1_1
      rw [jnS0 e, e]
      exact ⟨rfl, rfl, rfl, rfl⟩
def Cjoi : List (Nat × Con) := (39, pureC [.v (.sl (.cons (.int .i64) (.cons .str .nil))), .v (.int .i64), .v .u8] sjoi) :: CCol
theorem kjoi : Known Tryd.prog (En Cjoi tys G6 QCo2) := kCol.add Tryd.func39 Tryd.call39 [.k, .k] fun ds p v bs h hp => by
  unfold sjoi at h
  split at h <;> simp only [Option.some.injEq, Prod.mk.injEq, reduceCtorEq] at h
  obtain ⟨rfl, rfl, rfl⟩ := h
  exact bjoi _ _ _ hp.1 hp.2.1 hp.2.2
end Go.Proofs.YtakbedmeieeekaaDoor.S26

namespace Go.Proofs.YtakbedmeieeekaaDoor.S26
open Go Go.Proofs.YtakbedmeieeekaaDoor.Vc Go.Proofs
set_option maxRecDepth 100000
set_option linter.unusedVariables false

def srdy : List V → Option (Prop × V × List Blk)
  | [.sl false (.cons (.int .i64) (.cons .str .nil)) l, .int .i64 nd] => some (l.length ≤ 1048576, .int .i64 (rdE l nd), [])
  | _ => none
set_option maxHeartbeats 1000000 in
theorem brdy (l : List (Int × (List UInt8 × Unit))) (nd : Int) (hp0 : l.length ≤ 1048576) : bodyP (En Cjoi tys G6 QCo2) Tryd.f38 [.k] [.sl false (.cons (.int .i64) (.cons .str .nil)) l, .int .i64 nd] (.int .i64 (rdE l nd)) [] := by
  refine ⟨by show l.length ≤ 1048576; first | omega | assumption, fun h0 => ?_, fun h0 => ?_⟩
  · replace h0 : (chkE l) ≠ 0 := h0
    rw [show rdE l nd = chkE l from if_neg h0]
    exact ⟨rfl, rfl, rfl, rfl⟩
  · replace h0 : ¬ ((chkE l) ≠ 0) := h0
    refine ⟨fun h1 => ?_, fun h1 => ?_⟩
    · replace h1 : ¬ (nd < 1) := h1
      refine ⟨fun h2 => ?_, fun h2 => ?_⟩
      · replace h2 : 12 < nd := h2
        rw [show rdE l nd = 3 by unfold rdE; rw [if_pos (Classical.not_not.1 h0), if_pos (by omega)]]
        exact ⟨rfl, rfl, rfl, rfl⟩
      · replace h2 : ¬ (12 < nd) := h2
        rw [show rdE l nd = 0 by unfold rdE; rw [if_pos (Classical.not_not.1 h0), if_neg (by omega)]]
        exact ⟨rfl, rfl, rfl, rfl⟩
    · replace h1 : nd < 1 := h1
      rw [show rdE l nd = 3 by unfold rdE; rw [if_pos (Classical.not_not.1 h0), if_pos (by omega)]]
      exact ⟨rfl, rfl, rfl, rfl⟩
def Crdy : List (Nat × Con) := (38, pureC [.v (.sl (.cons (.int .i64) (.cons .str .nil))), .v (.int .i64)] srdy) :: Cjoi
theorem krdy : Known Tryd.prog (En Crdy tys G6 QCo2) := kjoi.add Tryd.func38 Tryd.call38 [.k] fun ds p v bs h hp => by
  unfold srdy at h
  split at h <;> simp only [Option.some.injEq, Prod.mk.injEq, reduceCtorEq] at h
  obtain ⟨rfl, rfl, rfl⟩ := h
  exact brdy _ _ hp
def sJoi : List V → Option (Prop × V × List Blk)
  | [.sl false (.cons (.int .i64) (.cons .str .nil)) l, .int .i64 nd] => some (l.length ≤ 1048576, .tup [.str (joS l nd 0), .int .i64 (joE l nd)], [])
  | _ => none
set_option maxHeartbeats 1000000 in
theorem bJoi (l : List (Int × (List UInt8 × Unit))) (nd : Int) (hp0 : l.length ≤ 1048576) : bodyP (En Crdy tys G6 QCo2) Tryd.f17 [.k, .k] [.sl false (.cons (.int .i64) (.cons .str .nil)) l, .int .i64 nd] (.tup [.str (joS l nd 0), .int .i64 (joE l nd)]) [] := by
  refine ⟨rfl, by show l.length ≤ 1048576; first | omega | assumption, fun h0 => ?_, fun h0 => ?_⟩
  · replace h0 : (rdE l nd) ≠ 0 := h0
    rw [show joE l nd = rdE l nd from if_neg h0, show joS l nd 0 = [] from if_neg h0]
    exact ⟨rfl, rfl, rfl, rfl⟩
  · replace h0 : ¬ ((rdE l nd) ≠ 0) := h0
    have r := Classical.not_not.1 h0
    obtain ⟨r1, r2, r3⟩ := rd0 r
    have hrl := (chk0 r1).len
    refine ⟨rfl, ⟨by show chkE l = 0; first | omega | assumption, by show 1 ≤ nd; first | omega | assumption, by show nd ≤ 12; first | omega | assumption⟩, ?_⟩
    rw [show joE l nd = jnE l nd from if_pos r, show joS l nd 0 = jnS l nd 0 from if_pos r]
    exact ⟨rfl, rfl, rfl, rfl⟩
def CJoi : List (Nat × Con) := (17, pureC [.v (.sl (.cons (.int .i64) (.cons .str .nil))), .v (.int .i64)] sJoi) :: Crdy
theorem kJoi : Known Tryd.prog (En CJoi tys G6 QCo2) := krdy.add Tryd.func17 Tryd.call17 [.k, .k] fun ds p v bs h hp => by
  unfold sJoi at h
  split at h <;> simp only [Option.some.injEq, Prod.mk.injEq, reduceCtorEq] at h
  obtain ⟨rfl, rfl, rfl⟩ := h
  exact bJoi _ _ hp
def sExt : List V → Option (Prop × V × List Blk)
  | [.sl false (.cons (.int .i64) (.cons .str .nil)) l, .int .i64 nd, .int .i64 h] => some (l.length ≤ 1048576, .tup [.agg [.int .i64 (exH l nd h), .str (exS l nd h)], .int .i64 (exE l nd h)], [])
  | _ => none
set_option maxHeartbeats 1000000 in
theorem bExt (l : List (Int × (List UInt8 × Unit))) (nd : Int) (h : Int) (hp0 : l.length ≤ 1048576) : bodyP (En CJoi tys G6 QCo2) Tryd.f19 [.k, .k] [.sl false (.cons (.int .i64) (.cons .str .nil)) l, .int .i64 nd, .int .i64 h] (.tup [.agg [.int .i64 (exH l nd h), .str (exS l nd h)], .int .i64 (exE l nd h)]) [] := by
  refine ⟨rfl, by show l.length ≤ 1048576; first | omega | assumption, fun h0 => ?_, fun h0 => ?_⟩
  · replace h0 : (rdE l nd) ≠ 0 := h0
    refine ⟨⟨rfl, rfl, rfl, Nat.le_of_ble_eq_true rfl⟩, ?_⟩
    have e : exE l nd h = rdE l nd := by unfold exE; rw [if_neg h0]
    rw [exH, if_neg (by rw [e]; exact h0), exS, if_neg (by rw [e]; exact h0), e]
    exact ⟨rfl, rfl, rfl, rfl⟩
  · replace h0 : ¬ ((rdE l nd) ≠ 0) := h0
    have r := Classical.not_not.1 h0
    obtain ⟨r1, r2, r3⟩ := rd0 r
    have hrl := (chk0 r1).len
    refine ⟨rfl, trivial, fun h1 => ?_, fun h1 => ?_⟩
    · replace h1 : ¬ (knw h) := h1
      refine ⟨⟨rfl, rfl, rfl, Nat.le_of_ble_eq_true rfl⟩, ?_⟩
      have e : exE l nd h = 1 := by unfold exE; rw [if_pos r, if_neg h1]
      rw [exH, if_neg (by rw [e]; exact (by decide)), exS, if_neg (by rw [e]; exact (by decide)), e]
      exact ⟨rfl, rfl, rfl, rfl⟩
    · replace h1 : ¬ (¬ (knw h)) := h1
      have k0 := Classical.not_not.1 h1
      obtain ⟨k1, k2⟩ := id k0
      refine ⟨rfl, ⟨by show 0 ≤ h; first | omega | assumption, by show h < 1000000; first | omega | assumption⟩, rfl, ⟨by show chkE l = 0; first | omega | assumption, by show 1 ≤ nd; first | omega | assumption, by show nd ≤ 12; first | omega | assumption⟩, fun h2 => ?_, fun h2 => ?_⟩
      · replace h2 : (jnE l nd) ≠ 0 := h2
        refine ⟨⟨rfl, rfl, rfl, Nat.le_of_ble_eq_true rfl⟩, ?_⟩
        have e : exE l nd h = jnE l nd := by unfold exE; rw [if_pos r, if_pos k0]
        rw [exH, if_neg (by rw [e]; exact h2), exS, if_neg (by rw [e]; exact h2), e]
        exact ⟨rfl, rfl, rfl, rfl⟩
      · replace h2 : ¬ ((jnE l nd) ≠ 0) := h2
        refine ⟨⟨rfl, rfl, rfl, Nat.le_of_ble_eq_true rfl⟩, ?_⟩
        have e : exE l nd h = 0 := by unfold exE; rw [if_pos r, if_pos k0]; exact Classical.not_not.1 h2
        rw [exH, if_pos e, exS, if_pos e, e]
        exact ⟨rfl, rfl, rfl, rfl⟩
def CExt : List (Nat × Con) := (19, pureC [.v (.sl (.cons (.int .i64) (.cons .str .nil))), .v (.int .i64), .v (.int .i64)] sExt) :: CJoi
theorem kExt : Known Tryd.prog (En CExt tys G6 QCo2) := kJoi.add Tryd.func19 Tryd.call19 [.k, .k] fun ds p v bs h hp => by
  unfold sExt at h
  split at h <;> simp only [Option.some.injEq, Prod.mk.injEq, reduceCtorEq] at h
  obtain ⟨rfl, rfl, rfl⟩ := h
  exact bExt _ _ _ hp
def sAd : List V → Option (Prop × V × List Blk)
  | [.agg [.int .i64 ah, .str ab], .agg [.int .i64 bh, .str bb]] => some (ab.length ≤ 1048576 ∧ bb.length ≤ 1048576, .tup [.agg [.int .i64 (adH (ah, ab, ()) (bh, bb, ())), .str (adS (ah, ab, ()) (bh, bb, ()))], .int .i64 (adE (ah, ab, ()) (bh, bb, ()))], [])
  | _ => none
set_option maxHeartbeats 1000000 in
theorem bAd (ah : Int) (ab : List UInt8) (bh : Int) (bb : List UInt8) (hp0 : ab.length ≤ 1048576) (hp1 : bb.length ≤ 1048576) : bodyP (En CExt tys G6 QCo2) Tryd.f25 [.k, .k] [.agg [.int .i64 ah, .str ab], .agg [.int .i64 bh, .str bb]] (.tup [.agg [.int .i64 (adH (ah, ab, ()) (bh, bb, ())), .str (adS (ah, ab, ()) (bh, bb, ()))], .int .i64 (adE (ah, ab, ()) (bh, bb, ()))]) [] := by
  refine ⟨rfl, rfl, 4, [(2, .k), (3, .k), (4, .k), (11, .k), (12, .k), (13, .k)], fun nM vs H => ∃ (k : Nat), k ≤ 2 ∧ (∀ j, j < k → chkE [([(ah, ab, ()), (bh, bb, ())] : List (Int × (List UInt8 × Unit))).getD j (0, [], ())] = 0) ∧ nM = 2 - k ∧ vs = [.ptr 0 1 0 0, .ptr 1 1 0 0, .ptr 2 1 0 0, .own (.cons (.int .i64) (.cons .str .nil)) 3, .int .i64 ((([(ah, ab, ()), (bh, bb, ())] : List (Int × (List UInt8 × Unit))).length : Nat) : Int), .int .i64 (k : Int)] ∧ H = [.cells [.int .i64 ah, .str ab], .cells [.int .i64 bh, .str bb], .cells [.int .i64 0, .str ([])], .row true (.cons (.int .i64) (.cons .str .nil)) ([(ah, ab, ()), (bh, bb, ())] : List (Int × (List UInt8 × Unit)))], ⟨rfl, 2, 0, by omega, fun i h => absurd h (Nat.not_lt_zero i), by omega, rfl, rfl⟩, ?_⟩
  rintro nM vs H ⟨k, hc1_0, hc1_1, rfl, rfl, rfl⟩
  refine ⟨fun h0 => ?_, fun h0 => ?_⟩
  · replace h0 : (k : Int) < ((([(ah, ab, ()), (bh, bb, ())] : List (Int × (List UInt8 × Unit))).length : Nat) : Int) := h0
    have hk2 : (k : Int) < ((2 : Nat) : Int) := h0
    have hk : k = 0 ∨ k = 1 := by omega
    have hll : ([(ah, ab, ()), (bh, bb, ())] : List (Int × (List UInt8 × Unit))).length = 2 := rfl
    refine ⟨⟨by show (0 : Int) ≤ (k : Int); omega, by show (k : Int) < (([(ah, ab, ()), (bh, bb, ())] : List (Int × (List UInt8 × Unit))).length : Int); omega⟩, ⟨rfl, rfl, rfl, Nat.le_of_ble_eq_true rfl⟩, rfl, by show ([((([(ah, ab, ()), (bh, bb, ())] : List (Int × (List UInt8 × Unit))).getD k (0, ([], ()))).1, ((([(ah, ab, ()), (bh, bb, ())] : List (Int × (List UInt8 × Unit))).getD k (0, ([], ()))).2).1, ())] : List (Int × (List UInt8 × Unit))).length ≤ 1048576; first | omega | assumption | (simp only [List.length_cons, List.length_nil, List.length_append, List.length_take, List.length_drop, List.length_set, List.length_replicate]; omega), fun h1 => ?_, fun h1 => ?_⟩
    · replace h1 : (chkE ([((([(ah, ab, ()), (bh, bb, ())] : List (Int × (List UInt8 × Unit))).getD k (0, ([], ()))).1, ((([(ah, ab, ()), (bh, bb, ())] : List (Int × (List UInt8 × Unit))).getD k (0, ([], ()))).2).1, ())] : List (Int × (List UInt8 × Unit)))) ≠ 0 := h1
      refine ⟨⟨rfl, rfl, rfl, Nat.le_of_ble_eq_true rfl⟩, ?_⟩
      rcases hk with rfl | rfl
      · replace h1 : chkE [(ah, ab, ())] ≠ 0 := h1
        have e : adE (ah, ab, ()) (bh, bb, ()) = chkE [(ah, ab, ())] := by unfold adE; rw [if_neg h1]
        rw [adH, if_neg (by rw [e]; exact h1), adS, if_neg (by rw [e]; exact h1), e]
        exact ⟨rfl, rfl, rfl, rfl⟩
      · replace h1 : chkE [(bh, bb, ())] ≠ 0 := h1
        have ca : chkE [(ah, ab, ())] = 0 := hc1_1 0 (by omega)
        have e : adE (ah, ab, ()) (bh, bb, ()) = chkE [(bh, bb, ())] := by unfold adE; rw [if_pos ca, if_neg h1]
        rw [adH, if_neg (by rw [e]; exact h1), adS, if_neg (by rw [e]; exact h1), e]
        exact ⟨rfl, rfl, rfl, rfl⟩
    · replace h1 : ¬ ((chkE ([((([(ah, ab, ()), (bh, bb, ())] : List (Int × (List UInt8 × Unit))).getD k (0, ([], ()))).1, ((([(ah, ab, ()), (bh, bb, ())] : List (Int × (List UInt8 × Unit))).getD k (0, ([], ()))).2).1, ())] : List (Int × (List UInt8 × Unit)))) ≠ 0) := h1
      refine ⟨⟨by show (-9223372036854775808 : Int) ≤ ((k : Int) + 1); omega, by show ((k : Int) + 1) ≤ (9223372036854775807 : Int); omega⟩, ?_⟩
      exact ⟨rfl, 2 - (k + 1), by omega, k + 1, by omega, up_next (P := fun j => chkE [([(ah, ab, ()), (bh, bb, ())] : List (Int × (List UInt8 × Unit))).getD j (0, [], ())] = 0) hc1_1 (Classical.not_not.1 h1), rfl, rfl, rfl⟩
  · replace h0 : ¬ ((k : Int) < ((([(ah, ab, ()), (bh, bb, ())] : List (Int × (List UInt8 × Unit))).length : Nat) : Int)) := h0
    have hk2 : ¬ (k : Int) < ((2 : Nat) : Int) := h0
    have ca : chkE [(ah, ab, ())] = 0 := hc1_1 0 (by omega)
    have cb : chkE [(bh, bb, ())] = 0 := hc1_1 1 (by omega)
    refine ⟨fun h2 => ?_, fun h2 => ?_⟩
    · replace h2 : ¬ (ah ≠ bh) := h2
      refine ⟨fun h3 => ?_, fun h3 => ?_⟩
      · replace h3 : (ab.length : Int) ≠ (bb.length : Int) := h3
        refine ⟨⟨rfl, rfl, rfl, Nat.le_of_ble_eq_true rfl⟩, ?_⟩
        have e : adE (ah, ab, ()) (bh, bb, ()) = 1 := by unfold adE; rw [if_pos ca, if_pos cb, if_neg (fun g => h3 (by rw [g.2]))]
        rw [adH, if_neg (by rw [e]; exact (by decide)), adS, if_neg (by rw [e]; exact (by decide)), e]
        exact ⟨rfl, rfl, rfl, rfl⟩
      · replace h3 : ¬ ((ab.length : Int) ≠ (bb.length : Int)) := h3
        refine ⟨by kernel_rfl, ⟨by show ab.length ≤ 1000000000; first | omega | assumption, by show bb.length ≤ 1000000000; first | omega | assumption⟩, ⟨rfl, rfl, rfl, Nat.le_of_ble_eq_true rfl⟩, ?_⟩
        have e : adE (ah, ab, ()) (bh, bb, ()) = 0 := by unfold adE; rw [if_pos ca, if_pos cb, if_pos ⟨Classical.not_not.1 h2, by show ab.length = bb.length; omega⟩]
        rw [adH, if_pos e, adS, if_pos e, e]
        exact ⟨rfl, rfl, rfl, rfl⟩
    · replace h2 : ah ≠ bh := h2
      refine ⟨⟨rfl, rfl, rfl, Nat.le_of_ble_eq_true rfl⟩, ?_⟩
      have e : adE (ah, ab, ()) (bh, bb, ()) = 1 := by unfold adE; rw [if_pos ca, if_pos cb, if_neg (fun g => h2 g.1)]
      rw [adH, if_neg (by rw [e]; exact (by decide)), adS, if_neg (by rw [e]; exact (by decide)), e]
      exact ⟨rfl, rfl, rfl, rfl⟩
def CAd : List (Nat × Con) := (25, pureC [.v (.cons (.int .i64) (.cons .str .nil)), .v (.cons (.int .i64) (.cons .str .nil))] sAd) :: CExt
theorem kAd : Known Tryd.prog (En CAd tys G6 QCo2) := kExt.add Tryd.func25 Tryd.call25 [.k, .k] fun ds p v bs h hp => by
  unfold sAd at h
  split at h <;> simp only [Option.some.injEq, Prod.mk.injEq, reduceCtorEq] at h
  obtain ⟨rfl, rfl, rfl⟩ := h
  exact bAd _ _ _ _ hp.1 hp.2
def sFit : List V → Option (Prop × V × List Blk)
  | [.sl false (.cons (.int .i64) (.cons .str .nil)) l, .int .i64 nd, .str s] => some (l.length ≤ 1048576 ∧ s.length ≤ 1048576, .tup [.int .i64 (ftN l nd s), .b (ftP l nd s)], [])
  | _ => none
set_option maxHeartbeats 1000000 in
theorem bFit (l : List (Int × (List UInt8 × Unit))) (nd : Int) (s : List UInt8) (hp0 : l.length ≤ 1048576) (hp1 : s.length ≤ 1048576) : bodyP (En CAd tys G6 QCo2) Tryd.f21 [.k, .k] [.sl false (.cons (.int .i64) (.cons .str .nil)) l, .int .i64 nd, .str s] (.tup [.int .i64 (ftN l nd s), .b (ftP l nd s)]) [] := by
  refine ⟨rfl, by show l.length ≤ 1048576; first | omega | assumption, fun h0 => ?_, fun h0 => ?_⟩
  · replace h0 : ¬ ((rdE l nd) ≠ 0) := h0
    have r := Classical.not_not.1 h0
    obtain ⟨r1, r2, r3⟩ := rd0 r
    have hrl := (chk0 r1).len
    refine ⟨fun h1 => ?_, fun h1 => ?_⟩
    · replace h1 : ¬ (4096 < (s.length : Int)) := h1
      refine ⟨fun h2 => ?_, fun h2 => ?_⟩
      · replace h2 : 0 < (l.length : Int) := h2
        refine ⟨⟨by show (0 : Int) ≤ 0; omega, by show 0 < (l.length : Int); omega⟩, fun h3 => ?_, fun h3 => ?_⟩
        · replace h3 : (((((l.getD 0 (0, ([], ()))).2).1).length : Nat) : Int) ≠ (s.length : Int) := h3
          have e : ftN l nd s = 0 := if_neg (fun g => by rcases g.2.2.1 with q | q; (omega); (exact h3 (by show (((l.getD 0 _).2.1.length : Nat) : Int) = _; unfold lnS at q; omega)))
          have e2 : ftP l nd s = (false = true) := propext ⟨fun g => False.elim (by rcases g.2.2.1 with q | q; (omega); (exact h3 (by show (((l.getD 0 _).2.1.length : Nat) : Int) = _; unfold lnS at q; omega))), fun g => Bool.noConfusion g⟩
          rw [e, e2]
          exact ⟨rfl, rfl, rfl, rfl⟩
        · replace h3 : ¬ ((((((l.getD 0 (0, ([], ()))).2).1).length : Nat) : Int) ≠ (s.length : Int)) := h3
          refine ⟨⟨by show (-9223372036854775808 : Int) ≤ (nd - 1); omega, by show (nd - 1) ≤ (9223372036854775807 : Int); omega⟩, ⟨by show (-9223372036854775808 : Int) ≤ ((nd - 1) - (l.length : Int)); omega, by show ((nd - 1) - (l.length : Int)) ≤ (9223372036854775807 : Int); omega⟩, fun h4 => ?_, fun h4 => ?_⟩
          · replace h4 : 0 ≤ ((nd - 1) - (l.length : Int)) := h4
            obtain ⟨b1, b2⟩ := mul_bd (a := (nd - 1) - (l.length : Int)) (b := (s.length : Int)) (A := 12) (B := 4096) (by omega) (by omega) (by omega) (by omega)
            refine ⟨⟨by show (-9223372036854775808 : Int) ≤ (((nd - 1) - (l.length : Int)) * (s.length : Int)); omega, by show (((nd - 1) - (l.length : Int)) * (s.length : Int)) ≤ (9223372036854775807 : Int); omega⟩, ?_⟩
            have e : ftN l nd s = (nd - 1 - (l.length : Int)) * (s.length : Int) := if_pos ⟨r, by omega, .inr (by show (l.getD 0 _).2.1.length = _; omega), by omega⟩
            have e2 : ftP l nd s = (true = true) := propext ⟨fun _ => rfl, fun _ => ⟨r, by omega, .inr (by show (l.getD 0 _).2.1.length = _; omega), .inl (by omega)⟩⟩
            rw [e, e2]
            exact ⟨rfl, rfl, rfl, rfl⟩
          · replace h4 : ¬ (0 ≤ ((nd - 1) - (l.length : Int))) := h4
            refine ⟨rfl, ⟨by show chkE l = 0; first | omega | assumption, by show 1 ≤ nd; first | omega | assumption, by show nd ≤ 12; first | omega | assumption⟩, fun h5 => ?_, fun h5 => ?_⟩
            · replace h5 : (jnE l nd) = 0 := h5
              have e : ftN l nd s = 0 := if_neg (fun g => by have := g.2.2.2; omega)
              have e2 : ftP l nd s = (jnS l nd 0 = s) := propext ⟨fun g => (g.2.2.2.resolve_left (by omega)).2, fun g => ⟨r, by omega, .inr (by show (l.getD 0 _).2.1.length = _; omega), .inr ⟨h5, g⟩⟩⟩
              rw [e, e2]
              exact ⟨rfl, rfl, rfl, rfl⟩
            · replace h5 : ¬ ((jnE l nd) = 0) := h5
              have e : ftN l nd s = 0 := if_neg (fun g => by have := g.2.2.2; omega)
              have e2 : ftP l nd s = (false = true) := propext ⟨fun g => False.elim (by rcases g.2.2.2 with q | q; (omega); (exact h5 q.1)), fun g => Bool.noConfusion g⟩
              rw [e, e2]
              exact ⟨rfl, rfl, rfl, rfl⟩
      · replace h2 : ¬ (0 < (l.length : Int)) := h2
        refine ⟨⟨by show (-9223372036854775808 : Int) ≤ (nd - 1); omega, by show (nd - 1) ≤ (9223372036854775807 : Int); omega⟩, ⟨by show (-9223372036854775808 : Int) ≤ ((nd - 1) - (l.length : Int)); omega, by show ((nd - 1) - (l.length : Int)) ≤ (9223372036854775807 : Int); omega⟩, fun h6 => ?_, fun h6 => ?_⟩
        · replace h6 : 0 ≤ ((nd - 1) - (l.length : Int)) := h6
          obtain ⟨b1, b2⟩ := mul_bd (a := (nd - 1) - (l.length : Int)) (b := (s.length : Int)) (A := 12) (B := 4096) (by omega) (by omega) (by omega) (by omega)
          refine ⟨⟨by show (-9223372036854775808 : Int) ≤ (((nd - 1) - (l.length : Int)) * (s.length : Int)); omega, by show (((nd - 1) - (l.length : Int)) * (s.length : Int)) ≤ (9223372036854775807 : Int); omega⟩, ?_⟩
          have e : ftN l nd s = (nd - 1 - (l.length : Int)) * (s.length : Int) := if_pos ⟨r, by omega, .inl (by omega), by omega⟩
          have e2 : ftP l nd s = (true = true) := propext ⟨fun _ => rfl, fun _ => ⟨r, by omega, .inl (by omega), .inl (by omega)⟩⟩
          rw [e, e2]
          exact ⟨rfl, rfl, rfl, rfl⟩
        · replace h6 : ¬ (0 ≤ ((nd - 1) - (l.length : Int))) := h6
          refine ⟨rfl, ⟨by show chkE l = 0; first | omega | assumption, by show 1 ≤ nd; first | omega | assumption, by show nd ≤ 12; first | omega | assumption⟩, fun h7 => ?_, fun h7 => ?_⟩
          · replace h7 : (jnE l nd) = 0 := h7
            have e : ftN l nd s = 0 := if_neg (fun g => by have := g.2.2.2; omega)
            have e2 : ftP l nd s = (jnS l nd 0 = s) := propext ⟨fun g => (g.2.2.2.resolve_left (by omega)).2, fun g => ⟨r, by omega, .inl (by omega), .inr ⟨h7, g⟩⟩⟩
            rw [e, e2]
            exact ⟨rfl, rfl, rfl, rfl⟩
          · replace h7 : ¬ ((jnE l nd) = 0) := h7
            have e : ftN l nd s = 0 := if_neg (fun g => by have := g.2.2.2; omega)
            have e2 : ftP l nd s = (false = true) := propext ⟨fun g => False.elim (by rcases g.2.2.2 with q | q; (omega); (exact h7 q.1)), fun g => Bool.noConfusion g⟩
            rw [e, e2]
            exact ⟨rfl, rfl, rfl, rfl⟩
    · replace h1 : 4096 < (s.length : Int) := h1
      have e : ftN l nd s = 0 := if_neg (fun g => by have := g.2.1; omega)
      have e2 : ftP l nd s = (false = true) := propext ⟨fun g => False.elim (by have := g.2.1; omega), fun g => Bool.noConfusion g⟩
      rw [e, e2]
      exact ⟨rfl, rfl, rfl, rfl⟩
  · replace h0 : (rdE l nd) ≠ 0 := h0
    have e : ftN l nd s = 0 := if_neg (fun g => h0 g.1)
    have e2 : ftP l nd s = (false = true) := propext ⟨fun g => False.elim (h0 g.1), fun g => Bool.noConfusion g⟩
    rw [e, e2]
    exact ⟨rfl, rfl, rfl, rfl⟩
def CFit : List (Nat × Con) := (21, pureC [.v (.sl (.cons (.int .i64) (.cons .str .nil))), .v (.int .i64), .v .str] sFit) :: CAd
theorem kFit : Known Tryd.prog (En CFit tys G6 QCo2) := kAd.add Tryd.func21 Tryd.call21 [.k, .k] fun ds p v bs h hp => by
  unfold sFit at h
  split at h <;> simp only [Option.some.injEq, Prod.mk.injEq, reduceCtorEq] at h
  obtain ⟨rfl, rfl, rfl⟩ := h
  exact bFit _ _ _ hp.1 hp.2
end Go.Proofs.YtakbedmeieeekaaDoor.S26

namespace Go.Proofs.YtakbedmeieeekaaDoor.S26
open Go Go.Proofs.YtakbedmeieeekaaDoor.Vc Go.Proofs
set_option maxRecDepth 100000
set_option linter.unusedVariables false

def CKys : List (Nat × Con) := (50, keysC 72) :: CFit
theorem kKys : Known Tryd.prog (En CKys tys G6 QCo2) := kFit.keys Tryd.call50 keysLaw
def CSrt : List (Nat × Con) := (49, sortedC 72) :: CKys
theorem kSrt : Known Tryd.prog (En CSrt tys G6 QCo2) := kKys.sorted Tryd.call49 sortedLaw
def sRob : List V → Option (Prop × V × List Blk)
  | [.sl false (.cons (.int .i64) (.cons .str .nil)) l, .int .i64 nd, .int .i64 w] => some (l.length ≤ 1048576, .tup [.str (rbS l nd w), .own (.int .i64) 0, .int .i64 (rbE l nd w)], [.row true (.int .i64) (rbH l nd w)])
  | _ => none
set_option maxHeartbeats 4000000 in
theorem bRob (l : List (Int × (List UInt8 × Unit))) (nd : Int) (w : Int) (hp0 : l.length ≤ 1048576) : bodyP (En CSrt tys G6 QCo2) Tryd.f27 [.k, .o (.int .i64), .k] [.sl false (.cons (.int .i64) (.cons .str .nil)) l, .int .i64 nd, .int .i64 w] (.tup [.str (rbS l nd w), .own (.int .i64) 0, .int .i64 (rbE l nd w)]) [.row true (.int .i64) (rbH l nd w)] := by
  refine ⟨rfl, by show l.length ≤ 1048576; first | omega | assumption, fun h0 => ?_, fun h0 => ?_⟩
  · replace h0 : (rdE l nd) ≠ 0 := h0
    refine ⟨⟨rfl, rfl, rfl⟩, ⟨rfl, rfl, rfl⟩, ⟨rfl, rfl, rfl⟩, ?_⟩
    have e : rbE l nd w = rdE l nd := by exact if_neg h0
    obtain ⟨f1, f2⟩ := rbn (l := l) (nd := nd) (w := w) (by rw [e]; exact h0)
    rw [f1, f2, e]
    exact ⟨rfl, rfl, rfl, rfl⟩
  · replace h0 : ¬ ((rdE l nd) ≠ 0) := h0
    have r := Classical.not_not.1 h0
    obtain ⟨r1, r2, r3⟩ := rd0 r
    have hc := chk0 r1
    have hcl := hc.len
    have hcm := hc.max
    have hcb := hc.bytes
    have hch := hc.house
    refine ⟨fun h1 => ?_, fun h1 => ?_⟩
    · replace h1 : w < 0 := h1
      refine ⟨⟨rfl, rfl, rfl⟩, ⟨rfl, rfl, rfl⟩, ⟨rfl, rfl, rfl⟩, ?_⟩
      have e : rbE l nd w = 3 := by unfold rbE; rw [if_pos r, if_pos h1]
      obtain ⟨f1, f2⟩ := rbn (l := l) (nd := nd) (w := w) (by rw [e]; exact (by decide))
      rw [f1, f2, e]
      exact ⟨rfl, rfl, rfl, rfl⟩
    · replace h1 : ¬ (w < 0) := h1
      refine ⟨fun h2 => ?_, fun h2 => ?_⟩
      · replace h2 : ¬ ((l.length : Int) < w) := h2
        refine ⟨⟨by show (-9223372036854775808 : Int) ≤ (2 * w); omega, by show (2 * w) ≤ (9223372036854775807 : Int); omega⟩, ⟨by show (-9223372036854775808 : Int) ≤ (nd + (2 * w)); omega, by show (nd + (2 * w)) ≤ (9223372036854775807 : Int); omega⟩, fun h3 => ?_, fun h3 => ?_⟩
        · replace h3 : (l.length : Int) < (nd + (2 * w)) := h3
          refine ⟨⟨rfl, rfl, rfl⟩, ⟨rfl, rfl, rfl⟩, ⟨rfl, rfl, rfl⟩, ?_⟩
          have e : rbE l nd w = 29 := by unfold rbE; rw [if_pos r, if_neg h1, if_pos (.inr h3)]
          obtain ⟨f1, f2⟩ := rbn (l := l) (nd := nd) (w := w) (by rw [e]; exact (by decide))
          rw [f1, f2, e]
          exact ⟨rfl, rfl, rfl, rfl⟩
        · replace h3 : ¬ ((l.length : Int) < (nd + (2 * w))) := h3
          refine ⟨⟨rfl, rfl, rfl⟩, trivial, rfl, rfl, ⟨⟨by show 1 ≤ l.length; first | omega | assumption, by show l.length ≤ 1048576; first | omega | assumption, by show lnS l ≤ 1048576; first | omega | assumption, hcb, rfl⟩, fun _ _ => rfl⟩, 12, [(3, .k), (4, .k), (5, .k), (6, .k), (7, .k), (8, .k), (10, .c [(0, .u8)]), (11, .k)], fun n vs H => n ≤ lnS l ∧ (∀ i, i < n → (dcK l nd w i).2.2 = 0) ∧ vs = [.ptr 0 1 0 0, .ptr 1 1 0 0, .ptr 2 1 0 0, .ptr 3 1 0 0, .ptr 4 1 0 0, .ptr 5 1 0 0, .ptr 6 1 0 0, .ptr 8 1 0 0] ∧ H = [.cells [.sl false (.cons (.int .i64) (.cons .str .nil)) l], .cells [.int .i64 nd], .cells [.int .i64 w], .cells [.str ([])], .cells [.nils], .cells [.int .i64 0], .cells [.own .u8 11], .imap true .bool (oddK l nd w n), .cells [.mp .bool 7], .dead, .dead, .row true .u8 (rbK l nd w n)], ⟨rfl, by omega, fun i h => absurd h (Nat.not_lt_zero i), rfl, rfl⟩, ?_, ?_⟩
          · rintro n vs H ⟨hc1_0, hc1_1, rfl, rfl⟩ hn1
            replace hn1 : n < lnS l := hn1
            have hjl := rbK_len l nd w n
            have hol := odd_len (l := l) (nd := nd) (w := w) hcl n
            have hat := decT_at (xs := xsL l) (ys := ysL l n) (by rw [xsL_len]; omega) (nd - 1) w
            rw [xsL_len] at hat
            refine ⟨by kernel_rfl, ⟨by show l.length ≤ 1048576; first | omega | assumption, by assumption⟩, ⟨by show (-9223372036854775808 : Int) ≤ (nd - 1); omega, by show (nd - 1) ≤ (9223372036854775807 : Int); omega⟩, rfl, rfl, ⟨by show (xsL l).length ≤ 10000; rw [xsL_len]; omega, by show (ysL l n).length ≤ 10000; rw [ysL_len]; omega, dec_isSome _ _ (by show (xsL l).length ≤ 10000; rw [xsL_len]; omega) _ _⟩, fun h4 => ?_, fun h4 => ?_⟩
            · replace h4 : ((decT (xsL l) (ysL l n) (nd - 1) w).2.2) ≠ 0 := h4
              refine ⟨⟨rfl, rfl, rfl⟩, ⟨rfl, rfl, rfl⟩, ⟨rfl, rfl, rfl⟩, rfl, rfl, ?_⟩
              have e : rbE l nd w = 17 := by exact rb17 r h1 h2 h3 hn1 h4
              obtain ⟨f1, f2⟩ := rbn (l := l) (nd := nd) (w := w) (by rw [e]; exact (by decide))
              rw [f1, f2, e]
              exact ⟨rfl, rfl, rfl, rfl⟩
            · replace h4 : ¬ (((decT (xsL l) (ysL l n) (nd - 1) w).2.2) ≠ 0) := h4
              refine ⟨16, [(3, .k), (10, .k), (11, .k), (14, .k), (60, .k), (61, .k), (62, .k)], fun nM vs H => ∃ (i : Nat), i ≤ ((decT (xsL l) (ysL l n) (nd - 1) w).2.1).length ∧ nM = ((decT (xsL l) (ysL l n) (nd - 1) w).2.1).length - i ∧ vs = [.ptr 0 1 0 0, .ptr 6 1 0 0, .ptr 8 1 0 0, .own .u8 14, .own (.int .i64) 15, .int .i64 ((((decT (xsL l) (ysL l n) (nd - 1) w).2.1).length : Nat) : Int), .int .i64 (i : Int)] ∧ H = [.cells [.sl false (.cons (.int .i64) (.cons .str .nil)) l], .cells [.int .i64 nd], .cells [.int .i64 w], .cells [.str ([])], .cells [.nils], .cells [.int .i64 0], .cells [.own .u8 11], .imap true .bool (putA l (oddK l nd w n) (((decT (xsL l) (ysL l n) (nd - 1) w).2.1).take i)), .cells [.mp .bool 7], .dead, .dead, .row true .u8 (rbK l nd w n), .cells [.tup [], .ptr 0 1 0 0, .ptr 1 1 0 0, .ptr 2 1 0 0, .ptr 3 1 0 0, .ptr 4 1 0 0, .ptr 5 1 0 0, .ptr 6 1 0 0, .ptr 8 1 0 0], .row true .u8 (xsL l), .row true .u8 ((decT (xsL l) (ysL l n) (nd - 1) w).1), .row true (.int .i64) ((decT (xsL l) (ysL l n) (nd - 1) w).2.1)], ⟨rfl, ((decT (xsL l) (ysL l n) (nd - 1) w).2.1).length, 0, by omega, by omega, rfl, rfl⟩, ?_⟩
              rintro nM vs H ⟨i, hc2_0, rfl, rfl, rfl⟩
              have hpl := putA_len l (((decT (xsL l) (ysL l n) (nd - 1) w).2.1).take i) (oddK l nd w n)
              rw [List.length_take] at hpl
              refine ⟨fun h5 => ?_, fun h5 => ?_⟩
              · replace h5 : (i : Int) < ((((decT (xsL l) (ysL l n) (nd - 1) w).2.1).length : Nat) : Int) := h5
                have hi : i < ((decT (xsL l) (ysL l n) (nd - 1) w).2.1).length := by omega
                have hai := hat.2 _ (getD_mem 0 ((decT (xsL l) (ysL l n) (nd - 1) w).2.1) i hi)
                refine ⟨⟨by show (0 : Int) ≤ (i : Int); omega, by show (i : Int) < (((decT (xsL l) (ysL l n) (nd - 1) w).2.1).length : Int); omega⟩, by kernel_rfl, ⟨by show (0 : Int) ≤ (((decT (xsL l) (ysL l n) (nd - 1) w).2.1).getD i 0); omega, by show (((decT (xsL l) (ysL l n) (nd - 1) w).2.1).getD i 0) < (l.length : Int); omega⟩, true, Iff.rfl, ⟨rfl, by show (putA l (oddK l nd w n) (((decT (xsL l) (ysL l n) (nd - 1) w).2.1).take i)).length ≤ 1000000000; omega⟩, ⟨by show (-9223372036854775808 : Int) ≤ ((i : Int) + 1); omega, by show ((i : Int) + 1) ≤ (9223372036854775807 : Int); omega⟩, ?_⟩
                exact ⟨rfl, ((decT (xsL l) (ysL l n) (nd - 1) w).2.1).length - (i + 1), by omega, i + 1, by omega, rfl, rfl, by rw [putA_snoc _ _ _ _ hi]; rfl⟩
              · replace h5 : ¬ ((i : Int) < ((((decT (xsL l) (ysL l n) (nd - 1) w).2.1).length : Nat) : Int)) := h5
                refine ⟨by kernel_rfl, by show ((decT (xsL l) (ysL l n) (nd - 1) w).1).length ≤ 1000000; exact Nat.le_trans (decT_plen (by rw [xsL_len]; omega) _ _ (by omega)) (by omega), ⟨rfl, rfl⟩, by show (rbK l nd w n).length + ([horner 0 ((decT (xsL l) (ysL l n) (nd - 1) w).1)] : List UInt8).length ≤ 1000000000; simp only [List.length_cons, List.length_nil]; omega, ⟨rfl, rfl, rfl⟩, ?_⟩
                exact ⟨rfl, rfl, by omega, up_next (P := fun i => (dcK l nd w i).2.2 = 0) hc1_1 (Classical.not_not.1 h4), rfl, by rw [rbK_snoc, show putA l (oddK l nd w n) (((decT (xsL l) (ysL l n) (nd - 1) w).2.1).take i) = oddK l nd w (n + 1) by rw [List.take_of_length_le (by omega)]; rfl]; rfl⟩
          · rintro vs H ⟨hc1_0, hc1_1, rfl, rfl⟩
            have hol := odd_len (l := l) (nd := nd) (w := w) hcl (lnS l)
            refine ⟨fun h6 => ?_, fun h6 => ?_⟩
            · replace h6 : w < (((oddK l nd w (lnS l)).length : Nat) : Int) := h6
              refine ⟨⟨rfl, rfl, rfl⟩, ⟨rfl, rfl, rfl⟩, ⟨rfl, rfl, rfl⟩, ?_⟩
              have e : rbE l nd w = 17 := by rw [rb0 r h1 h2 h3 hc1_1, if_pos h6]
              obtain ⟨f1, f2⟩ := rbn (l := l) (nd := nd) (w := w) (by rw [e]; exact (by decide))
              rw [f1, f2, e]
              exact ⟨rfl, rfl, rfl, rfl⟩
            · replace h6 : ¬ (w < (((oddK l nd w (lnS l)).length : Nat) : Int)) := h6
              refine ⟨by kernel_rfl, by show (oddK l nd w (lnS l)).length ≤ 1000000; omega, ⟨rfl, rfl, rfl⟩, ⟨rfl, rfl, rfl⟩, ⟨rfl, rfl, rfl⟩, ?_⟩
              have e : rbE l nd w = 0 := by rw [rb0 r h1 h2 h3 hc1_1, if_neg h6]
              obtain ⟨f1, f2⟩ := rby e
              rw [f1, f2, e]
              exact ⟨rfl, rfl, rfl, rfl⟩
      · replace h2 : (l.length : Int) < w := h2
        refine ⟨⟨rfl, rfl, rfl⟩, ⟨rfl, rfl, rfl⟩, ⟨rfl, rfl, rfl⟩, ?_⟩
        have e : rbE l nd w = 29 := by unfold rbE; rw [if_pos r, if_neg h1, if_pos (.inl h2)]
        obtain ⟨f1, f2⟩ := rbn (l := l) (nd := nd) (w := w) (by rw [e]; exact (by decide))
        rw [f1, f2, e]
        exact ⟨rfl, rfl, rfl, rfl⟩
def CRob : List (Nat × Con) := (27, pureC [.v (.sl (.cons (.int .i64) (.cons .str .nil))), .v (.int .i64), .v (.int .i64)] sRob) :: CSrt
theorem kRob : Known Tryd.prog (En CRob tys G6 QCo2) := kSrt.add Tryd.func27 Tryd.call27 [.k, .o (.int .i64), .k] fun ds p v bs h hp => by
  unfold sRob at h
  split at h <;> simp only [Option.some.injEq, Prod.mk.injEq, reduceCtorEq] at h
  obtain ⟨rfl, rfl, rfl⟩ := h
  exact bRob _ _ _ hp
end Go.Proofs.YtakbedmeieeekaaDoor.S26

namespace Go.Proofs.YtakbedmeieeekaaDoor.S26
open Go Go.Proofs.YtakbedmeieeekaaDoor.Vc Go.Proofs
set_option maxRecDepth 100000

/-! ### the specification's own ways -/
/-- A value, with its powers. -/
def vlA (x : UInt8) : List UInt8 → UInt8 → UInt8 → UInt8
  | [], _, s => s
  | c :: p, w, s => vlA x p (mulL w x) (s ^^^ mulL c (mulL w x))
theorem vlA_ok (x : UInt8) : ∀ (p : List UInt8) (w s : UInt8), vlA x p w s = s ^^^ mulL (mulL w x) (horner x p)
  | [], w, s => by simp [vlA, horner, mul_zero']
  | c :: p, w, s => by
    rw [vlA, vlA_ok x p, horner, mulL_addr, mul_comm' c, mul_comm' (horner x p) x, ← mul_assoc']
    ac_rfl
theorem vl_ok (x c : UInt8) (p : List UInt8) : vlA x p 1 c = horner x (c :: p) := by
  rw [vlA_ok, one_mul', horner, mul_comm' x]; ac_rfl
theorem drop_one' (l : List UInt8) (k : Nat) (h : k < l.length) : l.drop k = l.getD k 0 :: l.drop (k + 1) := by
  rw [dropD 0 l k h]
theorem cfs_zero (nz : List UInt8) (n k : Nat) : cfs nz n 0 k = [] := rfl
theorem cfs_snoc (nz : List UInt8) (n m k : Nat) : cfs nz n (m + 1) k = cfs nz n m k ++ [nz.getD (m * n + k) 0] := by unfold cfs; rw [List.range_succ, List.map_append]; rfl
def shK (sec nz : List UInt8) (m : Nat) (x : UInt8) (k : Nat) : List UInt8 := (List.range k).map fun i => horner x (sec.getD i 0 :: cfs nz sec.length m i)
theorem shK_len (sec nz : List UInt8) (m : Nat) (x : UInt8) (k : Nat) : (shK sec nz m x k).length = k := by simp [shK]
theorem shK_snoc (sec nz : List UInt8) (m : Nat) (x : UInt8) (k : Nat) : shK sec nz m x (k + 1) = shK sec nz m x k ++ [horner x (sec.getD k 0 :: cfs nz sec.length m k)] := by unfold shK; rw [List.range_succ, List.map_append]; rfl
/-- A value between points. -/
def tmF (x xk : UInt8) (k : Nat) : List UInt8 → Nat → UInt8 → UInt8
  | [], _, t => t
  | b :: rest, i, t => tmF x xk k rest (i + 1) (if i ≠ k then mulL (mulL t (x ^^^ b)) (invL (xk ^^^ b)) else t)
def btF (x : UInt8) (xs ys : List UInt8) : Nat → Nat → UInt8 → UInt8
  | 0, _, s => s
  | f + 1, k, s => btF x xs ys f (k + 1) (s ^^^ tmF x (xs.getD k 0) k xs 0 (ys.getD k 0))
theorem tm_line (x xk : UInt8) (k : Nat) : ∀ (rest : List UInt8) (i : Nat) (p : List UInt8), tmF x xk k rest i (horner x p) = horner x (lnA xk k rest i p)
  | [], _, _ => rfl
  | b :: rest, i, p => by
    rw [tmF, lnA, ← tm_line x xk k rest (i + 1)]
    congr 1
    by_cases h : i ≠ k
    · rw [if_pos h, if_pos h, horner_prod, lin2_val, ← mul_assoc']
    · rw [if_neg h, if_neg h]
theorem bt_line (x : UInt8) (xs ys : List UInt8) : ∀ (f k : Nat) (out : List UInt8), btF x xs ys f k (horner x out) = horner x (lnO xs ys f k out)
  | 0, _, _ => rfl
  | f + 1, k, out => by
    rw [btF, lnO, ← bt_line x xs ys f (k + 1), horner_sum, ← tm_line, horner_const]
theorem bt_ok (x : UInt8) (xs ys : List UInt8) : btF x xs ys xs.length 0 0 = horner x (lineL xs ys) := bt_line x xs ys xs.length 0 []
theorem xsL_get {l : List (Int × List UInt8 × Unit)} {k : Nat} (h : k < l.length) : (xsL l).getD k 0 = pt (l.getD k (0, [], ())).1 := by
  simp [xsL, List.getD_eq_getElem?_getD, List.getElem?_eq_getElem h]
theorem ysL_get {l : List (Int × List UInt8 × Unit)} {k i : Nat} (h : i < l.length) : (ysL l k).getD i 0 = (l.getD i (0, [], ())).2.1.getD k 0 := by
  simp [ysL, List.getD_eq_getElem?_getD, List.getElem?_eq_getElem h]
/-- The values of a splitting whose shares these are. -/
def vlB (b : List (Int × List UInt8 × Unit)) (n : Nat) (x : UInt8) : List UInt8 := (List.range n).map fun k => horner x (lineL (xsL b) (ysL b k))
theorem vlB_len (b : List (Int × List UInt8 × Unit)) (n : Nat) (x : UInt8) : (vlB b n x).length = n := by simp [vlB]
theorem vlB_snoc (b : List (Int × List UInt8 × Unit)) (n : Nat) (x : UInt8) : vlB b (n + 1) x = vlB b n x ++ [horner x (lineL (xsL b) (ysL b n))] := by unfold vlB; rw [List.range_succ, List.map_append]; rfl
/-- The houses of shares that differ. -/
def dfB (b : List (Int × List UInt8 × Unit)) (n : Nat) (s : (Int × List UInt8 × Unit)) : Bool := decide (vlB b n (pt s.1) ≠ s.2.1)
def dfF (b : List (Int × List UInt8 × Unit)) (n : Nat) (l : List (Int × List UInt8 × Unit)) : List Int := (l.filter (dfB b n)).map (·.1)
theorem dfF_yes {b : List (Int × List UInt8 × Unit)} {n : Nat} {l : List (Int × List UInt8 × Unit)} {k : Nat} (hk : k < l.length) (h : vlB b n (pt (l.getD k (0, [], ())).1) ≠ (l.getD k (0, [], ())).2.1) : dfF b n (l.take (k + 1)) = dfF b n (l.take k) ++ [(l.getD k (0, [], ())).1] := by
  unfold dfF
  rw [takeD (0, [], ()) l k hk, List.filter_append, List.map_append, List.filter_cons, if_pos (show dfB b n (l.getD k (0, [], ())) = true from decide_eq_true h)]
  rfl
theorem dfF_no {b : List (Int × List UInt8 × Unit)} {n : Nat} {l : List (Int × List UInt8 × Unit)} {k : Nat} (hk : k < l.length) (h : ¬ vlB b n (pt (l.getD k (0, [], ())).1) ≠ (l.getD k (0, [], ())).2.1) : dfF b n (l.take (k + 1)) = dfF b n (l.take k) := by
  unfold dfF
  rw [takeD (0, [], ()) l k hk, List.filter_append, List.map_append, List.filter_cons, if_neg (show ¬ dfB b n (l.getD k (0, [], ())) = true from fun e => h (of_decide_eq_true e))]
  simp
theorem dfF_len (b : List (Int × List UInt8 × Unit)) (n : Nat) (l : List (Int × List UInt8 × Unit)) : (dfF b n l).length ≤ l.length := by unfold dfF; rw [List.length_map]; exact List.length_filter_le _ _
/-- What a choice of shares gives. -/
def cdE (l : List (Int × List UInt8 × Unit)) (nd w : Int) (b : List (Int × List UInt8 × Unit)) : Int := if w < ((dfF b (lnS l) l).length : Int) then 17 else 0
def cdR (l : List (Int × List UInt8 × Unit)) (nd w : Int) (b : List (Int × List UInt8 × Unit)) : List UInt8 × List Int × Int := if cdE l nd w b = 0 then (vlB b (lnS l) 0, dfF b (lnS l) l, 0) else ([], [], 17)
/-- The first choice that will do. -/
def cor (l : List (Int × List UInt8 × Unit)) (nd w : Int) : List (Int × List UInt8 × Unit) → List (Int × List UInt8 × Unit) → List UInt8 × List Int × Int
  | [], b => if (b.length : Int) = nd then cdR l nd w b else ([], [], 17)
  | s :: rest, b => if (b.length : Int) = nd then cdR l nd w b else if (cor l nd w rest (b ++ [s])).2.2 = 0 then cor l nd w rest (b ++ [s]) else cor l nd w rest b
theorem cor_at {l : List (Int × List UInt8 × Unit)} {nd w : Int} {b : List (Int × List UInt8 × Unit)} (h : (b.length : Int) = nd) : ∀ rest, cor l nd w rest b = cdR l nd w b
  | [] => if_pos h
  | _ :: _ => if_pos h
theorem cor_no {l : List (Int × List UInt8 × Unit)} {nd w : Int} : ∀ (rest b : List (Int × List UInt8 × Unit)), (cor l nd w rest b).2.2 ≠ 0 → cor l nd w rest b = ([], [], 17)
  | [], b => by
    unfold cor
    split
    · unfold cdR
      split
      · intro h; exact absurd rfl h
      · intro _; rfl
    · intro _; rfl
  | s :: rest, b => by
    unfold cor
    split
    · unfold cdR
      split
      · intro h; exact absurd rfl h
      · intro _; rfl
    · split
      · rename_i h; intro g; exact absurd h g
      · exact cor_no rest b
theorem cor_len {l : List (Int × List UInt8 × Unit)} {nd w : Int} : ∀ (rest b : List (Int × List UInt8 × Unit)), (cor l nd w rest b).1.length ≤ lnS l ∧ (cor l nd w rest b).2.1.length ≤ l.length := by
  have hc : ∀ b, (cdR l nd w b).1.length ≤ lnS l ∧ (cdR l nd w b).2.1.length ≤ l.length := fun b => by
    unfold cdR
    split
    · exact ⟨Nat.le_of_eq (vlB_len _ _ _), dfF_len _ _ _⟩
    · exact ⟨Nat.zero_le _, Nat.zero_le _⟩
  intro rest
  induction rest with
  | nil =>
    intro b
    unfold cor
    split
    · exact hc b
    · exact ⟨Nat.zero_le _, Nat.zero_le _⟩
  | cons s rest ih =>
    intro b
    unfold cor
    split
    · exact hc b
    · split
      · exact ih _
      · exact ih _
theorem cor_next {l : List (Int × List UInt8 × Unit)} {nd w : Int} {b : List (Int × List UInt8 × Unit)} (h : ¬ (b.length : Int) = nd) {k : Nat} (hk : k < l.length) : cor l nd w (l.drop k) b = if (cor l nd w (l.drop (k + 1)) (b ++ [l.getD k (0, [], ())])).2.2 = 0 then cor l nd w (l.drop (k + 1)) (b ++ [l.getD k (0, [], ())]) else cor l nd w (l.drop (k + 1)) b := by
  rw [dropD (0, [], ()) l k hk, cor, if_neg h]
def fwB (z : Int) (s : (Int × List UInt8 × Unit)) : Bool := decide (¬ (z < (s.2.1.length : Int) ∧ (s.2.1.length : Int) ≤ 4096) ∧ ¬ 5000 < (s.2.1.length : Int))
def fewS (l : List (Int × List UInt8 × Unit)) (z : Int) : Prop := (l.length : Int) ≤ 20 ∧ l.all (fwB z) = true
def rrR (l : List (Int × List UInt8 × Unit)) (nd w : Int) : List UInt8 × List Int × Int :=
  if rdE l nd = 0 then (if w < 0 then ([], [], 3) else if 12 < w ∨ (l.length : Int) < nd + 2 * w then ([], [], 29) else cor l nd w l []) else ([], [], rdE l nd)
/-! ### the statements' own helpers -/
def smK (l : List (Int × List UInt8 × Unit)) (s : Int) : Nat → List (Int × List UInt8 × Unit)
  | 0 => []
  | k + 1 => if s / 2 ^ k % 2 = 1 then smK l s k ++ [l.getD k (0, [], ())] else smK l s k
theorem smK_len (l : List (Int × List UInt8 × Unit)) (s : Int) : ∀ k, (smK l s k).length ≤ k
  | 0 => Nat.le_refl _
  | k + 1 => by
    have := smK_len l s k
    unfold smK
    split
    · rw [List.length_append, List.length_cons, List.length_nil]; omega
    · omega
def smlP (s : List UInt8) (hs : List Int) (n : Int) : Prop := ((s.length : Int) ≤ n ∨ (4096 < (s.length : Int) ∧ (s.length : Int) ≤ 5000)) ∧ (hs.length : Int) ≤ 20
end Go.Proofs.YtakbedmeieeekaaDoor.S26

namespace Go.Proofs.YtakbedmeieeekaaDoor.S26
open Go Go.Proofs.YtakbedmeieeekaaDoor.Vc Go.Proofs
set_option maxRecDepth 100000
set_option linter.unusedVariables false

theorem bRmulQ {l : List (Nat × Con)} {q : List (Nat × SeqC)} (a b : UInt8) : bodyP (En l tys G6 q) Tryd.f78 [.k] [.u8 a, .u8 b] (.u8 (rmulL a b)) [] := by
  have hat := a.toNat_lt
  have hbt := b.toNat_lt
  refine ⟨0, [(5, .k), (6, .k), (7, .k)], fun f vs H => ∃ x y s : Int, 0 ≤ x ∧ x < 256 ∧ 0 ≤ y ∧ y < 2 ^ f ∧ y < 256 ∧ 0 ≤ s ∧ s < 256 ∧ rmF f x y s = rmF 8 a.toNat b.toNat 0 ∧ vs = [.int .i64 x, .int .i64 y, .int .i64 s] ∧ H = [], ⟨rfl, 8, a.toNat, b.toNat, 0, by omega, by omega, by omega, by omega, by omega, by omega, by omega, rfl, rfl, rfl⟩, ?_⟩
  rintro f vs H ⟨x, y, s, hx0, hx, hy0, hyf, hy, hs0, hs, he, rfl, rfl⟩
  refine ⟨fun hn => ?_, fun hn => ?_⟩
  · cases f with
    | zero => exact absurd hyf (by omega)
    | succ f =>
    have hb : y / 2 < 2 ^ f := by rw [Int.pow_succ] at hyf; omega
    rw [show rmF (f + 1) x y s = _ from if_pos hn] at he
    have hd : (2 * x).toNat = 2 * x.toNat := by omega
    have hx' : 255 < 2 * x → (0 : Int) ≤ (((2 * x).toNat ^^^ 285 : Nat) : Int) ∧ (((2 * x).toNat ^^^ 285 : Nat) : Int) < 256 := fun h => by
      have := xor285 x.toNat (by omega) (by omega)
      rw [hd]
      omega
    have hs' : (0 : Int) ≤ ((s.toNat ^^^ x.toNat : Nat) : Int) ∧ ((s.toNat ^^^ x.toNat : Nat) : Int) < 256 := by
      have : s.toNat ^^^ x.toNat < 2 ^ 8 := Nat.xor_lt_two_pow (by omega) (by omega)
      omega
    have hy2 : 0 ≤ y / 2 := Int.ediv_nonneg hy0 (by omega)
    refine .inl ⟨⟨hy0, by omega⟩, ⟨?_, ?_⟩⟩
    · intro h1
      replace h1 : y % 2 = 1 := h1
      rw [if_pos h1] at he
      refine ⟨⟨hs0, hx0⟩, .inl ⟨⟨hy0, by omega⟩, ⟨⟨by omega, by omega⟩, fun h2 => ?_, fun h2 => ?_⟩⟩⟩
      · rw [if_pos h2] at he
        exact ⟨⟨by omega, by omega⟩, rfl, f, by omega, _, _, _, (hx' h2).1, (hx' h2).2, hy2, hb, by omega, hs'.1, hs'.2, he, rfl, rfl⟩
      · rw [if_neg h2] at he
        exact ⟨rfl, f, by omega, _, _, _, by omega, by omega, hy2, hb, by omega, hs'.1, hs'.2, he, rfl, rfl⟩
    · intro h1
      replace h1 : ¬ y % 2 = 1 := h1
      rw [if_neg h1] at he
      refine .inl ⟨⟨hy0, by omega⟩, ⟨⟨by omega, by omega⟩, fun h2 => ?_, fun h2 => ?_⟩⟩
      · rw [if_pos h2] at he
        exact ⟨⟨by omega, by omega⟩, rfl, f, by omega, _, _, _, (hx' h2).1, (hx' h2).2, hy2, hb, by omega, hs0, hs, he, rfl, rfl⟩
      · rw [if_neg h2] at he
        exact ⟨rfl, f, by omega, _, _, _, by omega, by omega, hy2, hb, by omega, hs0, hs, he, rfl, rfl⟩
  · have : y = 0 := by omega
    subst this
    have : rmF f x 0 s = s := by cases f <;> rfl
    rw [this] at he
    unfold rmulL
    rw [← he]
    exact ⟨rfl, rfl, rfl, rfl⟩

def sRMul : List V → Option (Prop × V × List Blk)
  | [.u8 a, .u8 b] => some (True, .u8 (mulL a b), [])
  | _ => none
set_option maxHeartbeats 1000000 in
theorem bRMul (a : UInt8) (b : UInt8)  : bodyP (En CRob tys G6 QCo2) Tryd.f78 [.k] [.u8 a, .u8 b] (.u8 (mulL a b)) [] := by
  rw [← mul_same]
  exact bRmulQ a b
def CRMul : List (Nat × Con) := (78, pureC [.v .u8, .v .u8] sRMul) :: CRob
theorem kRMul : Known Tryd.prog (En CRMul tys G6 QCo2) := kRob.add Tryd.func78 Tryd.call78 [.k] fun ds p v bs h hp => by
  unfold sRMul at h
  split at h <;> simp only [Option.some.injEq, Prod.mk.injEq, reduceCtorEq] at h
  obtain ⟨rfl, rfl, rfl⟩ := h
  exact bRMul _ _
def rinvM (a : UInt8) : Nat → Nat → UInt8
  | 0, _ => 0
  | f + 1, b => if mulL a (UInt8.ofNat b) = 1 then UInt8.ofNat b else rinvM a f (b + 1)
theorem rinvM_same (a : UInt8) : ∀ f b, rinvM a f b = rinvF a f b
  | 0, b => rfl
  | f + 1, b => by unfold rinvM rinvF; rw [mul_same, rinvM_same a f]
theorem rinvM_ok (a : UInt8) : rinvM a 255 1 = invL a := by rw [rinvM_same]; exact inv_same a
def sRInv : List V → Option (Prop × V × List Blk)
  | [.u8 a] => some (True, .u8 (invL a), [])
  | _ => none
set_option maxHeartbeats 1000000 in
theorem bRInv (a : UInt8)  : bodyP (En CRMul tys G6 QCo2) Tryd.f85 [.k] [.u8 a] (.u8 (invL a)) [] := by
  refine ⟨0, [(0, .k), (3, .k)], fun nM vs H => ∃ (b : Nat), 1 ≤ b ∧ b ≤ 256 ∧ rinvM a (256 - b) b = invL a ∧ nM = 256 - b ∧ vs = [.u8 a, .int .i64 (b : Int)] ∧ H = [], ⟨rfl, 255, 1, by omega, by omega, rinvM_ok a, by omega, rfl, rfl⟩, ?_⟩
  rintro nM vs H ⟨b, hc1_0, hc1_1, hc1_2, rfl, rfl, rfl⟩
  refine ⟨fun h0 => ?_, fun h0 => ?_⟩
  · replace h0 : (b : Int) < 256 := h0
    have hm : ((b : Int) % 256).toNat = b := by omega
    rw [show 256 - b = (255 - b) + 1 by omega, rinvM] at hc1_2
    refine ⟨trivial, fun h1 => ?_, fun h1 => ?_⟩
    · replace h1 : (mulL a (UInt8.ofNat ((b : Int) % 256).toNat)) = 1 := h1
      rw [hm] at h1
      rw [if_pos h1] at hc1_2
      refine ⟨rfl, rfl, ?_, rfl⟩
      show V.u8 (UInt8.ofNat ((b : Int) % 256).toNat) = .u8 (invL a)
      rw [hm, hc1_2]
    · replace h1 : ¬ ((mulL a (UInt8.ofNat ((b : Int) % 256).toNat)) = 1) := h1
      rw [hm] at h1
      refine ⟨⟨by show (-9223372036854775808 : Int) ≤ ((b : Int) + 1); omega, by show ((b : Int) + 1) ≤ (9223372036854775807 : Int); omega⟩, ?_⟩
      rw [if_neg h1] at hc1_2
      exact ⟨rfl, 256 - (b + 1), by omega, b + 1, by omega, by omega, by rw [← hc1_2]; congr 1; omega, rfl, rfl, rfl⟩
  · replace h0 : ¬ ((b : Int) < 256) := h0
    have hb : b = 256 := by omega
    subst hb
    rw [← hc1_2]
    exact ⟨rfl, rfl, rfl, rfl⟩
def CRInv : List (Nat × Con) := (85, pureC [.v .u8] sRInv) :: CRMul
theorem kRInv : Known Tryd.prog (En CRInv tys G6 QCo2) := kRMul.add Tryd.func85 Tryd.call85 [.k] fun ds p v bs h hp => by
  unfold sRInv at h
  split at h <;> simp only [Option.some.injEq, Prod.mk.injEq, reduceCtorEq] at h
  obtain ⟨rfl, rfl, rfl⟩ := h
  exact bRInv _
end Go.Proofs.YtakbedmeieeekaaDoor.S26

namespace Go.Proofs.YtakbedmeieeekaaDoor.S26
open Go Go.Proofs.YtakbedmeieeekaaDoor.Vc Go.Proofs
set_option maxRecDepth 100000
def sumK (a b : List UInt8) (k : Nat) : List UInt8 := (List.range k).map fun i => co a i ^^^ co b i
theorem sumK_len (a b : List UInt8) (k : Nat) : (sumK a b k).length = k := by simp [sumK]
theorem sumK_snoc (a b : List UInt8) (k : Nat) : sumK a b (k + 1) = sumK a b k ++ [co a k ^^^ co b k] := by unfold sumK; rw [List.range_succ, List.map_append]; rfl
theorem sumK_all (a b : List UInt8) : sumK a b (max a.length b.length) = sumB a b := by
  refine ext_get (sumK_len _ _ _) (sum_len a b) fun k hk => ?_
  have e : (sumK a b (max a.length b.length)).getD k 0 = co a k ^^^ co b k := by simp [sumK, List.getD_eq_getElem?_getD, hk]
  have key : ∀ (a b : List UInt8), k < a.length → (sumF a b).getD k 0 = co a k ^^^ co b k := fun a b h => by
    have e : (sumF a b).getD k 0 = sumG a b k := by simp [sumF, List.getD_eq_getElem?_getD, h]
    rw [e]
    unfold sumG
    split
    · rfl
    · rw [co_ge b k (by omega)]; show a.getD k 0 = a.getD k 0 ^^^ 0; simp
  rw [e]
  unfold sumB
  split
  · rw [key b a (by omega), UInt8.xor_comm]
  · rw [key a b (by omega)]
end Go.Proofs.YtakbedmeieeekaaDoor.S26

namespace Go.Proofs.YtakbedmeieeekaaDoor.S26
open Go Go.Proofs.YtakbedmeieeekaaDoor.Vc Go.Proofs
set_option maxRecDepth 100000
set_option linter.unusedVariables false

def sR4a : List V → Option (Prop × V × List Blk)
  | [.str s, .int .i64 k] => some (0 ≤ k, .u8 (co s k.toNat), [])
  | _ => none
set_option maxHeartbeats 1000000 in
theorem bR4a (s : List UInt8) (k : Int) (hp0 : 0 ≤ k) : bodyP (En CRInv tys G6 QCo2) Tryd.f62 [.k] [.str s, .int .i64 k] (.u8 (co s k.toNat)) [] := by
  refine ⟨fun h0 => ?_, fun h0 => ?_⟩
  · replace h0 : k < (s.length : Int) := h0
    refine ⟨⟨by show (0 : Int) ≤ k; omega, by show k < (s.length : Int); omega⟩, ?_⟩
    exact ⟨rfl, rfl, rfl, rfl⟩
  · replace h0 : ¬ (k < (s.length : Int)) := h0
    rw [co_ge s k.toNat (by omega)]
    exact ⟨rfl, rfl, rfl, rfl⟩
def CR4a : List (Nat × Con) := (62, pureC [.v .str, .v (.int .i64)] sR4a) :: CRInv
theorem kR4a : Known Tryd.prog (En CR4a tys G6 QCo2) := kRInv.add Tryd.func62 Tryd.call62 [.k] fun ds p v bs h hp => by
  unfold sR4a at h
  split at h <;> simp only [Option.some.injEq, Prod.mk.injEq, reduceCtorEq] at h
  obtain ⟨rfl, rfl, rfl⟩ := h
  exact bR4a _ _ hp
def sR4s : List V → Option (Prop × V × List Blk)
  | [.str a, .str b] => some (a.length ≤ 1000000000 ∧ b.length ≤ 1000000000, .str (sumB a b), [])
  | _ => none
set_option maxHeartbeats 1000000 in
theorem bR4s (a : List UInt8) (b : List UInt8) (hp0 : a.length ≤ 1000000000) (hp1 : b.length ≤ 1000000000) : bodyP (En CR4a tys G6 QCo2) Tryd.f44 [.k] [.str a, .str b] (.str (sumB a b)) [] := by
  refine ⟨0, [(0, .k), (1, .k), (5, .o .u8), (6, .k)], fun nM vs H => ∃ (k : Nat), k ≤ max a.length b.length ∧ nM = max a.length b.length - k ∧ vs = [.str a, .str b, .own .u8 0, .int .i64 (k : Int)] ∧ H = [.row true .u8 (sumK a b k)], ⟨rfl, max a.length b.length, 0, by omega, by omega, rfl, rfl⟩, ?_⟩
  rintro nM vs H ⟨k, hc1_0, rfl, rfl, rfl⟩
  have hsl := sumK_len a b k
  refine ⟨fun h0 => ?_, fun h0 => ?_⟩
  · replace h0 : (k : Int) < (max (a.length : Int) (b.length : Int)) := h0
    refine ⟨rfl, by show 0 ≤ (k : Int); first | omega | assumption, rfl, by show 0 ≤ (k : Int); first | omega | assumption, ⟨rfl, rfl⟩, by show (sumK a b k).length + ([((co a (k : Int).toNat) ^^^ (co b (k : Int).toNat))] : List UInt8).length ≤ 1000000000; simp only [List.length_cons, List.length_nil]; omega, ⟨by show (-9223372036854775808 : Int) ≤ ((k : Int) + 1); omega, by show ((k : Int) + 1) ≤ (9223372036854775807 : Int); omega⟩, ?_⟩
    exact ⟨rfl, max a.length b.length - (k + 1), by omega, k + 1, by omega, rfl, rfl, by rw [sumK_snoc]; rfl⟩
  · replace h0 : ¬ ((k : Int) < (max (a.length : Int) (b.length : Int))) := h0
    rw [show sumB a b = sumK a b k by rw [← sumK_all]; congr 1; omega]
    exact ⟨rfl, rfl, rfl, rfl⟩
def CR4s : List (Nat × Con) := (44, pureC [.v .str, .v .str] sR4s) :: CR4a
theorem kR4s : Known Tryd.prog (En CR4s tys G6 QCo2) := kR4a.add Tryd.func44 Tryd.call44 [.k] fun ds p v bs h hp => by
  unfold sR4s at h
  split at h <;> simp only [Option.some.injEq, Prod.mk.injEq, reduceCtorEq] at h
  obtain ⟨rfl, rfl, rfl⟩ := h
  exact bR4s _ _ hp.1 hp.2
end Go.Proofs.YtakbedmeieeekaaDoor.S26

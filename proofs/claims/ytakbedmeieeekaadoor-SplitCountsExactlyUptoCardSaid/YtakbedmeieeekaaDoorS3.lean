/- Texts of this claim: S26.C1, S26.C2, S26.C3, S26.P6c, S26.C4, S26.Pe, S26.C5. -/
import Derived.Test.YtakbedmeieeekaaDoorS2
set_option linter.unusedVariables false
set_option linter.unusedSimpArgs false
namespace Go.Proofs.YtakbedmeieeekaaDoor.S26
open Go Go.Proofs.YtakbedmeieeekaaDoor.Vc Go.Proofs
set_option maxRecDepth 100000
set_option linter.unusedVariables false

def sRHo : List V → Option (Prop × V × List Blk)
  | [.int .i64 h] => some (True, .b (knw h), [])
  | _ => none
set_option maxHeartbeats 1000000 in
theorem bRHo (h : Int)  : bodyP (En CR4s tys G6 QCo2) Tryd.f36 [.k] [.int .i64 h] (.b (knw h)) [] := by
  refine ⟨fun h0 => ?_, fun h0 => ?_⟩
  · replace h0 : 0 ≤ h := h0
    exact ⟨rfl, rfl, congrArg V.b (propext (by unfold knw; constructor <;> intro g <;> first | omega | exact Bool.noConfusion g | (exfalso; omega))), rfl⟩
  · replace h0 : ¬ (0 ≤ h) := h0
    exact ⟨rfl, rfl, congrArg V.b (propext (by unfold knw; constructor <;> intro g <;> first | omega | exact Bool.noConfusion g | (exfalso; omega))), rfl⟩
def CRHo : List (Nat × Con) := (36, pureC [.v (.int .i64)] sRHo) :: CR4s
theorem kRHo : Known Tryd.prog (En CRHo tys G6 QCo2) := kR4s.add Tryd.func36 Tryd.call36 [.k] fun ds p v bs h hp => by
  unfold sRHo at h
  split at h <;> simp only [Option.some.injEq, Prod.mk.injEq, reduceCtorEq] at h
  obtain ⟨rfl, rfl, rfl⟩ := h
  exact bRHo _
def sRCk : List V → Option (Prop × V × List Blk)
  | [.sl false (.cons (.int .i64) (.cons .str .nil)) l] => some (l.length ≤ 1048576, .int .i64 (chkE l), [])
  | _ => none
set_option maxHeartbeats 1000000 in
theorem bRCk (l : List (Int × (List UInt8 × Unit))) (hp0 : l.length ≤ 1048576) : bodyP (En CRHo tys G6 QCo2) Tryd.f24 [.k] [.sl false (.cons (.int .i64) (.cons .str .nil)) l] (.int .i64 (chkE l)) [] := by
  refine ⟨fun h0 => ?_, fun h0 => ?_⟩
  · replace h0 : 12 < (l.length : Int) := h0
    rw [chk2 (.inl (by omega))]
    exact ⟨rfl, rfl, rfl, rfl⟩
  · replace h0 : ¬ (12 < (l.length : Int)) := h0
    refine ⟨0, [(0, .k), (3, .k)], fun nM vs H => ∃ (i : Nat), i ≤ l.length ∧ (l.take i).all smB = true ∧ nM = l.length - i ∧ vs = [.sl false (.cons (.int .i64) (.cons .str .nil)) l, .int .i64 (i : Int)] ∧ H = [], ⟨rfl, l.length, 0, by omega, rfl, by omega, rfl, rfl⟩, ?_⟩
    rintro nM vs H ⟨i, hc1_0, hc1_1, rfl, rfl, rfl⟩
    refine ⟨fun h1 => ?_, fun h1 => ?_⟩
    · replace h1 : (i : Int) < (l.length : Int) := h1
      have hi : i < l.length := by omega
      refine ⟨⟨by show (0 : Int) ≤ (i : Int); omega, by show (i : Int) < (l.length : Int); omega⟩, fun h2 => ?_, fun h2 => ?_⟩
      · replace h2 : 4096 < (((((l.getD i (0, ([], ()))).2).1).length : Nat) : Int) := h2
        rw [chk2 (.inr (take_bad (d := (0, [], ())) hi (decide_eq_false (by omega))))]
        exact ⟨rfl, rfl, rfl, rfl⟩
      · replace h2 : ¬ (4096 < (((((l.getD i (0, ([], ()))).2).1).length : Nat) : Int)) := h2
        have hok : smB (l.getD i (0, [], ())) = true := decide_eq_true (by omega)
        refine ⟨⟨by show (-9223372036854775808 : Int) ≤ ((i : Int) + 1); omega, by show ((i : Int) + 1) ≤ (9223372036854775807 : Int); omega⟩, ?_⟩
        exact ⟨rfl, l.length - (i + 1), by omega, i + 1, by omega, take_all hi hc1_1 hok, rfl, rfl, rfl⟩
    · replace h1 : ¬ ((i : Int) < (l.length : Int)) := h1
      have hall : l.all smB = true := by rw [← hc1_1, List.take_of_length_le (by omega)]
      have hns : ¬ l.all smB = false := by rw [hall]; decide
      refine ⟨0, [(0, .k), (4, .k)], fun nM vs H => ∃ (k : Nat), k ≤ l.length ∧ (∀ j, j < k → okS l j = true) ∧ nM = l.length - k ∧ vs = [.sl false (.cons (.int .i64) (.cons .str .nil)) l, .int .i64 (k : Int)] ∧ H = [], ⟨rfl, l.length, 0, by omega, fun j h => absurd h (Nat.not_lt_zero j), by omega, rfl, rfl⟩, ?_⟩
      rintro nM vs H ⟨k, hc2_0, hc2_1, rfl, rfl, rfl⟩
      refine ⟨fun h3 => ?_, fun h3 => ?_⟩
      · replace h3 : (k : Int) < (l.length : Int) := h3
        have hk : k < l.length := by omega
        refine ⟨⟨by show (0 : Int) ≤ (k : Int); omega, by show (k : Int) < (l.length : Int); omega⟩, rfl, trivial, by kernel_rfl, fun h4 => ?_, fun h4 => ?_⟩
        · replace h4 : ¬ (¬ (knw ((l.getD k (0, ([], ()))).1))) := h4
          refine ⟨fun h5 => ?_, fun h5 => absurd h5 (show ¬ (¬ (knw ((l.getD k (0, ([], ()))).1))) by first | omega | assumption | simp_all)⟩
          refine ⟨fun h6 => ?_, fun h6 => absurd h6 (show ¬ (¬ (knw ((l.getD k (0, ([], ()))).1))) by first | omega | assumption | simp_all)⟩
          refine ⟨fun h7 => ?_, fun h7 => ?_⟩
          · replace h7 : 0 < (k : Int) := h7
            refine ⟨fun h8 => ?_, fun h8 => absurd (show 0 < (k : Int) by first | omega | assumption | simp_all) h8⟩
            refine ⟨fun h9 => ?_, fun h9 => absurd (show 0 < (k : Int) by first | omega | assumption | simp_all) h9⟩
            refine ⟨⟨by show (0 : Int) ≤ (k : Int); omega, by show (k : Int) < (l.length : Int); omega⟩, fun h10 => ?_, fun h10 => absurd (show 0 < (k : Int) by first | omega | assumption | simp_all) h10⟩
            refine ⟨fun h11 => ?_, fun h11 => absurd (show 0 < (k : Int) by first | omega | assumption | simp_all) h11⟩
            refine ⟨fun h12 => ?_, fun h12 => absurd (show 0 < (k : Int) by first | omega | assumption | simp_all) h12⟩
            refine ⟨fun h13 => ?_, fun h13 => absurd (show 0 < (k : Int) by first | omega | assumption | simp_all) h13⟩
            refine ⟨fun h14 => ?_, fun h14 => absurd (show 0 < (k : Int) by first | omega | assumption | simp_all) h14⟩
            refine ⟨⟨by show (-9223372036854775808 : Int) ≤ ((k : Int) - 1); omega, by show ((k : Int) - 1) ≤ (9223372036854775807 : Int); omega⟩, fun h15 => ?_, fun h15 => absurd (show 0 < (k : Int) by first | omega | assumption | simp_all) h15⟩
            refine ⟨⟨by show (0 : Int) ≤ ((k : Int) - 1); omega, by show ((k : Int) - 1) < (l.length : Int); omega⟩, fun h16 => ?_, fun h16 => absurd (show 0 < (k : Int) by first | omega | assumption | simp_all) h16⟩
            refine ⟨fun h17 => ?_, fun h17 => absurd (show 0 < (k : Int) by first | omega | assumption | simp_all) h17⟩
            refine ⟨fun h18 => ?_, fun h18 => absurd (show 0 < (k : Int) by first | omega | assumption | simp_all) h18⟩
            refine ⟨fun h19 => ?_, fun h19 => absurd h19 (show ¬ (¬ (knw ((l.getD k (0, ([], ()))).1))) by first | omega | assumption | simp_all)⟩
            refine ⟨fun h20 => ?_, fun h20 => absurd (show 0 < (k : Int) by first | omega | assumption | simp_all) h20⟩
            refine ⟨fun h21 => absurd h21 (show ¬ (¬ (knw ((l.getD k (0, ([], ()))).1))) by first | omega | assumption | simp_all), fun h21 => ?_⟩
            refine ⟨fun h22 => ?_, fun h22 => ?_⟩
            · replace h22 : ¬ (((l.getD k (0, ([], ()))).1) ≤ ((l.getD (((k : Int) - 1).toNat) (0, ([], ()))).1)) := h22
              refine ⟨fun h23 => ?_, fun h23 => absurd h23 (show ¬ (((l.getD k (0, ([], ()))).1) ≤ ((l.getD (((k : Int) - 1).toNat) (0, ([], ()))).1)) by first | omega | assumption | simp_all)⟩
              refine ⟨fun h24 => ?_, fun h24 => absurd h24 (show ¬ (((l.getD k (0, ([], ()))).1) ≤ ((l.getD (((k : Int) - 1).toNat) (0, ([], ()))).1)) by first | omega | assumption | simp_all)⟩
              refine ⟨⟨by show (0 : Int) ≤ (k : Int); omega, by show (k : Int) < (l.length : Int); omega⟩, fun h25 => ?_, fun h25 => absurd h25 (show ¬ (((l.getD k (0, ([], ()))).1) ≤ ((l.getD (((k : Int) - 1).toNat) (0, ([], ()))).1)) by first | omega | assumption | simp_all)⟩
              refine ⟨fun h26 => ?_, fun h26 => absurd h26 (show ¬ (((l.getD k (0, ([], ()))).1) ≤ ((l.getD (((k : Int) - 1).toNat) (0, ([], ()))).1)) by first | omega | assumption | simp_all)⟩
              refine ⟨fun h27 => ?_, fun h27 => absurd h27 (show ¬ (((l.getD k (0, ([], ()))).1) ≤ ((l.getD (((k : Int) - 1).toNat) (0, ([], ()))).1)) by first | omega | assumption | simp_all)⟩
              refine ⟨fun h28 => ?_, fun h28 => absurd h28 (show ¬ (((l.getD k (0, ([], ()))).1) ≤ ((l.getD (((k : Int) - 1).toNat) (0, ([], ()))).1)) by first | omega | assumption | simp_all)⟩
              refine ⟨fun h29 => ?_, fun h29 => absurd h29 (show ¬ (((l.getD k (0, ([], ()))).1) ≤ ((l.getD (((k : Int) - 1).toNat) (0, ([], ()))).1)) by first | omega | assumption | simp_all)⟩
              refine ⟨⟨by show (0 : Int) ≤ 0; omega, by show 0 < (l.length : Int); omega⟩, fun h30 => ?_, fun h30 => absurd h30 (show ¬ (((l.getD k (0, ([], ()))).1) ≤ ((l.getD (((k : Int) - 1).toNat) (0, ([], ()))).1)) by first | omega | assumption | simp_all)⟩
              refine ⟨fun h31 => ?_, fun h31 => absurd h31 (show ¬ (((l.getD k (0, ([], ()))).1) ≤ ((l.getD (((k : Int) - 1).toNat) (0, ([], ()))).1)) by first | omega | assumption | simp_all)⟩
              refine ⟨fun h32 => ?_, fun h32 => absurd h32 (show ¬ (((l.getD k (0, ([], ()))).1) ≤ ((l.getD (((k : Int) - 1).toNat) (0, ([], ()))).1)) by first | omega | assumption | simp_all)⟩
              refine ⟨fun h33 => ?_, fun h33 => absurd h33 (show ¬ (((l.getD k (0, ([], ()))).1) ≤ ((l.getD (((k : Int) - 1).toNat) (0, ([], ()))).1)) by first | omega | assumption | simp_all)⟩
              refine ⟨fun h34 => absurd h34 (show ¬ (((l.getD k (0, ([], ()))).1) ≤ ((l.getD (((k : Int) - 1).toNat) (0, ([], ()))).1)) by first | omega | assumption | simp_all), fun h34 => ?_⟩
              refine ⟨fun h35 => ?_, fun h35 => ?_⟩
              · replace h35 : (((((l.getD k (0, ([], ()))).2).1).length : Nat) : Int) ≠ (((((l.getD 0 (0, ([], ()))).2).1).length : Nat) : Int) := h35
                have e : chkE l = 1 := chk1 (by omega) hns hk (fun g => by have := g.2.2; unfold lnS at this; omega)
                rw [e]
                exact ⟨rfl, rfl, rfl, rfl⟩
              · replace h35 : ¬ ((((((l.getD k (0, ([], ()))).2).1).length : Nat) : Int) ≠ (((((l.getD 0 (0, ([], ()))).2).1).length : Nat) : Int)) := h35
                have hok := okS_yes (l := l) (Classical.not_not.1 h4) (.inr h22) h35
                refine ⟨⟨by show (-9223372036854775808 : Int) ≤ ((k : Int) + 1); omega, by show ((k : Int) + 1) ≤ (9223372036854775807 : Int); omega⟩, ?_⟩
                exact ⟨rfl, l.length - (k + 1), by omega, k + 1, by omega, ok_next hc2_1 hok, rfl, rfl, rfl⟩
            · replace h22 : ((l.getD k (0, ([], ()))).1) ≤ ((l.getD (((k : Int) - 1).toNat) (0, ([], ()))).1) := h22
              refine ⟨fun h36 => absurd (show ((l.getD k (0, ([], ()))).1) ≤ ((l.getD (((k : Int) - 1).toNat) (0, ([], ()))).1) by first | omega | assumption | simp_all) h36, fun h36 => ?_⟩
              refine ⟨fun h37 => absurd (show ((l.getD k (0, ([], ()))).1) ≤ ((l.getD (((k : Int) - 1).toNat) (0, ([], ()))).1) by first | omega | assumption | simp_all) h37, fun h37 => ?_⟩
              refine ⟨fun h38 => absurd (show ((l.getD k (0, ([], ()))).1) ≤ ((l.getD (((k : Int) - 1).toNat) (0, ([], ()))).1) by first | omega | assumption | simp_all) h38, fun h38 => ?_⟩
              refine ⟨fun h39 => absurd (show ((l.getD k (0, ([], ()))).1) ≤ ((l.getD (((k : Int) - 1).toNat) (0, ([], ()))).1) by first | omega | assumption | simp_all) h39, fun h39 => ?_⟩
              refine ⟨fun h40 => absurd (show ((l.getD k (0, ([], ()))).1) ≤ ((l.getD (((k : Int) - 1).toNat) (0, ([], ()))).1) by first | omega | assumption | simp_all) h40, fun h40 => ?_⟩
              refine ⟨fun h41 => absurd (show ((l.getD k (0, ([], ()))).1) ≤ ((l.getD (((k : Int) - 1).toNat) (0, ([], ()))).1) by first | omega | assumption | simp_all) h41, fun h41 => ?_⟩
              refine ⟨fun h42 => absurd (show ((l.getD k (0, ([], ()))).1) ≤ ((l.getD (((k : Int) - 1).toNat) (0, ([], ()))).1) by first | omega | assumption | simp_all) h42, fun h42 => ?_⟩
              refine ⟨fun h43 => absurd (show ((l.getD k (0, ([], ()))).1) ≤ ((l.getD (((k : Int) - 1).toNat) (0, ([], ()))).1) by first | omega | assumption | simp_all) h43, fun h43 => ?_⟩
              refine ⟨fun h44 => absurd (show ((l.getD k (0, ([], ()))).1) ≤ ((l.getD (((k : Int) - 1).toNat) (0, ([], ()))).1) by first | omega | assumption | simp_all) h44, fun h44 => ?_⟩
              refine ⟨fun h45 => absurd (show ((l.getD k (0, ([], ()))).1) ≤ ((l.getD (((k : Int) - 1).toNat) (0, ([], ()))).1) by first | omega | assumption | simp_all) h45, fun h45 => ?_⟩
              refine ⟨fun h46 => absurd (show ((l.getD k (0, ([], ()))).1) ≤ ((l.getD (((k : Int) - 1).toNat) (0, ([], ()))).1) by first | omega | assumption | simp_all) h46, fun h46 => ?_⟩
              refine ⟨fun h47 => ?_, fun h47 => absurd (show ((l.getD k (0, ([], ()))).1) ≤ ((l.getD (((k : Int) - 1).toNat) (0, ([], ()))).1) by first | omega | assumption | simp_all) h47⟩
              have e : chkE l = 1 := chk1 (by omega) hns hk (fun g => by rw [show ((k : Int) - 1).toNat = k - 1 by omega] at h22; have := g.2.1; omega)
              rw [e]
              exact ⟨rfl, rfl, rfl, rfl⟩
          · replace h7 : ¬ (0 < (k : Int)) := h7
            refine ⟨fun h48 => absurd h48 (show ¬ (0 < (k : Int)) by first | omega | assumption | simp_all), fun h48 => ?_⟩
            refine ⟨fun h49 => absurd h49 (show ¬ (0 < (k : Int)) by first | omega | assumption | simp_all), fun h49 => ?_⟩
            refine ⟨fun h50 => absurd h50 (show ¬ (0 < (k : Int)) by first | omega | assumption | simp_all), fun h50 => ?_⟩
            refine ⟨fun h51 => absurd h51 (show ¬ (0 < (k : Int)) by first | omega | assumption | simp_all), fun h51 => ?_⟩
            refine ⟨fun h52 => absurd h52 (show ¬ (0 < (k : Int)) by first | omega | assumption | simp_all), fun h52 => ?_⟩
            refine ⟨fun h53 => absurd h53 (show ¬ (0 < (k : Int)) by first | omega | assumption | simp_all), fun h53 => ?_⟩
            refine ⟨fun h54 => absurd h54 (show ¬ (0 < (k : Int)) by first | omega | assumption | simp_all), fun h54 => ?_⟩
            refine ⟨fun h55 => absurd h55 (show ¬ (0 < (k : Int)) by first | omega | assumption | simp_all), fun h55 => ?_⟩
            refine ⟨fun h56 => absurd h56 (show ¬ (0 < (k : Int)) by first | omega | assumption | simp_all), fun h56 => ?_⟩
            refine ⟨fun h57 => absurd h57 (show ¬ (0 < (k : Int)) by first | omega | assumption | simp_all), fun h57 => ?_⟩
            refine ⟨fun h58 => absurd h58 (show ¬ (0 < (k : Int)) by first | omega | assumption | simp_all), fun h58 => ?_⟩
            refine ⟨fun h59 => ?_, fun h59 => absurd h59 (show ¬ (¬ (knw ((l.getD k (0, ([], ()))).1))) by first | omega | assumption | simp_all)⟩
            refine ⟨fun h60 => absurd h60 (show ¬ (0 < (k : Int)) by first | omega | assumption | simp_all), fun h60 => ?_⟩
            refine ⟨fun h61 => absurd h61 (show ¬ (¬ (knw ((l.getD k (0, ([], ()))).1))) by first | omega | assumption | simp_all), fun h61 => ?_⟩
            refine ⟨⟨by show (0 : Int) ≤ (k : Int); omega, by show (k : Int) < (l.length : Int); omega⟩, ⟨by show (0 : Int) ≤ 0; omega, by show 0 < (l.length : Int); omega⟩, fun h62 => ?_, fun h62 => ?_⟩
            · replace h62 : (((((l.getD k (0, ([], ()))).2).1).length : Nat) : Int) ≠ (((((l.getD 0 (0, ([], ()))).2).1).length : Nat) : Int) := h62
              have e : chkE l = 1 := chk1 (by omega) hns hk (fun g => by have := g.2.2; unfold lnS at this; omega)
              rw [e]
              exact ⟨rfl, rfl, rfl, rfl⟩
            · replace h62 : ¬ ((((((l.getD k (0, ([], ()))).2).1).length : Nat) : Int) ≠ (((((l.getD 0 (0, ([], ()))).2).1).length : Nat) : Int)) := h62
              have hok := okS_yes (l := l) (Classical.not_not.1 h4) (.inl (by omega)) h62
              refine ⟨⟨by show (-9223372036854775808 : Int) ≤ ((k : Int) + 1); omega, by show ((k : Int) + 1) ≤ (9223372036854775807 : Int); omega⟩, ?_⟩
              exact ⟨rfl, l.length - (k + 1), by omega, k + 1, by omega, ok_next hc2_1 hok, rfl, rfl, rfl⟩
        · replace h4 : ¬ (knw ((l.getD k (0, ([], ()))).1)) := h4
          refine ⟨fun h63 => absurd (show ¬ (knw ((l.getD k (0, ([], ()))).1)) by first | omega | assumption | simp_all) h63, fun h63 => ?_⟩
          refine ⟨fun h64 => absurd (show ¬ (knw ((l.getD k (0, ([], ()))).1)) by first | omega | assumption | simp_all) h64, fun h64 => ?_⟩
          refine ⟨fun h65 => absurd (show ¬ (knw ((l.getD k (0, ([], ()))).1)) by first | omega | assumption | simp_all) h65, fun h65 => ?_⟩
          refine ⟨fun h66 => ?_, fun h66 => absurd (show ¬ (knw ((l.getD k (0, ([], ()))).1)) by first | omega | assumption | simp_all) h66⟩
          have e : chkE l = 1 := chk1 (by omega) hns hk (fun g => h4 g.1)
          rw [e]
          exact ⟨rfl, rfl, rfl, rfl⟩
      · replace h3 : ¬ ((k : Int) < (l.length : Int)) := h3
        rw [chk0'' (by omega) hns hc2_1 (by omega)]
        exact ⟨rfl, rfl, rfl, rfl⟩
def CRCk : List (Nat × Con) := (24, pureC [.v (.sl (.cons (.int .i64) (.cons .str .nil)))] sRCk) :: CRHo
theorem kRCk : Known Tryd.prog (En CRCk tys G6 QCo2) := kRHo.add Tryd.func24 Tryd.call24 [.k] fun ds p v bs h hp => by
  unfold sRCk at h
  split at h <;> simp only [Option.some.injEq, Prod.mk.injEq, reduceCtorEq] at h
  obtain ⟨rfl, rfl, rfl⟩ := h
  exact bRCk _ hp
def sRVl : List V → Option (Prop × V × List Blk)
  | [.u8 c, .sl false .u8 p, .u8 x] => some (p.length ≤ 1048576, .u8 (horner x (c :: p)), [])
  | _ => none
set_option maxHeartbeats 1000000 in
theorem bRVl (c : UInt8) (p : List UInt8) (x : UInt8) (hp0 : p.length ≤ 1048576) : bodyP (En CRCk tys G6 QCo2) Tryd.f58 [.k] [.u8 c, .sl false .u8 p, .u8 x] (.u8 (horner x (c :: p))) [] := by
  refine ⟨0, [(1, .k), (2, .k), (7, .k), (8, .k), (9, .k)], fun nM vs H => ∃ (k : Nat) (s w : UInt8), k ≤ p.length ∧ vlA x (p.drop k) w s = horner x (c :: p) ∧ nM = p.length - k ∧ vs = [.sl false .u8 p, .u8 x, .u8 s, .u8 w, .int .i64 (k : Int)] ∧ H = [], ⟨rfl, p.length, 0, c, 1, by omega, vl_ok x c p, by omega, rfl, rfl⟩, ?_⟩
  rintro nM vs H ⟨k, s, w, hc1_0, hc1_1, rfl, rfl, rfl⟩
  refine ⟨fun h0 => ?_, fun h0 => ?_⟩
  · replace h0 : (k : Int) < (p.length : Int) := h0
    refine ⟨trivial, ⟨by show (0 : Int) ≤ (k : Int); omega, by show (k : Int) < (p.length : Int); omega⟩, trivial, ⟨by show (-9223372036854775808 : Int) ≤ ((k : Int) + 1); omega, by show ((k : Int) + 1) ≤ (9223372036854775807 : Int); omega⟩, ?_⟩
    rw [drop_one' p k (by omega), vlA] at hc1_1
    exact ⟨rfl, p.length - (k + 1), by omega, k + 1, _, _, by omega, hc1_1, rfl, rfl, rfl⟩
  · replace h0 : ¬ ((k : Int) < (p.length : Int)) := h0
    rw [List.drop_of_length_le (by omega), vlA] at hc1_1
    rw [← hc1_1]
    exact ⟨rfl, rfl, rfl, rfl⟩
def CRVl : List (Nat × Con) := (58, pureC [.v .u8, .v (.sl .u8), .v .u8] sRVl) :: CRCk
theorem kRVl : Known Tryd.prog (En CRVl tys G6 QCo2) := kRCk.add Tryd.func58 Tryd.call58 [.k] fun ds p v bs h hp => by
  unfold sRVl at h
  split at h <;> simp only [Option.some.injEq, Prod.mk.injEq, reduceCtorEq] at h
  obtain ⟨rfl, rfl, rfl⟩ := h
  exact bRVl _ _ _ hp
end Go.Proofs.YtakbedmeieeekaaDoor.S26

namespace Go.Proofs.YtakbedmeieeekaaDoor.S26
open Go Go.Proofs.YtakbedmeieeekaaDoor.Vc Go.Proofs
set_option maxRecDepth 100000
set_option linter.unusedVariables false

def sRSh : List V → Option (Prop × V × List Blk)
  | [.str s, .int .i64 nd, .int .i64 h, .str nz] => some (s.length ≤ 4096 ∧ 1 ≤ nd ∧ nd ≤ 12 ∧ nz.length = s.length * (nd - 1).toNat ∧ knw h, .agg [.int .i64 (h), .str (shB s nz (nd - 1).toNat (pt h))], [])
  | _ => none
set_option maxHeartbeats 1000000 in
theorem bRSh (s : List UInt8) (nd : Int) (h : Int) (nz : List UInt8) (hp0 : s.length ≤ 4096) (hp1 : 1 ≤ nd) (hp2 : nd ≤ 12) (hp3 : nz.length = s.length * (nd - 1).toNat) (hp4 : knw h) : bodyP (En CRVl tys G6 QCo2) Tryd.f37 [.k, .k] [.str s, .int .i64 nd, .int .i64 h, .str nz] (.agg [.int .i64 (h), .str (shB s nz (nd - 1).toNat (pt h))]) [] := by
  obtain ⟨q1, q2⟩ := id hp4
  refine ⟨1, [(0, .k), (1, .k), (2, .k), (3, .k), (8, .k), (9, .o .u8), (10, .k), (11, .k)], fun nM vs H => ∃ (k : Nat), k ≤ s.length ∧ nM = s.length - k ∧ vs = [.str s, .int .i64 nd, .int .i64 h, .str nz, .ptr 0 1 0 0, .own .u8 1, .int .i64 (s.length : Int), .int .i64 (k : Int)] ∧ H = [.cells [.int .i64 0, .str ([])], .row true .u8 (shK s nz (nd - 1).toNat (pt h) k)], ⟨rfl, s.length, 0, by omega, by omega, rfl, rfl⟩, ?_⟩
  rintro nM vs H ⟨k, hc1_0, rfl, rfl, rfl⟩
  have hsl := shK_len s nz (nd - 1).toNat (pt h) k
  refine ⟨fun h0 => ?_, fun h0 => ?_⟩
  · replace h0 : (k : Int) < (s.length : Int) := h0
    refine ⟨2, [(0, .k), (1, .k), (2, .k), (3, .k), (8, .k), (9, .k), (10, .k), (11, .k), (12, .o .u8), (13, .k)], fun nM vs H => ∃ (j : Nat), j ≤ (nd - 1).toNat ∧ nM = (nd - 1).toNat - j ∧ vs = [.str s, .int .i64 nd, .int .i64 h, .str nz, .ptr 0 1 0 0, .own .u8 1, .int .i64 (s.length : Int), .int .i64 (k : Int), .own .u8 2, .int .i64 ((j : Int) + 1)] ∧ H = [.cells [.int .i64 0, .str ([])], .row true .u8 (shK s nz (nd - 1).toNat (pt h) k), .row true .u8 (cfs nz s.length j k)], ⟨rfl, (nd - 1).toNat, 0, by omega, by omega, rfl, rfl⟩, ?_⟩
    rintro nM vs H ⟨j, hc2_0, rfl, rfl, rfl⟩
    have hcl := cfs_len nz s.length j k
    refine ⟨fun h1 => ?_, fun h1 => ?_⟩
    · replace h1 : ((j : Int) + 1) < nd := h1
      have e1 : ((((j : Int) + 1) - 1) * (s.length : Int)) = ((j * s.length : Nat) : Int) := by rw [show ((j : Int) + 1) - 1 = (j : Int) by omega, Int.natCast_mul]
      have e3 : j * s.length + s.length ≤ nz.length := by (have := Nat.mul_le_mul_left s.length (show j + 1 ≤ (nd - 1).toNat by omega); rw [← hp3, Nat.mul_succ, Nat.mul_comm] at this; exact this)
      have e4 : j * s.length ≤ 11 * 4096 := Nat.mul_le_mul (by omega) (by omega)
      have ex : (((((j : Int) + 1) - 1) * (s.length : Int)) + (k : Int)).toNat = j * s.length + k := by omega
      refine ⟨⟨by show (-9223372036854775808 : Int) ≤ (((j : Int) + 1) - 1); omega, by show (((j : Int) + 1) - 1) ≤ (9223372036854775807 : Int); omega⟩, ⟨by show (-9223372036854775808 : Int) ≤ ((((j : Int) + 1) - 1) * (s.length : Int)); omega, by show ((((j : Int) + 1) - 1) * (s.length : Int)) ≤ (9223372036854775807 : Int); omega⟩, ⟨by show (-9223372036854775808 : Int) ≤ (((((j : Int) + 1) - 1) * (s.length : Int)) + (k : Int)); omega, by show (((((j : Int) + 1) - 1) * (s.length : Int)) + (k : Int)) ≤ (9223372036854775807 : Int); omega⟩, ⟨by show (0 : Int) ≤ (((((j : Int) + 1) - 1) * (s.length : Int)) + (k : Int)); omega, by show (((((j : Int) + 1) - 1) * (s.length : Int)) + (k : Int)) < (nz.length : Int); omega⟩, ⟨rfl, rfl⟩, by show (cfs nz s.length j k).length + ([nz.getD ((((((j : Int) + 1) - 1) * (s.length : Int)) + (k : Int)).toNat) 0] : List UInt8).length ≤ 1000000000; simp only [List.length_cons, List.length_nil]; omega, ⟨by show (-9223372036854775808 : Int) ≤ (((j : Int) + 1) + 1); omega, by show (((j : Int) + 1) + 1) ≤ (9223372036854775807 : Int); omega⟩, ?_⟩
      exact ⟨rfl, (nd - 1).toNat - (j + 1), by omega, j + 1, by omega, rfl, rfl, by rw [cfs_snoc, ← ex]; rfl⟩
    · replace h1 : ¬ (((j : Int) + 1) < nd) := h1
      refine ⟨⟨by show (0 : Int) ≤ (k : Int); omega, by show (k : Int) < (s.length : Int); omega⟩, ⟨by show (-9223372036854775808 : Int) ≤ (h + 1); omega, by show (h + 1) ≤ (9223372036854775807 : Int); omega⟩, by show (cfs nz s.length j k).length ≤ 1048576; first | omega | assumption, ⟨rfl, rfl⟩, by show (shK s nz (nd - 1).toNat (pt h) k).length + ([horner (UInt8.ofNat ((h + 1) % 256).toNat) ((s.getD k 0) :: (cfs nz s.length j k))] : List UInt8).length ≤ 1000000000; simp only [List.length_cons, List.length_nil]; omega, ⟨by show (-9223372036854775808 : Int) ≤ ((k : Int) + 1); omega, by show ((k : Int) + 1) ≤ (9223372036854775807 : Int); omega⟩, ?_⟩
      exact ⟨rfl, s.length - (k + 1), by omega, k + 1, by omega, rfl, rfl, by rw [shK_snoc, show (nd - 1).toNat = j by omega]; rfl⟩
  · replace h0 : ¬ ((k : Int) < (s.length : Int)) := h0
    refine ⟨⟨rfl, rfl, rfl, Nat.le_of_ble_eq_true rfl⟩, ?_⟩
    rw [show shB s nz (nd - 1).toNat (pt h) = shK s nz (nd - 1).toNat (pt h) k by rw [show k = s.length by omega]; rfl]
    exact ⟨rfl, rfl, rfl, rfl⟩
def CRSh : List (Nat × Con) := (37, pureC [.v .str, .v (.int .i64), .v (.int .i64), .v .str] sRSh) :: CRVl
theorem kRSh : Known Tryd.prog (En CRSh tys G6 QCo2) := kRVl.add Tryd.func37 Tryd.call37 [.k, .k] fun ds p v bs h hp => by
  unfold sRSh at h
  split at h <;> simp only [Option.some.injEq, Prod.mk.injEq, reduceCtorEq] at h
  obtain ⟨rfl, rfl, rfl⟩ := h
  exact bRSh _ _ _ _ hp.1 hp.2.1 hp.2.2.1 hp.2.2.2.1 hp.2.2.2.2
def sRSp : List V → Option (Prop × V × List Blk)
  | [.str s, .int .i64 nd, .sl false (.int .i64) hs, .str nz] => some (s.length ≤ 1048576 ∧ hs.length ≤ 1048576 ∧ nz.length ≤ 1048576, .agg [.own (.cons (.int .i64) (.cons .str .nil)) 0, .int .i64 (splE s nd hs nz)], [.row true (.cons (.int .i64) (.cons .str .nil)) (splL s nd hs nz)])
  | _ => none
set_option maxHeartbeats 2000000 in
theorem bRSp (s : List UInt8) (nd : Int) (hs : List Int) (nz : List UInt8) (hp0 : s.length ≤ 1048576) (hp1 : hs.length ≤ 1048576) (hp2 : nz.length ≤ 1048576) : bodyP (En CRSh tys G6 QCo2) Tryd.f14 [.o (.cons (.int .i64) (.cons .str .nil)), .k] [.str s, .int .i64 nd, .sl false (.int .i64) hs, .str nz] (.agg [.own (.cons (.int .i64) (.cons .str .nil)) 0, .int .i64 (splE s nd hs nz)]) [.row true (.cons (.int .i64) (.cons .str .nil)) (splL s nd hs nz)] := by
  refine ⟨fun h0 => ?_, fun h0 => ?_⟩
  · replace h0 : 4096 < (s.length : Int) := h0
    refine ⟨⟨rfl, rfl, rfl, Nat.le_of_ble_eq_true rfl⟩, ?_⟩
    have e : splE s nd hs nz = 2 := by unfold splE; rw [if_pos (by omega)]
    have e4 : splL s nd hs nz = [] := if_neg (by rw [e]; decide)
    rw [e4, e]
    exact ⟨rfl, rfl, rfl, rfl⟩
  · replace h0 : ¬ (4096 < (s.length : Int)) := h0
    refine ⟨fun h1 => ?_, fun h1 => ?_⟩
    · replace h1 : ¬ (nd < 1) := h1
      refine ⟨fun h2 => ?_, fun h2 => ?_⟩
      · replace h2 : 12 < nd := h2
        refine ⟨⟨rfl, rfl, rfl, Nat.le_of_ble_eq_true rfl⟩, ?_⟩
        have e : splE s nd hs nz = 3 := by unfold splE; rw [if_neg (by omega : ¬ 4096 < s.length), if_pos (by omega)]
        have e4 : splL s nd hs nz = [] := if_neg (by rw [e]; decide)
        rw [e4, e]
        exact ⟨rfl, rfl, rfl, rfl⟩
      · replace h2 : ¬ (12 < nd) := h2
        refine ⟨fun h3 => ?_, fun h3 => ?_⟩
        · replace h3 : (hs.length : Int) < nd := h3
          refine ⟨⟨rfl, rfl, rfl, Nat.le_of_ble_eq_true rfl⟩, ?_⟩
          have e : splE s nd hs nz = 1 := by unfold splE; rw [if_neg (by omega : ¬ 4096 < s.length), if_neg (by omega : ¬ (nd < 1 ∨ 12 < nd)), if_pos (by omega)]
          have e4 : splL s nd hs nz = [] := if_neg (by rw [e]; decide)
          rw [e4, e]
          exact ⟨rfl, rfl, rfl, rfl⟩
        · replace h3 : ¬ ((hs.length : Int) < nd) := h3
          refine ⟨1, [(0, .k), (1, .k), (2, .k), (3, .k), (8, .k), (9, .k)], fun nM vs H => ∃ (k : Nat), k ≤ hs.length ∧ (∀ j, j < k → hsB hs j = true) ∧ nM = hs.length - k ∧ vs = [.str s, .int .i64 nd, .sl false (.int .i64) hs, .str nz, .ptr 0 1 0 0, .int .i64 (k : Int)] ∧ H = [.cells [.nils, .int .i64 0]], ⟨rfl, hs.length, 0, by omega, fun j h => absurd h (Nat.not_lt_zero j), by omega, rfl, rfl⟩, ?_⟩
          rintro nM vs H ⟨k, hc1_0, hc1_1, rfl, rfl, rfl⟩
          refine ⟨fun h4 => ?_, fun h4 => ?_⟩
          · replace h4 : (k : Int) < (hs.length : Int) := h4
            have hk : k < hs.length := by omega
            refine ⟨⟨by show (0 : Int) ≤ (k : Int); omega, by show (k : Int) < (hs.length : Int); omega⟩, rfl, trivial, by kernel_rfl, fun h5 => ?_, fun h5 => ?_⟩
            · replace h5 : ¬ (¬ (knw (hs.getD k 0))) := h5
              refine ⟨fun h6 => ?_, fun h6 => absurd h6 (show ¬ (¬ (knw (hs.getD k 0))) by first | omega | assumption | simp_all)⟩
              refine ⟨fun h7 => ?_, fun h7 => absurd h7 (show ¬ (¬ (knw (hs.getD k 0))) by first | omega | assumption | simp_all)⟩
              refine ⟨fun h8 => ?_, fun h8 => ?_⟩
              · replace h8 : 0 < (k : Int) := h8
                refine ⟨fun h9 => ?_, fun h9 => absurd (show 0 < (k : Int) by first | omega | assumption | simp_all) h9⟩
                refine ⟨fun h10 => ?_, fun h10 => absurd (show 0 < (k : Int) by first | omega | assumption | simp_all) h10⟩
                refine ⟨⟨by show (0 : Int) ≤ (k : Int); omega, by show (k : Int) < (hs.length : Int); omega⟩, fun h11 => ?_, fun h11 => absurd (show 0 < (k : Int) by first | omega | assumption | simp_all) h11⟩
                refine ⟨fun h12 => ?_, fun h12 => absurd (show 0 < (k : Int) by first | omega | assumption | simp_all) h12⟩
                refine ⟨fun h13 => ?_, fun h13 => absurd (show 0 < (k : Int) by first | omega | assumption | simp_all) h13⟩
                refine ⟨fun h14 => ?_, fun h14 => absurd (show 0 < (k : Int) by first | omega | assumption | simp_all) h14⟩
                refine ⟨⟨by show (-9223372036854775808 : Int) ≤ ((k : Int) - 1); omega, by show ((k : Int) - 1) ≤ (9223372036854775807 : Int); omega⟩, fun h15 => ?_, fun h15 => absurd (show 0 < (k : Int) by first | omega | assumption | simp_all) h15⟩
                refine ⟨⟨by show (0 : Int) ≤ ((k : Int) - 1); omega, by show ((k : Int) - 1) < (hs.length : Int); omega⟩, fun h16 => ?_, fun h16 => absurd (show 0 < (k : Int) by first | omega | assumption | simp_all) h16⟩
                refine ⟨fun h17 => ?_, fun h17 => absurd (show 0 < (k : Int) by first | omega | assumption | simp_all) h17⟩
                refine ⟨fun h18 => ?_, fun h18 => absurd h18 (show ¬ (¬ (knw (hs.getD k 0))) by first | omega | assumption | simp_all)⟩
                refine ⟨fun h19 => ?_, fun h19 => absurd (show 0 < (k : Int) by first | omega | assumption | simp_all) h19⟩
                refine ⟨fun h20 => absurd h20 (show ¬ (¬ (knw (hs.getD k 0))) by first | omega | assumption | simp_all), fun h20 => ?_⟩
                refine ⟨fun h21 => ?_, fun h21 => ?_⟩
                · replace h21 : (hs.getD k 0) ≤ (hs.getD (((k : Int) - 1).toNat) 0) := h21
                  refine ⟨⟨rfl, rfl, rfl, Nat.le_of_ble_eq_true rfl⟩, ?_⟩
                  have hf : hsOk hs = false := hs_bad (fun g => by rw [show ((k : Int) - 1).toNat = k - 1 by omega] at h21; have := g.2; omega) hk
                  have e : splE s nd hs nz = 1 := by unfold splE; rw [if_neg (by omega : ¬ 4096 < s.length), if_neg (by omega : ¬ (nd < 1 ∨ 12 < nd)), if_neg (by omega : ¬ (hs.length : Int) < nd), if_pos hf]
                  have e4 : splL s nd hs nz = [] := if_neg (by rw [e]; decide)
                  rw [e4, e]
                  exact ⟨rfl, rfl, rfl, rfl⟩
                · replace h21 : ¬ ((hs.getD k 0) ≤ (hs.getD (((k : Int) - 1).toNat) 0)) := h21
                  have hok := hs_yes (l := hs) (Classical.not_not.1 h5) (.inr h21)
                  refine ⟨⟨by show (-9223372036854775808 : Int) ≤ ((k : Int) + 1); omega, by show ((k : Int) + 1) ≤ (9223372036854775807 : Int); omega⟩, ?_⟩
                  exact ⟨rfl, hs.length - (k + 1), by omega, k + 1, by omega, hs_next hc1_1 hok, rfl, rfl, rfl⟩
              · replace h8 : ¬ (0 < (k : Int)) := h8
                have hok := hs_yes (l := hs) (Classical.not_not.1 h5) (.inl (by omega))
                refine ⟨fun h22 => absurd h22 (show ¬ (0 < (k : Int)) by first | omega | assumption | simp_all), fun h22 => ?_⟩
                refine ⟨fun h23 => absurd h23 (show ¬ (0 < (k : Int)) by first | omega | assumption | simp_all), fun h23 => ?_⟩
                refine ⟨fun h24 => absurd h24 (show ¬ (0 < (k : Int)) by first | omega | assumption | simp_all), fun h24 => ?_⟩
                refine ⟨fun h25 => absurd h25 (show ¬ (0 < (k : Int)) by first | omega | assumption | simp_all), fun h25 => ?_⟩
                refine ⟨fun h26 => absurd h26 (show ¬ (0 < (k : Int)) by first | omega | assumption | simp_all), fun h26 => ?_⟩
                refine ⟨fun h27 => absurd h27 (show ¬ (0 < (k : Int)) by first | omega | assumption | simp_all), fun h27 => ?_⟩
                refine ⟨fun h28 => absurd h28 (show ¬ (0 < (k : Int)) by first | omega | assumption | simp_all), fun h28 => ?_⟩
                refine ⟨fun h29 => absurd h29 (show ¬ (0 < (k : Int)) by first | omega | assumption | simp_all), fun h29 => ?_⟩
                refine ⟨fun h30 => absurd h30 (show ¬ (0 < (k : Int)) by first | omega | assumption | simp_all), fun h30 => ?_⟩
                refine ⟨fun h31 => ?_, fun h31 => absurd h31 (show ¬ (¬ (knw (hs.getD k 0))) by first | omega | assumption | simp_all)⟩
                refine ⟨fun h32 => absurd h32 (show ¬ (0 < (k : Int)) by first | omega | assumption | simp_all), fun h32 => ?_⟩
                refine ⟨fun h33 => absurd h33 (show ¬ (¬ (knw (hs.getD k 0))) by first | omega | assumption | simp_all), fun h33 => ?_⟩
                refine ⟨⟨by show (-9223372036854775808 : Int) ≤ ((k : Int) + 1); omega, by show ((k : Int) + 1) ≤ (9223372036854775807 : Int); omega⟩, ?_⟩
                exact ⟨rfl, hs.length - (k + 1), by omega, k + 1, by omega, hs_next hc1_1 hok, rfl, rfl, rfl⟩
            · replace h5 : ¬ (knw (hs.getD k 0)) := h5
              refine ⟨fun h34 => absurd (show ¬ (knw (hs.getD k 0)) by first | omega | assumption | simp_all) h34, fun h34 => ?_⟩
              refine ⟨fun h35 => absurd (show ¬ (knw (hs.getD k 0)) by first | omega | assumption | simp_all) h35, fun h35 => ?_⟩
              refine ⟨fun h36 => absurd (show ¬ (knw (hs.getD k 0)) by first | omega | assumption | simp_all) h36, fun h36 => ?_⟩
              refine ⟨fun h37 => ?_, fun h37 => absurd (show ¬ (knw (hs.getD k 0)) by first | omega | assumption | simp_all) h37⟩
              refine ⟨⟨rfl, rfl, rfl, Nat.le_of_ble_eq_true rfl⟩, ?_⟩
              have hf : hsOk hs = false := hs_bad (fun g => h5 g.1) hk
              have e : splE s nd hs nz = 1 := by unfold splE; rw [if_neg (by omega : ¬ 4096 < s.length), if_neg (by omega : ¬ (nd < 1 ∨ 12 < nd)), if_neg (by omega : ¬ (hs.length : Int) < nd), if_pos hf]
              have e4 : splL s nd hs nz = [] := if_neg (by rw [e]; decide)
              rw [e4, e]
              exact ⟨rfl, rfl, rfl, rfl⟩
          · replace h4 : ¬ ((k : Int) < (hs.length : Int)) := h4
            have hso := hs_all hc1_1 (by omega)
            obtain ⟨hm1, hm2⟩ := mul_bd (a := (s.length : Int)) (b := nd - 1) (A := 4096) (B := 11) (by omega) (by omega) (by omega) (by omega)
            refine ⟨⟨by show (-9223372036854775808 : Int) ≤ (nd - 1); omega, by show (nd - 1) ≤ (9223372036854775807 : Int); omega⟩, ⟨by show (-9223372036854775808 : Int) ≤ ((s.length : Int) * (nd - 1)); omega, by show ((s.length : Int) * (nd - 1)) ≤ (9223372036854775807 : Int); omega⟩, fun h38 => ?_, fun h38 => ?_⟩
            · replace h38 : (nz.length : Int) ≠ ((s.length : Int) * (nd - 1)) := h38
              refine ⟨⟨rfl, rfl, rfl, Nat.le_of_ble_eq_true rfl⟩, ?_⟩
              have e : splE s nd hs nz = 1 := by unfold splE; rw [if_neg (by omega : ¬ 4096 < s.length), if_neg (by omega : ¬ (nd < 1 ∨ 12 < nd)), if_neg (by omega : ¬ (hs.length : Int) < nd), if_neg (by rw [hso]; decide), if_neg h38]
              have e4 : splL s nd hs nz = [] := if_neg (by rw [e]; decide)
              rw [e4, e]
              exact ⟨rfl, rfl, rfl, rfl⟩
            · replace h38 : ¬ ((nz.length : Int) ≠ ((s.length : Int) * (nd - 1))) := h38
              have hn : nz.length = s.length * (nd - 1).toNat := Int.ofNat_inj.1 (by rw [Int.natCast_mul, Int.toNat_of_nonneg (by omega)]; exact Classical.not_not.1 h38)
              refine ⟨1, [(0, .k), (1, .k), (2, .k), (3, .k), (8, .k), (11, .o (.cons (.int .i64) (.cons .str .nil))), (12, .k)], fun nM vs H => ∃ (k : Nat), k ≤ hs.length ∧ nM = hs.length - k ∧ vs = [.str s, .int .i64 nd, .sl false (.int .i64) hs, .str nz, .ptr 0 1 0 0, .own (.cons (.int .i64) (.cons .str .nil)) 1, .int .i64 (k : Int)] ∧ H = [.cells [.nils, .int .i64 0], .row true (.cons (.int .i64) (.cons .str .nil)) ((hs.take k).map (shS s nd nz))], ⟨rfl, hs.length, 0, by omega, by omega, rfl, rfl⟩, ?_⟩
              rintro nM vs H ⟨k, hc2_0, rfl, rfl, rfl⟩
              have hml : ((hs.take k).map (shS s nd nz)).length = k := by rw [List.length_map, List.length_take]; omega
              refine ⟨fun h39 => ?_, fun h39 => ?_⟩
              · replace h39 : (k : Int) < (hs.length : Int) := h39
                have hk : k < hs.length := by omega
                obtain ⟨hkn, _⟩ := hs_get hso hk
                refine ⟨⟨by show (0 : Int) ≤ (k : Int); omega, by show (k : Int) < (hs.length : Int); omega⟩, rfl, rfl, ⟨by show s.length ≤ 4096; first | omega | assumption, by show 1 ≤ nd; first | omega | assumption, by show nd ≤ 12; first | omega | assumption, by show nz.length = s.length * (nd - 1).toNat; first | omega | assumption, by assumption⟩, rfl, ⟨rfl, rfl⟩, by show ((hs.take k).map (shS s nd nz)).length + ([((hs.getD k 0), shB s nz (nd - 1).toNat (pt (hs.getD k 0)), ())] : List (Int × (List UInt8 × Unit))).length ≤ 1000000000; simp only [List.length_cons, List.length_nil]; omega, ⟨by show (-9223372036854775808 : Int) ≤ ((k : Int) + 1); omega, by show ((k : Int) + 1) ≤ (9223372036854775807 : Int); omega⟩, ?_⟩
                exact ⟨rfl, hs.length - (k + 1), by omega, k + 1, by omega, rfl, rfl, by rw [map_take_snoc 0 _ hs k hk]; rfl⟩
              · replace h39 : ¬ ((k : Int) < (hs.length : Int)) := h39
                refine ⟨⟨rfl, rfl, rfl, Nat.le_of_ble_eq_true rfl⟩, ?_⟩
                have e : splE s nd hs nz = 0 := by unfold splE; rw [if_neg (by omega : ¬ 4096 < s.length), if_neg (by omega : ¬ (nd < 1 ∨ 12 < nd)), if_neg (by omega : ¬ (hs.length : Int) < nd), if_neg (by rw [hso]; decide), if_pos (Classical.not_not.1 h38)]
                have e4 : splL s nd hs nz = (hs.take k).map (shS s nd nz) := by rw [List.take_of_length_le (by omega)]; exact if_pos e
                rw [e4, e]
                exact ⟨rfl, rfl, rfl, rfl⟩
    · replace h1 : nd < 1 := h1
      refine ⟨⟨rfl, rfl, rfl, Nat.le_of_ble_eq_true rfl⟩, ?_⟩
      have e : splE s nd hs nz = 3 := by unfold splE; rw [if_neg (by omega : ¬ 4096 < s.length), if_pos (by omega)]
      have e4 : splL s nd hs nz = [] := if_neg (by rw [e]; decide)
      rw [e4, e]
      exact ⟨rfl, rfl, rfl, rfl⟩
def CRSp : List (Nat × Con) := (14, pureC [.v .str, .v (.int .i64), .v (.sl (.int .i64)), .v .str] sRSp) :: CRSh
theorem kRSp : Known Tryd.prog (En CRSp tys G6 QCo2) := kRSh.add Tryd.func14 Tryd.call14 [.o (.cons (.int .i64) (.cons .str .nil)), .k] fun ds p v bs h hp => by
  unfold sRSp at h
  split at h <;> simp only [Option.some.injEq, Prod.mk.injEq, reduceCtorEq] at h
  obtain ⟨rfl, rfl, rfl⟩ := h
  exact bRSp _ _ _ _ hp.1 hp.2.1 hp.2.2
end Go.Proofs.YtakbedmeieeekaaDoor.S26

namespace Go.Proofs.YtakbedmeieeekaaDoor.S26
open Go Go.Proofs.YtakbedmeieeekaaDoor.Vc Go.Proofs
set_option maxRecDepth 100000
set_option linter.unusedVariables false

def sRBt : List V → Option (Prop × V × List Blk)
  | [.sl false (.cons (.int .i64) (.cons .str .nil)) l, .int .i64 k, .u8 x] => some (l.length ≤ 1048576 ∧ 0 ≤ k ∧ (∀ s ∈ l, k < (s.2.1.length : Int)) ∧ (∀ s ∈ l, knw s.1), .u8 (horner x (lineL (xsL l) (ysL l k.toNat))), [])
  | _ => none
set_option maxHeartbeats 1000000 in
theorem bRBt (l : List (Int × (List UInt8 × Unit))) (k : Int) (x : UInt8) (hp0 : l.length ≤ 1048576) (hp1 : 0 ≤ k) (hp2 : (∀ s ∈ l, k < (s.2.1.length : Int))) (hp3 : (∀ s ∈ l, knw s.1)) : bodyP (En CRSp tys G6 QCo2) Tryd.f79 [.k] [.sl false (.cons (.int .i64) (.cons .str .nil)) l, .int .i64 k, .u8 x] (.u8 (horner x (lineL (xsL l) (ysL l k.toNat)))) [] := by
  refine ⟨0, [(0, .k), (1, .k), (2, .k), (7, .k), (8, .k)], fun nM vs H => ∃ (i : Nat) (s : UInt8), i ≤ l.length ∧ btF x (xsL l) (ysL l k.toNat) (l.length - i) i s = horner x (lineL (xsL l) (ysL l k.toNat)) ∧ nM = l.length - i ∧ vs = [.sl false (.cons (.int .i64) (.cons .str .nil)) l, .int .i64 k, .u8 x, .u8 s, .int .i64 (i : Int)] ∧ H = [], ⟨rfl, l.length, 0, 0, by omega, by rw [← bt_ok, xsL_len]; rfl, by omega, rfl, rfl⟩, ?_⟩
  rintro nM vs H ⟨i, s, hc1_0, hc1_1, rfl, rfl, rfl⟩
  refine ⟨fun h0 => ?_, fun h0 => ?_⟩
  · replace h0 : (i : Int) < (l.length : Int) := h0
    have hi : i < l.length := by omega
    have hib := hp2 _ (getD_mem (0, [], ()) l i hi)
    obtain ⟨a1, a2⟩ := hp3 _ (getD_mem (0, [], ()) l i hi)
    refine ⟨⟨by show (0 : Int) ≤ (i : Int); omega, by show (i : Int) < (l.length : Int); omega⟩, ⟨by show (-9223372036854775808 : Int) ≤ (((l.getD i (0, ([], ()))).1) + 1); omega, by show (((l.getD i (0, ([], ()))).1) + 1) ≤ (9223372036854775807 : Int); omega⟩, ⟨by show (0 : Int) ≤ (i : Int); omega, by show (i : Int) < (l.length : Int); omega⟩, ⟨by show (0 : Int) ≤ k; omega, by show k < ((((l.getD i (0, ([], ()))).2).1).length : Int); omega⟩, 0, [(0, .k), (1, .k), (2, .k), (7, .k), (8, .k), (9, .k), (10, .k), (11, .k)], fun nM vs H => ∃ (j : Nat) (t : UInt8), j ≤ l.length ∧ tmF x (pt (l.getD i (0, [], ())).1) i ((xsL l).drop j) j t = tmF x (pt (l.getD i (0, [], ())).1) i (xsL l) 0 ((ysL l k.toNat).getD i 0) ∧ nM = l.length - j ∧ vs = [.sl false (.cons (.int .i64) (.cons .str .nil)) l, .int .i64 k, .u8 x, .u8 s, .int .i64 (i : Int), .u8 (UInt8.ofNat ((((l.getD i (0, ([], ()))).1) + 1) % 256).toNat), .u8 t, .int .i64 (j : Int)] ∧ H = [], ⟨rfl, l.length, 0, ((l.getD i (0, [], ())).2.1).getD k.toNat 0, by omega, by rw [ysL_get hi]; rfl, by omega, rfl, rfl⟩, ?_⟩
    rintro nM vs H ⟨j, t, hc2_0, hc2_1, rfl, rfl, rfl⟩
    refine ⟨fun h1 => ?_, fun h1 => ?_⟩
    · replace h1 : (j : Int) < (l.length : Int) := h1
      have hj : j < l.length := by omega
      obtain ⟨b1, b2⟩ := hp3 _ (getD_mem (0, [], ()) l j hj)
      rw [drop_one' _ j (by rw [xsL_len]; exact hj), tmF, xsL_get hj] at hc2_1
      refine ⟨fun h2 => ?_, fun h2 => ?_⟩
      · replace h2 : (j : Int) ≠ (i : Int) := h2
        rw [if_pos (by omega)] at hc2_1
        refine ⟨⟨by show (0 : Int) ≤ (j : Int); omega, by show (j : Int) < (l.length : Int); omega⟩, ⟨by show (-9223372036854775808 : Int) ≤ (((l.getD j (0, ([], ()))).1) + 1); omega, by show (((l.getD j (0, ([], ()))).1) + 1) ≤ (9223372036854775807 : Int); omega⟩, trivial, trivial, trivial, ⟨by show (-9223372036854775808 : Int) ≤ ((j : Int) + 1); omega, by show ((j : Int) + 1) ≤ (9223372036854775807 : Int); omega⟩, ?_⟩
        exact ⟨rfl, l.length - (j + 1), by omega, j + 1, _, by omega, hc2_1, rfl, rfl, rfl⟩
      · replace h2 : ¬ ((j : Int) ≠ (i : Int)) := h2
        rw [if_neg (by omega)] at hc2_1
        refine ⟨⟨by show (-9223372036854775808 : Int) ≤ ((j : Int) + 1); omega, by show ((j : Int) + 1) ≤ (9223372036854775807 : Int); omega⟩, ?_⟩
        exact ⟨rfl, l.length - (j + 1), by omega, j + 1, _, by omega, hc2_1, rfl, rfl, rfl⟩
    · replace h1 : ¬ ((j : Int) < (l.length : Int)) := h1
      rw [List.drop_of_length_le (by rw [xsL_len]; omega), tmF] at hc2_1
      have hst : btF x (xsL l) (ysL l k.toNat) (l.length - (i + 1)) (i + 1) (s ^^^ t) = horner x (lineL (xsL l) (ysL l k.toNat)) := by rw [show l.length - i = (l.length - (i + 1)) + 1 by omega, btF, xsL_get hi, ← hc2_1] at hc1_1; exact hc1_1
      refine ⟨⟨by show (-9223372036854775808 : Int) ≤ ((i : Int) + 1); omega, by show ((i : Int) + 1) ≤ (9223372036854775807 : Int); omega⟩, ?_⟩
      exact ⟨rfl, l.length - (i + 1), by omega, i + 1, _, by omega, hst, rfl, rfl, rfl⟩
  · replace h0 : ¬ ((i : Int) < (l.length : Int)) := h0
    rw [show l.length - i = 0 by omega, btF] at hc1_1
    rw [← hc1_1]
    exact ⟨rfl, rfl, rfl, rfl⟩
def CRBt : List (Nat × Con) := (79, pureC [.v (.sl (.cons (.int .i64) (.cons .str .nil))), .v (.int .i64), .v .u8] sRBt) :: CRSp
theorem kRBt : Known Tryd.prog (En CRBt tys G6 QCo2) := kRSp.add Tryd.func79 Tryd.call79 [.k] fun ds p v bs h hp => by
  unfold sRBt at h
  split at h <;> simp only [Option.some.injEq, Prod.mk.injEq, reduceCtorEq] at h
  obtain ⟨rfl, rfl, rfl⟩ := h
  exact bRBt _ _ _ hp.1 hp.2.1 hp.2.2.1 hp.2.2.2
def sRVs : List V → Option (Prop × V × List Blk)
  | [.sl false (.cons (.int .i64) (.cons .str .nil)) l, .int .i64 nd, .u8 x] => some (l.length ≤ 1048576 ∧ 1 ≤ nd ∧ nd ≤ (l.length : Int) ∧ (∀ x ∈ l, x.2.1.length = lnS l) ∧ (∀ s ∈ l, knw s.1) ∧ lnS l ≤ 1048576, .str (vlB (l.take nd.toNat) (lnS l) x), [])
  | _ => none
set_option maxHeartbeats 1000000 in
theorem bRVs (l : List (Int × (List UInt8 × Unit))) (nd : Int) (x : UInt8) (hp0 : l.length ≤ 1048576) (hp1 : 1 ≤ nd) (hp2 : nd ≤ (l.length : Int)) (hp3 : (∀ x ∈ l, x.2.1.length = lnS l)) (hp4 : (∀ s ∈ l, knw s.1)) (hp5 : lnS l ≤ 1048576) : bodyP (En CRBt tys G6 QCo2) Tryd.f60 [.k] [.sl false (.cons (.int .i64) (.cons .str .nil)) l, .int .i64 nd, .u8 x] (.str (vlB (l.take nd.toNat) (lnS l) x)) [] := by
  have hlS : (l.getD 0 (0, [], ())).2.1.length = lnS l := rfl
  refine ⟨0, [(0, .k), (1, .k), (2, .k), (7, .o .u8), (8, .k)], fun nM vs H => ∃ (k : Nat), k ≤ lnS l ∧ nM = lnS l - k ∧ vs = [.sl false (.cons (.int .i64) (.cons .str .nil)) l, .int .i64 nd, .u8 x, .own .u8 0, .int .i64 (k : Int)] ∧ H = [.row true .u8 (vlB (l.take nd.toNat) k x)], ⟨rfl, lnS l, 0, by omega, by omega, rfl, rfl⟩, ?_⟩
  rintro nM vs H ⟨k, hc1_0, rfl, rfl, rfl⟩
  have hvl := vlB_len (l.take nd.toNat) k x
  refine ⟨⟨by show (0 : Int) ≤ 0; omega, by show 0 < (l.length : Int); omega⟩, fun h0 => ?_, fun h0 => ?_⟩
  · replace h0 : (k : Int) < (((((l.getD 0 (0, ([], ()))).2).1).length : Nat) : Int) := h0
    refine ⟨⟨by omega, by omega⟩, rfl, ⟨by show (l.take nd.toNat).length ≤ 1048576; first | omega | assumption | (simp only [List.length_cons, List.length_nil, List.length_append, List.length_take, List.length_drop, List.length_set, List.length_replicate]; omega), by show 0 ≤ (k : Int); first | omega | assumption, fun s hs => by have := hp3 s (List.mem_of_mem_take hs); omega, fun s hs => hp4 s (List.mem_of_mem_take hs)⟩, ⟨rfl, rfl⟩, by show (vlB (l.take nd.toNat) k x).length + ([horner x (lineL (xsL (l.take nd.toNat)) (ysL (l.take nd.toNat) (k : Int).toNat))] : List UInt8).length ≤ 1000000000; simp only [List.length_cons, List.length_nil]; omega, ⟨by show (-9223372036854775808 : Int) ≤ ((k : Int) + 1); omega, by show ((k : Int) + 1) ≤ (9223372036854775807 : Int); omega⟩, ?_⟩
    exact ⟨rfl, lnS l - (k + 1), by omega, k + 1, by omega, rfl, rfl, by rw [vlB_snoc]; rfl⟩
  · replace h0 : ¬ ((k : Int) < (((((l.getD 0 (0, ([], ()))).2).1).length : Nat) : Int)) := h0
    rw [show lnS l = k by omega]
    exact ⟨rfl, rfl, rfl, rfl⟩
def CRVs : List (Nat × Con) := (60, pureC [.v (.sl (.cons (.int .i64) (.cons .str .nil))), .v (.int .i64), .v .u8] sRVs) :: CRBt
theorem kRVs : Known Tryd.prog (En CRVs tys G6 QCo2) := kRBt.add Tryd.func60 Tryd.call60 [.k] fun ds p v bs h hp => by
  unfold sRVs at h
  split at h <;> simp only [Option.some.injEq, Prod.mk.injEq, reduceCtorEq] at h
  obtain ⟨rfl, rfl, rfl⟩ := h
  exact bRVs _ _ _ hp.1 hp.2.1 hp.2.2.1 hp.2.2.2.1 hp.2.2.2.2.1 hp.2.2.2.2.2
end Go.Proofs.YtakbedmeieeekaaDoor.S26

namespace Go.Proofs.YtakbedmeieeekaaDoor.S26
open Go Go.Proofs.YtakbedmeieeekaaDoor.Vc Go.Proofs
set_option maxRecDepth 100000

/-! ### the line through the first points -/
theorem tp_line {xs ys : List UInt8} (hr : rightP xs ys) {m : Nat} (h1 : 1 ≤ m) (hm : m ≤ xs.length) {d : Int} (hd : d = (m : Int) - 1) :
    ((tpL xs ys d).2 = 0 ↔ ∀ j, m ≤ j → j < xs.length → horner (xs.getD j 0) (lineL (xs.take m) (ys.take m)) = ys.getD j 0) ∧ ((tpL xs ys d).2 = 0 → (tpL xs ys d).1 = lineL (xs.take m) (ys.take m)) := by
  have hls := lineL_sz (xs.take m) (ys.take m)
  have hl : (xs.take m).length = m := by rw [List.length_take]; omega
  have hn : (xs.take m).Nodup := (right_take xs ys m hr).1
  have hlv : ∀ j, j < m → horner (xs.getD j 0) (lineL (xs.take m) (ys.take m)) = ys.getD j 0 := fun j hj => by
    have := lineL_val (xs.take m) (ys.take m) hn j (by omega)
    rwa [getD_take _ _ _ hj, getD_take _ _ _ hj] at this
  have key : (tpL xs ys d).2 = 0 → thrL xs ys = lineL (xs.take m) (ys.take m) := fun h => by
    have hdg : ¬ d < degL (thrL xs ys) := fun g => by
      unfold tpL at h
      rw [if_pos hr, if_neg (by omega), if_neg (by omega), if_pos g] at h
      exact absurd h (by decide)
    rw [thr_line xs ys hr] at hdg ⊢
    rw [← lineL_trim xs ys, ← lineL_trim (xs.take m) (ys.take m)]
    refine poly_unique (xs.take m) _ _ hn (fun x hx => ?_) (by rw [degL_sz] at hdg; omega) (by omega)
    obtain ⟨k, hk, rfl⟩ := getD_mem' (d := 0) hx
    rw [hl] at hk
    rw [getD_take _ _ _ hk, lineL_val xs ys hr.1 k (by omega), hlv k hk]
  have hone : (tpL xs ys d).2 = 0 → (tpL xs ys d).1 = thrL xs ys := fun h => by
    unfold tpL at h ⊢
    rw [if_pos hr, if_neg (by omega), if_neg (by omega)] at h ⊢
    split at h
    · exact absurd h (by decide)
    · rename_i g; rw [if_neg g]
  refine ⟨⟨fun h j hj hjl => ?_, fun h => ?_⟩, fun h => (hone h).trans (key h)⟩
  · rw [← key h, thr_line xs ys hr, lineL_val xs ys hr.1 j hjl]
  · have hth : thrL xs ys = lineL (xs.take m) (ys.take m) := by
      rw [thr_line xs ys hr, ← lineL_trim xs ys, ← lineL_trim (xs.take m) (ys.take m)]
      refine poly_unique xs _ _ hr.1 (fun x hx => ?_) (lineL_sz xs ys) (by omega)
      obtain ⟨k, hk, rfl⟩ := getD_mem' (d := 0) hx
      rw [lineL_val xs ys hr.1 k hk]
      by_cases e : k < m
      · rw [hlv k e]
      · rw [h k (by omega) hk]
    unfold tpL
    rw [if_pos hr, if_neg (by omega), if_neg (by omega), if_neg]
    rw [hth, degL_sz]
    omega
theorem pt_nat' {h : Int} (hh : knw h) : (pt h).toNat = h.toNat + 1 := by
  obtain ⟨a, b⟩ := hh
  have := pt_nat (h := h.toNat) (by omega)
  rwa [Int.toNat_of_nonneg a] at this
theorem up_lt {l : List (Int × List UInt8 × Unit)} (h : ∀ k, k + 1 < l.length → (l.getD k (0, [], ())).1 < (l.getD (k + 1) (0, [], ())).1) {i j : Nat} (hij : i < j) : j < l.length → (l.getD i (0, [], ())).1 < (l.getD j (0, [], ())).1 := by
  induction j with
  | zero => omega
  | succ j ih =>
    intro hj
    have h1 := h j hj
    by_cases e : i = j
    · rw [e]; exact h1
    · have := ih (by omega) (by omega); omega
theorem ShOk.nodup {l : List (Int × List UInt8 × Unit)} (hc : ShOk l) : (xsL l).Nodup := by
  rw [List.nodup_iff_pairwise_ne, List.pairwise_iff_getElem]
  intro i j hi hj hij
  rw [xsL_len] at hi hj
  have h1 := up_lt hc.up hij hj
  have h2 := pt_nat' (hc.house _ (getD_mem (0, [], ()) l i hi))
  have h3 := pt_nat' (hc.house _ (getD_mem (0, [], ()) l j hj))
  have h4 := hc.house _ (getD_mem (0, [], ()) l i hi)
  intro e
  have e1 : (xsL l)[i] = pt (l.getD i (0, [], ())).1 := by rw [← xsL_get hi]; simp [List.getD_eq_getElem?_getD, hi, xsL_len]
  have e2 : (xsL l)[j] = pt (l.getD j (0, [], ())).1 := by rw [← xsL_get hj]; simp [List.getD_eq_getElem?_getD, hj, xsL_len]
  rw [e1, e2] at e
  have := congrArg UInt8.toNat e
  unfold knw at h4
  omega
theorem ShOk.right {l : List (Int × List UInt8 × Unit)} (hc : ShOk l) (k : Nat) : rightP (xsL l) (ysL l k) := ⟨hc.nodup, by rw [xsL_len, ysL_len]⟩
theorem xsL_take (l : List (Int × List UInt8 × Unit)) (m : Nat) : xsL (l.take m) = (xsL l).take m := List.map_take
theorem ysL_take (l : List (Int × List UInt8 × Unit)) (k m : Nat) : ysL (l.take m) k = (ysL l k).take m := List.map_take
theorem vlB_get {b : List (Int × List UInt8 × Unit)} {n : Nat} {x : UInt8} {k : Nat} (h : k < n) : (vlB b n x).getD k 0 = horner x (lineL (xsL b) (ysL b k)) := map_range_get h
theorem up_next2 {m : Int} {P : Nat → Prop} {k : Nat} (h : ∀ j, m ≤ ((j : Nat) : Int) → j < k → P j) (hk : P k) : ∀ j, m ≤ ((j : Nat) : Int) → j < k + 1 → P j := fun j h1 hj => by
  rcases Nat.lt_or_eq_of_le (Nat.le_of_lt_succ hj) with g | g
  · exact h j h1 g
  · rw [g]; exact hk
theorem jn_yes {l : List (Int × List UInt8 × Unit)} (hc : ShOk l) {nd : Int} (h1 : 1 ≤ nd) (h2 : nd ≤ (l.length : Int)) (h : ∀ j, nd ≤ ((j : Nat) : Int) → j < l.length → vlB (l.take nd.toNat) (lnS l) (pt (l.getD j (0, [], ())).1) = (l.getD j (0, [], ())).2.1) (x : UInt8) : jnE l nd = 0 ∧ jnS l nd x = vlB (l.take nd.toNat) (lnS l) x := by
  have ht : ∀ k, k < lnS l → (tpL (xsL l) (ysL l k) (nd - 1)).2 = 0 ∧ (tpL (xsL l) (ysL l k) (nd - 1)).1 = lineL (xsL (l.take nd.toNat)) (ysL (l.take nd.toNat) k) := fun k hk => by
    have ht := tp_line (hc.right k) (m := nd.toNat) (by omega) (by rw [xsL_len]; omega) (d := nd - 1) (by omega)
    have h0 : (tpL (xsL l) (ysL l k) (nd - 1)).2 = 0 := ht.1.2 fun j hj hjl => by
      rw [xsL_len] at hjl
      have := congrArg (fun s : List UInt8 => s.getD k 0) (h j (by omega) hjl)
      rw [vlB_get hk, xsL_take, ysL_take] at this
      rw [xsL_get hjl, ysL_get hjl, this]
    exact ⟨h0, by rw [ht.2 h0, xsL_take, ysL_take]⟩
  have e := jn0 (l := l) (nd := nd) (by omega) fun k hk => (ht k hk).1
  refine ⟨e, ?_⟩
  rw [jnS0 e]
  unfold jnK vlB
  apply List.map_congr_left
  intro k hk
  rw [(ht k (List.mem_range.1 hk)).2]
theorem jn_no {l : List (Int × List UInt8 × Unit)} (hc : ShOk l) {nd : Int} (h1 : 1 ≤ nd) (h2 : nd ≤ (l.length : Int)) {j : Nat} (hj : nd ≤ (j : Int)) (hjl : j < l.length) (h : vlB (l.take nd.toNat) (lnS l) (pt (l.getD j (0, [], ())).1) ≠ (l.getD j (0, [], ())).2.1) : jnE l nd = 14 := by
  rcases Classical.em (∀ k, k < lnS l → (tpL (xsL l) (ysL l k) (nd - 1)).2 = 0) with g | g
  · exfalso
    apply h
    refine ext_get (vlB_len _ _ _) (hc.bytes _ (getD_mem (0, [], ()) l j hjl)) fun k hk => ?_
    have ht := (tp_line (hc.right k) (m := nd.toNat) (by omega) (by rw [xsL_len]; omega) (d := nd - 1) (by omega)).1.1 (g k hk) j (by omega) (by rw [xsL_len]; exact hjl)
    rw [xsL_get hjl, ysL_get hjl] at ht
    rw [vlB_get hk, xsL_take, ysL_take, ht]
  · obtain ⟨k, hk⟩ := Classical.not_forall.1 g
    obtain ⟨hk, hb⟩ := Classical.not_imp.1 hk
    exact jn14 (by omega) hk hb
end Go.Proofs.YtakbedmeieeekaaDoor.S26

namespace Go.Proofs.YtakbedmeieeekaaDoor.S26
open Go Go.Proofs.YtakbedmeieeekaaDoor.Vc Go.Proofs
set_option maxRecDepth 100000
set_option linter.unusedVariables false

def sRjo : List V → Option (Prop × V × List Blk)
  | [.sl false (.cons (.int .i64) (.cons .str .nil)) l, .int .i64 nd, .u8 x] => some (chkE l = 0 ∧ 1 ≤ nd ∧ nd ≤ 12, .agg [.str (jnS l nd x), .int .i64 (jnE l nd)], [])
  | _ => none
set_option maxHeartbeats 2000000 in
theorem bRjo (l : List (Int × (List UInt8 × Unit))) (nd : Int) (x : UInt8) (hp0 : chkE l = 0) (hp1 : 1 ≤ nd) (hp2 : nd ≤ 12) : bodyP (En CRVs tys G6 QCo2) Tryd.f41 [.k, .k] [.sl false (.cons (.int .i64) (.cons .str .nil)) l, .int .i64 nd, .u8 x] (.agg [.str (jnS l nd x), .int .i64 (jnE l nd)]) [] := by
  have hc := chk0 hp0
  have hcl := hc.len
  have hcm := hc.max
  have hcb := hc.bytes
  have hch := hc.house
  refine ⟨fun h0 => ?_, fun h0 => ?_⟩
  · replace h0 : (l.length : Int) < nd := h0
    refine ⟨⟨rfl, rfl, rfl, Nat.le_of_ble_eq_true rfl⟩, ?_⟩
    have e : jnE l nd = 29 := jn29 h0
    have e4 : jnS l nd x = [] := jnSn (by rw [e]; decide)
    rw [e4, e]
    exact ⟨rfl, rfl, rfl, rfl⟩
  · replace h0 : ¬ ((l.length : Int) < nd) := h0
    refine ⟨1, [(0, .k), (1, .k), (2, .k), (6, .k), (7, .k)], fun nM vs H => ∃ (k : Nat), nd ≤ (k : Int) ∧ (∀ j, nd ≤ ((j : Nat) : Int) → j < k → vlB (l.take nd.toNat) (lnS l) (pt (l.getD j (0, [], ())).1) = (l.getD j (0, [], ())).2.1) ∧ nM = l.length - k ∧ vs = [.sl false (.cons (.int .i64) (.cons .str .nil)) l, .int .i64 nd, .u8 x, .ptr 0 1 0 0, .int .i64 (k : Int)] ∧ H = [.cells [.str ([]), .int .i64 0]], ⟨rfl, l.length - nd.toNat, nd.toNat, by omega, fun j h1 h2 => absurd h2 (by omega), by omega, by rw [Int.toNat_of_nonneg (by omega)]; rfl, rfl⟩, ?_⟩
    rintro nM vs H ⟨k, hc1_0, hc1_1, rfl, rfl, rfl⟩
    refine ⟨fun h1 => ?_, fun h1 => ?_⟩
    · replace h1 : (k : Int) < (l.length : Int) := h1
      have hk : k < l.length := by omega
      obtain ⟨a1, a2⟩ := hch _ (getD_mem (0, [], ()) l k hk)
      refine ⟨⟨by show (0 : Int) ≤ (k : Int); omega, by show (k : Int) < (l.length : Int); omega⟩, ⟨by show (-9223372036854775808 : Int) ≤ (((l.getD k (0, ([], ()))).1) + 1); omega, by show (((l.getD k (0, ([], ()))).1) + 1) ≤ (9223372036854775807 : Int); omega⟩, rfl, ⟨by show l.length ≤ 1048576; first | omega | assumption, by show 1 ≤ nd; first | omega | assumption, by show nd ≤ (l.length : Int); first | omega | assumption, hcb, hch, by show lnS l ≤ 1048576; first | omega | assumption⟩, ⟨by show (0 : Int) ≤ (k : Int); omega, by show (k : Int) < (l.length : Int); omega⟩, fun h2 => ?_, fun h2 => ?_⟩
      · replace h2 : (vlB (l.take nd.toNat) (lnS l) (UInt8.ofNat ((((l.getD k (0, ([], ()))).1) + 1) % 256).toNat)) ≠ (((l.getD k (0, ([], ()))).2).1) := h2
        refine ⟨⟨rfl, rfl, rfl, Nat.le_of_ble_eq_true rfl⟩, ?_⟩
        have e : jnE l nd = 14 := jn_no hc hp1 (by omega) (by omega) hk h2
        have e4 : jnS l nd x = [] := jnSn (by rw [e]; decide)
        rw [e4, e]
        exact ⟨rfl, rfl, rfl, rfl⟩
      · replace h2 : ¬ ((vlB (l.take nd.toNat) (lnS l) (UInt8.ofNat ((((l.getD k (0, ([], ()))).1) + 1) % 256).toNat)) ≠ (((l.getD k (0, ([], ()))).2).1)) := h2
        refine ⟨⟨by show (-9223372036854775808 : Int) ≤ ((k : Int) + 1); omega, by show ((k : Int) + 1) ≤ (9223372036854775807 : Int); omega⟩, ?_⟩
        exact ⟨rfl, l.length - (k + 1), by omega, k + 1, by omega, up_next2 hc1_1 (Classical.not_not.1 h2), rfl, rfl, rfl⟩
    · replace h1 : ¬ ((k : Int) < (l.length : Int)) := h1
      obtain ⟨e, e4⟩ := jn_yes hc hp1 (by omega) (fun j h1 h2 => hc1_1 j h1 (by omega)) x
      refine ⟨rfl, ⟨by show l.length ≤ 1048576; first | omega | assumption, by show 1 ≤ nd; first | omega | assumption, by show nd ≤ (l.length : Int); first | omega | assumption, hcb, hch, by show lnS l ≤ 1048576; first | omega | assumption⟩, ⟨rfl, rfl, rfl, Nat.le_of_ble_eq_true rfl⟩, ?_⟩
      rw [e4, e]
      exact ⟨rfl, rfl, rfl, rfl⟩
def CRjo : List (Nat × Con) := (41, pureC [.v (.sl (.cons (.int .i64) (.cons .str .nil))), .v (.int .i64), .v .u8] sRjo) :: CRVs
theorem kRjo : Known Tryd.prog (En CRjo tys G6 QCo2) := kRVs.add Tryd.func41 Tryd.call41 [.k, .k] fun ds p v bs h hp => by
  unfold sRjo at h
  split at h <;> simp only [Option.some.injEq, Prod.mk.injEq, reduceCtorEq] at h
  obtain ⟨rfl, rfl, rfl⟩ := h
  exact bRjo _ _ _ hp.1 hp.2.1 hp.2.2
end Go.Proofs.YtakbedmeieeekaaDoor.S26

namespace Go.Proofs.YtakbedmeieeekaaDoor.S26
open Go Go.Proofs.YtakbedmeieeekaaDoor.Vc Go.Proofs
set_option maxRecDepth 100000
theorem no_b {p : Prop} (h : ¬ p) : (false = true) = p := propext ⟨fun g => Bool.noConfusion g, fun g => absurd g h⟩
theorem yes_b {p : Prop} (h : p) : (true = true) = p := propext ⟨fun _ => h, fun _ => rfl⟩
theorem same_end {α : Type} {a b : List α} {k : Nat} (hk : a.length ≤ k) (hl : a.length = b.length) (h : a.take k = b.take k) : a = b := by
  rwa [List.take_of_length_le hk, List.take_of_length_le (by omega)] at h
theorem same_next {α : Type} {d : α} {a b : List α} {k : Nat} (hk : k < a.length) (hl : a.length = b.length) (h : a.take k = b.take k) (he : a.getD k d = b.getD k d) : a.take (k + 1) = b.take (k + 1) := by
  rw [takeD d a k hk, takeD d b k (by omega), h, he]
end Go.Proofs.YtakbedmeieeekaaDoor.S26

namespace Go.Proofs.YtakbedmeieeekaaDoor.S26
open Go Go.Proofs.YtakbedmeieeekaaDoor.Vc Go.Proofs
set_option maxRecDepth 100000
set_option linter.unusedVariables false

def sRrd : List V → Option (Prop × V × List Blk)
  | [.sl false (.cons (.int .i64) (.cons .str .nil)) l, .int .i64 nd] => some (l.length ≤ 1048576, .int .i64 (rdE l nd), [])
  | _ => none
set_option maxHeartbeats 1000000 in
theorem bRrd (l : List (Int × (List UInt8 × Unit))) (nd : Int) (hp0 : l.length ≤ 1048576) : bodyP (En CRjo tys G6 QCo2) Tryd.f40 [.k] [.sl false (.cons (.int .i64) (.cons .str .nil)) l, .int .i64 nd] (.int .i64 (rdE l nd)) [] := by
  refine ⟨by show l.length ≤ 1048576; first | omega | assumption, fun h0 => ?_, fun h0 => ?_⟩
  · replace h0 : (chkE l) ≠ 0 := h0
    rw [show rdE l nd = chkE l from if_neg h0]
    exact ⟨rfl, rfl, rfl, rfl⟩
  · replace h0 : ¬ ((chkE l) ≠ 0) := h0
    refine ⟨fun h1 => ?_, fun h1 => ?_⟩
    · replace h1 : ¬ (nd < 1) := h1
      refine ⟨fun h2 => ?_, fun h2 => ?_⟩
      · replace h2 : 12 < nd := h2
        rw [show rdE l nd = 3 by unfold rdE; rw [if_pos (Classical.not_not.1 h0), if_pos (by omega)]]
        exact ⟨rfl, rfl, rfl, rfl⟩
      · replace h2 : ¬ (12 < nd) := h2
        rw [show rdE l nd = 0 by unfold rdE; rw [if_pos (Classical.not_not.1 h0), if_neg (by omega)]]
        exact ⟨rfl, rfl, rfl, rfl⟩
    · replace h1 : nd < 1 := h1
      rw [show rdE l nd = 3 by unfold rdE; rw [if_pos (Classical.not_not.1 h0), if_pos (by omega)]]
      exact ⟨rfl, rfl, rfl, rfl⟩
def CRrd : List (Nat × Con) := (40, pureC [.v (.sl (.cons (.int .i64) (.cons .str .nil))), .v (.int .i64)] sRrd) :: CRjo
theorem kRrd : Known Tryd.prog (En CRrd tys G6 QCo2) := kRjo.add Tryd.func40 Tryd.call40 [.k] fun ds p v bs h hp => by
  unfold sRrd at h
  split at h <;> simp only [Option.some.injEq, Prod.mk.injEq, reduceCtorEq] at h
  obtain ⟨rfl, rfl, rfl⟩ := h
  exact bRrd _ _ hp
def sRJo : List V → Option (Prop × V × List Blk)
  | [.sl false (.cons (.int .i64) (.cons .str .nil)) l, .int .i64 nd] => some (l.length ≤ 1048576, .agg [.str (joS l nd 0), .int .i64 (joE l nd)], [])
  | _ => none
set_option maxHeartbeats 1000000 in
theorem bRJo (l : List (Int × (List UInt8 × Unit))) (nd : Int) (hp0 : l.length ≤ 1048576) : bodyP (En CRrd tys G6 QCo2) Tryd.f18 [.k, .k] [.sl false (.cons (.int .i64) (.cons .str .nil)) l, .int .i64 nd] (.agg [.str (joS l nd 0), .int .i64 (joE l nd)]) [] := by
  refine ⟨rfl, by show l.length ≤ 1048576; first | omega | assumption, fun h0 => ?_, fun h0 => ?_⟩
  · replace h0 : (rdE l nd) ≠ 0 := h0
    refine ⟨⟨rfl, rfl, rfl, Nat.le_of_ble_eq_true rfl⟩, ?_⟩
    rw [show joE l nd = rdE l nd from if_neg h0, show joS l nd 0 = [] from if_neg h0]
    exact ⟨rfl, rfl, rfl, rfl⟩
  · replace h0 : ¬ ((rdE l nd) ≠ 0) := h0
    have r := Classical.not_not.1 h0
    obtain ⟨r1, r2, r3⟩ := rd0 r
    have hc := chk0 r1
    have hrl := hc.len
    have hcb := hc.bytes
    refine ⟨rfl, ⟨by show chkE l = 0; first | omega | assumption, by show 1 ≤ nd; first | omega | assumption, by show nd ≤ 12; first | omega | assumption⟩, ⟨rfl, rfl, rfl, Nat.le_of_ble_eq_true rfl⟩, ?_⟩
    rw [show joE l nd = jnE l nd from if_pos r, show joS l nd 0 = jnS l nd 0 from if_pos r]
    exact ⟨rfl, rfl, rfl, rfl⟩
def CRJo : List (Nat × Con) := (18, pureC [.v (.sl (.cons (.int .i64) (.cons .str .nil))), .v (.int .i64)] sRJo) :: CRrd
theorem kRJo : Known Tryd.prog (En CRJo tys G6 QCo2) := kRrd.add Tryd.func18 Tryd.call18 [.k, .k] fun ds p v bs h hp => by
  unfold sRJo at h
  split at h <;> simp only [Option.some.injEq, Prod.mk.injEq, reduceCtorEq] at h
  obtain ⟨rfl, rfl, rfl⟩ := h
  exact bRJo _ _ hp
def sREx : List V → Option (Prop × V × List Blk)
  | [.sl false (.cons (.int .i64) (.cons .str .nil)) l, .int .i64 nd, .int .i64 h] => some (l.length ≤ 1048576, .agg [.int .i64 (exH l nd h), .str (exS l nd h), .int .i64 (exE l nd h)], [])
  | _ => none
set_option maxHeartbeats 1000000 in
theorem bREx (l : List (Int × (List UInt8 × Unit))) (nd : Int) (h : Int) (hp0 : l.length ≤ 1048576) : bodyP (En CRJo tys G6 QCo2) Tryd.f20 [.k, .k, .k] [.sl false (.cons (.int .i64) (.cons .str .nil)) l, .int .i64 nd, .int .i64 h] (.agg [.int .i64 (exH l nd h), .str (exS l nd h), .int .i64 (exE l nd h)]) [] := by
  refine ⟨rfl, by show l.length ≤ 1048576; first | omega | assumption, fun h0 => ?_, fun h0 => ?_⟩
  · replace h0 : (rdE l nd) ≠ 0 := h0
    refine ⟨⟨rfl, rfl, rfl, Nat.le_of_ble_eq_true rfl⟩, ?_⟩
    have e : exE l nd h = rdE l nd := by unfold exE; rw [if_neg h0]
    have e1 : exH l nd h = 0 := if_neg (by rw [e]; exact h0)
    have e2 : exS l nd h = [] := if_neg (by rw [e]; exact h0)
    rw [e1, e2, e]
    exact ⟨rfl, rfl, rfl, rfl⟩
  · replace h0 : ¬ ((rdE l nd) ≠ 0) := h0
    have r := Classical.not_not.1 h0
    obtain ⟨r1, r2, r3⟩ := rd0 r
    have hc := chk0 r1
    have hrl := hc.len
    have hcb := hc.bytes
    refine ⟨rfl, trivial, fun h1 => ?_, fun h1 => ?_⟩
    · replace h1 : ¬ (knw h) := h1
      refine ⟨⟨rfl, rfl, rfl, Nat.le_of_ble_eq_true rfl⟩, ?_⟩
      have e : exE l nd h = 1 := by unfold exE; rw [if_pos r, if_neg h1]
      have e1 : exH l nd h = 0 := if_neg (by rw [e]; exact (by decide))
      have e2 : exS l nd h = [] := if_neg (by rw [e]; exact (by decide))
      rw [e1, e2, e]
      exact ⟨rfl, rfl, rfl, rfl⟩
    · replace h1 : ¬ (¬ (knw h)) := h1
      have k0 := Classical.not_not.1 h1
      obtain ⟨k1, k2⟩ := id k0
      refine ⟨⟨by show (-9223372036854775808 : Int) ≤ (h + 1); omega, by show (h + 1) ≤ (9223372036854775807 : Int); omega⟩, rfl, ⟨by show chkE l = 0; first | omega | assumption, by show 1 ≤ nd; first | omega | assumption, by show nd ≤ 12; first | omega | assumption⟩, ⟨rfl, rfl, rfl, Nat.le_of_ble_eq_true rfl⟩, fun h2 => ?_, fun h2 => ?_⟩
      · replace h2 : (jnE l nd) ≠ 0 := h2
        refine ⟨⟨rfl, rfl, rfl, Nat.le_of_ble_eq_true rfl⟩, ?_⟩
        have e : exE l nd h = jnE l nd := by unfold exE; rw [if_pos r, if_pos k0]
        have e1 : exH l nd h = 0 := if_neg (by rw [e]; exact h2)
        have e2 : exS l nd h = [] := if_neg (by rw [e]; exact h2)
        rw [e1, e2, e]
        exact ⟨rfl, rfl, rfl, rfl⟩
      · replace h2 : ¬ ((jnE l nd) ≠ 0) := h2
        refine ⟨⟨rfl, rfl, rfl, Nat.le_of_ble_eq_true rfl⟩, ?_⟩
        have e : exE l nd h = 0 := by unfold exE; rw [if_pos r, if_pos k0]; exact Classical.not_not.1 h2
        have e1 : exH l nd h = h := if_pos e
        have e2 : exS l nd h = jnS l nd (pt h) := if_pos e
        rw [e1, e2, e]
        exact ⟨rfl, rfl, rfl, rfl⟩
def CREx : List (Nat × Con) := (20, pureC [.v (.sl (.cons (.int .i64) (.cons .str .nil))), .v (.int .i64), .v (.int .i64)] sREx) :: CRJo
theorem kREx : Known Tryd.prog (En CREx tys G6 QCo2) := kRJo.add Tryd.func20 Tryd.call20 [.k, .k, .k] fun ds p v bs h hp => by
  unfold sREx at h
  split at h <;> simp only [Option.some.injEq, Prod.mk.injEq, reduceCtorEq] at h
  obtain ⟨rfl, rfl, rfl⟩ := h
  exact bREx _ _ _ hp
def sRAd : List V → Option (Prop × V × List Blk)
  | [.agg [.int .i64 ah, .str ab], .agg [.int .i64 bh, .str bb]] => some (ab.length ≤ 1048576 ∧ bb.length ≤ 1048576, .agg [.int .i64 (adH (ah, ab, ()) (bh, bb, ())), .str (adS (ah, ab, ()) (bh, bb, ())), .int .i64 (adE (ah, ab, ()) (bh, bb, ()))], [])
  | _ => none
set_option maxHeartbeats 1000000 in
theorem bRAd (ah : Int) (ab : List UInt8) (bh : Int) (bb : List UInt8) (hp0 : ab.length ≤ 1048576) (hp1 : bb.length ≤ 1048576) : bodyP (En CREx tys G6 QCo2) Tryd.f26 [.k, .k, .k] [.agg [.int .i64 ah, .str ab], .agg [.int .i64 bh, .str bb]] (.agg [.int .i64 (adH (ah, ab, ()) (bh, bb, ())), .str (adS (ah, ab, ()) (bh, bb, ())), .int .i64 (adE (ah, ab, ()) (bh, bb, ()))]) [] := by
  refine ⟨rfl, by show ([(ah, ab, ())] : List (Int × (List UInt8 × Unit))).length ≤ 1048576; first | omega | assumption | (simp only [List.length_cons, List.length_nil, List.length_append, List.length_take, List.length_drop, List.length_set, List.length_replicate]; omega), fun h0 => ?_, fun h0 => ?_⟩
  · replace h0 : (chkE ([(ah, ab, ())] : List (Int × (List UInt8 × Unit)))) = 0 := h0
    refine ⟨rfl, by show ([(bh, bb, ())] : List (Int × (List UInt8 × Unit))).length ≤ 1048576; first | omega | assumption | (simp only [List.length_cons, List.length_nil, List.length_append, List.length_take, List.length_drop, List.length_set, List.length_replicate]; omega), fun h1 => ?_, fun h1 => ?_⟩
    · replace h1 : (chkE ([(bh, bb, ())] : List (Int × (List UInt8 × Unit)))) ≠ 0 := h1
      refine ⟨⟨rfl, rfl, rfl, Nat.le_of_ble_eq_true rfl⟩, ?_⟩
      have e : adE (ah, ab, ()) (bh, bb, ()) = chkE [(bh, bb, ())] := by unfold adE; rw [if_pos h0, if_neg h1]
      have e1 : adH (ah, ab, ()) (bh, bb, ()) = 0 := if_neg (by rw [e]; exact h1)
      have e2 : adS (ah, ab, ()) (bh, bb, ()) = [] := if_neg (by rw [e]; exact h1)
      rw [e1, e2, e]
      exact ⟨rfl, rfl, rfl, rfl⟩
    · replace h1 : ¬ ((chkE ([(bh, bb, ())] : List (Int × (List UInt8 × Unit)))) ≠ 0) := h1
      have cb := Classical.not_not.1 h1
      refine ⟨fun h2 => ?_, fun h2 => ?_⟩
      · replace h2 : ¬ (ah ≠ bh) := h2
        refine ⟨fun h3 => ?_, fun h3 => ?_⟩
        · replace h3 : (ab.length : Int) ≠ (bb.length : Int) := h3
          refine ⟨⟨rfl, rfl, rfl, Nat.le_of_ble_eq_true rfl⟩, ?_⟩
          have e : adE (ah, ab, ()) (bh, bb, ()) = 1 := by unfold adE; rw [if_pos h0, if_pos cb, if_neg (fun g => h3 (by rw [g.2]))]
          have e1 : adH (ah, ab, ()) (bh, bb, ()) = 0 := if_neg (by rw [e]; exact (by decide))
          have e2 : adS (ah, ab, ()) (bh, bb, ()) = [] := if_neg (by rw [e]; exact (by decide))
          rw [e1, e2, e]
          exact ⟨rfl, rfl, rfl, rfl⟩
        · replace h3 : ¬ ((ab.length : Int) ≠ (bb.length : Int)) := h3
          refine ⟨by kernel_rfl, ⟨by show ab.length ≤ 1000000000; first | omega | assumption, by show bb.length ≤ 1000000000; first | omega | assumption⟩, ⟨rfl, rfl, rfl, Nat.le_of_ble_eq_true rfl⟩, ?_⟩
          have e : adE (ah, ab, ()) (bh, bb, ()) = 0 := by unfold adE; rw [if_pos h0, if_pos cb, if_pos ⟨Classical.not_not.1 h2, by show ab.length = bb.length; omega⟩]
          have e1 : adH (ah, ab, ()) (bh, bb, ()) = ah := if_pos e
          have e2 : adS (ah, ab, ()) (bh, bb, ()) = sumB ab bb := if_pos e
          rw [e1, e2, e]
          exact ⟨rfl, rfl, rfl, rfl⟩
      · replace h2 : ah ≠ bh := h2
        refine ⟨⟨rfl, rfl, rfl, Nat.le_of_ble_eq_true rfl⟩, ?_⟩
        have e : adE (ah, ab, ()) (bh, bb, ()) = 1 := by unfold adE; rw [if_pos h0, if_pos cb, if_neg (fun g => h2 g.1)]
        have e1 : adH (ah, ab, ()) (bh, bb, ()) = 0 := if_neg (by rw [e]; exact (by decide))
        have e2 : adS (ah, ab, ()) (bh, bb, ()) = [] := if_neg (by rw [e]; exact (by decide))
        rw [e1, e2, e]
        exact ⟨rfl, rfl, rfl, rfl⟩
  · replace h0 : ¬ ((chkE ([(ah, ab, ())] : List (Int × (List UInt8 × Unit)))) = 0) := h0
    refine ⟨fun h4 => ?_, fun h4 => absurd (show (chkE ([(ah, ab, ())] : List (Int × (List UInt8 × Unit)))) ≠ 0 by first | omega | assumption | simp_all) h4⟩
    refine ⟨⟨rfl, rfl, rfl, Nat.le_of_ble_eq_true rfl⟩, ?_⟩
    have e : adE (ah, ab, ()) (bh, bb, ()) = chkE [(ah, ab, ())] := by unfold adE; rw [if_neg h0]
    have e1 : adH (ah, ab, ()) (bh, bb, ()) = 0 := if_neg (by rw [e]; exact h0)
    have e2 : adS (ah, ab, ()) (bh, bb, ()) = [] := if_neg (by rw [e]; exact h0)
    rw [e1, e2, e]
    exact ⟨rfl, rfl, rfl, rfl⟩
def CRAd : List (Nat × Con) := (26, pureC [.v (.cons (.int .i64) (.cons .str .nil)), .v (.cons (.int .i64) (.cons .str .nil))] sRAd) :: CREx
theorem kRAd : Known Tryd.prog (En CRAd tys G6 QCo2) := kREx.add Tryd.func26 Tryd.call26 [.k, .k, .k] fun ds p v bs h hp => by
  unfold sRAd at h
  split at h <;> simp only [Option.some.injEq, Prod.mk.injEq, reduceCtorEq] at h
  obtain ⟨rfl, rfl, rfl⟩ := h
  exact bRAd _ _ _ _ hp.1 hp.2
def sRFi : List V → Option (Prop × V × List Blk)
  | [.sl false (.cons (.int .i64) (.cons .str .nil)) l, .int .i64 nd, .str s] => some (l.length ≤ 1048576 ∧ s.length ≤ 1048576, .agg [.int .i64 (ftN l nd s), .b (ftP l nd s)], [])
  | _ => none
set_option maxHeartbeats 1000000 in
theorem bRFi (l : List (Int × (List UInt8 × Unit))) (nd : Int) (s : List UInt8) (hp0 : l.length ≤ 1048576) (hp1 : s.length ≤ 1048576) : bodyP (En CRAd tys G6 QCo2) Tryd.f22 [.k, .k] [.sl false (.cons (.int .i64) (.cons .str .nil)) l, .int .i64 nd, .str s] (.agg [.int .i64 (ftN l nd s), .b (ftP l nd s)]) [] := by
  refine ⟨rfl, by show l.length ≤ 1048576; first | omega | assumption, fun h0 => ?_, fun h0 => ?_⟩
  · replace h0 : ¬ ((rdE l nd) ≠ 0) := h0
    have r := Classical.not_not.1 h0
    obtain ⟨r1, r2, r3⟩ := rd0 r
    have hc := chk0 r1
    have hrl := hc.len
    have hcb := hc.bytes
    refine ⟨fun h1 => ?_, fun h1 => ?_⟩
    · replace h1 : 4096 < (s.length : Int) := h1
      refine ⟨⟨rfl, rfl, rfl, Nat.le_of_ble_eq_true rfl⟩, ?_⟩
      have e : ftN l nd s = 0 := if_neg (fun g => by have := g.2.1; omega)
      have e2 : ftP l nd s = False := propext ⟨fun g => by have := g.2.1; omega, False.elim⟩
      rw [e, e2]
      exact ⟨rfl, rfl, rfl, rfl⟩
    · replace h1 : ¬ (4096 < (s.length : Int)) := h1
      refine ⟨1, [(0, .k), (1, .k), (2, .k), (6, .k), (7, .k)], fun nM vs H => ∃ (k : Nat), k ≤ l.length ∧ (∀ j, j < k → (l.getD j (0, [], ())).2.1.length = s.length) ∧ nM = l.length - k ∧ vs = [.sl false (.cons (.int .i64) (.cons .str .nil)) l, .int .i64 nd, .str s, .ptr 0 1 0 0, .int .i64 (k : Int)] ∧ H = [.cells [.int .i64 0, .b False]], ⟨rfl, l.length, 0, by omega, fun i h => absurd h (Nat.not_lt_zero i), by omega, rfl, rfl⟩, ?_⟩
      rintro nM vs H ⟨k, hc1_0, hc1_1, rfl, rfl, rfl⟩
      refine ⟨fun h2 => ?_, fun h2 => ?_⟩
      · replace h2 : (k : Int) < (l.length : Int) := h2
        have hk : k < l.length := by omega
        refine ⟨⟨by show (0 : Int) ≤ (k : Int); omega, by show (k : Int) < (l.length : Int); omega⟩, fun h3 => ?_, fun h3 => ?_⟩
        · replace h3 : (((((l.getD k (0, ([], ()))).2).1).length : Nat) : Int) ≠ (s.length : Int) := h3
          refine ⟨⟨rfl, rfl, rfl, Nat.le_of_ble_eq_true rfl⟩, ?_⟩
          have e : ftN l nd s = 0 := if_neg (fun g => by rcases g.2.2.1 with q | q; (omega); (exact h3 (by rw [hcb _ (getD_mem (0, [], ()) l k hk), q])))
          have e2 : ftP l nd s = False := propext ⟨fun g => by rcases g.2.2.1 with q | q; (omega); (exact h3 (by rw [hcb _ (getD_mem (0, [], ()) l k hk), q])), False.elim⟩
          rw [e, e2]
          exact ⟨rfl, rfl, rfl, rfl⟩
        · replace h3 : ¬ ((((((l.getD k (0, ([], ()))).2).1).length : Nat) : Int) ≠ (s.length : Int)) := h3
          refine ⟨⟨by show (-9223372036854775808 : Int) ≤ ((k : Int) + 1); omega, by show ((k : Int) + 1) ≤ (9223372036854775807 : Int); omega⟩, ?_⟩
          exact ⟨rfl, l.length - (k + 1), by omega, k + 1, by omega, up_next (P := fun j => (l.getD j (0, [], ())).2.1.length = s.length) hc1_1 (by omega), rfl, rfl, rfl⟩
      · replace h2 : ¬ ((k : Int) < (l.length : Int)) := h2
        have hls : l.length = 0 ∨ lnS l = s.length := by (rcases Nat.eq_zero_or_pos l.length with g | g; (exact .inl g); (exact .inr (hc1_1 0 (by omega))))
        refine ⟨fun h4 => ?_, fun h4 => ?_⟩
        · replace h4 : (l.length : Int) < nd := h4
          obtain ⟨b1, b2⟩ := mul_bd (a := (s.length : Int)) (b := (nd - 1) - (l.length : Int)) (A := 4096) (B := 12) (by omega) (by omega) (by omega) (by omega)
          refine ⟨⟨by show (-9223372036854775808 : Int) ≤ (nd - 1); omega, by show (nd - 1) ≤ (9223372036854775807 : Int); omega⟩, ⟨by show (-9223372036854775808 : Int) ≤ ((nd - 1) - (l.length : Int)); omega, by show ((nd - 1) - (l.length : Int)) ≤ (9223372036854775807 : Int); omega⟩, ⟨by show (-9223372036854775808 : Int) ≤ ((s.length : Int) * ((nd - 1) - (l.length : Int))); omega, by show ((s.length : Int) * ((nd - 1) - (l.length : Int))) ≤ (9223372036854775807 : Int); omega⟩, ⟨rfl, rfl, rfl, Nat.le_of_ble_eq_true rfl⟩, ?_⟩
          have e : ftN l nd s = (s.length : Int) * (nd - 1 - (l.length : Int)) := (if_pos ⟨r, by omega, hls, by omega⟩).trans (Int.mul_comm _ _)
          have e2 : ftP l nd s = (true = true) := propext ⟨fun _ => rfl, fun _ => ⟨r, by omega, hls, .inl (by omega)⟩⟩
          rw [e, e2]
          exact ⟨rfl, rfl, rfl, rfl⟩
        · replace h4 : ¬ ((l.length : Int) < nd) := h4
          refine ⟨rfl, ⟨by show chkE l = 0; first | omega | assumption, by show 1 ≤ nd; first | omega | assumption, by show nd ≤ 12; first | omega | assumption⟩, ⟨rfl, rfl, rfl, Nat.le_of_ble_eq_true rfl⟩, fun h5 => ?_, fun h5 => ?_⟩
          · replace h5 : (jnE l nd) = 0 := h5
            refine ⟨⟨rfl, rfl, rfl, Nat.le_of_ble_eq_true rfl⟩, ?_⟩
            have e : ftN l nd s = 0 := if_neg (fun g => by have := g.2.2.2; omega)
            have e2 : ftP l nd s = (jnS l nd 0 = s) := propext ⟨fun g => (g.2.2.2.resolve_left (by omega)).2, fun g => ⟨r, by omega, hls, .inr ⟨h5, g⟩⟩⟩
            rw [e, e2]
            exact ⟨rfl, rfl, rfl, rfl⟩
          · replace h5 : ¬ ((jnE l nd) = 0) := h5
            refine ⟨⟨rfl, rfl, rfl, Nat.le_of_ble_eq_true rfl⟩, ?_⟩
            have e : ftN l nd s = 0 := if_neg (fun g => by have := g.2.2.2; omega)
            have e2 : ftP l nd s = (false = true) := propext ⟨fun g => absurd (g.2.2.2.resolve_left (by omega)).1 h5, fun g => Bool.noConfusion g⟩
            rw [e, e2]
            exact ⟨rfl, rfl, rfl, rfl⟩
  · replace h0 : (rdE l nd) ≠ 0 := h0
    refine ⟨⟨rfl, rfl, rfl, Nat.le_of_ble_eq_true rfl⟩, ?_⟩
    have e : ftN l nd s = 0 := if_neg (fun g => h0 g.1)
    have e2 : ftP l nd s = False := propext ⟨fun g => h0 g.1, False.elim⟩
    rw [e, e2]
    exact ⟨rfl, rfl, rfl, rfl⟩
def CRFi : List (Nat × Con) := (22, pureC [.v (.sl (.cons (.int .i64) (.cons .str .nil))), .v (.int .i64), .v .str] sRFi) :: CRAd
theorem kRFi : Known Tryd.prog (En CRFi tys G6 QCo2) := kRAd.add Tryd.func22 Tryd.call22 [.k, .k] fun ds p v bs h hp => by
  unfold sRFi at h
  split at h <;> simp only [Option.some.injEq, Prod.mk.injEq, reduceCtorEq] at h
  obtain ⟨rfl, rfl, rfl⟩ := h
  exact bRFi _ _ _ hp.1 hp.2
def sRSa : List V → Option (Prop × V × List Blk)
  | [.sl false (.cons (.int .i64) (.cons .str .nil)) a, .sl false (.cons (.int .i64) (.cons .str .nil)) b] => some (a.length ≤ 1048576 ∧ b.length ≤ 1048576, .b (a = b), [])
  | _ => none
set_option maxHeartbeats 1000000 in
theorem bRSa (a : List (Int × (List UInt8 × Unit))) (b : List (Int × (List UInt8 × Unit))) (hp0 : a.length ≤ 1048576) (hp1 : b.length ≤ 1048576) : bodyP (En CRFi tys G6 QCo2) Tryd.f15 [.k] [.sl false (.cons (.int .i64) (.cons .str .nil)) a, .sl false (.cons (.int .i64) (.cons .str .nil)) b] (.b (a = b)) [] := by
  refine ⟨fun h0 => ?_, fun h0 => ?_⟩
  · replace h0 : (a.length : Int) ≠ (b.length : Int) := h0
    exact ⟨rfl, rfl, congrArg V.b (no_b (fun h => h0 (by rw [h]))), rfl⟩
  · replace h0 : ¬ ((a.length : Int) ≠ (b.length : Int)) := h0
    have hl : a.length = b.length := by omega
    refine ⟨0, [(0, .k), (1, .k), (5, .k)], fun nM vs H => ∃ (k : Nat), k ≤ a.length ∧ a.take k = b.take k ∧ nM = a.length - k ∧ vs = [.sl false (.cons (.int .i64) (.cons .str .nil)) a, .sl false (.cons (.int .i64) (.cons .str .nil)) b, .int .i64 (k : Int)] ∧ H = [], ⟨rfl, a.length, 0, by omega, rfl, by omega, rfl, rfl⟩, ?_⟩
    rintro nM vs H ⟨k, hc1_0, hc1_1, rfl, rfl, rfl⟩
    refine ⟨fun h1 => ?_, fun h1 => ?_⟩
    · replace h1 : (k : Int) < (a.length : Int) := h1
      have hk : k < a.length := by omega
      refine ⟨by kernel_rfl, ⟨by show (0 : Int) ≤ (k : Int); omega, by show (k : Int) < (a.length : Int); omega⟩, ⟨by show (0 : Int) ≤ (k : Int); omega, by show (k : Int) < (b.length : Int); omega⟩, fun h2 => ?_, fun h2 => ?_⟩
      · replace h2 : ¬ (((a.getD k (0, ([], ()))).1) = ((b.getD k (0, ([], ()))).1) ∧ ((((a.getD k (0, ([], ()))).2).1) = (((b.getD k (0, ([], ()))).2).1) ∧ True)) := h2
        exact ⟨rfl, rfl, congrArg V.b (no_b (fun h => h2 (by rw [h]; exact ⟨rfl, rfl, trivial⟩))), rfl⟩
      · replace h2 : ¬ (¬ (((a.getD k (0, ([], ()))).1) = ((b.getD k (0, ([], ()))).1) ∧ ((((a.getD k (0, ([], ()))).2).1) = (((b.getD k (0, ([], ()))).2).1) ∧ True))) := h2
        have hq := Classical.not_not.1 h2
        have hqe : a.getD k (0, [], ()) = b.getD k (0, [], ()) := Prod.ext hq.1 (Prod.ext hq.2.1 rfl)
        refine ⟨⟨by show (-9223372036854775808 : Int) ≤ ((k : Int) + 1); omega, by show ((k : Int) + 1) ≤ (9223372036854775807 : Int); omega⟩, ?_⟩
        exact ⟨rfl, a.length - (k + 1), by omega, k + 1, by omega, same_next (d := (0, [], ())) hk hl hc1_1 hqe, rfl, rfl, rfl⟩
    · replace h1 : ¬ ((k : Int) < (a.length : Int)) := h1
      exact ⟨rfl, rfl, congrArg V.b (yes_b (same_end (by omega) hl hc1_1)), rfl⟩
def CRSa : List (Nat × Con) := (15, pureC [.v (.sl (.cons (.int .i64) (.cons .str .nil))), .v (.sl (.cons (.int .i64) (.cons .str .nil)))] sRSa) :: CRFi
theorem kRSa : Known Tryd.prog (En CRSa tys G6 QCo2) := kRFi.add Tryd.func15 Tryd.call15 [.k] fun ds p v bs h hp => by
  unfold sRSa at h
  split at h <;> simp only [Option.some.injEq, Prod.mk.injEq, reduceCtorEq] at h
  obtain ⟨rfl, rfl, rfl⟩ := h
  exact bRSa _ _ hp.1 hp.2
def sRFw : List V → Option (Prop × V × List Blk)
  | [.sl false (.cons (.int .i64) (.cons .str .nil)) l, .int .i64 z] => some (l.length ≤ 1048576, .b (fewS l z), [])
  | _ => none
set_option maxHeartbeats 1000000 in
theorem bRFw (l : List (Int × (List UInt8 × Unit))) (z : Int) (hp0 : l.length ≤ 1048576) : bodyP (En CRSa tys G6 QCo2) Tryd.f16 [.k] [.sl false (.cons (.int .i64) (.cons .str .nil)) l, .int .i64 z] (.b (fewS l z)) [] := by
  refine ⟨0, [(0, .k), (1, .k), (5, .k)], fun nM vs H => ∃ (k : Nat), k ≤ l.length ∧ (l.take k).all (fwB z) = true ∧ nM = l.length - k ∧ vs = [.sl false (.cons (.int .i64) (.cons .str .nil)) l, .int .i64 z, .int .i64 (k : Int)] ∧ H = [], ⟨rfl, l.length, 0, by omega, rfl, by omega, rfl, rfl⟩, ?_⟩
  rintro nM vs H ⟨k, hc1_0, hc1_1, rfl, rfl, rfl⟩
  refine ⟨fun h0 => ?_, fun h0 => ?_⟩
  · replace h0 : (k : Int) < (l.length : Int) := h0
    have hk : k < l.length := by omega
    refine ⟨⟨by show (0 : Int) ≤ (k : Int); omega, by show (k : Int) < (l.length : Int); omega⟩, fun h1 => ?_, fun h1 => ?_⟩
    · replace h1 : z < (((((l.getD k (0, ([], ()))).2).1).length : Nat) : Int) := h1
      refine ⟨fun h2 => ?_, fun h2 => ?_⟩
      · replace h2 : ¬ ((((((l.getD k (0, ([], ()))).2).1).length : Nat) : Int) ≤ 4096) := h2
        refine ⟨fun h3 => ?_, fun h3 => ?_⟩
        · replace h3 : 5000 < (((((l.getD k (0, ([], ()))).2).1).length : Nat) : Int) := h3
          exact ⟨rfl, rfl, congrArg V.b (no_b (fun g => by have := List.all_eq_true.1 g.2 _ (getD_mem (0, [], ()) l k hk); unfold fwB at this; rw [decide_eq_true_eq] at this; omega)), rfl⟩
        · replace h3 : ¬ (5000 < (((((l.getD k (0, ([], ()))).2).1).length : Nat) : Int)) := h3
          have hok : fwB z (l.getD k (0, [], ())) = true := decide_eq_true (by omega)
          refine ⟨⟨by show (-9223372036854775808 : Int) ≤ ((k : Int) + 1); omega, by show ((k : Int) + 1) ≤ (9223372036854775807 : Int); omega⟩, ?_⟩
          exact ⟨rfl, l.length - (k + 1), by omega, k + 1, by omega, take_all hk hc1_1 hok, rfl, rfl, rfl⟩
      · replace h2 : (((((l.getD k (0, ([], ()))).2).1).length : Nat) : Int) ≤ 4096 := h2
        exact ⟨rfl, rfl, congrArg V.b (no_b (fun g => by have := List.all_eq_true.1 g.2 _ (getD_mem (0, [], ()) l k hk); unfold fwB at this; rw [decide_eq_true_eq] at this; omega)), rfl⟩
    · replace h1 : ¬ (z < (((((l.getD k (0, ([], ()))).2).1).length : Nat) : Int)) := h1
      refine ⟨fun h4 => ?_, fun h4 => ?_⟩
      · replace h4 : 5000 < (((((l.getD k (0, ([], ()))).2).1).length : Nat) : Int) := h4
        exact ⟨rfl, rfl, congrArg V.b (no_b (fun g => by have := List.all_eq_true.1 g.2 _ (getD_mem (0, [], ()) l k hk); unfold fwB at this; rw [decide_eq_true_eq] at this; omega)), rfl⟩
      · replace h4 : ¬ (5000 < (((((l.getD k (0, ([], ()))).2).1).length : Nat) : Int)) := h4
        have hok : fwB z (l.getD k (0, [], ())) = true := decide_eq_true (by omega)
        refine ⟨⟨by show (-9223372036854775808 : Int) ≤ ((k : Int) + 1); omega, by show ((k : Int) + 1) ≤ (9223372036854775807 : Int); omega⟩, ?_⟩
        exact ⟨rfl, l.length - (k + 1), by omega, k + 1, by omega, take_all hk hc1_1 hok, rfl, rfl, rfl⟩
  · replace h0 : ¬ ((k : Int) < (l.length : Int)) := h0
    have hall : l.all (fwB z) = true := by rw [List.take_of_length_le (by omega)] at hc1_1; exact hc1_1
    exact ⟨rfl, rfl, congrArg V.b (propext ⟨fun g => ⟨g, hall⟩, fun g => g.1⟩), rfl⟩
def CRFw : List (Nat × Con) := (16, pureC [.v (.sl (.cons (.int .i64) (.cons .str .nil))), .v (.int .i64)] sRFw) :: CRSa
theorem kRFw : Known Tryd.prog (En CRFw tys G6 QCo2) := kRSa.add Tryd.func16 Tryd.call16 [.k] fun ds p v bs h hp => by
  unfold sRFw at h
  split at h <;> simp only [Option.some.injEq, Prod.mk.injEq, reduceCtorEq] at h
  obtain ⟨rfl, rfl, rfl⟩ := h
  exact bRFw _ _ hp
end Go.Proofs.YtakbedmeieeekaaDoor.S26

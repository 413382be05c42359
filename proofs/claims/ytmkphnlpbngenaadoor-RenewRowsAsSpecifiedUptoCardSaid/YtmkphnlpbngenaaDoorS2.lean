/- Texts of this claim: S27.A2, S27.A3, S27.A4, S27.Pd, S27.M0, S27.M2, S27.A5, S27.Pe, S27.L0. -/
import Derived.Test.YtmkphnlpbngenaaDoorS1
set_option linter.unusedVariables false
set_option linter.unusedSimpArgs false
namespace Go.Proofs.YtmkphnlpbngenaaDoor.S27
open Go Go.Proofs.YtmkphnlpbngenaaDoor.Vc Go.Proofs
set_option maxRecDepth 100000
set_option linter.unusedVariables false

def sVal : List V → Option (Prop × V × List Blk)
  | [.sl false .str r, .int .i64 h] => some (r.length ≤ 1048576, .tup [.str (valS r h), .int .i64 (valE r h)], [])
  | _ => none
set_option maxHeartbeats 1000000 in
theorem bVal (r : List (List UInt8)) (h : Int) (hp0 : r.length ≤ 1048576) : bodyP (En CAgr tys G6 []) Tryd.f20 [.k, .k] [.sl false .str r, .int .i64 h] (.tup [.str (valS r h), .int .i64 (valE r h)]) [] := by
  refine ⟨by show r.length ≤ 1048576; first | omega | assumption, fun h0 => ?_, fun h0 => ?_⟩
  · replace h0 : ¬ (rightB r = true) := h0
    have e : valE r h = 1 := if_neg h0
    rw [valS, if_neg (by rw [e]; decide), e]
    exact ⟨rfl, rfl, rfl, rfl⟩
  · replace h0 : ¬ (¬ (rightB r = true)) := h0
    have hr := Classical.not_not.1 h0
    obtain ⟨r1, r2, r3, r4⟩ := right_ok hr
    have r5 : ∀ x ∈ r, x.length ≤ 1048576 := fun s hs => Nat.le_trans (right_len hr s hs) (by omega)
    refine ⟨rfl, trivial, fun h1 => ?_, fun h1 => ?_⟩
    · replace h1 : ¬ (knw h) := h1
      have e : valE r h = 8 := by unfold valE; rw [if_pos hr, if_neg h1]
      rw [valS, if_neg (by rw [e]; decide), e]
      exact ⟨rfl, rfl, rfl, rfl⟩
    · replace h1 : ¬ (¬ (knw h)) := h1
      have hk := Classical.not_not.1 h1
      obtain ⟨k1, k2⟩ := id hk
      refine ⟨⟨by show (-9223372036854775808 : Int) ≤ (h + 1); omega, by show (h + 1) ≤ (9223372036854775807 : Int); omega⟩, ⟨by show 1 ≤ r.length; first | omega | assumption, by show r.length ≤ 1000000; first | omega | assumption, by first | assumption | simp⟩, ?_⟩
      have e : valE r h = 0 := by unfold valE; rw [if_pos hr, if_pos hk]
      rw [valS, if_pos e, e]
      exact ⟨rfl, rfl, rfl, rfl⟩
def CVal : List (Nat × Con) := (20, pureC [.v (.sl .str), .v (.int .i64)] sVal) :: CAgr
theorem kVal : Known Tryd.prog (En CVal tys G6 []) := kAgr.add Tryd.func20 Tryd.call20 [.k, .k] fun ds p v bs h hp => by
  unfold sVal at h
  split at h <;> simp only [Option.some.injEq, Prod.mk.injEq, reduceCtorEq] at h
  obtain ⟨rfl, rfl, rfl⟩ := h
  exact bVal _ _ hp
def sAgrE : List V → Option (Prop × V × List Blk)
  | [.sl false .str a, .int .i64 h, .sl false .str b, .int .i64 o] => some (a.length ≤ 1048576 ∧ b.length ≤ 1048576, .tup [.b (agQ a h b o), .int .i64 (agE a h b o)], [])
  | _ => none
set_option maxHeartbeats 1000000 in
theorem bAgrE (a : List (List UInt8)) (h : Int) (b : List (List UInt8)) (o : Int) (hp0 : a.length ≤ 1048576) (hp1 : b.length ≤ 1048576) : bodyP (En CVal tys G6 []) Tryd.f22 [.k, .k] [.sl false .str a, .int .i64 h, .sl false .str b, .int .i64 o] (.tup [.b (agQ a h b o), .int .i64 (agE a h b o)]) [] := by
  refine ⟨by show a.length ≤ 1048576; first | omega | assumption, fun h0 => ?_, fun h0 => ?_⟩
  · replace h0 : ¬ (¬ (rightB a = true)) := h0
    have ha := Classical.not_not.1 h0
    obtain ⟨a1, a2, a3, a4⟩ := right_ok ha
    have a5 : ∀ x ∈ a, x.length ≤ 1048576 := fun s hs => Nat.le_trans (right_len ha s hs) (by omega)
    refine ⟨by show b.length ≤ 1048576; first | omega | assumption, fun h1 => ?_, fun h1 => ?_⟩
    · replace h1 : ¬ (¬ (rightB b = true)) := h1
      have hb := Classical.not_not.1 h1
      obtain ⟨b1, b2, b3, b4⟩ := right_ok hb
      have b5 : ∀ x ∈ b, x.length ≤ 1048576 := fun s hs => Nat.le_trans (right_len hb s hs) (by omega)
      refine ⟨⟨by show 1 ≤ a.length; first | omega | assumption, by show 1 ≤ b.length; first | omega | assumption⟩, fun h2 => ?_, fun h2 => ?_⟩
      · replace h2 : ¬ (alikeP a b) := h2
        have e : agE a h b o = 1 := by unfold agE; rw [if_neg fun g => h2 g.2.2]
        have e3 : agQ a h b o = (false = true) := propext ⟨fun g => absurd g.1 (by rw [e]; decide), fun g => Bool.noConfusion g⟩
        rw [e, e3]
        exact ⟨rfl, rfl, rfl, rfl⟩
      · replace h2 : ¬ (¬ (alikeP a b)) := h2
        have hl := Classical.not_not.1 h2
        refine ⟨rfl, trivial, fun h3 => ?_, fun h3 => ?_⟩
        · replace h3 : ¬ (¬ (knw h)) := h3
          have k1 := Classical.not_not.1 h3
          refine ⟨rfl, trivial, fun h4 => ?_, fun h4 => ?_⟩
          · replace h4 : ¬ (knw o) := h4
            have e : agE a h b o = 8 := by unfold agE; rw [if_pos ⟨ha, hb, hl⟩, if_neg fun g => h4 g.2]
            have e3 : agQ a h b o = (false = true) := propext ⟨fun g => absurd g.1 (by rw [e]; decide), fun g => Bool.noConfusion g⟩
            rw [e, e3]
            exact ⟨rfl, rfl, rfl, rfl⟩
          · replace h4 : ¬ (¬ (knw o)) := h4
            have k2 := Classical.not_not.1 h4
            refine ⟨rfl, rfl, ⟨by show 1 ≤ a.length; first | omega | assumption, by show a.length ≤ 1000000; first | omega | assumption, by first | assumption | simp, by show 1 ≤ b.length; first | omega | assumption, by show b.length ≤ 1000000; first | omega | assumption, by first | assumption | simp, by assumption, by assumption⟩, ?_⟩
            have e : agE a h b o = 0 := by unfold agE; rw [if_pos ⟨ha, hb, hl⟩, if_pos ⟨k1, k2⟩]
            have e3 : agQ a h b o = agrP a h b o := propext ⟨fun g => g.2, fun g => ⟨e, g⟩⟩
            rw [e, e3]
            exact ⟨rfl, rfl, rfl, rfl⟩
        · replace h3 : ¬ (knw h) := h3
          have e : agE a h b o = 8 := by unfold agE; rw [if_pos ⟨ha, hb, hl⟩, if_neg fun g => h3 g.1]
          have e3 : agQ a h b o = (false = true) := propext ⟨fun g => absurd g.1 (by rw [e]; decide), fun g => Bool.noConfusion g⟩
          rw [e, e3]
          exact ⟨rfl, rfl, rfl, rfl⟩
    · replace h1 : ¬ (rightB b = true) := h1
      have e : agE a h b o = 1 := by unfold agE; rw [if_neg fun g => h1 g.2.1]
      have e3 : agQ a h b o = (false = true) := propext ⟨fun g => absurd g.1 (by rw [e]; decide), fun g => Bool.noConfusion g⟩
      rw [e, e3]
      exact ⟨rfl, rfl, rfl, rfl⟩
  · replace h0 : ¬ (rightB a = true) := h0
    have e : agE a h b o = 1 := by unfold agE; rw [if_neg fun g => h0 g.1]
    have e3 : agQ a h b o = (false = true) := propext ⟨fun g => absurd g.1 (by rw [e]; decide), fun g => Bool.noConfusion g⟩
    rw [e, e3]
    exact ⟨rfl, rfl, rfl, rfl⟩
def CAgrE : List (Nat × Con) := (22, pureC [.v (.sl .str), .v (.int .i64), .v (.sl .str), .v (.int .i64)] sAgrE) :: CVal
theorem kAgrE : Known Tryd.prog (En CAgrE tys G6 []) := kVal.add Tryd.func22 Tryd.call22 [.k, .k] fun ds p v bs h hp => by
  unfold sAgrE at h
  split at h <;> simp only [Option.some.injEq, Prod.mk.injEq, reduceCtorEq] at h
  obtain ⟨rfl, rfl, rfl⟩ := h
  exact bAgrE _ _ _ _ hp.1 hp.2
def sChk : List V → Option (Prop × V × List Blk)
  | [.agg [.int .i64 nd, .sl false (.sl .str) cf]] => some (cf.length ≤ 1048576 ∧ (∀ l ∈ cf, l.length ≤ 1048576 ∧ ∀ x ∈ l, x.length ≤ 1048576), .int .i64 (chkD nd cf), [])
  | _ => none
set_option maxHeartbeats 1000000 in
theorem bChk (nd : Int) (cf : List (List (List UInt8))) (hp0 : cf.length ≤ 1048576) (hp1 : (∀ l ∈ cf, l.length ≤ 1048576 ∧ ∀ x ∈ l, x.length ≤ 1048576)) : bodyP (En CAgrE tys G6 []) Tryd.f16 [.k] [.agg [.int .i64 nd, .sl false (.sl .str) cf]] (.int .i64 (chkD nd cf)) [] := by
  refine ⟨fun h0 => ?_, fun h0 => ?_⟩
  · replace h0 : ¬ (nd < 2) := h0
    refine ⟨fun h1 => ?_, fun h1 => ?_⟩
    · replace h1 : 12 < nd := h1
      have e : chkD nd cf = 3 := by unfold chkD; rw [if_pos (by omega)]
      rw [e]
      exact ⟨rfl, rfl, rfl, rfl⟩
    · replace h1 : ¬ (12 < nd) := h1
      refine ⟨⟨by show (-9223372036854775808 : Int) ≤ (nd - 1); omega, by show (nd - 1) ≤ (9223372036854775807 : Int); omega⟩, fun h2 => ?_, fun h2 => ?_⟩
      · replace h2 : (cf.length : Int) ≠ (nd - 1) := h2
        have e : chkD nd cf = 1 := by unfold chkD; rw [if_neg (by omega : ¬ (nd < 2 ∨ 12 < nd)), if_pos (by omega)]
        rw [e]
        exact ⟨rfl, rfl, rfl, rfl⟩
      · replace h2 : ¬ ((cf.length : Int) ≠ (nd - 1)) := h2
        refine ⟨1, [(1, .k), (3, .k), (27, .k), (28, .k), (29, .k)], fun n vs H => ∃ (k : Nat), k ≤ cf.length ∧ (cf.drop k).all (lenB cf) = cf.all (lenB cf) ∧ n = cf.length - k ∧ vs = [.ptr 0 1 0 0, .int .i64 (nd - 1), .sl false (.sl .str) cf, .int .i64 (cf.length : Int), .int .i64 (k : Int)] ∧ H = [.cells [.int .i64 nd, .sl false (.sl .str) cf]], ⟨rfl, cf.length, 0, by omega, rfl, by omega, rfl, rfl⟩, ?_⟩
        rintro n vs H ⟨k, hc1_0, hc1_1, rfl, rfl, rfl⟩
        refine ⟨fun h3 => ?_, fun h3 => ?_⟩
        · replace h3 : (k : Int) < (cf.length : Int) := h3
          have hk : k < cf.length := by omega
          have hpk := (hp1 _ (getD_mem [] cf k hk)).1
          refine ⟨⟨by show (0 : Int) ≤ (k : Int); omega, by show (k : Int) < (cf.length : Int); omega⟩, fun h4 => ?_, fun h4 => ?_⟩
          · replace h4 : ¬ ((((cf.getD k []).length : Nat) : Int) ≠ (nd - 1)) := h4
            refine ⟨⟨by show (0 : Int) ≤ 0; omega, by show 0 < (cf.length : Int); omega⟩, fun h5 => ?_, fun h5 => ?_⟩
            · replace h5 : (((cf.getD 0 []).length : Nat) : Int) ≠ (nd - 1) := h5
              have hf : cf.all (lenB cf) = false := all_bad (d := []) hk hc1_1 (lenB_bad2 (by omega))
              have e : chkD nd cf = 1 := by unfold chkD; rw [if_neg (by omega : ¬ (nd < 2 ∨ 12 < nd)), if_neg (by omega : ¬ ((cf.length : Int) ≠ nd - 1)), if_pos hf]
              rw [e]
              exact ⟨rfl, rfl, rfl, rfl⟩
            · replace h5 : ¬ ((((cf.getD 0 []).length : Nat) : Int) ≠ (nd - 1)) := h5
              refine ⟨1, [(1, .k), (3, .k), (27, .k), (28, .k), (29, .k), (46, .k), (47, .k), (48, .k)], fun n vs H => ∃ (j : Nat), j ≤ (cf.getD k []).length ∧ ((cf.getD k []).drop j).all (fun s => decide (s.length = n00 cf)) = (cf.getD k []).all (fun s => decide (s.length = n00 cf)) ∧ n = (cf.getD k []).length - j ∧ vs = [.ptr 0 1 0 0, .int .i64 (nd - 1), .sl false (.sl .str) cf, .int .i64 (cf.length : Int), .int .i64 (k : Int), .sl false .str (cf.getD k []), .int .i64 (((cf.getD k []).length : Nat) : Int), .int .i64 (j : Int)] ∧ H = [.cells [.int .i64 nd, .sl false (.sl .str) cf]], ⟨rfl, (cf.getD k []).length, 0, by omega, rfl, by omega, rfl, rfl⟩, ?_⟩
              rintro n vs H ⟨j, hc2_0, hc2_1, rfl, rfl, rfl⟩
              refine ⟨fun h6 => ?_, fun h6 => ?_⟩
              · replace h6 : (j : Int) < (((cf.getD k []).length : Nat) : Int) := h6
                have hj : j < (cf.getD k []).length := by omega
                refine ⟨⟨by show (0 : Int) ≤ (j : Int); omega, by show (j : Int) < ((cf.getD k []).length : Int); omega⟩, ⟨by show (0 : Int) ≤ 0; omega, by show 0 < (cf.length : Int); omega⟩, ⟨by show (0 : Int) ≤ 0; omega, by show 0 < ((cf.getD 0 []).length : Int); omega⟩, fun h7 => ?_, fun h7 => ?_⟩
                · replace h7 : ((((cf.getD k []).getD j []).length : Nat) : Int) ≠ ((((cf.getD 0 []).getD 0 []).length : Nat) : Int) := h7
                  have hf : cf.all (lenB cf) = false := all_bad (d := []) hk hc1_1 (lenB_bad3 (all_bad (d := []) hj hc2_1 (decide_eq_false (by unfold n00 n0; omega))))
                  have e : chkD nd cf = 1 := by unfold chkD; rw [if_neg (by omega : ¬ (nd < 2 ∨ 12 < nd)), if_neg (by omega : ¬ ((cf.length : Int) ≠ nd - 1)), if_pos hf]
                  rw [e]
                  exact ⟨rfl, rfl, rfl, rfl⟩
                · replace h7 : ¬ (((((cf.getD k []).getD j []).length : Nat) : Int) ≠ ((((cf.getD 0 []).getD 0 []).length : Nat) : Int)) := h7
                  have hok : decide (((cf.getD k []).getD j []).length = n00 cf) = true := decide_eq_true (by unfold n00 n0; omega)
                  refine ⟨⟨by show (-9223372036854775808 : Int) ≤ ((j : Int) + 1); omega, by show ((j : Int) + 1) ≤ (9223372036854775807 : Int); omega⟩, ?_⟩
                  exact ⟨rfl, (cf.getD k []).length - (j + 1), by omega, j + 1, by omega, all_next (d := []) hj hc2_1 hok, rfl, rfl, rfl⟩
              · replace h6 : ¬ ((j : Int) < (((cf.getD k []).length : Nat) : Int)) := h6
                have hok := lenB_yes (cf := cf) (l := cf.getD k []) (by omega) (by omega) (all_stop (by omega) hc2_1)
                refine ⟨⟨by show (-9223372036854775808 : Int) ≤ ((k : Int) + 1); omega, by show ((k : Int) + 1) ≤ (9223372036854775807 : Int); omega⟩, ?_⟩
                exact ⟨rfl, cf.length - (k + 1), by omega, k + 1, by omega, all_next (d := []) hk hc1_1 hok, rfl, rfl, rfl⟩
          · replace h4 : (((cf.getD k []).length : Nat) : Int) ≠ (nd - 1) := h4
            have hf : cf.all (lenB cf) = false := all_bad (d := []) hk hc1_1 (lenB_bad1 (by omega))
            have e : chkD nd cf = 1 := by unfold chkD; rw [if_neg (by omega : ¬ (nd < 2 ∨ 12 < nd)), if_neg (by omega : ¬ ((cf.length : Int) ≠ nd - 1)), if_pos hf]
            rw [e]
            exact ⟨rfl, rfl, rfl, rfl⟩
        · replace h3 : ¬ ((k : Int) < (cf.length : Int)) := h3
          have hall : cf.all (lenB cf) = true := all_stop (by omega) hc1_1
          have hrows := lenB_len hall
          have h00 := hrows _ (getD_mem [] cf 0 (by omega))
          refine ⟨⟨by show (0 : Int) ≤ 0; omega, by show 0 < (cf.length : Int); omega⟩, ⟨by show (0 : Int) ≤ 0; omega, by show 0 < ((cf.getD 0 []).length : Int); omega⟩, fun h8 => ?_, fun h8 => ?_⟩
          · replace h8 : 4096 < ((((cf.getD 0 []).getD 0 []).length : Nat) : Int) := h8
            have e : chkD nd cf = 2 := by unfold chkD; rw [if_neg (by omega : ¬ (nd < 2 ∨ 12 < nd)), if_neg (by omega : ¬ ((cf.length : Int) ≠ nd - 1)), if_neg (by rw [hall]; decide), if_pos (by unfold n00 n0; omega)]
            rw [e]
            exact ⟨rfl, rfl, rfl, rfl⟩
          · replace h8 : ¬ (4096 < ((((cf.getD 0 []).getD 0 []).length : Nat) : Int)) := h8
            refine ⟨1, [(1, .k), (72, .k), (73, .k)], fun n vs H => ∃ (i : Nat), i ≤ cf.length ∧ (List.range i).all (fun a => (List.range a).all fun b => decide ((cf.getD a []).getD b [] = (cf.getD b []).getD a [])) = true ∧ n = cf.length - i ∧ vs = [.ptr 0 1 0 0, .int .i64 (nd - 1), .int .i64 (i : Int)] ∧ H = [.cells [.int .i64 nd, .sl false (.sl .str) cf]], ⟨rfl, cf.length, 0, by omega, rfl, by omega, rfl, rfl⟩, ?_⟩
            rintro n vs H ⟨i, hc3_0, hc3_1, rfl, rfl, rfl⟩
            refine ⟨fun h9 => ?_, fun h9 => ?_⟩
            · replace h9 : (i : Int) < (nd - 1) := h9
              have hri := hrows _ (getD_mem [] cf i (by omega))
              refine ⟨1, [(1, .k), (8, .k), (72, .k), (73, .k), (76, .k), (77, .k)], fun n vs H => ∃ (j : Nat), j ≤ i ∧ (List.range j).all (fun b => decide ((cf.getD i []).getD b [] = (cf.getD b []).getD i [])) = true ∧ n = i - j ∧ vs = [.ptr 0 1 0 0, .int .i64 (i : Int), .int .i64 (nd - 1), .int .i64 (i : Int), .int .i64 (i : Int), .int .i64 (j : Int)] ∧ H = [.cells [.int .i64 nd, .sl false (.sl .str) cf]], ⟨rfl, i, 0, by omega, rfl, by omega, rfl, rfl⟩, ?_⟩
              rintro n vs H ⟨j, hc4_0, hc4_1, rfl, rfl, rfl⟩
              refine ⟨fun h10 => ?_, fun h10 => ?_⟩
              · replace h10 : (j : Int) < (i : Int) := h10
                have hrj := hrows _ (getD_mem [] cf j (by omega))
                refine ⟨by kernel_rfl, ⟨by show (0 : Int) ≤ (i : Int); omega, by show (i : Int) < (cf.length : Int); omega⟩, ⟨by show (0 : Int) ≤ (j : Int); omega, by show (j : Int) < ((cf.getD i []).length : Int); omega⟩, ⟨by show (0 : Int) ≤ (j : Int); omega, by show (j : Int) < (cf.length : Int); omega⟩, ⟨by show (0 : Int) ≤ (i : Int); omega, by show (i : Int) < ((cf.getD j []).length : Int); omega⟩, fun h11 => ?_, fun h11 => ?_⟩
                · replace h11 : ((cf.getD i []).getD j []) ≠ ((cf.getD j []).getD i []) := h11
                  have hs : symB cf cf.length = false := rangeBad (k := i) (by omega) (rangeBad (p := (fun b => decide ((cf.getD i []).getD b [] = (cf.getD b []).getD i []))) (k := j) (by omega) (decide_eq_false h11))
                  have e : chkD nd cf = 1 := by unfold chkD; rw [if_neg (by omega : ¬ (nd < 2 ∨ 12 < nd)), if_neg (by omega : ¬ ((cf.length : Int) ≠ nd - 1)), if_neg (by rw [hall]; decide), if_neg (by unfold n00 n0; omega), if_pos hs]
                  rw [e]
                  exact ⟨rfl, rfl, rfl, rfl⟩
                · replace h11 : ¬ (((cf.getD i []).getD j []) ≠ ((cf.getD j []).getD i [])) := h11
                  have hok : decide ((cf.getD i []).getD j [] = (cf.getD j []).getD i []) = true := decide_eq_true (Classical.not_not.1 h11)
                  refine ⟨⟨by show (-9223372036854775808 : Int) ≤ ((j : Int) + 1); omega, by show ((j : Int) + 1) ≤ (9223372036854775807 : Int); omega⟩, ?_⟩
                  exact ⟨rfl, i - (j + 1), by omega, j + 1, by omega, rangeAll hc4_1 hok, rfl, rfl, rfl⟩
              · replace h10 : ¬ ((j : Int) < (i : Int)) := h10
                have hok : (List.range i).all (fun b => decide ((cf.getD i []).getD b [] = (cf.getD b []).getD i [])) = true := by rw [show i = j by omega] at hc4_1 ⊢; exact hc4_1
                refine ⟨⟨by show (-9223372036854775808 : Int) ≤ ((i : Int) + 1); omega, by show ((i : Int) + 1) ≤ (9223372036854775807 : Int); omega⟩, ?_⟩
                exact ⟨rfl, cf.length - (i + 1), by omega, i + 1, by omega, rangeAll hc3_1 hok, rfl, rfl, rfl⟩
            · replace h9 : ¬ ((i : Int) < (nd - 1)) := h9
              have hs : symB cf cf.length = true := by rw [show cf.length = i by omega]; exact hc3_1
              have e : chkD nd cf = 0 := by unfold chkD; rw [if_neg (by omega : ¬ (nd < 2 ∨ 12 < nd)), if_neg (by omega : ¬ ((cf.length : Int) ≠ nd - 1)), if_neg (by rw [hall]; decide), if_neg (by unfold n00 n0; omega), if_neg (by rw [hs]; decide)]
              rw [e]
              exact ⟨rfl, rfl, rfl, rfl⟩
  · replace h0 : nd < 2 := h0
    have e : chkD nd cf = 3 := by unfold chkD; rw [if_pos (by omega)]
    rw [e]
    exact ⟨rfl, rfl, rfl, rfl⟩
def CChk : List (Nat × Con) := (16, pureC [.v (.cons (.int .i64) (.cons (.sl (.sl .str)) .nil))] sChk) :: CAgrE
theorem kChk : Known Tryd.prog (En CChk tys G6 []) := kAgrE.add Tryd.func16 Tryd.call16 [.k] fun ds p v bs h hp => by
  unfold sChk at h
  split at h <;> simp only [Option.some.injEq, Prod.mk.injEq, reduceCtorEq] at h
  obtain ⟨rfl, rfl, rfl⟩ := h
  exact bChk _ _ hp.1 hp.2
def sRow : List V → Option (Prop × V × List Blk)
  | [.agg [.int .i64 nd, .sl false (.sl .str) cf], .int .i64 h] => some (cf.length ≤ 1048576 ∧ (∀ l ∈ cf, l.length ≤ 1048576 ∧ ∀ x ∈ l, x.length ≤ 1048576), .tup [.own .str 0, .int .i64 (rowE nd cf h)], [.row true .str (rowL nd cf h)])
  | _ => none
set_option maxHeartbeats 1000000 in
theorem bRow (nd : Int) (cf : List (List (List UInt8))) (h : Int) (hp0 : cf.length ≤ 1048576) (hp1 : (∀ l ∈ cf, l.length ≤ 1048576 ∧ ∀ x ∈ l, x.length ≤ 1048576)) : bodyP (En CChk tys G6 []) Tryd.f14 [.o .str, .k] [.agg [.int .i64 nd, .sl false (.sl .str) cf], .int .i64 h] (.tup [.own .str 0, .int .i64 (rowE nd cf h)]) [.row true .str (rowL nd cf h)] := by
  refine ⟨rfl, ⟨by show cf.length ≤ 1048576; first | omega | assumption, by first | assumption | simp⟩, fun h0 => ?_, fun h0 => ?_⟩
  · replace h0 : (chkD nd cf) ≠ 0 := h0
    have e : rowE nd cf h = chkD nd cf := if_neg h0
    rw [rowL, if_neg (by rw [e]; exact h0), e]
    exact ⟨rfl, rfl, rfl, rfl⟩
  · replace h0 : ¬ ((chkD nd cf) ≠ 0) := h0
    have hc := Classical.not_not.1 h0
    have hd := chkD0 hc
    obtain ⟨d1, d2, d3, d4, d5, d6, d7⟩ := id hd
    refine ⟨rfl, trivial, fun h1 => ?_, fun h1 => ?_⟩
    · replace h1 : ¬ (knw h) := h1
      have e : rowE nd cf h = 8 := by unfold rowE; rw [if_pos hc, if_neg h1]
      rw [rowL, if_neg (by rw [e]; decide), e]
      exact ⟨rfl, rfl, rfl, rfl⟩
    · replace h1 : ¬ (¬ (knw h)) := h1
      have hk := Classical.not_not.1 h1
      obtain ⟨k1, k2⟩ := id hk
      refine ⟨1, [(1, .k), (7, .o .str), (19, .k), (20, .k), (21, .k)], fun n vs H => ∃ (k : Nat), k ≤ cf.length ∧ n = cf.length - k ∧ vs = [.int .i64 h, .own .str 1, .sl false (.sl .str) cf, .int .i64 (cf.length : Int), .int .i64 (k : Int)] ∧ H = [.cells [.int .i64 nd, .sl false (.sl .str) cf], .row true .str ((cf.take k).map fun l => atL l (pt h))], ⟨rfl, cf.length, 0, by omega, by omega, rfl, rfl⟩, ?_⟩
      rintro n vs H ⟨k, hc1_0, rfl, rfl, rfl⟩
      refine ⟨fun h2 => ?_, fun h2 => ?_⟩
      · replace h2 : (k : Int) < (cf.length : Int) := h2
        have hkl : k < cf.length := by omega
        have hm := getD_mem [] cf k hkl
        have hr4 := d4 _ hm
        have hr5 : ∀ x ∈ cf.getD k [], x.length ≤ 1048576 := (hp1 _ hm).2
        have hml : ((cf.take k).map fun l => atL l (pt h)).length = k := by rw [List.length_map, List.length_take]; omega
        refine ⟨⟨by show (0 : Int) ≤ (k : Int); omega, by show (k : Int) < (cf.length : Int); omega⟩, ⟨by show (-9223372036854775808 : Int) ≤ (h + 1); omega, by show (h + 1) ≤ (9223372036854775807 : Int); omega⟩, ⟨by show 1 ≤ (cf.getD k []).length; first | omega | assumption | (simp only [List.length_cons, List.length_nil, List.length_append, List.length_take, List.length_drop, List.length_set, List.length_replicate]; omega), by show (cf.getD k []).length ≤ 1000000; first | omega | assumption | (simp only [List.length_cons, List.length_nil, List.length_append, List.length_take, List.length_drop, List.length_set, List.length_replicate]; omega), by first | assumption | simp⟩, ⟨rfl, rfl⟩, by show ((cf.take k).map fun l => atL l (pt h)).length + ([atL (cf.getD k []) (UInt8.ofNat ((h + 1) % 256).toNat)] : List (List UInt8)).length ≤ 1000000000; simp only [List.length_cons, List.length_nil]; omega, ⟨by show (-9223372036854775808 : Int) ≤ ((k : Int) + 1); omega, by show ((k : Int) + 1) ≤ (9223372036854775807 : Int); omega⟩, ?_⟩
        exact ⟨rfl, cf.length - (k + 1), by omega, k + 1, by omega, rfl, rfl, by rw [map_take_snoc [] _ cf k hkl]; rfl⟩
      · replace h2 : ¬ ((k : Int) < (cf.length : Int)) := h2
        have e : rowE nd cf h = 0 := by unfold rowE; rw [if_pos hc, if_pos hk]
        rw [rowL, if_pos e, e, rowD, show k = cf.length by omega, List.take_length]
        exact ⟨rfl, rfl, rfl, rfl⟩
def CRow : List (Nat × Con) := (14, pureC [.v (.cons (.int .i64) (.cons (.sl (.sl .str)) .nil)), .v (.int .i64)] sRow) :: CChk
theorem kRow : Known Tryd.prog (En CRow tys G6 []) := kChk.add Tryd.func14 Tryd.call14 [.o .str, .k] fun ds p v bs h hp => by
  unfold sRow at h
  split at h <;> simp only [Option.some.injEq, Prod.mk.injEq, reduceCtorEq] at h
  obtain ⟨rfl, rfl, rfl⟩ := h
  exact bRow _ _ _ hp.1 hp.2
def sUpd : List V → Option (Prop × V × List Blk)
  | [.agg [.int .i64 h, .str bs], .sl false (.sl .str) rs] => some (rs.length ≤ 1048576 ∧ (∀ l ∈ rs, l.length ≤ 1048576), .tup [.agg [.int .i64 (updH h bs rs), .str (updS h bs rs)], .int .i64 (updE h bs rs)], [])
  | _ => none
set_option maxHeartbeats 2000000 in
theorem bUpd (h : Int) (bs : List UInt8) (rs : List (List (List UInt8))) (hp0 : rs.length ≤ 1048576) (hp1 : (∀ l ∈ rs, l.length ≤ 1048576)) : bodyP (En CRow tys G6 []) Tryd.f28 [.k, .k] [.agg [.int .i64 h, .str bs], .sl false (.sl .str) rs] (.tup [.agg [.int .i64 (updH h bs rs), .str (updS h bs rs)], .int .i64 (updE h bs rs)]) [] := by
  refine ⟨rfl, trivial, fun h0 => ?_, fun h0 => ?_⟩
  · replace h0 : ¬ (knw h) := h0
    refine ⟨⟨rfl, rfl, rfl, Nat.le_of_ble_eq_true rfl⟩, ?_⟩
    have e : updE h bs rs = 8 := by unfold updE; rw [if_neg h0]
    rw [updH, updS, if_neg (by rw [e]; decide), if_neg (by rw [e]; decide), e]
    exact ⟨rfl, rfl, rfl, rfl⟩
  · replace h0 : ¬ (¬ (knw h)) := h0
    have hk := Classical.not_not.1 h0
    obtain ⟨k1, k2⟩ := id hk
    refine ⟨fun h1 => ?_, fun h1 => ?_⟩
    · replace h1 : 4096 < (bs.length : Int) := h1
      refine ⟨⟨rfl, rfl, rfl, Nat.le_of_ble_eq_true rfl⟩, ?_⟩
      have e : updE h bs rs = 2 := by unfold updE; rw [if_pos hk, if_neg (by omega)]
      rw [updH, updS, if_neg (by rw [e]; decide), if_neg (by rw [e]; decide), e]
      exact ⟨rfl, rfl, rfl, rfl⟩
    · replace h1 : ¬ (4096 < (bs.length : Int)) := h1
      refine ⟨2, [(1, .k), (2, .k), (4, .k), (20, .k), (21, .k), (22, .k)], fun n vs H => ∃ (k : Nat), k ≤ rs.length ∧ (rs.drop k).all (updOk bs) = rs.all (updOk bs) ∧ n = rs.length - k ∧ vs = [.sl false (.sl .str) rs, .ptr 0 1 0 0, .ptr 1 1 0 0, .sl false (.sl .str) rs, .int .i64 (rs.length : Int), .int .i64 (k : Int)] ∧ H = [.cells [.int .i64 h, .str bs], .cells [.int .i64 0, .str ([])]], ⟨rfl, rs.length, 0, by omega, rfl, by omega, rfl, rfl⟩, ?_⟩
      rintro n vs H ⟨k, hc1_0, hc1_1, rfl, rfl, rfl⟩
      refine ⟨fun h2 => ?_, fun h2 => ?_⟩
      · replace h2 : (k : Int) < (rs.length : Int) := h2
        have hkl : k < rs.length := by omega
        have hrl := hp1 _ (getD_mem [] rs k hkl)
        refine ⟨⟨by show (0 : Int) ≤ (k : Int); omega, by show (k : Int) < (rs.length : Int); omega⟩, by kernel_rfl, by show (rs.getD k []).length ≤ 1048576; first | omega | assumption | (simp only [List.length_cons, List.length_nil, List.length_append, List.length_take, List.length_drop, List.length_set, List.length_replicate]; omega), fun h3 => ?_, fun h3 => ?_⟩
        · replace h3 : ¬ (¬ (rightB (rs.getD k []) = true)) := h3
          have hr := Classical.not_not.1 h3
          obtain ⟨r1, r2, r3, r4⟩ := right_ok hr
          refine ⟨fun h4 => ?_, fun h4 => absurd h4 (show ¬ (¬ (rightB (rs.getD k []) = true)) by first | omega | assumption | simp_all)⟩
          refine ⟨⟨by show (0 : Int) ≤ 0; omega, by show 0 < ((rs.getD k []).length : Int); omega⟩, fun h5 => ?_, fun h5 => absurd h5 (show ¬ (¬ (rightB (rs.getD k []) = true)) by first | omega | assumption | simp_all)⟩
          refine ⟨fun h6 => ?_, fun h6 => absurd h6 (show ¬ (¬ (rightB (rs.getD k []) = true)) by first | omega | assumption | simp_all)⟩
          refine ⟨fun h7 => ?_, fun h7 => absurd h7 (show ¬ (¬ (rightB (rs.getD k []) = true)) by first | omega | assumption | simp_all)⟩
          refine ⟨fun h8 => ?_, fun h8 => absurd h8 (show ¬ (¬ (rightB (rs.getD k []) = true)) by first | omega | assumption | simp_all)⟩
          refine ⟨fun h9 => ?_, fun h9 => absurd h9 (show ¬ (¬ (rightB (rs.getD k []) = true)) by first | omega | assumption | simp_all)⟩
          refine ⟨fun h10 => ?_, fun h10 => absurd h10 (show ¬ (¬ (rightB (rs.getD k []) = true)) by first | omega | assumption | simp_all)⟩
          refine ⟨fun h11 => absurd h11 (show ¬ (¬ (rightB (rs.getD k []) = true)) by first | omega | assumption | simp_all), fun h11 => ?_⟩
          refine ⟨fun h12 => ?_, fun h12 => ?_⟩
          · replace h12 : ((((rs.getD k []).getD 0 []).length : Nat) : Int) ≠ (bs.length : Int) := h12
            refine ⟨⟨rfl, rfl, rfl, Nat.le_of_ble_eq_true rfl⟩, ?_⟩
            have hf : rs.all (updOk bs) = false := all_bad (d := []) hkl hc1_1 (updOk_bad2 (by unfold n0; omega))
            have e : updE h bs rs = 1 := by unfold updE; rw [if_pos hk, if_pos (by omega), if_neg (by rw [hf]; decide)]
            rw [updH, updS, if_neg (by rw [e]; decide), if_neg (by rw [e]; decide), e]
            exact ⟨rfl, rfl, rfl, rfl⟩
          · replace h12 : ¬ (((((rs.getD k []).getD 0 []).length : Nat) : Int) ≠ (bs.length : Int)) := h12
            have hok := updOk_yes (b := bs) hr (by unfold n0; omega)
            refine ⟨⟨by show (-9223372036854775808 : Int) ≤ ((k : Int) + 1); omega, by show ((k : Int) + 1) ≤ (9223372036854775807 : Int); omega⟩, ?_⟩
            exact ⟨rfl, rs.length - (k + 1), by omega, k + 1, by omega, all_next (d := []) hkl hc1_1 hok, rfl, rfl, rfl⟩
        · replace h3 : ¬ (rightB (rs.getD k []) = true) := h3
          refine ⟨fun h13 => absurd (show ¬ (rightB (rs.getD k []) = true) by first | omega | assumption | simp_all) h13, fun h13 => ?_⟩
          refine ⟨fun h14 => absurd (show ¬ (rightB (rs.getD k []) = true) by first | omega | assumption | simp_all) h14, fun h14 => ?_⟩
          refine ⟨fun h15 => absurd (show ¬ (rightB (rs.getD k []) = true) by first | omega | assumption | simp_all) h15, fun h15 => ?_⟩
          refine ⟨fun h16 => absurd (show ¬ (rightB (rs.getD k []) = true) by first | omega | assumption | simp_all) h16, fun h16 => ?_⟩
          refine ⟨fun h17 => absurd (show ¬ (rightB (rs.getD k []) = true) by first | omega | assumption | simp_all) h17, fun h17 => ?_⟩
          refine ⟨fun h18 => absurd (show ¬ (rightB (rs.getD k []) = true) by first | omega | assumption | simp_all) h18, fun h18 => ?_⟩
          refine ⟨fun h19 => absurd (show ¬ (rightB (rs.getD k []) = true) by first | omega | assumption | simp_all) h19, fun h19 => ?_⟩
          refine ⟨fun h20 => ?_, fun h20 => absurd (show ¬ (rightB (rs.getD k []) = true) by first | omega | assumption | simp_all) h20⟩
          refine ⟨⟨rfl, rfl, rfl, Nat.le_of_ble_eq_true rfl⟩, ?_⟩
          have hf : rs.all (updOk bs) = false := all_bad (d := []) hkl hc1_1 (updOk_bad1 h3)
          have e : updE h bs rs = 1 := by unfold updE; rw [if_pos hk, if_pos (by omega), if_neg (by rw [hf]; decide)]
          rw [updH, updS, if_neg (by rw [e]; decide), if_neg (by rw [e]; decide), e]
          exact ⟨rfl, rfl, rfl, rfl⟩
      · replace h2 : ¬ ((k : Int) < (rs.length : Int)) := h2
        have hall : rs.all (updOk bs) = true := all_stop (by omega) hc1_1
        have hev := List.all_eq_true.1 hall
        refine ⟨2, [(2, .k), (4, .k), (41, .k), (42, .k), (43, .k)], fun n vs H => ∃ (k : Nat), k ≤ rs.length ∧ n = rs.length - k ∧ vs = [.ptr 0 1 0 0, .ptr 1 1 0 0, .sl false (.sl .str) rs, .int .i64 (rs.length : Int), .int .i64 (k : Int)] ∧ H = [.cells [.int .i64 h, .str (updB h bs (rs.take k))], .cells [.int .i64 0, .str ([])]], ⟨rfl, rs.length, 0, by omega, by omega, rfl, rfl⟩, ?_⟩
        rintro n vs H ⟨k, hc2_0, rfl, rfl, rfl⟩
        refine ⟨fun h21 => ?_, fun h21 => ?_⟩
        · replace h21 : (k : Int) < (rs.length : Int) := h21
          have hkm : k < rs.length := by omega
          obtain ⟨hr, hn⟩ := updOk_no (hev _ (getD_mem [] rs k hkm))
          obtain ⟨r1, r2, r3, r4⟩ := right_ok hr
          have hl1 := upd_len (h := h) (b := bs) (rs.take k) bs rfl (fun x hx => hev x (List.mem_of_mem_take hx))
          replace hn : ((rs.getD k []).getD 0 []).length = bs.length := hn
          refine ⟨⟨by show (0 : Int) ≤ (k : Int); omega, by show (k : Int) < (rs.length : Int); omega⟩, by kernel_rfl, ⟨by show (-9223372036854775808 : Int) ≤ (h + 1); omega, by show (h + 1) ≤ (9223372036854775807 : Int); omega⟩, ⟨by show (0 : Int) ≤ 0; omega, by show 0 < ((rs.getD k []).length : Int); omega⟩, by show ((rs.getD k []).getD 0 []).length ≤ 1000000000; first | omega | assumption | (simp only [List.length_cons, List.length_nil, List.length_append, List.length_take, List.length_drop, List.length_set, List.length_replicate]; omega), ⟨by show 1 ≤ ([updB h bs (rs.take k), scaleB (UInt8.ofNat ((h + 1) % 256).toNat) ((rs.getD k []).getD 0 [])] : List (List UInt8)).length; first | omega | assumption | (simp only [List.length_cons, List.length_nil, List.length_append, List.length_take, List.length_drop, List.length_set, List.length_replicate]; omega), by show ([updB h bs (rs.take k), scaleB (UInt8.ofNat ((h + 1) % 256).toNat) ((rs.getD k []).getD 0 [])] : List (List UInt8)).length ≤ 1000000; first | omega | assumption | (simp only [List.length_cons, List.length_nil, List.length_append, List.length_take, List.length_drop, List.length_set, List.length_replicate]; omega), by show (∀ x ∈ ([updB h bs (rs.take k), scaleB (UInt8.ofNat ((h + 1) % 256).toNat) ((rs.getD k []).getD 0 [])] : List (List UInt8)), x.length ≤ 1048576); exact two_len (by omega) (by rw [scale_len]; omega)⟩, ⟨rfl, rfl, rfl⟩, ⟨by show (-9223372036854775808 : Int) ≤ ((k : Int) + 1); omega, by show ((k : Int) + 1) ≤ (9223372036854775807 : Int); omega⟩, ?_⟩
          exact ⟨rfl, rs.length - (k + 1), by omega, k + 1, by omega, rfl, rfl, by rw [upd_snoc hkm]; rfl⟩
        · replace h21 : ¬ ((k : Int) < (rs.length : Int)) := h21
          refine ⟨⟨rfl, rfl, rfl, Nat.le_of_ble_eq_true rfl⟩, ?_⟩
          have e : updE h bs rs = 0 := by unfold updE; rw [if_pos hk, if_pos (by omega), if_pos hall]
          rw [updH, updS, if_pos e, if_pos e, e, show updB h bs rs = updB h bs (rs.take k) by rw [List.take_of_length_le (by omega)]]
          exact ⟨rfl, rfl, rfl, rfl⟩
def CUpd : List (Nat × Con) := (28, pureC [.v (.cons (.int .i64) (.cons .str .nil)), .v (.sl (.sl .str))] sUpd) :: CRow
theorem kUpd : Known Tryd.prog (En CUpd tys G6 []) := kRow.add Tryd.func28 Tryd.call28 [.k, .k] fun ds p v bs h hp => by
  unfold sUpd at h
  split at h <;> simp only [Option.some.injEq, Prod.mk.injEq, reduceCtorEq] at h
  obtain ⟨rfl, rfl, rfl⟩ := h
  exact bUpd _ _ _ hp.1 hp.2
end Go.Proofs.YtmkphnlpbngenaaDoor.S27

namespace Go.Proofs.YtmkphnlpbngenaaDoor.S27
open Go Go.Proofs.YtmkphnlpbngenaaDoor.Vc Go.Proofs
set_option maxRecDepth 100000
set_option linter.unusedVariables false

def sPrs : List V → Option (Prop × Nat × (Nat → List V))
  | [.rp false (.sl (.sl .str)) rs 0] => some (rs.length ≤ 1048576, ((pairsL rs).length, fun n => [.dat false (.arr 2 (.int .i64)) (prI ((pairsL rs).getD n (0, 0)))]))
  | _ => none
set_option maxHeartbeats 1000000 in
theorem bPrs (rs : List (List (List UInt8))) (hp0 : rs.length ≤ 1048576) : bodyS (En CUpd tys G6 []).inR Tryd.f61 [.rp false (.sl (.sl .str)) rs 0] [.v (.arr 2 (.int .i64))] ((pairsL rs).length, fun n => [.dat false (.arr 2 (.int .i64)) (prI ((pairsL rs).getD n (0, 0)))]) := by
  refine ⟨rfl, 0, [(0, .k), (1, .k), (6, .k), (7, .k)], fun n vs H => ∃ (k i : Nat), k ≤ (pairsL rs).length ∧ i ≤ rs.length ∧ (pairsL rs).drop k = prA rs (rs.length - i) i ∧ n = rs.length - i ∧ vs = [.yld (some k), .rp false (.sl (.sl .str)) rs 0, .int .i64 (rs.length : Int), .int .i64 (i : Int)] ∧ H = [], ⟨rfl, rs.length, 0, 0, by omega, by omega, rfl, by omega, rfl, rfl⟩, ?_⟩
  rintro n vs H ⟨k, i, hc1_0, hc1_1, hc1_2, rfl, rfl, rfl⟩
  refine ⟨fun h0 => ?_, fun h0 => ?_⟩
  · replace h0 : (i : Int) < (rs.length : Int) := h0
    obtain ⟨f, hf⟩ : ∃ f, rs.length - i = f + 1 := ⟨rs.length - i - 1, by omega⟩
    have hf2 : rs.length - (i + 1) = f := by omega
    rw [hf, prA] at hc1_2
    refine ⟨⟨by show (-9223372036854775808 : Int) ≤ ((i : Int) + 1); omega, by show ((i : Int) + 1) ≤ (9223372036854775807 : Int); omega⟩, 0, [(0, .k), (1, .k), (3, .k), (4, .k), (6, .k), (7, .k)], fun n vs H => ∃ (k j : Nat), k ≤ (pairsL rs).length ∧ i < j ∧ (pairsL rs).drop k = prJ rs i (rs.length - j) j ++ prA rs (rs.length - (i + 1)) (i + 1) ∧ n = rs.length - j ∧ vs = [.yld (some k), .rp false (.sl (.sl .str)) rs 0, .int .i64 (i : Int), .int .i64 (j : Int), .int .i64 (rs.length : Int), .int .i64 (i : Int)] ∧ H = [], ⟨rfl, rs.length - (i + 1), k, i + 1, by omega, by omega, by rw [hf2] at hc1_2 ⊢; exact hc1_2, by omega, rfl, rfl⟩, ?_⟩
    rintro n vs H ⟨k, j, hc2_0, hc2_1, hc2_2, rfl, rfl, rfl⟩
    refine ⟨fun h1 => ?_, fun h1 => ?_⟩
    · replace h1 : (j : Int) < (rs.length : Int) := h1
      obtain ⟨m, hm⟩ : ∃ m, rs.length - j = m + 1 := ⟨rs.length - j - 1, by omega⟩
      have hm2 : rs.length - (j + 1) = m := by omega
      rw [hm, prJ] at hc2_2
      refine ⟨⟨by show (0 : Int) ≤ (i : Int); omega, by show (i : Int) < (rs.length : Int); omega⟩, fun h2 => ?_, fun h2 => ?_⟩
      · replace h2 : 0 < (((rs.getD i []).length : Nat) : Int) := h2
        refine ⟨⟨by show (0 : Int) ≤ (j : Int); omega, by show (j : Int) < (rs.length : Int); omega⟩, fun h3 => ?_, fun h3 => ?_⟩
        · replace h3 : 0 < (((rs.getD j []).length : Nat) : Int) := h3
          rw [if_pos (show prOk rs i j = true from decide_eq_true ⟨by omega, by omega⟩), List.cons_append] at hc2_2
          obtain ⟨y1, y2, y3⟩ := drop_cons (d := (0, 0)) hc2_2
          refine ⟨rfl, rfl, ⟨y1, by show [V.dat false (.arr 2 (.int .i64)) [(i : Int), ((j : Nat) : Int)]] = [V.dat false (.arr 2 (.int .i64)) (prI ((pairsL rs).getD k (0, 0)))]; rw [y2]; rfl⟩, ?_, ?_⟩
          · refine ⟨⟨by show (-9223372036854775808 : Int) ≤ ((j : Int) + 1); omega, by show ((j : Int) + 1) ≤ (9223372036854775807 : Int); omega⟩, ?_⟩
            exact ⟨rfl, rs.length - (j + 1), by omega, k + 1, j + 1, by omega, by omega, by rw [hm2]; exact y3, rfl, rfl, rfl⟩
          · trivial
        · replace h3 : ¬ (0 < (((rs.getD j []).length : Nat) : Int)) := h3
          rw [if_neg (show ¬ prOk rs i j = true by unfold prOk; rw [decide_eq_true_eq]; omega)] at hc2_2
          refine ⟨⟨by show (-9223372036854775808 : Int) ≤ ((j : Int) + 1); omega, by show ((j : Int) + 1) ≤ (9223372036854775807 : Int); omega⟩, ?_⟩
          exact ⟨rfl, rs.length - (j + 1), by omega, k, j + 1, by omega, by omega, by rw [hm2]; exact hc2_2, rfl, rfl, rfl⟩
      · replace h2 : ¬ (0 < (((rs.getD i []).length : Nat) : Int)) := h2
        rw [if_neg (show ¬ prOk rs i j = true by unfold prOk; rw [decide_eq_true_eq]; omega)] at hc2_2
        refine ⟨⟨by show (-9223372036854775808 : Int) ≤ ((j : Int) + 1); omega, by show ((j : Int) + 1) ≤ (9223372036854775807 : Int); omega⟩, ?_⟩
        exact ⟨rfl, rs.length - (j + 1), by omega, k, j + 1, by omega, by omega, by rw [hm2]; exact hc2_2, rfl, rfl, rfl⟩
    · replace h1 : ¬ ((j : Int) < (rs.length : Int)) := h1
      rw [show rs.length - j = 0 by omega, prJ, List.nil_append] at hc2_2
      refine ⟨⟨by show (-9223372036854775808 : Int) ≤ ((i : Int) + 1); omega, by show ((i : Int) + 1) ≤ (9223372036854775807 : Int); omega⟩, ?_⟩
      exact ⟨rfl, rs.length - (i + 1), by omega, k, i + 1, by omega, by omega, hc2_2, rfl, rfl, rfl⟩
  · replace h0 : ¬ ((i : Int) < (rs.length : Int)) := h0
    rw [show rs.length - i = 0 by omega, prA] at hc1_2
    have hz := drop_nil hc1_0 hc1_2
    show (k : Nat) = (pairsL rs).length
    omega
def QPrs : List (Nat × SeqC) := (61, [.ref (.sl (.sl .str))], sPrs) :: []
def CPrs : List (Nat × Con) := CUpd
theorem kPrs : Known Tryd.prog (En CPrs tys G6 QPrs) := kUpd.addSeq Tryd.func61 Tryd.call61 [.v (.arr 2 (.int .i64))] fun ds p L h hp => by
  unfold sPrs at h
  split at h <;> simp only [Option.some.injEq, Prod.mk.injEq, reduceCtorEq] at h
  obtain ⟨rfl, rfl⟩ := h
  exact bPrs _ hp
def sPrz : List V → Option (Prop × V × List Blk)
  | [.sl false (.sl .str) rs] => some (True, .fn 61 [.ptr 0 1 0 0], [.cells [.sl false (.sl .str) (rs)]])
  | _ => none
set_option maxHeartbeats 1000000 in
theorem bPrz (rs : List (List (List UInt8)))  : bodyI (En CPrs tys G6 QPrs) Tryd.f50 [.c []] [.sl false (.sl .str) rs] (.fn 61 [.ptr 0 1 0 0]) [.cells [.sl false (.sl .str) (rs)]] := by
  exact ⟨rfl, rfl, rfl, rfl⟩
def CPrz : List (Nat × Con) := (50, immC [.v (.sl (.sl .str))] sPrz) :: CPrs
theorem kPrz : Known Tryd.prog (En CPrz tys G6 QPrs) := kPrs.addI Tryd.func50 Tryd.call50 [.c []] fun ds p v bs h hp => by
  unfold sPrz at h
  split at h <;> simp only [Option.some.injEq, Prod.mk.injEq, reduceCtorEq] at h
  obtain ⟨rfl, rfl, rfl⟩ := h
  exact bPrz _
def sCmp : List V → Option (Prop × V × List Blk)
  | [.sl false (.sl .str) rs] => some (rs.length ≤ 1048576 ∧ (∀ l ∈ rs, l.length ≤ 1048576 ∧ ∀ x ∈ l, x.length ≤ 1048576), .tup [.own (.arr 2 (.int .i64)) 0, .int .i64 (cmpE rs)], [.row true (.arr 2 (.int .i64)) (cmpL rs)])
  | _ => none
set_option maxHeartbeats 2000000 in
theorem bCmp (rs : List (List (List UInt8))) (hp0 : rs.length ≤ 1048576) (hp1 : (∀ l ∈ rs, l.length ≤ 1048576 ∧ ∀ x ∈ l, x.length ≤ 1048576)) : bodyP (En CPrz tys G6 QPrs) Tryd.f24 [.o (.arr 2 (.int .i64)), .k] [.sl false (.sl .str) rs] (.tup [.own (.arr 2 (.int .i64)) 0, .int .i64 (cmpE rs)]) [.row true (.arr 2 (.int .i64)) (cmpL rs)] := by
  refine ⟨fun h0 => ?_, fun h0 => ?_⟩
  · replace h0 : 12 < (rs.length : Int) := h0
    refine ⟨⟨rfl, rfl, rfl⟩, ⟨rfl, rfl, rfl⟩, ?_⟩
    have e : cmpE rs = 2 := if_pos (by omega)
    rw [cmpL, if_neg (by rw [e]; decide), e]
    exact ⟨rfl, rfl, rfl, rfl⟩
  · replace h0 : ¬ (12 < (rs.length : Int)) := h0
    refine ⟨3, [(1, .k), (2, .k), (3, .k), (11, .k), (12, .k), (13, .k)], fun n vs H => ∃ (k : Nat), k ≤ rs.length ∧ (rs.drop k).all rgtB = rs.all rgtB ∧ n = rs.length - k ∧ vs = [.ptr 0 1 0 0, .ptr 1 1 0 0, .ptr 2 1 0 0, .sl false (.sl .str) rs, .int .i64 (rs.length : Int), .int .i64 (k : Int)] ∧ H = [.cells [.sl false (.sl .str) rs], .cells [.nils], .cells [.int .i64 0]], ⟨rfl, rs.length, 0, by omega, rfl, by omega, rfl, rfl⟩, ?_⟩
    rintro n vs H ⟨k, hc1_0, hc1_1, rfl, rfl, rfl⟩
    refine ⟨fun h1 => ?_, fun h1 => ?_⟩
    · replace h1 : (k : Int) < (rs.length : Int) := h1
      have hkl : k < rs.length := by omega
      have hkx := (hp1 _ (getD_mem [] rs k hkl)).1
      refine ⟨⟨by show (0 : Int) ≤ (k : Int); omega, by show (k : Int) < (rs.length : Int); omega⟩, fun h2 => ?_, fun h2 => ?_⟩
      · replace h2 : 0 < (((rs.getD k []).length : Nat) : Int) := h2
        refine ⟨by show (rs.getD k []).length ≤ 1048576; first | omega | assumption | (simp only [List.length_cons, List.length_nil, List.length_append, List.length_take, List.length_drop, List.length_set, List.length_replicate]; omega), fun h3 => ?_, fun h3 => ?_⟩
        · replace h3 : ¬ (rightB (rs.getD k []) = true) := h3
          refine ⟨⟨rfl, rfl, rfl⟩, ⟨rfl, rfl, rfl⟩, ?_⟩
          have hf : rs.all rgtB = false := all_bad (d := []) hkl hc1_1 (rgtB_no (by omega) h3)
          have e : cmpE rs = 1 := by unfold cmpE; rw [if_neg (by omega), if_pos hf]
          rw [cmpL, if_neg (by rw [e]; decide), e]
          exact ⟨rfl, rfl, rfl, rfl⟩
        · replace h3 : ¬ (¬ (rightB (rs.getD k []) = true)) := h3
          have hok := rgtB_yes (Classical.not_not.1 h3)
          refine ⟨⟨by show (-9223372036854775808 : Int) ≤ ((k : Int) + 1); omega, by show ((k : Int) + 1) ≤ (9223372036854775807 : Int); omega⟩, ?_⟩
          exact ⟨rfl, rs.length - (k + 1), by omega, k + 1, by omega, all_next (d := []) hkl hc1_1 hok, rfl, rfl, rfl⟩
      · replace h2 : ¬ (0 < (((rs.getD k []).length : Nat) : Int)) := h2
        have hok := rgtB_nil (r := rs.getD k []) (by omega)
        refine ⟨⟨by show (-9223372036854775808 : Int) ≤ ((k : Int) + 1); omega, by show ((k : Int) + 1) ≤ (9223372036854775807 : Int); omega⟩, ?_⟩
        exact ⟨rfl, rs.length - (k + 1), by omega, k + 1, by omega, all_next (d := []) hkl hc1_1 hok, rfl, rfl, rfl⟩
    · replace h1 : ¬ ((k : Int) < (rs.length : Int)) := h1
      have hall : rs.all rgtB = true := all_stop (by omega) hc1_1
      have hrg : ∀ r ∈ rs, 0 < r.length → rightB r = true := fun r hr h => rgtB_ok h (List.all_eq_true.1 hall r hr)
      have hpl := pairs_len (rows := rs) (by omega)
      refine ⟨trivial, rfl, ⟨by show rs.length ≤ 1048576; first | omega | assumption, fun _ _ => rfl⟩, 6, [(1, .k), (2, .k), (3, .k), (6, .c [(0, (.arr 2 (.int .i64)))])], fun n vs H => n ≤ (pairsL rs).length ∧ ((pairsL rs).drop n).all (alkB rs) = (pairsL rs).all (alkB rs) ∧ vs = [.ptr 0 1 0 0, .ptr 1 1 0 0, .ptr 2 1 0 0, .ptr 3 1 0 0] ∧ H = [.cells [.sl false (.sl .str) rs], .cells [.nils], .cells [.int .i64 0], .cells [.own (.arr 2 (.int .i64)) 5], .dead, .row true (.arr 2 (.int .i64)) (cmpO rs ((pairsL rs).take n))], ⟨rfl, by omega, rfl, rfl, rfl⟩, ?_, ?_⟩
      · rintro n vs H ⟨hc2_0, hc2_1, rfl, rfl⟩ hn2
        replace hn2 : n < (pairsL rs).length := hn2
        have hpm := pairs_mem.1 (getD_mem (0, 0) (pairsL rs) n hn2)
        obtain ⟨p1, p2, p3, p4⟩ := id hpm
        have g0 : ((prI ((pairsL rs).getD n (0, 0))).getD 0 0) = (((pairsL rs).getD n (0, 0)).1 : Int) := rfl
        have R0 : rightB (rs.getD ((prI ((pairsL rs).getD n (0, 0))).getD 0 0).toNat []) = true := hrg _ (getD_mem [] rs _ (by show ((pairsL rs).getD n (0, 0)).1 < rs.length; omega)) p3
        obtain ⟨u0, v0, _, _⟩ := right_ok R0
        have X0 : ∀ x ∈ rs.getD ((prI ((pairsL rs).getD n (0, 0))).getD 0 0).toNat [], x.length ≤ 1048576 := fun s hs => Nat.le_trans (right_len R0 s hs) (by omega)
        have K0 : knw ((prI ((pairsL rs).getD n (0, 0))).getD 0 0) := ⟨by omega, by omega⟩
        have g1 : ((prI ((pairsL rs).getD n (0, 0))).getD 1 0) = (((pairsL rs).getD n (0, 0)).2 : Int) := rfl
        have R1 : rightB (rs.getD ((prI ((pairsL rs).getD n (0, 0))).getD 1 0).toNat []) = true := hrg _ (getD_mem [] rs _ (by show ((pairsL rs).getD n (0, 0)).2 < rs.length; omega)) p4
        obtain ⟨u1, v1, _, _⟩ := right_ok R1
        have X1 : ∀ x ∈ rs.getD ((prI ((pairsL rs).getD n (0, 0))).getD 1 0).toNat [], x.length ≤ 1048576 := fun s hs => Nat.le_trans (right_len R1 s hs) (by omega)
        have K1 : knw ((prI ((pairsL rs).getD n (0, 0))).getD 1 0) := ⟨by omega, by omega⟩
        have hcl := cmpO_len rs ((pairsL rs).take n)
        rw [List.length_take] at hcl
        refine ⟨⟨rfl, rfl, rfl, by first | assumption | rfl | simp, rfl⟩, by kernel_rfl, ⟨by show (0 : Int) ≤ 0; omega, by show 0 < (2 : Int); omega, by first | assumption | rfl | simp⟩, ⟨by show (0 : Int) ≤ ((prI ((pairsL rs).getD n (0, 0))).getD 0 0); omega, by show ((prI ((pairsL rs).getD n (0, 0))).getD 0 0) < (rs.length : Int); omega⟩, ⟨by show (0 : Int) ≤ 1; omega, by show 1 < (2 : Int); omega, by first | assumption | rfl | simp⟩, ⟨by show (0 : Int) ≤ ((prI ((pairsL rs).getD n (0, 0))).getD 1 0); omega, by show ((prI ((pairsL rs).getD n (0, 0))).getD 1 0) < (rs.length : Int); omega⟩, ⟨by show 1 ≤ (rs.getD (((prI ((pairsL rs).getD n (0, 0))).getD 0 0).toNat) []).length; first | omega | assumption | (simp only [List.length_cons, List.length_nil, List.length_append, List.length_take, List.length_drop, List.length_set, List.length_replicate]; omega), by show 1 ≤ (rs.getD (((prI ((pairsL rs).getD n (0, 0))).getD 1 0).toNat) []).length; first | omega | assumption | (simp only [List.length_cons, List.length_nil, List.length_append, List.length_take, List.length_drop, List.length_set, List.length_replicate]; omega)⟩, fun h4 => ?_, fun h4 => ?_⟩
        · replace h4 : ¬ (alikeP (rs.getD (((prI ((pairsL rs).getD n (0, 0))).getD 0 0).toNat) []) (rs.getD (((prI ((pairsL rs).getD n (0, 0))).getD 1 0).toNat) [])) := h4
          refine ⟨⟨rfl, rfl, rfl⟩, ⟨rfl, rfl, rfl⟩, rfl, rfl, ?_⟩
          have hf : (pairsL rs).all (alkB rs) = false := all_bad (d := (0, 0)) hn2 hc2_1 (alkB_no h4)
          have e : cmpE rs = 1 := by unfold cmpE; rw [if_neg (by omega), if_neg (by rw [hall]; decide), if_pos hf]
          rw [cmpL, if_neg (by rw [e]; decide), e]
          exact ⟨rfl, rfl, rfl, rfl⟩
        · replace h4 : ¬ (¬ (alikeP (rs.getD (((prI ((pairsL rs).getD n (0, 0))).getD 0 0).toNat) []) (rs.getD (((prI ((pairsL rs).getD n (0, 0))).getD 1 0).toNat) []))) := h4
          have hok := alkB_yes (rows := rs) (p := ((pairsL rs).getD n (0, 0))) (Classical.not_not.1 h4)
          refine ⟨by kernel_rfl, ⟨by show (0 : Int) ≤ 0; omega, by show 0 < (2 : Int); omega, by first | assumption | rfl | simp⟩, ⟨by show (0 : Int) ≤ ((prI ((pairsL rs).getD n (0, 0))).getD 0 0); omega, by show ((prI ((pairsL rs).getD n (0, 0))).getD 0 0) < (rs.length : Int); omega⟩, ⟨by show (0 : Int) ≤ 0; omega, by show 0 < (2 : Int); omega, by first | assumption | rfl | simp⟩, ⟨by show (0 : Int) ≤ 1; omega, by show 1 < (2 : Int); omega, by first | assumption | rfl | simp⟩, ⟨by show (0 : Int) ≤ ((prI ((pairsL rs).getD n (0, 0))).getD 1 0); omega, by show ((prI ((pairsL rs).getD n (0, 0))).getD 1 0) < (rs.length : Int); omega⟩, ⟨by show (0 : Int) ≤ 1; omega, by show 1 < (2 : Int); omega, by first | assumption | rfl | simp⟩, rfl, rfl, ⟨by show 1 ≤ (rs.getD (((prI ((pairsL rs).getD n (0, 0))).getD 0 0).toNat) []).length; first | omega | assumption | (simp only [List.length_cons, List.length_nil, List.length_append, List.length_take, List.length_drop, List.length_set, List.length_replicate]; omega), by show (rs.getD (((prI ((pairsL rs).getD n (0, 0))).getD 0 0).toNat) []).length ≤ 1000000; first | omega | assumption | (simp only [List.length_cons, List.length_nil, List.length_append, List.length_take, List.length_drop, List.length_set, List.length_replicate]; omega), by first | assumption | simp, by show 1 ≤ (rs.getD (((prI ((pairsL rs).getD n (0, 0))).getD 1 0).toNat) []).length; first | omega | assumption | (simp only [List.length_cons, List.length_nil, List.length_append, List.length_take, List.length_drop, List.length_set, List.length_replicate]; omega), by show (rs.getD (((prI ((pairsL rs).getD n (0, 0))).getD 1 0).toNat) []).length ≤ 1000000; first | omega | assumption | (simp only [List.length_cons, List.length_nil, List.length_append, List.length_take, List.length_drop, List.length_set, List.length_replicate]; omega), by first | assumption | simp, by assumption, by assumption⟩, fun h5 => ?_, fun h5 => ?_⟩
          · replace h5 : ¬ (agrP (rs.getD (((prI ((pairsL rs).getD n (0, 0))).getD 0 0).toNat) []) ((prI ((pairsL rs).getD n (0, 0))).getD 0 0) (rs.getD (((prI ((pairsL rs).getD n (0, 0))).getD 1 0).toNat) []) ((prI ((pairsL rs).getD n (0, 0))).getD 1 0)) := h5
            have hod := oddB_yes (rows := rs) (p := ((pairsL rs).getD n (0, 0))) h5
            refine ⟨by first | assumption | rfl | simp, ⟨rfl, rfl⟩, by show (cmpO rs ((pairsL rs).take n)).length + ([prI ((pairsL rs).getD n (0, 0))] : List (List Int)).length ≤ 1000000000; simp only [List.length_cons, List.length_nil]; omega, ⟨rfl, rfl, rfl⟩, ?_⟩
            first
            | exact ⟨rfl, rfl, by omega, all_next (d := (0, 0)) hn2 hc2_1 hok, rfl, by rw [cmpO_snoc rs _ n hn2, if_pos hod]; rfl⟩
            | exact ⟨rfl, rfl, by omega, all_next (d := (0, 0)) hn2 hc2_1 hok, rfl, by rw [cmpO_snoc rs _ n hn2, if_neg hod, List.append_nil]; rfl⟩
          · replace h5 : ¬ (¬ (agrP (rs.getD (((prI ((pairsL rs).getD n (0, 0))).getD 0 0).toNat) []) ((prI ((pairsL rs).getD n (0, 0))).getD 0 0) (rs.getD (((prI ((pairsL rs).getD n (0, 0))).getD 1 0).toNat) []) ((prI ((pairsL rs).getD n (0, 0))).getD 1 0))) := h5
            have hod := oddB_no (rows := rs) (p := ((pairsL rs).getD n (0, 0))) (Classical.not_not.1 h5)
            first
            | exact ⟨rfl, rfl, by omega, all_next (d := (0, 0)) hn2 hc2_1 hok, rfl, by rw [cmpO_snoc rs _ n hn2, if_pos hod]; rfl⟩
            | exact ⟨rfl, rfl, by omega, all_next (d := (0, 0)) hn2 hc2_1 hok, rfl, by rw [cmpO_snoc rs _ n hn2, if_neg hod, List.append_nil]; rfl⟩
      · rintro vs H ⟨hc2_0, hc2_1, rfl, rfl⟩
        refine ⟨⟨rfl, rfl, rfl⟩, ⟨rfl, rfl, rfl⟩, ?_⟩
        have hf : (pairsL rs).all (alkB rs) = true := all_stop (by omega) hc2_1
        have e : cmpE rs = 0 := by unfold cmpE; rw [if_neg (by omega), if_neg (by rw [hall]; decide), if_neg (by rw [hf]; decide)]
        rw [cmpL, if_pos e, e, show cmpO rs (pairsL rs) = cmpO rs ((pairsL rs).take (pairsL rs).length) by rw [List.take_length]]
        exact ⟨rfl, rfl, rfl, rfl⟩
def CCmp : List (Nat × Con) := (24, pureC [.v (.sl (.sl .str))] sCmp) :: CPrz
theorem kCmp : Known Tryd.prog (En CCmp tys G6 QPrs) := kPrz.add Tryd.func24 Tryd.call24 [.o (.arr 2 (.int .i64)), .k] fun ds p v bs h hp => by
  unfold sCmp at h
  split at h <;> simp only [Option.some.injEq, Prod.mk.injEq, reduceCtorEq] at h
  obtain ⟨rfl, rfl, rfl⟩ := h
  exact bCmp _ hp.1 hp.2
end Go.Proofs.YtmkphnlpbngenaaDoor.S27

namespace Go.Proofs.YtmkphnlpbngenaaDoor.S27
open Go Go.Proofs.YtmkphnlpbngenaaDoor.Vc Go.Proofs
set_option maxRecDepth 100000
set_option linter.unusedVariables false

def sRfl : List V → Option (Prop × V × List Blk)
  | [.sl false (.sl .str) rs, .int .i64 h] => some (rs.length ≤ 1048576 ∧ (∀ l ∈ rs, l.length ≤ 1048576 ∧ ∀ x ∈ l, x.length ≤ 1048576), .tup [.own .str 0, .int .i64 (rflE rs h)], [.row true .str (rflL rs h)])
  | _ => none
set_option maxHeartbeats 4000000 in
theorem bRfl (rs : List (List (List UInt8))) (h : Int) (hp0 : rs.length ≤ 1048576) (hp1 : (∀ l ∈ rs, l.length ≤ 1048576 ∧ ∀ x ∈ l, x.length ≤ 1048576)) : bodyP (En CCmp tys G6 QPrs) Tryd.f26 [.o .str, .k] [.sl false (.sl .str) rs, .int .i64 h] (.tup [.own .str 0, .int .i64 (rflE rs h)]) [.row true .str (rflL rs h)] := by
  refine ⟨⟨by show rs.length ≤ 1048576; first | omega | assumption, by first | assumption | simp⟩, fun h0 => ?_, fun h0 => ?_⟩
  · replace h0 : (cmpE rs) ≠ 0 := h0
    have e : rflE rs h = cmpE rs := if_neg h0
    rw [rflL, if_neg (by rw [e]; exact h0), e]
    exact ⟨rfl, rfl, rfl, rfl⟩
  · replace h0 : ¬ ((cmpE rs) ≠ 0) := h0
    have hc := Classical.not_not.1 h0
    obtain ⟨c1, c2, c3⟩ := cmp0 hc
    refine ⟨rfl, trivial, fun h1 => ?_, fun h1 => ?_⟩
    · replace h1 : ¬ (knw h) := h1
      have e : rflE rs h = 8 := by unfold rflE; rw [if_pos hc, if_neg h1]
      rw [rflL, if_neg (by rw [e]; decide), e]
      exact ⟨rfl, rfl, rfl, rfl⟩
    · replace h1 : ¬ (¬ (knw h)) := h1
      have hk := Classical.not_not.1 h1
      obtain ⟨k1, k2⟩ := id hk
      refine ⟨1, [(1, .k), (6, .o (.arr 2 (.int .i64))), (8, .o .u8), (9, .o .str), (10, .k), (32, .k), (33, .k), (34, .k)], fun n vs H => ∃ (k : Nat), k ≤ rs.length ∧ n = rs.length - k ∧ vs = [.int .i64 h, .own (.arr 2 (.int .i64)) 0, .own .u8 1, .own .str 2, .int .i64 ((lastK rs k : Nat) : Int), .sl false (.sl .str) rs, .int .i64 (rs.length : Int), .int .i64 (k : Int)] ∧ H = [.row true (.arr 2 (.int .i64)) (cmpL rs), .row true .u8 (ptsK rs k), .row true .str (vlsK rs h k)], ⟨rfl, rs.length, 0, by omega, by omega, rfl, rfl⟩, ?_⟩
      rintro n vs H ⟨k, hc1_0, rfl, rfl, rfl⟩
      refine ⟨fun h2 => ?_, fun h2 => ?_⟩
      · replace h2 : (k : Int) < (rs.length : Int) := h2
        have hkl : k < rs.length := by omega
        have hm := getD_mem [] rs k hkl
        have hpl := pts_len rs k
        have hvl := vls_len rs h k
        have hfl := full_len rs k
        refine ⟨⟨by show (0 : Int) ≤ (k : Int); omega, by show (k : Int) < (rs.length : Int); omega⟩, fun h3 => ?_, fun h3 => ?_⟩
        · replace h3 : 0 < (((rs.getD k []).length : Nat) : Int) := h3
          have hr := c2 _ hm (by omega)
          obtain ⟨r1, r2, r3, r4⟩ := right_ok hr
          have r5 : ∀ x ∈ rs.getD k [], x.length ≤ 1048576 := (hp1 _ hm).2
          have h3n : 0 < (rs.getD k []).length := by omega
          refine ⟨⟨by show (-9223372036854775808 : Int) ≤ ((k : Int) + 1); omega, by show ((k : Int) + 1) ≤ (9223372036854775807 : Int); omega⟩, ⟨rfl, rfl⟩, by show (ptsK rs k).length + ([UInt8.ofNat (((k : Int) + 1) % 256).toNat] : List UInt8).length ≤ 1000000000; simp only [List.length_cons, List.length_nil]; omega, ⟨by show (-9223372036854775808 : Int) ≤ (h + 1); omega, by show (h + 1) ≤ (9223372036854775807 : Int); omega⟩, ⟨by show 1 ≤ (rs.getD k []).length; first | omega | assumption | (simp only [List.length_cons, List.length_nil, List.length_append, List.length_take, List.length_drop, List.length_set, List.length_replicate]; omega), by show (rs.getD k []).length ≤ 1000000; first | omega | assumption | (simp only [List.length_cons, List.length_nil, List.length_append, List.length_take, List.length_drop, List.length_set, List.length_replicate]; omega), by first | assumption | simp⟩, ⟨rfl, rfl⟩, by show (vlsK rs h k).length + ([atL (rs.getD k []) (UInt8.ofNat ((h + 1) % 256).toNat)] : List (List UInt8)).length ≤ 1000000000; simp only [List.length_cons, List.length_nil]; omega, ⟨by show (-9223372036854775808 : Int) ≤ ((k : Int) + 1); omega, by show ((k : Int) + 1) ≤ (9223372036854775807 : Int); omega⟩, ?_⟩
          first
          | exact ⟨rfl, rs.length - (k + 1), by omega, k + 1, by omega, rfl, by rw [last_yes hkl h3n]; rfl, by rw [pts_yes h3n, vls_yes h3n]; rfl⟩
          | exact ⟨rfl, rs.length - (k + 1), by omega, k + 1, by omega, rfl, by rw [last_no hkl h3n]; rfl, by rw [pts_no h3n, vls_no h3n]; rfl⟩
        · replace h3 : ¬ (0 < (((rs.getD k []).length : Nat) : Int)) := h3
          have h3n : ¬ 0 < (rs.getD k []).length := by omega
          refine ⟨⟨by show (-9223372036854775808 : Int) ≤ ((k : Int) + 1); omega, by show ((k : Int) + 1) ≤ (9223372036854775807 : Int); omega⟩, ?_⟩
          first
          | exact ⟨rfl, rs.length - (k + 1), by omega, k + 1, by omega, rfl, by rw [last_yes hkl h3n]; rfl, by rw [pts_yes h3n, vls_yes h3n]; rfl⟩
          | exact ⟨rfl, rs.length - (k + 1), by omega, k + 1, by omega, rfl, by rw [last_no hkl h3n]; rfl, by rw [pts_no h3n, vls_no h3n]; rfl⟩
      · replace h2 : ¬ ((k : Int) < (rs.length : Int)) := h2
        have hkn : k = rs.length := by omega
        have hpl := pts_len rs k
        have hvl := vls_len rs h k
        have hfl := full_len rs k
        have hml := last_11 c2 k
        have hvs := vls_le (h := h) c2 hc1_0
        refine ⟨fun h4 => ?_, fun h4 => ?_⟩
        · replace h4 : ¬ (((lastK rs k : Nat) : Int) = 0) := h4
          refine ⟨fun h5 => ?_, fun h5 => ?_⟩
          · replace h5 : (((ptsK rs k).length : Nat) : Int) < ((lastK rs k : Nat) : Int) := h5
            have e : rflE rs h = 17 := by unfold rflE; rw [if_pos hc, if_pos hk, if_pos (.inr (by rw [← hkn]; omega))]
            rw [rflL, if_neg (by rw [e]; decide), e]
            exact ⟨rfl, rfl, rfl, rfl⟩
          · replace h5 : ¬ ((((ptsK rs k).length : Nat) : Int) < ((lastK rs k : Nat) : Int)) := h5
            have hno : ¬ (lastK rs rs.length = 0 ∨ (fullK rs rs.length).length < lastK rs rs.length) := by rw [← hkn]; omega
            refine ⟨fun h6 => ?_, fun h6 => ?_⟩
            · replace h6 : 0 < (((cmpL rs).length : Nat) : Int) := h6
              have e : rflE rs h = 4 := by unfold rflE; rw [if_pos hc, if_pos hk, if_neg hno, if_neg (fun g => by rw [g] at h6; simp at h6)]
              rw [rflL, if_neg (by rw [e]; decide), e]
              exact ⟨rfl, rfl, rfl, rfl⟩
            · replace h6 : ¬ (0 < (((cmpL rs).length : Nat) : Int)) := h6
              have hcl : cmpL rs = [] := List.eq_nil_of_length_eq_zero (by omega)
              have e0 : rflE rs h = 0 := by unfold rflE; rw [if_pos hc, if_pos hk, if_neg hno, if_pos hcl]
              refine ⟨by kernel_rfl, ⟨by omega, by omega⟩, ⟨by omega, by omega⟩, ⟨rfl, by show (0 : Int) ≤ ((lastK rs k : Nat) : Int); omega, by show ((lastK rs k : Nat) : Int) ≤ (1000000000 : Int); omega⟩, 3, [(8, .k), (10, .k), (13, .o .str), (78, .k), (79, .k), (80, .k)], fun n vs H => ∃ (i : Nat), i ≤ (lastK rs k) ∧ n = (lastK rs k) - i ∧ vs = [.slc .u8 1 0 (lastK rs k - 0), .int .i64 ((lastK rs k : Nat) : Int), .own .str 3, .slc .str 2 0 (lastK rs k - 0), .int .i64 (((lastK rs k - 0) : Nat) : Int), .int .i64 (i : Int)] ∧ H = [.row true (.arr 2 (.int .i64)) (cmpL rs), .row true .u8 (ptsK rs k), .row true .str (vlsK rs h k), .row true .str (outS ((ptsK rs k).take (lastK rs k)) (vlsK rs h k) (lastK rs k) i)], ⟨rfl, (lastK rs k), 0, by omega, by omega, rfl, rfl⟩, ?_⟩
              rintro n vs H ⟨i, hc2_0, rfl, rfl, rfl⟩
              refine ⟨fun h7 => ?_, fun h7 => ?_⟩
              · replace h7 : (i : Int) < (((lastK rs k - 0) : Nat) : Int) := h7
                have hi : i < lastK rs k := by omega
                have hV : ((vlsK rs h k).getD (0 + i) []).length ≤ 4096 := hvs _ (by rw [Nat.zero_add]; exact getD_mem [] _ i (by omega))
                have hrl : (List.replicate (lastK rs k) (0 : UInt8)).length = lastK rs k := List.length_replicate ..
                have hos := outS_le (ps := ((ptsK rs k).take (lastK rs k))) (m := lastK rs k) hvs i
                have hsl := outS_len ((ptsK rs k).take (lastK rs k)) (vlsK rs h k) (lastK rs k) i
                have hVV : (vlsK rs h k).getD i [] = (vlsK rs h k).getD (0 + i) [] := by rw [Nat.zero_add]
                refine ⟨⟨by show (0 : Int) ≤ (i : Int); omega, by show (i : Int) < ((lastK rs k - 0) : Int); omega⟩, ⟨rfl, by show (0 : Int) ≤ ((lastK rs k : Nat) : Int); omega, by show ((lastK rs k : Nat) : Int) ≤ (1000000000 : Int); omega⟩, ⟨by show (0 : Int) ≤ (i : Int); omega, by show (i : Int) < ((List.replicate (lastK rs k) 0).length : Int); omega⟩, ⟨rfl, rfl⟩, ⟨by show (((ptsK rs k).drop 0).take (lastK rs k - 0)).length ≤ 10000; first | omega | assumption | (simp only [List.length_cons, List.length_nil, List.length_append, List.length_take, List.length_drop, List.length_set, List.length_replicate]; omega), by show ((List.replicate (lastK rs k) 0).set i 1).length ≤ 10000; first | omega | assumption | (simp only [List.length_cons, List.length_nil, List.length_append, List.length_take, List.length_drop, List.length_set, List.length_replicate]; omega)⟩, 3, [(8, .k), (10, .k), (13, .o .str), (14, .k), (15, .k), (17, .o .u8), (78, .k), (79, .k), (80, .k), (96, .k), (97, .k)], fun n vs H => ∃ (a : Nat), a ≤ (lastK rs k) ∧ n = (lastK rs k) - a ∧ vs = [.slc .u8 1 0 (lastK rs k - 0), .int .i64 ((lastK rs k : Nat) : Int), .own .str 3, .int .i64 (i : Int), .str ((vlsK rs h k).getD (0 + i) []), .own .u8 4, .slc .str 2 0 (lastK rs k - 0), .int .i64 (((lastK rs k - 0) : Nat) : Int), .int .i64 (i : Int), .int .i64 ((lastK rs k : Nat) : Int), .int .i64 (a : Int)] ∧ H = [.row true (.arr 2 (.int .i64)) (cmpL rs), .row true .u8 (ptsK rs k), .row true .str (vlsK rs h k), .row true .str (outP ((ptsK rs k).take (lastK rs k)) (vlsK rs h k) (lastK rs k) i (outS ((ptsK rs k).take (lastK rs k)) (vlsK rs h k) (lastK rs k) i) a), .row true .u8 ((ipL (((ptsK rs k).drop 0).take (lastK rs k - 0)) ((List.replicate (lastK rs k) 0).set i 1)).1)], ⟨rfl, (lastK rs k), 0, by omega, by omega, rfl, by rw [outP_zero (outS_len _ _ _ i)]; rfl⟩, ?_⟩
                rintro n vs H ⟨a, hc3_0, rfl, rfl, rfl⟩
                refine ⟨fun h8 => ?_, fun h8 => ?_⟩
                · replace h8 : (a : Int) < ((lastK rs k : Nat) : Int) := h8
                  have ha : a < lastK rs k := by omega
                  have hol := outP_len ((ptsK rs k).take (lastK rs k)) (vlsK rs h k) (lastK rs k) i (outS ((ptsK rs k).take (lastK rs k)) (vlsK rs h k) (lastK rs k) i) a
                  have hog : ((outP ((ptsK rs k).take (lastK rs k)) (vlsK rs h k) (lastK rs k) i (outS ((ptsK rs k).take (lastK rs k)) (vlsK rs h k) (lastK rs k) i) a).getD a []).length ≤ 4096 := by rw [outP_get ha]; exact hos _ (getD_mem [] _ a (by omega))
                  refine ⟨fun h9 => ?_, fun h9 => ?_⟩
                  · replace h9 : (a : Int) < ((((ipL (((ptsK rs k).drop 0).take (lastK rs k - 0)) ((List.replicate (lastK rs k) 0).set i 1)).1).length : Nat) : Int) := h9
                    refine ⟨⟨by show (0 : Int) ≤ (a : Int); omega, by show (a : Int) < (((ipL (((ptsK rs k).drop 0).take (lastK rs k - 0)) ((List.replicate (lastK rs k) 0).set i 1)).1).length : Int); omega⟩, fun h10 => ?_, fun h10 => ?_⟩
                    · replace h10 : (i : Int) = 0 := h10
                      have hst := out_first (ps := ((ptsK rs k).take (lastK rs k))) (vs := (vlsK rs h k)) (old := (outS ((ptsK rs k).take (lastK rs k)) (vlsK rs h k) (lastK rs k) i)) (by omega : i = 0) ha
                      rw [hVV] at hst
                      refine ⟨by show ((vlsK rs h k).getD (0 + i) []).length ≤ 1000000000; first | omega | assumption | (simp only [List.length_cons, List.length_nil, List.length_append, List.length_take, List.length_drop, List.length_set, List.length_replicate]; omega), ⟨by show (0 : Int) ≤ (a : Int); omega, by show (a : Int) < ((outP ((ptsK rs k).take (lastK rs k)) (vlsK rs h k) (lastK rs k) i (outS ((ptsK rs k).take (lastK rs k)) (vlsK rs h k) (lastK rs k) i) a).length : Int); omega⟩, ⟨rfl, rfl⟩, ⟨by show (-9223372036854775808 : Int) ≤ ((a : Int) + 1); omega, by show ((a : Int) + 1) ≤ (9223372036854775807 : Int); omega⟩, ?_⟩
                      exact ⟨rfl, lastK rs k - (a + 1), by omega, a + 1, by omega, rfl, rfl, by rw [← hst]; rfl⟩
                    · replace h10 : ¬ ((i : Int) = 0) := h10
                      have hst := out_next (ps := ((ptsK rs k).take (lastK rs k))) (vs := (vlsK rs h k)) (old := (outS ((ptsK rs k).take (lastK rs k)) (vlsK rs h k) (lastK rs k) i)) (by omega : ¬ i = 0) ha
                      rw [hVV] at hst
                      refine ⟨by kernel_rfl, ⟨by show (0 : Int) ≤ (a : Int); omega, by show (a : Int) < ((outP ((ptsK rs k).take (lastK rs k)) (vlsK rs h k) (lastK rs k) i (outS ((ptsK rs k).take (lastK rs k)) (vlsK rs h k) (lastK rs k) i) a).length : Int); omega⟩, by show ((vlsK rs h k).getD (0 + i) []).length ≤ 1000000000; first | omega | assumption | (simp only [List.length_cons, List.length_nil, List.length_append, List.length_take, List.length_drop, List.length_set, List.length_replicate]; omega), ⟨by show 1 ≤ ([((outP ((ptsK rs k).take (lastK rs k)) (vlsK rs h k) (lastK rs k) i (outS ((ptsK rs k).take (lastK rs k)) (vlsK rs h k) (lastK rs k) i) a).getD a []), scaleB (((ipL (((ptsK rs k).drop 0).take (lastK rs k - 0)) ((List.replicate (lastK rs k) 0).set i 1)).1).getD a 0) ((vlsK rs h k).getD (0 + i) [])] : List (List UInt8)).length; first | omega | assumption | (simp only [List.length_cons, List.length_nil, List.length_append, List.length_take, List.length_drop, List.length_set, List.length_replicate]; omega), by show ([((outP ((ptsK rs k).take (lastK rs k)) (vlsK rs h k) (lastK rs k) i (outS ((ptsK rs k).take (lastK rs k)) (vlsK rs h k) (lastK rs k) i) a).getD a []), scaleB (((ipL (((ptsK rs k).drop 0).take (lastK rs k - 0)) ((List.replicate (lastK rs k) 0).set i 1)).1).getD a 0) ((vlsK rs h k).getD (0 + i) [])] : List (List UInt8)).length ≤ 1000000; first | omega | assumption | (simp only [List.length_cons, List.length_nil, List.length_append, List.length_take, List.length_drop, List.length_set, List.length_replicate]; omega), by show (∀ x ∈ ([((outP ((ptsK rs k).take (lastK rs k)) (vlsK rs h k) (lastK rs k) i (outS ((ptsK rs k).take (lastK rs k)) (vlsK rs h k) (lastK rs k) i) a).getD a []), scaleB (((ipL (((ptsK rs k).drop 0).take (lastK rs k - 0)) ((List.replicate (lastK rs k) 0).set i 1)).1).getD a 0) ((vlsK rs h k).getD (0 + i) [])] : List (List UInt8)), x.length ≤ 1048576); exact two_len (by omega) (by rw [scale_len]; omega)⟩, ⟨by show (0 : Int) ≤ (a : Int); omega, by show (a : Int) < ((outP ((ptsK rs k).take (lastK rs k)) (vlsK rs h k) (lastK rs k) i (outS ((ptsK rs k).take (lastK rs k)) (vlsK rs h k) (lastK rs k) i) a).length : Int); omega⟩, ⟨rfl, rfl⟩, ⟨by show (-9223372036854775808 : Int) ≤ ((a : Int) + 1); omega, by show ((a : Int) + 1) ≤ (9223372036854775807 : Int); omega⟩, ?_⟩
                      exact ⟨rfl, lastK rs k - (a + 1), by omega, a + 1, by omega, rfl, rfl, by rw [← hst]; rfl⟩
                  · replace h9 : ¬ ((a : Int) < ((((ipL (((ptsK rs k).drop 0).take (lastK rs k - 0)) ((List.replicate (lastK rs k) 0).set i 1)).1).length : Nat) : Int)) := h9
                    have hc0 : coefP ((ptsK rs k).take (lastK rs k)) (lastK rs k) i a = 0 := coef_out (by show ¬ a < (ipL (((ptsK rs k).drop 0).take (lastK rs k - 0)) ((List.replicate (lastK rs k) 0).set i 1)).1.length; omega)
                    refine ⟨fun h11 => ?_, fun h11 => ?_⟩
                    · replace h11 : (i : Int) = 0 := h11
                      have hst := out_first (ps := ((ptsK rs k).take (lastK rs k))) (vs := (vlsK rs h k)) (old := (outS ((ptsK rs k).take (lastK rs k)) (vlsK rs h k) (lastK rs k) i)) (by omega : i = 0) ha
                      rw [hVV, hc0] at hst
                      refine ⟨by show ((vlsK rs h k).getD (0 + i) []).length ≤ 1000000000; first | omega | assumption | (simp only [List.length_cons, List.length_nil, List.length_append, List.length_take, List.length_drop, List.length_set, List.length_replicate]; omega), ⟨by show (0 : Int) ≤ (a : Int); omega, by show (a : Int) < ((outP ((ptsK rs k).take (lastK rs k)) (vlsK rs h k) (lastK rs k) i (outS ((ptsK rs k).take (lastK rs k)) (vlsK rs h k) (lastK rs k) i) a).length : Int); omega⟩, ⟨rfl, rfl⟩, ⟨by show (-9223372036854775808 : Int) ≤ ((a : Int) + 1); omega, by show ((a : Int) + 1) ≤ (9223372036854775807 : Int); omega⟩, ?_⟩
                      exact ⟨rfl, lastK rs k - (a + 1), by omega, a + 1, by omega, rfl, rfl, by rw [← hst]; rfl⟩
                    · replace h11 : ¬ ((i : Int) = 0) := h11
                      have hst := out_next (ps := ((ptsK rs k).take (lastK rs k))) (vs := (vlsK rs h k)) (old := (outS ((ptsK rs k).take (lastK rs k)) (vlsK rs h k) (lastK rs k) i)) (by omega : ¬ i = 0) ha
                      rw [hVV, hc0] at hst
                      refine ⟨by kernel_rfl, ⟨by show (0 : Int) ≤ (a : Int); omega, by show (a : Int) < ((outP ((ptsK rs k).take (lastK rs k)) (vlsK rs h k) (lastK rs k) i (outS ((ptsK rs k).take (lastK rs k)) (vlsK rs h k) (lastK rs k) i) a).length : Int); omega⟩, by show ((vlsK rs h k).getD (0 + i) []).length ≤ 1000000000; first | omega | assumption | (simp only [List.length_cons, List.length_nil, List.length_append, List.length_take, List.length_drop, List.length_set, List.length_replicate]; omega), ⟨by show 1 ≤ ([((outP ((ptsK rs k).take (lastK rs k)) (vlsK rs h k) (lastK rs k) i (outS ((ptsK rs k).take (lastK rs k)) (vlsK rs h k) (lastK rs k) i) a).getD a []), scaleB 0 ((vlsK rs h k).getD (0 + i) [])] : List (List UInt8)).length; first | omega | assumption | (simp only [List.length_cons, List.length_nil, List.length_append, List.length_take, List.length_drop, List.length_set, List.length_replicate]; omega), by show ([((outP ((ptsK rs k).take (lastK rs k)) (vlsK rs h k) (lastK rs k) i (outS ((ptsK rs k).take (lastK rs k)) (vlsK rs h k) (lastK rs k) i) a).getD a []), scaleB 0 ((vlsK rs h k).getD (0 + i) [])] : List (List UInt8)).length ≤ 1000000; first | omega | assumption | (simp only [List.length_cons, List.length_nil, List.length_append, List.length_take, List.length_drop, List.length_set, List.length_replicate]; omega), by show (∀ x ∈ ([((outP ((ptsK rs k).take (lastK rs k)) (vlsK rs h k) (lastK rs k) i (outS ((ptsK rs k).take (lastK rs k)) (vlsK rs h k) (lastK rs k) i) a).getD a []), scaleB 0 ((vlsK rs h k).getD (0 + i) [])] : List (List UInt8)), x.length ≤ 1048576); exact two_len (by omega) (by rw [scale_len]; omega)⟩, ⟨by show (0 : Int) ≤ (a : Int); omega, by show (a : Int) < ((outP ((ptsK rs k).take (lastK rs k)) (vlsK rs h k) (lastK rs k) i (outS ((ptsK rs k).take (lastK rs k)) (vlsK rs h k) (lastK rs k) i) a).length : Int); omega⟩, ⟨rfl, rfl⟩, ⟨by show (-9223372036854775808 : Int) ≤ ((a : Int) + 1); omega, by show ((a : Int) + 1) ≤ (9223372036854775807 : Int); omega⟩, ?_⟩
                      exact ⟨rfl, lastK rs k - (a + 1), by omega, a + 1, by omega, rfl, rfl, by rw [← hst]; rfl⟩
                · replace h8 : ¬ ((a : Int) < ((lastK rs k : Nat) : Int)) := h8
                  refine ⟨⟨by show (-9223372036854775808 : Int) ≤ ((i : Int) + 1); omega, by show ((i : Int) + 1) ≤ (9223372036854775807 : Int); omega⟩, ?_⟩
                  exact ⟨rfl, lastK rs k - (i + 1), by omega, i + 1, by omega, rfl, rfl, by (have ham : a = lastK rs k := by omega); subst ham; rw [← outP_all]; rfl⟩
              · replace h7 : ¬ ((i : Int) < (((lastK rs k - 0) : Nat) : Int)) := h7
                have hie : i = lastK rs k := by omega
                rw [rflL, if_pos e0, e0, rflO, ← hkn, ← hie]
                exact ⟨rfl, rfl, rfl, rfl⟩
        · replace h4 : ((lastK rs k : Nat) : Int) = 0 := h4
          have e : rflE rs h = 17 := by unfold rflE; rw [if_pos hc, if_pos hk, if_pos (.inl (by rw [← hkn]; omega))]
          rw [rflL, if_neg (by rw [e]; decide), e]
          exact ⟨rfl, rfl, rfl, rfl⟩
def CRfl : List (Nat × Con) := (26, pureC [.v (.sl (.sl .str)), .v (.int .i64)] sRfl) :: CCmp
theorem kRfl : Known Tryd.prog (En CRfl tys G6 QPrs) := kCmp.add Tryd.func26 Tryd.call26 [.o .str, .k] fun ds p v bs h hp => by
  unfold sRfl at h
  split at h <;> simp only [Option.some.injEq, Prod.mk.injEq, reduceCtorEq] at h
  obtain ⟨rfl, rfl, rfl⟩ := h
  exact bRfl _ _ hp.1 hp.2
end Go.Proofs.YtmkphnlpbngenaaDoor.S27

namespace Go.Proofs.YtmkphnlpbngenaaDoor.S27
open Go

/-! ### deals that are made -/
def dn (z : Nat) : Nat → List UInt8 → List UInt8
  | 0, s => s
  | k + 1, s => (dn z k s).drop z
theorem dn_eq (z : Nat) : ∀ (k : Nat) (s : List UInt8), dn z k s = s.drop (k * z)
  | 0, s => by simp [dn]
  | k + 1, s => by rw [dn, dn_eq z k s, List.drop_drop, Nat.succ_mul]
theorem dn_len (z k : Nat) (s : List UInt8) : (dn z k s).length = s.length - k * z := by rw [dn_eq, List.length_drop]
theorem cutOk {sz : Int} {s : List UInt8} (K : Nat) (h0 : 0 ≤ sz) (hl : (s.length : Int) = sz * (K : Int)) (k : Nat) (hk : k < K) : 0 ≤ sz ∧ sz ≤ ((dn sz.toNat k s).length : Int) := by
  refine ⟨h0, ?_⟩
  rw [dn_len]
  obtain ⟨z, rfl⟩ := Int.eq_ofNat_of_zero_le h0
  have h1 : s.length = z * K := by exact_mod_cast hl
  have h2 : (k + 1) * z ≤ K * z := Nat.mul_le_mul_right z hk
  rw [Nat.succ_mul] at h2
  rw [h1, Nat.mul_comm z K]
  show (z : Int) ≤ ((K * z - k * z : Nat) : Int)
  omega
def posT (m a b : Nat) : Nat := bif Nat.ble a b then a * m - a * (a - 1) / 2 + (b - a) else b * m - b * (b - 1) / 2 + (a - b)
def mkD (m z : Nat) (s : List UInt8) : List Rw := (List.range m).map fun a => (List.range m).map fun b => (dn z (posT m a b) s).take z
def mkE (nd sz : Int) (s : List UInt8) : Int := if nd < 2 ∨ 12 < nd ∨ sz < 0 ∨ 4096 < sz then 3 else if (s.length : Int) = sz * (((nd - 1) * nd) / 2) then 0 else 1
def mkN (nd sz : Int) (s : List UInt8) : Int := if mkE nd sz s = 0 then nd else 0
def mkC (nd sz : Int) (s : List UInt8) : List Rw := if mkE nd sz s = 0 then mkD (nd - 1).toNat sz.toNat s else []
theorem mkE3 {nd sz : Int} {s : List UInt8} (h : nd < 2 ∨ 12 < nd ∨ sz < 0 ∨ 4096 < sz) : mkE nd sz s = 3 ∧ mkN nd sz s = 0 ∧ mkC nd sz s = [] := by
  have e : mkE nd sz s = 3 := if_pos h
  refine ⟨e, if_neg (by rw [e]; decide), if_neg (by rw [e]; decide)⟩
theorem mkE1 {nd sz : Int} {s : List UInt8} (h : ¬ (nd < 2 ∨ 12 < nd ∨ sz < 0 ∨ 4096 < sz)) (hl : (s.length : Int) ≠ sz * (((nd - 1) * nd) / 2)) : mkE nd sz s = 1 ∧ mkN nd sz s = 0 ∧ mkC nd sz s = [] := by
  have e : mkE nd sz s = 1 := by unfold mkE; rw [if_neg h, if_neg hl]
  refine ⟨e, if_neg (by rw [e]; decide), if_neg (by rw [e]; decide)⟩
theorem mkE0 {nd sz : Int} {s : List UInt8} (h : ¬ (nd < 2 ∨ 12 < nd ∨ sz < 0 ∨ 4096 < sz)) (hl : (s.length : Int) = sz * (((nd - 1) * nd) / 2)) : mkE nd sz s = 0 ∧ mkN nd sz s = nd ∧ mkC nd sz s = mkD (nd - 1).toNat sz.toNat s := by
  have e : mkE nd sz s = 0 := by unfold mkE; rw [if_neg h, if_pos hl]
  refine ⟨e, if_pos e, if_pos e⟩
end Go.Proofs.YtmkphnlpbngenaaDoor.S27

namespace Go.Proofs.YtmkphnlpbngenaaDoor.S27
open Go Go.Proofs.YtmkphnlpbngenaaDoor.Vc Go.Proofs
set_option maxRecDepth 100000
set_option linter.unusedVariables false

set_option maxHeartbeats 2000000 in
theorem bMk0 (nd : Int) (sz : Int) (nz : List UInt8) (hn : nd < 2 ∨ 12 < nd ∨ sz < 0 ∨ 4096 < sz) : bodyP (En CRfl tys G6 QPrs [1000000, 1000001]) Tryd.f12 [.m 1 .str, .k] [.int .i64 nd, .int .i64 sz, .str nz] (.tup [.agg [.int .i64 0, .sl true (.sl .str) []], .int .i64 3]) [] := by
  refine ⟨fun h0 => ?_, fun h0 => ?_⟩
  · replace h0 : ¬ (nd < 2) := h0
    refine ⟨fun h1 => ?_, fun h1 => ?_⟩
    · replace h1 : ¬ (12 < nd) := h1
      refine ⟨fun h2 => ?_, fun h2 => ?_⟩
      · replace h2 : ¬ (sz < 0) := h2
        refine ⟨fun h3 => ?_, fun h3 => ?_⟩
        · replace h3 : 4096 < sz := h3
          refine ⟨⟨rfl, rfl, rfl, Nat.le_of_ble_eq_true rfl⟩, ?_⟩
          exact Eq.mp (α := (true = true) ∧ (true = true) ∧ ((.tup [.agg [.int .i64 0, .sl true (.sl .str) []], .int .i64 3] : V) = .tup [.agg [.int .i64 0, .sl true (.sl .str) []], .int .i64 3]) ∧ (([] : List Blk) = [])) (by kernel_rfl) ⟨rfl, rfl, rfl, rfl⟩
        · replace h3 : ¬ (4096 < sz) := h3
          omega
      · replace h2 : sz < 0 := h2
        refine ⟨⟨rfl, rfl, rfl, Nat.le_of_ble_eq_true rfl⟩, ?_⟩
        exact Eq.mp (α := (true = true) ∧ (true = true) ∧ ((.tup [.agg [.int .i64 0, .sl true (.sl .str) []], .int .i64 3] : V) = .tup [.agg [.int .i64 0, .sl true (.sl .str) []], .int .i64 3]) ∧ (([] : List Blk) = [])) (by kernel_rfl) ⟨rfl, rfl, rfl, rfl⟩
    · replace h1 : 12 < nd := h1
      refine ⟨⟨rfl, rfl, rfl, Nat.le_of_ble_eq_true rfl⟩, ?_⟩
      exact Eq.mp (α := (true = true) ∧ (true = true) ∧ ((.tup [.agg [.int .i64 0, .sl true (.sl .str) []], .int .i64 3] : V) = .tup [.agg [.int .i64 0, .sl true (.sl .str) []], .int .i64 3]) ∧ (([] : List Blk) = [])) (by kernel_rfl) ⟨rfl, rfl, rfl, rfl⟩
  · replace h0 : nd < 2 := h0
    refine ⟨⟨rfl, rfl, rfl, Nat.le_of_ble_eq_true rfl⟩, ?_⟩
    exact Eq.mp (α := (true = true) ∧ (true = true) ∧ ((.tup [.agg [.int .i64 0, .sl true (.sl .str) []], .int .i64 3] : V) = .tup [.agg [.int .i64 0, .sl true (.sl .str) []], .int .i64 3]) ∧ (([] : List Blk) = [])) (by kernel_rfl) ⟨rfl, rfl, rfl, rfl⟩
end Go.Proofs.YtmkphnlpbngenaaDoor.S27

namespace Go.Proofs.YtmkphnlpbngenaaDoor.S27
open Go Go.Proofs.YtmkphnlpbngenaaDoor.Vc Go.Proofs
set_option maxRecDepth 100000
set_option linter.unusedVariables false

set_option maxHeartbeats 2000000 in
theorem bMkn3 (sz : Int) (nz : List UInt8) (h0 : 0 ≤ sz) (h1 : sz ≤ 4096) (hl : ¬ (nz.length : Int) = sz * 3) : bodyP (En CRfl tys G6 QPrs [1000000, 1000001]) Tryd.f12 [.m 1 .str, .k] [.int .i64 3, .int .i64 sz, .str nz] (.tup [.agg [.int .i64 0, .sl true (.sl .str) []], .int .i64 1]) [] := by
  refine ⟨fun h0 => ?_, fun h0 => absurd h0 (show ¬ ((3 : Int) < 2) by decide)⟩
  refine ⟨fun h1 => ?_, fun h1 => absurd h1 (show ¬ ((12 : Int) < 3) by decide)⟩
  refine ⟨fun h2 => ?_, fun h2 => ?_⟩
  · replace h2 : ¬ (sz < 0) := h2
    refine ⟨fun h3 => ?_, fun h3 => ?_⟩
    · replace h3 : 4096 < sz := h3
      omega
    · replace h3 : ¬ (4096 < sz) := h3
      refine ⟨⟨by show (-9223372036854775808 : Int) ≤ 2; first | omega | decide, by show 2 ≤ (9223372036854775807 : Int); first | omega | decide⟩, ⟨by show (-9223372036854775808 : Int) ≤ (sz * 2); first | omega | decide, by show (sz * 2) ≤ (9223372036854775807 : Int); first | omega | decide⟩, ⟨by show (-9223372036854775808 : Int) ≤ 3; first | omega | decide, by show 3 ≤ (9223372036854775807 : Int); first | omega | decide⟩, ⟨by show (-9223372036854775808 : Int) ≤ ((sz * 2) * 3); first | omega | decide, by show ((sz * 2) * 3) ≤ (9223372036854775807 : Int); first | omega | decide⟩, .inl ⟨⟨by show (0 : Int) ≤ ((sz * 2) * 3); omega, by show (0 : Int) < 2; omega⟩, ?_⟩⟩
      refine ⟨fun h4 => ?_, fun h4 => ?_⟩
      · replace h4 : (nz.length : Int) ≠ (((sz * 2) * 3) / 2) := h4
        refine ⟨⟨rfl, rfl, rfl, Nat.le_of_ble_eq_true rfl⟩, ?_⟩
        exact Eq.mp (α := (true = true) ∧ (true = true) ∧ ((.tup [.agg [.int .i64 0, .sl true (.sl .str) []], .int .i64 1] : V) = .tup [.agg [.int .i64 0, .sl true (.sl .str) []], .int .i64 1]) ∧ (([] : List Blk) = [])) (by kernel_rfl) ⟨rfl, rfl, rfl, rfl⟩
      · replace h4 : ¬ ((nz.length : Int) ≠ (((sz * 2) * 3) / 2)) := h4
        omega
  · replace h2 : sz < 0 := h2
    omega
set_option maxHeartbeats 2000000 in
theorem bMk3 (sz : Int) (nz : List UInt8) (hz : 0 ≤ sz) (h1 : sz ≤ 4096) (hl : (nz.length : Int) = sz * ((3 : Nat) : Int)) : bodyP (En CRfl tys G6 QPrs [1000000, 1000001]) Tryd.f12 [.m 1 .str, .k] [.int .i64 3, .int .i64 sz, .str nz] (.tup [.agg [.int .i64 3, .sl true (.sl .str) (mkD 2 sz.toNat nz)], .int .i64 0]) [] := by
  refine ⟨fun h0 => ?_, fun h0 => absurd h0 (show ¬ ((3 : Int) < 2) by decide)⟩
  refine ⟨fun h1 => ?_, fun h1 => absurd h1 (show ¬ ((12 : Int) < 3) by decide)⟩
  refine ⟨fun h2 => ?_, fun h2 => ?_⟩
  · replace h2 : ¬ (sz < 0) := h2
    refine ⟨fun h3 => ?_, fun h3 => ?_⟩
    · replace h3 : 4096 < sz := h3
      omega
    · replace h3 : ¬ (4096 < sz) := h3
      refine ⟨(of_decide_eq_true (by kernel_rfl)), ⟨by show (-9223372036854775808 : Int) ≤ (sz * 2); first | omega | decide, by show (sz * 2) ≤ (9223372036854775807 : Int); first | omega | decide⟩, (of_decide_eq_true (by kernel_rfl)), ⟨by show (-9223372036854775808 : Int) ≤ ((sz * 2) * 3); first | omega | decide, by show ((sz * 2) * 3) ≤ (9223372036854775807 : Int); first | omega | decide⟩, .inl ⟨⟨by show (0 : Int) ≤ ((sz * 2) * 3); omega, by show (0 : Int) < 2; omega⟩, ?_⟩⟩
      refine ⟨fun h4 => ?_, fun h4 => ?_⟩
      · replace h4 : (nz.length : Int) ≠ (((sz * 2) * 3) / 2) := h4
        omega
      · replace h4 : ¬ ((nz.length : Int) ≠ (((sz * 2) * 3) / 2)) := h4
        refine ⟨⟨rfl, by decide, by decide⟩, ⟨rfl, rfl, rfl, Nat.le_of_ble_eq_true rfl⟩, .inr ?_⟩
        refine ⟨fun h5 => ?_, fun h5 => absurd (show (0 : Int) < 2 by decide) h5⟩
        refine ⟨by kernel_rfl, ⟨rfl, by show (0 : Int) ≤ 2; first | omega | decide, by show 2 ≤ (1000000000 : Int); first | omega | decide⟩, (of_decide_eq_true (by kernel_rfl)), ⟨rfl, rfl, rfl⟩, (of_decide_eq_true (by kernel_rfl)), fun h6 => ?_, fun h6 => absurd (show (1 : Int) < 2 by decide) h6⟩
        refine ⟨by kernel_rfl, ⟨rfl, by show (0 : Int) ≤ 2; first | omega | decide, by show 2 ≤ (1000000000 : Int); first | omega | decide⟩, (of_decide_eq_true (by kernel_rfl)), ⟨rfl, rfl, rfl⟩, (of_decide_eq_true (by kernel_rfl)), fun h7 => absurd h7 (show ¬ ((2 : Int) < 2) by decide), fun h7 => ?_⟩
        refine .inr ?_
        refine ⟨fun h8 => ?_, fun h8 => absurd (show (0 : Int) < 2 by decide) h8⟩
        refine .inr ?_
        refine ⟨fun h9 => ?_, fun h9 => absurd (show (0 : Int) < 2 by decide) h9⟩
        refine ⟨by kernel_rfl, (of_decide_eq_true (by kernel_rfl)), (of_decide_eq_true (by kernel_rfl)), (cutOk 3 hz hl 0 (by decide)), (cutOk 3 hz hl 0 (by decide)), (of_decide_eq_true (by kernel_rfl)), ⟨rfl, rfl⟩, (of_decide_eq_true (by kernel_rfl)), ⟨rfl, rfl⟩, (cutOk 3 hz hl 0 (by decide)), (of_decide_eq_true (by kernel_rfl)), fun h10 => ?_, fun h10 => absurd (show (1 : Int) < 2 by decide) h10⟩
        refine ⟨by kernel_rfl, (of_decide_eq_true (by kernel_rfl)), (of_decide_eq_true (by kernel_rfl)), (cutOk 3 hz hl 1 (by decide)), (cutOk 3 hz hl 1 (by decide)), (of_decide_eq_true (by kernel_rfl)), ⟨rfl, rfl⟩, (of_decide_eq_true (by kernel_rfl)), ⟨rfl, rfl⟩, (cutOk 3 hz hl 1 (by decide)), (of_decide_eq_true (by kernel_rfl)), fun h11 => absurd h11 (show ¬ ((2 : Int) < 2) by decide), fun h11 => ?_⟩
        refine ⟨(of_decide_eq_true (by kernel_rfl)), fun h12 => ?_, fun h12 => absurd (show (1 : Int) < 2 by decide) h12⟩
        refine .inr ?_
        refine ⟨fun h13 => ?_, fun h13 => absurd (show (1 : Int) < 2 by decide) h13⟩
        refine ⟨by kernel_rfl, (of_decide_eq_true (by kernel_rfl)), (of_decide_eq_true (by kernel_rfl)), (cutOk 3 hz hl 2 (by decide)), (cutOk 3 hz hl 2 (by decide)), (of_decide_eq_true (by kernel_rfl)), ⟨rfl, rfl⟩, (of_decide_eq_true (by kernel_rfl)), ⟨rfl, rfl⟩, (cutOk 3 hz hl 2 (by decide)), (of_decide_eq_true (by kernel_rfl)), fun h14 => absurd h14 (show ¬ ((2 : Int) < 2) by decide), fun h14 => ?_⟩
        refine ⟨(of_decide_eq_true (by kernel_rfl)), fun h15 => absurd h15 (show ¬ ((2 : Int) < 2) by decide), fun h15 => ?_⟩
        refine ⟨⟨rfl, rfl, rfl, Nat.le_of_ble_eq_true rfl⟩, ?_⟩
        exact Eq.mp (α := (true = true) ∧ (true = true) ∧ ((.tup [.agg [.int .i64 3, .sl true (.sl .str) (mkD 2 sz.toNat nz)], .int .i64 0] : V) = .tup [.agg [.int .i64 3, .sl true (.sl .str) (mkD 2 sz.toNat nz)], .int .i64 0]) ∧ (([] : List Blk) = [])) (by kernel_rfl) ⟨rfl, rfl, rfl, rfl⟩
  · replace h2 : sz < 0 := h2
    omega
end Go.Proofs.YtmkphnlpbngenaaDoor.S27

namespace Go.Proofs.YtmkphnlpbngenaaDoor.S27
open Go Go.Proofs.YtmkphnlpbngenaaDoor.Vc Go.Proofs
set_option maxRecDepth 100000
set_option linter.unusedVariables false

def sMk : List V → Option (Prop × V × List Blk)
  | [.int .i64 nd, .int .i64 sz, .str nz] => some (nd = 3, .tup [.agg [.int .i64 (mkN nd sz nz), .sl true (.sl .str) (mkC nd sz nz)], .int .i64 (mkE nd sz nz)], [])
  | _ => none
set_option maxHeartbeats 1000000 in
theorem bMk (nd : Int) (sz : Int) (nz : List UInt8) (hp0 : nd = 3) : bodyP (En CRfl tys G6 QPrs [1000000, 1000001]) Tryd.f12 [.m 1 .str, .k] [.int .i64 nd, .int .i64 sz, .str nz] (.tup [.agg [.int .i64 (mkN nd sz nz), .sl true (.sl .str) (mkC nd sz nz)], .int .i64 (mkE nd sz nz)]) [] := by
  by_cases hn : nd < 2 ∨ 12 < nd ∨ sz < 0 ∨ 4096 < sz
  · obtain ⟨e1, e2, e3⟩ := mkE3 (s := nz) hn
    rw [e1, e2, e3]; exact bMk0 nd sz nz hn
  · by_cases hl : (nz.length : Int) = sz * (((nd - 1) * nd) / 2)
    · obtain ⟨e1, e2, e3⟩ := mkE0 hn hl
      rw [e1, e2, e3]
      subst hp0
      · exact bMk3 sz nz (by omega) (by omega) (by omega)
    · obtain ⟨e1, e2, e3⟩ := mkE1 hn hl
      rw [e1, e2, e3]
      subst hp0
      · exact bMkn3 sz nz (by omega) (by omega) (by omega)
def CMk : List (Nat × Con) := (12, pureC [.v (.int .i64), .v (.int .i64), .v .str] sMk) :: CRfl
theorem kMk : Known Tryd.prog (En CMk tys G6 QPrs) := Known.frz0 <| (kRfl.frz [1000000, 1000001]).add Tryd.func12 Tryd.call12 [.m 1 .str, .k] fun ds p v bs h hp => by
  unfold sMk at h
  split at h <;> simp only [Option.some.injEq, Prod.mk.injEq, reduceCtorEq] at h
  obtain ⟨rfl, rfl, rfl⟩ := h
  exact bMk _ _ _ hp
end Go.Proofs.YtmkphnlpbngenaaDoor.S27

namespace Go.Proofs.YtmkphnlpbngenaaDoor.S27
open Go

/-! ### what the statements ask beside the program -/
theorem same_next {α : Type} {d : α} {a b : List α} {k : Nat} (hk : k < a.length) (hl : a.length = b.length) (h : a.take k = b.take k) (he : a.getD k d = b.getD k d) : a.take (k + 1) = b.take (k + 1) := by
  rw [takeD d a k hk, takeD d b k (by omega), h, he]
theorem same_end {α : Type} {a b : List α} {k : Nat} (hk : a.length ≤ k) (hl : a.length = b.length) (h : a.take k = b.take k) : a = b := by
  rwa [List.take_of_length_le hk, List.take_of_length_le (by omega)] at h
theorem no_b {p : Prop} (h : ¬ p) : (false = true) = p := propext ⟨fun g => Bool.noConfusion g, fun g => absurd g h⟩
theorem yes_b {p : Prop} (h : p) : (true = true) = p := propext ⟨fun _ => h, fun _ => rfl⟩
def shP (r : Rw) (n : Int) : Prop := r.length ≤ 20 ∧ r.all (fun s => decide ((s.length : Int) ≤ n)) = true
instance (r : Rw) (n : Int) : Decidable (shP r n) := by unfold shP; infer_instance
def fewP (rows : List Rw) (n : Int) : Prop := rows.length ≤ 14 ∧ rows.all (fun r => decide (shP r n)) = true
instance (r : List Rw) (n : Int) : Decidable (fewP r n) := by unfold fewP; infer_instance
def cntK : Nat → Nat → Nat
  | 0, _ => 0
  | f + 1, n => n % 2 + cntK f (n / 2)
theorem cntK_zero : ∀ f, cntK f 0 = 0
  | 0 => rfl
  | f + 1 => by rw [cntK, cntK_zero f]
theorem cntK_le : ∀ f n, cntK f n ≤ f
  | 0, _ => Nat.le_refl _
  | f + 1, n => by rw [cntK]; have := cntK_le f (n / 2); omega
def lightP (nd : Int) (cf : List Rw) : Prop := fewP cf 30 ∧ chkD nd cf = 0
instance (nd : Int) (r : List Rw) : Decidable (lightP nd r) := by unfold lightP; infer_instance
def bitP (s : Int) (h : Nat) : Prop := s / 2 ^ h % 2 = 1
instance (s : Int) (h : Nat) : Decidable (bitP s h) := by unfold bitP; infer_instance
def dltK (cf : List Rw) (s : Int) (k : Nat) : List Rw := (List.range 12).map fun h => if h < k ∧ bitP s h then rowD cf (h : Int) else []
theorem dltK_zero (cf : List Rw) (s : Int) : dltK cf s 0 = List.replicate 12 [] := by
  apply List.ext_getElem
  · simp [dltK]
  · intro i h1 h2; rw [List.getElem_replicate]; simp [dltK]
theorem dltK_len (cf : List Rw) (s : Int) (k : Nat) : (dltK cf s k).length = 12 := by simp [dltK]
theorem dltK_yes {cf : List Rw} {s : Int} {k : Nat} (hk : k < 12) (h : bitP s k) : (dltK cf s k).set k (rowD cf (k : Int)) = dltK cf s (k + 1) := by
  apply List.ext_getElem
  · simp [dltK]
  · intro i h1 h2
    rw [List.getElem_set]
    simp only [dltK, List.getElem_map, List.getElem_range]
    by_cases e : k = i
    · subst e; rw [if_pos rfl, if_pos ⟨by omega, h⟩]
    · rw [if_neg e]
      by_cases g : i < k ∧ bitP s i
      · rw [if_pos g, if_pos ⟨by omega, g.2⟩]
      · rw [if_neg g, if_neg (fun h => g ⟨by omega, h.2⟩)]
theorem dltK_no {cf : List Rw} {s : Int} {k : Nat} (h : ¬ bitP s k) : dltK cf s k = dltK cf s (k + 1) := by
  unfold dltK
  apply List.map_congr_left
  intro i hi
  by_cases g : i < k ∧ bitP s i
  · rw [if_pos g, if_pos ⟨by omega, g.2⟩]
  · rw [if_neg g, if_neg (fun h2 => g ⟨by
      rcases Nat.lt_or_ge i k with q | q
      · exact q
      · have : i = k := by omega
        rw [this] at h2; exact absurd h2.2 h, h2.2⟩)]
theorem rowD_len (cf : List Rw) (h : Int) : (rowD cf h).length = cf.length := List.length_map ..
theorem row0 {nd : Int} {cf : List Rw} {h : Int} (hc : chkD nd cf = 0) (hk : knw h) : rowE nd cf h = 0 ∧ rowL nd cf h = rowD cf h := by
  have e : rowE nd cf h = 0 := by unfold rowE; rw [if_pos hc, if_pos hk]
  exact ⟨e, if_pos e⟩
def DealT := Int × List Rw × Unit
def dealOk (nd : Int) (n : Nat) (d : Int × List Rw × Unit) : Bool := decide (d.1 = nd ∧ lightP d.1 d.2.1 ∧ n00 d.2.1 = n)
def fitP (nd : Int) (ds : List (Int × List Rw × Unit)) (l : List (List UInt8)) : Prop :=
  2 ≤ nd ∧ nd ≤ 12 ∧ ds.length ≤ 3 ∧ l.length ≤ 8 ∧ ds.all (dealOk nd l.length) = true ∧ l.all (fun p => decide ((p.length : Int) ≤ nd)) = true
theorem light_nz {nd : Int} {cf : List Rw} (h : lightP nd cf) : 1 ≤ cf.length ∧ 1 ≤ (cf.getD 0 []).length := by
  obtain ⟨h1, h2, h3, h4, _⟩ := chkD0 h.2
  have := h4 _ (getD_mem [] cf 0 (by omega))
  omega
end Go.Proofs.YtmkphnlpbngenaaDoor.S27

namespace Go.Proofs.YtmkphnlpbngenaaDoor.S27
open Go Go.Proofs.YtmkphnlpbngenaaDoor.Vc Go.Proofs
set_option maxRecDepth 100000
set_option linter.unusedVariables false

def sSme : List V → Option (Prop × V × List Blk)
  | [.sl false .str a, .sl false .str b] => some (a.length ≤ 1048576 ∧ b.length ≤ 1048576, .b (a = b), [])
  | _ => none
set_option maxHeartbeats 1000000 in
theorem bSme (a : List (List UInt8)) (b : List (List UInt8)) (hp0 : a.length ≤ 1048576) (hp1 : b.length ≤ 1048576) : bodyP (En CMk tys G6 QPrs) Tryd.f19 [.k] [.sl false .str a, .sl false .str b] (.b (a = b)) [] := by
  refine ⟨fun h0 => ?_, fun h0 => ?_⟩
  · replace h0 : (a.length : Int) ≠ (b.length : Int) := h0
    exact ⟨rfl, rfl, congrArg V.b (no_b (fun h => h0 (by rw [h]))), rfl⟩
  · replace h0 : ¬ ((a.length : Int) ≠ (b.length : Int)) := h0
    have hl : a.length = b.length := by omega
    refine ⟨0, [(0, .k), (1, .k), (5, .k)], fun n vs H => ∃ (k : Nat), k ≤ a.length ∧ a.take k = b.take k ∧ n = a.length - k ∧ vs = [.sl false .str a, .sl false .str b, .int .i64 (k : Int)] ∧ H = [], ⟨rfl, a.length, 0, by omega, rfl, by omega, rfl, rfl⟩, ?_⟩
    rintro n vs H ⟨k, hc1_0, hc1_1, rfl, rfl, rfl⟩
    refine ⟨fun h1 => ?_, fun h1 => ?_⟩
    · replace h1 : (k : Int) < (a.length : Int) := h1
      have hk : k < a.length := by omega
      refine ⟨by kernel_rfl, ⟨by show (0 : Int) ≤ (k : Int); omega, by show (k : Int) < (a.length : Int); omega⟩, ⟨by show (0 : Int) ≤ (k : Int); omega, by show (k : Int) < (b.length : Int); omega⟩, fun h2 => ?_, fun h2 => ?_⟩
      · replace h2 : (a.getD k []) ≠ (b.getD k []) := h2
        exact ⟨rfl, rfl, congrArg V.b (no_b (fun h => h2 (by rw [h]))), rfl⟩
      · replace h2 : ¬ ((a.getD k []) ≠ (b.getD k [])) := h2
        refine ⟨⟨by show (-9223372036854775808 : Int) ≤ ((k : Int) + 1); omega, by show ((k : Int) + 1) ≤ (9223372036854775807 : Int); omega⟩, ?_⟩
        exact ⟨rfl, a.length - (k + 1), by omega, k + 1, by omega, same_next (d := []) hk hl hc1_1 (Classical.not_not.1 h2), rfl, rfl, rfl⟩
    · replace h1 : ¬ ((k : Int) < (a.length : Int)) := h1
      exact ⟨rfl, rfl, congrArg V.b (yes_b (same_end (by omega) hl hc1_1)), rfl⟩
def CSme : List (Nat × Con) := (19, pureC [.v (.sl .str), .v (.sl .str)] sSme) :: CMk
theorem kSme : Known Tryd.prog (En CSme tys G6 QPrs) := kMk.add Tryd.func19 Tryd.call19 [.k] fun ds p v bs h hp => by
  unfold sSme at h
  split at h <;> simp only [Option.some.injEq, Prod.mk.injEq, reduceCtorEq] at h
  obtain ⟨rfl, rfl, rfl⟩ := h
  exact bSme _ _ hp.1 hp.2
def sSmP : List V → Option (Prop × V × List Blk)
  | [.sl false (.arr 2 (.int .i64)) a, .sl false (.arr 2 (.int .i64)) b] => some (a.length ≤ 1048576 ∧ b.length ≤ 1048576, .b (a = b), [])
  | _ => none
set_option maxHeartbeats 1000000 in
theorem bSmP (a : List (List Int)) (b : List (List Int)) (hp0 : a.length ≤ 1048576) (hp1 : b.length ≤ 1048576) : bodyP (En CSme tys G6 QPrs) Tryd.f30 [.k] [.sl false (.arr 2 (.int .i64)) a, .sl false (.arr 2 (.int .i64)) b] (.b (a = b)) [] := by
  refine ⟨fun h0 => ?_, fun h0 => ?_⟩
  · replace h0 : (a.length : Int) ≠ (b.length : Int) := h0
    exact ⟨rfl, rfl, congrArg V.b (no_b (fun h => h0 (by rw [h]))), rfl⟩
  · replace h0 : ¬ ((a.length : Int) ≠ (b.length : Int)) := h0
    have hl : a.length = b.length := by omega
    refine ⟨0, [(0, .k), (1, .k), (5, .k)], fun n vs H => ∃ (k : Nat), k ≤ a.length ∧ a.take k = b.take k ∧ n = a.length - k ∧ vs = [.sl false (.arr 2 (.int .i64)) a, .sl false (.arr 2 (.int .i64)) b, .int .i64 (k : Int)] ∧ H = [], ⟨rfl, a.length, 0, by omega, rfl, by omega, rfl, rfl⟩, ?_⟩
    rintro n vs H ⟨k, hc1_0, hc1_1, rfl, rfl, rfl⟩
    refine ⟨fun h1 => ?_, fun h1 => ?_⟩
    · replace h1 : (k : Int) < (a.length : Int) := h1
      have hk : k < a.length := by omega
      refine ⟨by kernel_rfl, ⟨by show (0 : Int) ≤ (k : Int); omega, by show (k : Int) < (a.length : Int); omega⟩, ⟨by show (0 : Int) ≤ (k : Int); omega, by show (k : Int) < (b.length : Int); omega⟩, fun h2 => ?_, fun h2 => ?_⟩
      · replace h2 : ¬ ((a.getD k (List.replicate 2 0)) = (b.getD k (List.replicate 2 0))) := h2
        exact ⟨rfl, rfl, congrArg V.b (no_b (fun h => h2 (by rw [h]))), rfl⟩
      · replace h2 : ¬ (¬ ((a.getD k (List.replicate 2 0)) = (b.getD k (List.replicate 2 0)))) := h2
        refine ⟨⟨by show (-9223372036854775808 : Int) ≤ ((k : Int) + 1); omega, by show ((k : Int) + 1) ≤ (9223372036854775807 : Int); omega⟩, ?_⟩
        exact ⟨rfl, a.length - (k + 1), by omega, k + 1, by omega, same_next (d := (List.replicate 2 0)) hk hl hc1_1 (Classical.not_not.1 h2), rfl, rfl, rfl⟩
    · replace h1 : ¬ ((k : Int) < (a.length : Int)) := h1
      exact ⟨rfl, rfl, congrArg V.b (yes_b (same_end (by omega) hl hc1_1)), rfl⟩
def CSmP : List (Nat × Con) := (30, pureC [.v (.sl (.arr 2 (.int .i64))), .v (.sl (.arr 2 (.int .i64)))] sSmP) :: CSme
theorem kSmP : Known Tryd.prog (En CSmP tys G6 QPrs) := kSme.add Tryd.func30 Tryd.call30 [.k] fun ds p v bs h hp => by
  unfold sSmP at h
  split at h <;> simp only [Option.some.injEq, Prod.mk.injEq, reduceCtorEq] at h
  obtain ⟨rfl, rfl, rfl⟩ := h
  exact bSmP _ _ hp.1 hp.2
def sSho : List V → Option (Prop × V × List Blk)
  | [.sl false .str r, .int .i64 z] => some (r.length ≤ 1048576 ∧ (∀ x ∈ r, x.length ≤ 1048576), .b (shP r z), [])
  | _ => none
set_option maxHeartbeats 1000000 in
theorem bSho (r : List (List UInt8)) (z : Int) (hp0 : r.length ≤ 1048576) (hp1 : (∀ x ∈ r, x.length ≤ 1048576)) : bodyP (En CSmP tys G6 QPrs) Tryd.f41 [.k] [.sl false .str r, .int .i64 z] (.b (shP r z)) [] := by
  refine ⟨fun h0 => ?_, fun h0 => ?_⟩
  · replace h0 : 20 < (r.length : Int) := h0
    exact ⟨rfl, rfl, congrArg V.b (no_b (fun h => by have := h.1; omega)), rfl⟩
  · replace h0 : ¬ (20 < (r.length : Int)) := h0
    refine ⟨0, [(0, .k), (1, .k), (5, .k)], fun n vs H => ∃ (k : Nat), k ≤ r.length ∧ (r.drop k).all (fun s => decide ((s.length : Int) ≤ z)) = r.all (fun s => decide ((s.length : Int) ≤ z)) ∧ n = r.length - k ∧ vs = [.sl false .str r, .int .i64 z, .int .i64 (k : Int)] ∧ H = [], ⟨rfl, r.length, 0, by omega, rfl, by omega, rfl, rfl⟩, ?_⟩
    rintro n vs H ⟨k, hc1_0, hc1_1, rfl, rfl, rfl⟩
    refine ⟨fun h1 => ?_, fun h1 => ?_⟩
    · replace h1 : (k : Int) < (r.length : Int) := h1
      have hk : k < r.length := by omega
      have hkx := hp1 _ (getD_mem [] r k hk)
      refine ⟨⟨by show (0 : Int) ≤ (k : Int); omega, by show (k : Int) < (r.length : Int); omega⟩, fun h2 => ?_, fun h2 => ?_⟩
      · replace h2 : z < (((r.getD k []).length : Nat) : Int) := h2
        exact ⟨rfl, rfl, congrArg V.b (no_b (fun h => by have := all_bad (d := []) hk hc1_1 (p := fun s => decide ((s.length : Int) ≤ z)) (decide_eq_false (by omega)); rw [h.2] at this; cases this)), rfl⟩
      · replace h2 : ¬ (z < (((r.getD k []).length : Nat) : Int)) := h2
        have hok : decide (((r.getD k []).length : Int) ≤ z) = true := decide_eq_true (by omega)
        refine ⟨⟨by show (-9223372036854775808 : Int) ≤ ((k : Int) + 1); omega, by show ((k : Int) + 1) ≤ (9223372036854775807 : Int); omega⟩, ?_⟩
        exact ⟨rfl, r.length - (k + 1), by omega, k + 1, by omega, all_next (d := []) hk hc1_1 hok, rfl, rfl, rfl⟩
    · replace h1 : ¬ ((k : Int) < (r.length : Int)) := h1
      exact ⟨rfl, rfl, congrArg V.b (yes_b ⟨by omega, all_stop (by omega) hc1_1⟩), rfl⟩
def CSho : List (Nat × Con) := (41, pureC [.v (.sl .str), .v (.int .i64)] sSho) :: CSmP
theorem kSho : Known Tryd.prog (En CSho tys G6 QPrs) := kSmP.add Tryd.func41 Tryd.call41 [.k] fun ds p v bs h hp => by
  unfold sSho at h
  split at h <;> simp only [Option.some.injEq, Prod.mk.injEq, reduceCtorEq] at h
  obtain ⟨rfl, rfl, rfl⟩ := h
  exact bSho _ _ hp.1 hp.2
def sFew : List V → Option (Prop × V × List Blk)
  | [.sl false (.sl .str) r, .int .i64 z] => some (r.length ≤ 1048576 ∧ (∀ l ∈ r, l.length ≤ 1048576 ∧ ∀ x ∈ l, x.length ≤ 1048576), .b (fewP r z), [])
  | _ => none
set_option maxHeartbeats 1000000 in
theorem bFew (r : List (List (List UInt8))) (z : Int) (hp0 : r.length ≤ 1048576) (hp1 : (∀ l ∈ r, l.length ≤ 1048576 ∧ ∀ x ∈ l, x.length ≤ 1048576)) : bodyP (En CSho tys G6 QPrs) Tryd.f10 [.k] [.sl false (.sl .str) r, .int .i64 z] (.b (fewP r z)) [] := by
  refine ⟨fun h0 => ?_, fun h0 => ?_⟩
  · replace h0 : 14 < (r.length : Int) := h0
    exact ⟨rfl, rfl, congrArg V.b (no_b (fun h => by have := h.1; omega)), rfl⟩
  · replace h0 : ¬ (14 < (r.length : Int)) := h0
    refine ⟨0, [(0, .k), (1, .k), (5, .k)], fun n vs H => ∃ (k : Nat), k ≤ r.length ∧ (r.drop k).all (fun r => decide (shP r z)) = r.all (fun r => decide (shP r z)) ∧ n = r.length - k ∧ vs = [.sl false (.sl .str) r, .int .i64 z, .int .i64 (k : Int)] ∧ H = [], ⟨rfl, r.length, 0, by omega, rfl, by omega, rfl, rfl⟩, ?_⟩
    rintro n vs H ⟨k, hc1_0, hc1_1, rfl, rfl, rfl⟩
    refine ⟨fun h1 => ?_, fun h1 => ?_⟩
    · replace h1 : (k : Int) < (r.length : Int) := h1
      have hk : k < r.length := by omega
      have hkx := hp1 _ (getD_mem [] r k hk)
      refine ⟨⟨by show (0 : Int) ≤ (k : Int); omega, by show (k : Int) < (r.length : Int); omega⟩, rfl, ⟨hkx.1, hkx.2⟩, fun h2 => ?_, fun h2 => ?_⟩
      · replace h2 : ¬ (shP (r.getD k []) z) := h2
        exact ⟨rfl, rfl, congrArg V.b (no_b (fun h => by have := all_bad (d := []) hk hc1_1 (p := fun r => decide (shP r z)) (decide_eq_false h2); rw [h.2] at this; cases this)), rfl⟩
      · replace h2 : ¬ (¬ (shP (r.getD k []) z)) := h2
        have hok : decide (shP (r.getD k []) z) = true := decide_eq_true (Classical.not_not.1 h2)
        refine ⟨⟨by show (-9223372036854775808 : Int) ≤ ((k : Int) + 1); omega, by show ((k : Int) + 1) ≤ (9223372036854775807 : Int); omega⟩, ?_⟩
        exact ⟨rfl, r.length - (k + 1), by omega, k + 1, by omega, all_next (d := []) hk hc1_1 hok, rfl, rfl, rfl⟩
    · replace h1 : ¬ ((k : Int) < (r.length : Int)) := h1
      exact ⟨rfl, rfl, congrArg V.b (yes_b ⟨by omega, all_stop (by omega) hc1_1⟩), rfl⟩
def CFew : List (Nat × Con) := (10, pureC [.v (.sl (.sl .str)), .v (.int .i64)] sFew) :: CSho
theorem kFew : Known Tryd.prog (En CFew tys G6 QPrs) := kSho.add Tryd.func10 Tryd.call10 [.k] fun ds p v bs h hp => by
  unfold sFew at h
  split at h <;> simp only [Option.some.injEq, Prod.mk.injEq, reduceCtorEq] at h
  obtain ⟨rfl, rfl, rfl⟩ := h
  exact bFew _ _ hp.1 hp.2
def sLgt : List V → Option (Prop × V × List Blk)
  | [.agg [.int .i64 nd, .sl false (.sl .str) cf]] => some (cf.length ≤ 1048576 ∧ (∀ l ∈ cf, l.length ≤ 1048576 ∧ ∀ x ∈ l, x.length ≤ 1048576), .b (lightP nd cf), [])
  | _ => none
set_option maxHeartbeats 1000000 in
theorem bLgt (nd : Int) (cf : List (List (List UInt8))) (hp0 : cf.length ≤ 1048576) (hp1 : (∀ l ∈ cf, l.length ≤ 1048576 ∧ ∀ x ∈ l, x.length ≤ 1048576)) : bodyP (En CFew tys G6 QPrs) Tryd.f31 [.k] [.agg [.int .i64 nd, .sl false (.sl .str) cf]] (.b (lightP nd cf)) [] := by
  refine ⟨rfl, ⟨by show cf.length ≤ 1048576; first | omega | assumption, by first | assumption | simp⟩, fun h0 => ?_, fun h0 => ?_⟩
  · replace h0 : fewP cf 30 := h0
    refine ⟨rfl, ⟨by show cf.length ≤ 1048576; first | omega | assumption, by first | assumption | simp⟩, ?_⟩
    exact ⟨rfl, rfl, congrArg V.b (propext ⟨fun g => ⟨h0, g⟩, fun g => g.2⟩), rfl⟩
  · replace h0 : ¬ (fewP cf 30) := h0
    exact ⟨rfl, rfl, congrArg V.b (no_b (fun g => h0 g.1)), rfl⟩
def CLgt : List (Nat × Con) := (31, pureC [.v (.cons (.int .i64) (.cons (.sl (.sl .str)) .nil))] sLgt) :: CFew
theorem kLgt : Known Tryd.prog (En CLgt tys G6 QPrs) := kFew.add Tryd.func31 Tryd.call31 [.k] fun ds p v bs h hp => by
  unfold sLgt at h
  split at h <;> simp only [Option.some.injEq, Prod.mk.injEq, reduceCtorEq] at h
  obtain ⟨rfl, rfl, rfl⟩ := h
  exact bLgt _ _ hp.1 hp.2
def sCou : List V → Option (Prop × V × List Blk)
  | [.int .i64 s] => some (0 ≤ s ∧ s < 4096, .int .i64 ((cntK 12 s.toNat : Nat) : Int), [])
  | _ => none
set_option maxHeartbeats 1000000 in
theorem bCou (s : Int) (hp0 : 0 ≤ s) (hp1 : s < 4096) : bodyP (En CLgt tys G6 QPrs) Tryd.f33 [.k] [.int .i64 s] (.int .i64 ((cntK 12 s.toNat : Nat) : Int)) [] := by
  refine ⟨0, [(0, .k), (3, .k)], fun n vs H => ∃ (f v o : Nat), v < 2 ^ f ∧ o + cntK f v = cntK 12 s.toNat ∧ n = f ∧ vs = [.int .i64 (v : Int), .int .i64 (o : Int)] ∧ H = [], ⟨rfl, 12, 12, s.toNat, 0, by omega, by omega, by omega, by rw [show ((s.toNat : Nat) : Int) = s by omega]; rfl, rfl⟩, ?_⟩
  rintro n vs H ⟨f, v, o, hc1_0, hc1_1, rfl, rfl, rfl⟩
  refine ⟨fun h0 => ?_, fun h0 => ?_⟩
  · replace h0 : 0 < (v : Int) := h0
    obtain ⟨g, rfl⟩ : ∃ g, n = g + 1 := ⟨n - 1, by rcases n with _ | n <;> omega⟩
    have hcl := cntK_le 12 s.toNat
    have hcg := cntK_le g (v / 2)
    rw [cntK] at hc1_1
    refine .inr ⟨rfl, ?_⟩
    refine ⟨⟨by show (-9223372036854775808 : Int) ≤ ((o : Int) + ((v : Int) % 2)); omega, by show ((o : Int) + ((v : Int) % 2)) ≤ (9223372036854775807 : Int); omega⟩, ⟨by show (0 : Int) ≤ 1; omega, by show 1 ≤ (64 : Int); omega⟩, ?_⟩
    have e1 : (v : Int) / 2 ^ Int.toNat 1 = ((v / 2 : Nat) : Int) := by (show (v : Int) / 2 = _; omega)
    have e2 : (o : Int) + (v : Int) % 2 = ((o + v % 2 : Nat) : Int) := by omega
    exact ⟨rfl, g, by omega, g, v / 2, o + v % 2, by rw [Nat.pow_succ] at hc1_0; omega, by omega, rfl, (show ([V.int .i64 ((v : Int) / 2 ^ Int.toNat 1), V.int .i64 ((o : Int) + (v : Int) % 2)] : List V) = [V.int .i64 ((v / 2 : Nat) : Int), V.int .i64 ((o + v % 2 : Nat) : Int)] by rw [e1, e2]), rfl⟩
  · replace h0 : ¬ (0 < (v : Int)) := h0
    have hv : v = 0 := by omega
    rw [hv, cntK_zero] at hc1_1
    rw [← hc1_1]
    exact ⟨rfl, rfl, rfl, rfl⟩
def CCou : List (Nat × Con) := (33, pureC [.v (.int .i64)] sCou) :: CLgt
theorem kCou : Known Tryd.prog (En CCou tys G6 QPrs) := kLgt.add Tryd.func33 Tryd.call33 [.k] fun ds p v bs h hp => by
  unfold sCou at h
  split at h <;> simp only [Option.some.injEq, Prod.mk.injEq, reduceCtorEq] at h
  obtain ⟨rfl, rfl, rfl⟩ := h
  exact bCou _ hp.1 hp.2
end Go.Proofs.YtmkphnlpbngenaaDoor.S27

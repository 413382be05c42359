/- Texts of this claim: S27d.A2, S27d.A3, S27d.A4, S27d.Pd, S27d.Px, S27d.A44. -/
import Derived.Test.YtcodgflbafanlaaDoorS1
import Derived.Test.YtcodgflbafanlaaDoorVc9
import Derived.KernelRfl
set_option linter.unusedVariables false
set_option linter.unusedSimpArgs false
namespace Go.Proofs.YtcodgflbafanlaaDoor.S27
open Go Go.Proofs.YtcodgflbafanlaaDoor.Vc Go.Proofs
set_option maxRecDepth 100000
set_option linter.unusedVariables false

def sVal : List V → Option (Prop × V × List Blk)
  | [.sl false .str r, .int .i64 h] => some (r.length ≤ 1048576, .tup [.str (valS r h), .int .i64 (valE r h)], [])
  | _ => none
set_option maxHeartbeats 1000000 in
theorem bVal (r : List (List UInt8)) (h : Int) (hp0 : r.length ≤ 1048576) : bodyP (En CAgr tys G6 []) Tryd.f16 [.k, .k] [.sl false .str r, .int .i64 h] (.tup [.str (valS r h), .int .i64 (valE r h)]) [] := by
  refine ⟨by show r.length ≤ 1048576; first | omega | assumption, fun h0 => ?_, fun h0 => ?_⟩
  · replace h0 : ¬ (rightB r = true) := h0
    have e : valE r h = 1 := if_neg h0
    rw [valS, if_neg (by rw [e]; decide), e]
    exact ⟨rfl, rfl, rfl, rfl⟩
  · replace h0 : ¬ (¬ (rightB r = true)) := h0
    have hr := Classical.not_not.1 h0
    obtain ⟨r1, r2, r3, r4⟩ := right_ok hr
    have r5 : ∀ x ∈ r, x.length ≤ 1048576 := fun s hs => Nat.le_trans (right_len hr s hs) (by omega)
    refine ⟨rfl, trivial, fun h1 => ?_, fun h1 => ?_⟩
    · replace h1 : ¬ (knw h) := h1
      have e : valE r h = 8 := by unfold valE; rw [if_pos hr, if_neg h1]
      rw [valS, if_neg (by rw [e]; decide), e]
      exact ⟨rfl, rfl, rfl, rfl⟩
    · replace h1 : ¬ (¬ (knw h)) := h1
      have hk := Classical.not_not.1 h1
      obtain ⟨k1, k2⟩ := id hk
      refine ⟨⟨by show (-9223372036854775808 : Int) ≤ (h + 1); omega, by show (h + 1) ≤ (9223372036854775807 : Int); omega⟩, ⟨by show 1 ≤ r.length; first | omega | assumption, by show r.length ≤ 1000000; first | omega | assumption, by first | assumption | simp⟩, ?_⟩
      have e : valE r h = 0 := by unfold valE; rw [if_pos hr, if_pos hk]
      rw [valS, if_pos e, e]
      exact ⟨rfl, rfl, rfl, rfl⟩
def CVal : List (Nat × Con) := (16, pureC [.v (.sl .str), .v (.int .i64)] sVal) :: CAgr
theorem kVal : Known Tryd.prog (En CVal tys G6 []) := kAgr.add Tryd.func16 Tryd.call16 [.k, .k] fun ds p v bs h hp => by
  unfold sVal at h
  split at h <;> simp only [Option.some.injEq, Prod.mk.injEq, reduceCtorEq] at h
  obtain ⟨rfl, rfl, rfl⟩ := h
  exact bVal _ _ hp
def sAgrE : List V → Option (Prop × V × List Blk)
  | [.sl false .str a, .int .i64 h, .sl false .str b, .int .i64 o] => some (a.length ≤ 1048576 ∧ b.length ≤ 1048576, .tup [.b (agQ a h b o), .int .i64 (agE a h b o)], [])
  | _ => none
set_option maxHeartbeats 1000000 in
theorem bAgrE (a : List (List UInt8)) (h : Int) (b : List (List UInt8)) (o : Int) (hp0 : a.length ≤ 1048576) (hp1 : b.length ≤ 1048576) : bodyP (En CVal tys G6 []) Tryd.f17 [.k, .k] [.sl false .str a, .int .i64 h, .sl false .str b, .int .i64 o] (.tup [.b (agQ a h b o), .int .i64 (agE a h b o)]) [] := by
  refine ⟨by show a.length ≤ 1048576; first | omega | assumption, fun h0 => ?_, fun h0 => ?_⟩
  · replace h0 : ¬ (¬ (rightB a = true)) := h0
    have ha := Classical.not_not.1 h0
    obtain ⟨a1, a2, a3, a4⟩ := right_ok ha
    have a5 : ∀ x ∈ a, x.length ≤ 1048576 := fun s hs => Nat.le_trans (right_len ha s hs) (by omega)
    refine ⟨by show b.length ≤ 1048576; first | omega | assumption, fun h1 => ?_, fun h1 => ?_⟩
    · replace h1 : ¬ (¬ (rightB b = true)) := h1
      have hb := Classical.not_not.1 h1
      obtain ⟨b1, b2, b3, b4⟩ := right_ok hb
      have b5 : ∀ x ∈ b, x.length ≤ 1048576 := fun s hs => Nat.le_trans (right_len hb s hs) (by omega)
      refine ⟨⟨by show 1 ≤ a.length; first | omega | assumption, by show 1 ≤ b.length; first | omega | assumption⟩, fun h2 => ?_, fun h2 => ?_⟩
      · replace h2 : ¬ (alikeP a b) := h2
        have e : agE a h b o = 1 := by unfold agE; rw [if_neg fun g => h2 g.2.2]
        have e3 : agQ a h b o = (false = true) := propext ⟨fun g => absurd g.1 (by rw [e]; decide), fun g => Bool.noConfusion g⟩
        rw [e, e3]
        exact ⟨rfl, rfl, rfl, rfl⟩
      · replace h2 : ¬ (¬ (alikeP a b)) := h2
        have hl := Classical.not_not.1 h2
        refine ⟨rfl, trivial, fun h3 => ?_, fun h3 => ?_⟩
        · replace h3 : ¬ (¬ (knw h)) := h3
          have k1 := Classical.not_not.1 h3
          refine ⟨rfl, trivial, fun h4 => ?_, fun h4 => ?_⟩
          · replace h4 : ¬ (knw o) := h4
            have e : agE a h b o = 8 := by unfold agE; rw [if_pos ⟨ha, hb, hl⟩, if_neg fun g => h4 g.2]
            have e3 : agQ a h b o = (false = true) := propext ⟨fun g => absurd g.1 (by rw [e]; decide), fun g => Bool.noConfusion g⟩
            rw [e, e3]
            exact ⟨rfl, rfl, rfl, rfl⟩
          · replace h4 : ¬ (¬ (knw o)) := h4
            have k2 := Classical.not_not.1 h4
            refine ⟨rfl, rfl, ⟨by show 1 ≤ a.length; first | omega | assumption, by show a.length ≤ 1000000; first | omega | assumption, by first | assumption | simp, by show 1 ≤ b.length; first | omega | assumption, by show b.length ≤ 1000000; first | omega | assumption, by first | assumption | simp, by assumption, by assumption⟩, ?_⟩
            have e : agE a h b o = 0 := by unfold agE; rw [if_pos ⟨ha, hb, hl⟩, if_pos ⟨k1, k2⟩]
            have e3 : agQ a h b o = agrP a h b o := propext ⟨fun g => g.2, fun g => ⟨e, g⟩⟩
            rw [e, e3]
            exact ⟨rfl, rfl, rfl, rfl⟩
        · replace h3 : ¬ (knw h) := h3
          have e : agE a h b o = 8 := by unfold agE; rw [if_pos ⟨ha, hb, hl⟩, if_neg fun g => h3 g.1]
          have e3 : agQ a h b o = (false = true) := propext ⟨fun g => absurd g.1 (by rw [e]; decide), fun g => Bool.noConfusion g⟩
          rw [e, e3]
          exact ⟨rfl, rfl, rfl, rfl⟩
    · replace h1 : ¬ (rightB b = true) := h1
      have e : agE a h b o = 1 := by unfold agE; rw [if_neg fun g => h1 g.2.1]
      have e3 : agQ a h b o = (false = true) := propext ⟨fun g => absurd g.1 (by rw [e]; decide), fun g => Bool.noConfusion g⟩
      rw [e, e3]
      exact ⟨rfl, rfl, rfl, rfl⟩
  · replace h0 : ¬ (rightB a = true) := h0
    have e : agE a h b o = 1 := by unfold agE; rw [if_neg fun g => h0 g.1]
    have e3 : agQ a h b o = (false = true) := propext ⟨fun g => absurd g.1 (by rw [e]; decide), fun g => Bool.noConfusion g⟩
    rw [e, e3]
    exact ⟨rfl, rfl, rfl, rfl⟩
def CAgrE : List (Nat × Con) := (17, pureC [.v (.sl .str), .v (.int .i64), .v (.sl .str), .v (.int .i64)] sAgrE) :: CVal
theorem kAgrE : Known Tryd.prog (En CAgrE tys G6 []) := kVal.add Tryd.func17 Tryd.call17 [.k, .k] fun ds p v bs h hp => by
  unfold sAgrE at h
  split at h <;> simp only [Option.some.injEq, Prod.mk.injEq, reduceCtorEq] at h
  obtain ⟨rfl, rfl, rfl⟩ := h
  exact bAgrE _ _ _ _ hp.1 hp.2
def sChk : List V → Option (Prop × V × List Blk)
  | [.agg [.int .i64 nd, .sl false (.sl .str) cf]] => some (cf.length ≤ 1048576 ∧ (∀ l ∈ cf, l.length ≤ 1048576 ∧ ∀ x ∈ l, x.length ≤ 1048576), .int .i64 (chkD nd cf), [])
  | _ => none
set_option maxHeartbeats 1000000 in
theorem bChk (nd : Int) (cf : List (List (List UInt8))) (hp0 : cf.length ≤ 1048576) (hp1 : (∀ l ∈ cf, l.length ≤ 1048576 ∧ ∀ x ∈ l, x.length ≤ 1048576)) : bodyP (En CAgrE tys G6 []) Tryd.f10 [.k] [.agg [.int .i64 nd, .sl false (.sl .str) cf]] (.int .i64 (chkD nd cf)) [] := by
  refine ⟨fun h0 => ?_, fun h0 => ?_⟩
  · replace h0 : ¬ (nd < 2) := h0
    refine ⟨fun h1 => ?_, fun h1 => ?_⟩
    · replace h1 : 12 < nd := h1
      have e : chkD nd cf = 3 := by unfold chkD; rw [if_pos (by omega)]
      rw [e]
      exact ⟨rfl, rfl, rfl, rfl⟩
    · replace h1 : ¬ (12 < nd) := h1
      refine ⟨⟨by show (-9223372036854775808 : Int) ≤ (nd - 1); omega, by show (nd - 1) ≤ (9223372036854775807 : Int); omega⟩, fun h2 => ?_, fun h2 => ?_⟩
      · replace h2 : (cf.length : Int) ≠ (nd - 1) := h2
        have e : chkD nd cf = 1 := by unfold chkD; rw [if_neg (by omega : ¬ (nd < 2 ∨ 12 < nd)), if_pos (by omega)]
        rw [e]
        exact ⟨rfl, rfl, rfl, rfl⟩
      · replace h2 : ¬ ((cf.length : Int) ≠ (nd - 1)) := h2
        refine ⟨1, [(1, .k), (3, .k), (27, .k), (28, .k), (29, .k)], fun nM vs H => ∃ (k : Nat), k ≤ cf.length ∧ (cf.drop k).all (lenB cf) = cf.all (lenB cf) ∧ nM = cf.length - k ∧ vs = [.ptr 0 1 0 0, .int .i64 (nd - 1), .sl false (.sl .str) cf, .int .i64 (cf.length : Int), .int .i64 (k : Int)] ∧ H = [.cells [.int .i64 nd, .sl false (.sl .str) cf]], ⟨rfl, cf.length, 0, by omega, rfl, by omega, rfl, rfl⟩, ?_⟩
        rintro nM vs H ⟨k, hc1_0, hc1_1, rfl, rfl, rfl⟩
        refine ⟨fun h3 => ?_, fun h3 => ?_⟩
        · replace h3 : (k : Int) < (cf.length : Int) := h3
          have hk : k < cf.length := by omega
          have hpk := (hp1 _ (getD_mem [] cf k hk)).1
          refine ⟨⟨by show (0 : Int) ≤ (k : Int); omega, by show (k : Int) < (cf.length : Int); omega⟩, fun h4 => ?_, fun h4 => ?_⟩
          · replace h4 : ¬ ((((cf.getD k []).length : Nat) : Int) ≠ (nd - 1)) := h4
            refine ⟨⟨by show (0 : Int) ≤ 0; omega, by show 0 < (cf.length : Int); omega⟩, fun h5 => ?_, fun h5 => ?_⟩
            · replace h5 : (((cf.getD 0 []).length : Nat) : Int) ≠ (nd - 1) := h5
              have hf : cf.all (lenB cf) = false := all_bad (d := []) hk hc1_1 (lenB_bad2 (by omega))
              have e : chkD nd cf = 1 := by unfold chkD; rw [if_neg (by omega : ¬ (nd < 2 ∨ 12 < nd)), if_neg (by omega : ¬ ((cf.length : Int) ≠ nd - 1)), if_pos hf]
              rw [e]
              exact ⟨rfl, rfl, rfl, rfl⟩
            · replace h5 : ¬ ((((cf.getD 0 []).length : Nat) : Int) ≠ (nd - 1)) := h5
              refine ⟨1, [(1, .k), (3, .k), (27, .k), (28, .k), (29, .k), (46, .k), (47, .k), (48, .k)], fun nM vs H => ∃ (j : Nat), j ≤ (cf.getD k []).length ∧ ((cf.getD k []).drop j).all (fun s => decide (s.length = n00 cf)) = (cf.getD k []).all (fun s => decide (s.length = n00 cf)) ∧ nM = (cf.getD k []).length - j ∧ vs = [.ptr 0 1 0 0, .int .i64 (nd - 1), .sl false (.sl .str) cf, .int .i64 (cf.length : Int), .int .i64 (k : Int), .sl false .str (cf.getD k []), .int .i64 (((cf.getD k []).length : Nat) : Int), .int .i64 (j : Int)] ∧ H = [.cells [.int .i64 nd, .sl false (.sl .str) cf]], ⟨rfl, (cf.getD k []).length, 0, by omega, rfl, by omega, rfl, rfl⟩, ?_⟩
              rintro nM vs H ⟨j, hc2_0, hc2_1, rfl, rfl, rfl⟩
              refine ⟨fun h6 => ?_, fun h6 => ?_⟩
              · replace h6 : (j : Int) < (((cf.getD k []).length : Nat) : Int) := h6
                have hj : j < (cf.getD k []).length := by omega
                refine ⟨⟨by show (0 : Int) ≤ (j : Int); omega, by show (j : Int) < ((cf.getD k []).length : Int); omega⟩, ⟨by show (0 : Int) ≤ 0; omega, by show 0 < (cf.length : Int); omega⟩, ⟨by show (0 : Int) ≤ 0; omega, by show 0 < ((cf.getD 0 []).length : Int); omega⟩, fun h7 => ?_, fun h7 => ?_⟩
                · replace h7 : ((((cf.getD k []).getD j []).length : Nat) : Int) ≠ ((((cf.getD 0 []).getD 0 []).length : Nat) : Int) := h7
                  have hf : cf.all (lenB cf) = false := all_bad (d := []) hk hc1_1 (lenB_bad3 (all_bad (d := []) hj hc2_1 (decide_eq_false (by unfold n00 n0; omega))))
                  have e : chkD nd cf = 1 := by unfold chkD; rw [if_neg (by omega : ¬ (nd < 2 ∨ 12 < nd)), if_neg (by omega : ¬ ((cf.length : Int) ≠ nd - 1)), if_pos hf]
                  rw [e]
                  exact ⟨rfl, rfl, rfl, rfl⟩
                · replace h7 : ¬ (((((cf.getD k []).getD j []).length : Nat) : Int) ≠ ((((cf.getD 0 []).getD 0 []).length : Nat) : Int)) := h7
                  have hok : decide (((cf.getD k []).getD j []).length = n00 cf) = true := decide_eq_true (by unfold n00 n0; omega)
                  refine ⟨⟨by show (-9223372036854775808 : Int) ≤ ((j : Int) + 1); omega, by show ((j : Int) + 1) ≤ (9223372036854775807 : Int); omega⟩, ?_⟩
                  exact ⟨rfl, (cf.getD k []).length - (j + 1), by omega, j + 1, by omega, all_next (d := []) hj hc2_1 hok, rfl, rfl, rfl⟩
              · replace h6 : ¬ ((j : Int) < (((cf.getD k []).length : Nat) : Int)) := h6
                have hok := lenB_yes (cf := cf) (l := cf.getD k []) (by omega) (by omega) (all_stop (by omega) hc2_1)
                refine ⟨⟨by show (-9223372036854775808 : Int) ≤ ((k : Int) + 1); omega, by show ((k : Int) + 1) ≤ (9223372036854775807 : Int); omega⟩, ?_⟩
                exact ⟨rfl, cf.length - (k + 1), by omega, k + 1, by omega, all_next (d := []) hk hc1_1 hok, rfl, rfl, rfl⟩
          · replace h4 : (((cf.getD k []).length : Nat) : Int) ≠ (nd - 1) := h4
            have hf : cf.all (lenB cf) = false := all_bad (d := []) hk hc1_1 (lenB_bad1 (by omega))
            have e : chkD nd cf = 1 := by unfold chkD; rw [if_neg (by omega : ¬ (nd < 2 ∨ 12 < nd)), if_neg (by omega : ¬ ((cf.length : Int) ≠ nd - 1)), if_pos hf]
            rw [e]
            exact ⟨rfl, rfl, rfl, rfl⟩
        · replace h3 : ¬ ((k : Int) < (cf.length : Int)) := h3
          have hall : cf.all (lenB cf) = true := all_stop (by omega) hc1_1
          have hrows := lenB_len hall
          have h00 := hrows _ (getD_mem [] cf 0 (by omega))
          refine ⟨⟨by show (0 : Int) ≤ 0; omega, by show 0 < (cf.length : Int); omega⟩, ⟨by show (0 : Int) ≤ 0; omega, by show 0 < ((cf.getD 0 []).length : Int); omega⟩, fun h8 => ?_, fun h8 => ?_⟩
          · replace h8 : 4096 < ((((cf.getD 0 []).getD 0 []).length : Nat) : Int) := h8
            have e : chkD nd cf = 2 := by unfold chkD; rw [if_neg (by omega : ¬ (nd < 2 ∨ 12 < nd)), if_neg (by omega : ¬ ((cf.length : Int) ≠ nd - 1)), if_neg (by rw [hall]; decide), if_pos (by unfold n00 n0; omega)]
            rw [e]
            exact ⟨rfl, rfl, rfl, rfl⟩
          · replace h8 : ¬ (4096 < ((((cf.getD 0 []).getD 0 []).length : Nat) : Int)) := h8
            refine ⟨1, [(1, .k), (72, .k), (73, .k)], fun nM vs H => ∃ (i : Nat), i ≤ cf.length ∧ (List.range i).all (fun a => (List.range a).all fun b => decide ((cf.getD a []).getD b [] = (cf.getD b []).getD a [])) = true ∧ nM = cf.length - i ∧ vs = [.ptr 0 1 0 0, .int .i64 (nd - 1), .int .i64 (i : Int)] ∧ H = [.cells [.int .i64 nd, .sl false (.sl .str) cf]], ⟨rfl, cf.length, 0, by omega, rfl, by omega, rfl, rfl⟩, ?_⟩
            rintro nM vs H ⟨i, hc3_0, hc3_1, rfl, rfl, rfl⟩
            refine ⟨fun h9 => ?_, fun h9 => ?_⟩
            · replace h9 : (i : Int) < (nd - 1) := h9
              have hri := hrows _ (getD_mem [] cf i (by omega))
              refine ⟨1, [(1, .k), (8, .k), (72, .k), (73, .k), (76, .k), (77, .k)], fun nM vs H => ∃ (j : Nat), j ≤ i ∧ (List.range j).all (fun b => decide ((cf.getD i []).getD b [] = (cf.getD b []).getD i [])) = true ∧ nM = i - j ∧ vs = [.ptr 0 1 0 0, .int .i64 (i : Int), .int .i64 (nd - 1), .int .i64 (i : Int), .int .i64 (i : Int), .int .i64 (j : Int)] ∧ H = [.cells [.int .i64 nd, .sl false (.sl .str) cf]], ⟨rfl, i, 0, by omega, rfl, by omega, rfl, rfl⟩, ?_⟩
              rintro nM vs H ⟨j, hc4_0, hc4_1, rfl, rfl, rfl⟩
              refine ⟨fun h10 => ?_, fun h10 => ?_⟩
              · replace h10 : (j : Int) < (i : Int) := h10
                have hrj := hrows _ (getD_mem [] cf j (by omega))
                refine ⟨by kernel_rfl, ⟨by show (0 : Int) ≤ (i : Int); omega, by show (i : Int) < (cf.length : Int); omega⟩, ⟨by show (0 : Int) ≤ (j : Int); omega, by show (j : Int) < ((cf.getD i []).length : Int); omega⟩, ⟨by show (0 : Int) ≤ (j : Int); omega, by show (j : Int) < (cf.length : Int); omega⟩, ⟨by show (0 : Int) ≤ (i : Int); omega, by show (i : Int) < ((cf.getD j []).length : Int); omega⟩, fun h11 => ?_, fun h11 => ?_⟩
                · replace h11 : ((cf.getD i []).getD j []) ≠ ((cf.getD j []).getD i []) := h11
                  have hs : symB cf cf.length = false := rangeBad (k := i) (by omega) (rangeBad (p := (fun b => decide ((cf.getD i []).getD b [] = (cf.getD b []).getD i []))) (k := j) (by omega) (decide_eq_false h11))
                  have e : chkD nd cf = 1 := by unfold chkD; rw [if_neg (by omega : ¬ (nd < 2 ∨ 12 < nd)), if_neg (by omega : ¬ ((cf.length : Int) ≠ nd - 1)), if_neg (by rw [hall]; decide), if_neg (by unfold n00 n0; omega), if_pos hs]
                  rw [e]
                  exact ⟨rfl, rfl, rfl, rfl⟩
                · replace h11 : ¬ (((cf.getD i []).getD j []) ≠ ((cf.getD j []).getD i [])) := h11
                  have hok : decide ((cf.getD i []).getD j [] = (cf.getD j []).getD i []) = true := decide_eq_true (Classical.not_not.1 h11)
                  refine ⟨⟨by show (-9223372036854775808 : Int) ≤ ((j : Int) + 1); omega, by show ((j : Int) + 1) ≤ (9223372036854775807 : Int); omega⟩, ?_⟩
                  exact ⟨rfl, i - (j + 1), by omega, j + 1, by omega, rangeAll hc4_1 hok, rfl, rfl, rfl⟩
              · replace h10 : ¬ ((j : Int) < (i : Int)) := h10
                have hok : (List.range i).all (fun b => decide ((cf.getD i []).getD b [] = (cf.getD b []).getD i [])) = true := by rw [show i = j by omega] at hc4_1 ⊢; exact hc4_1
                refine ⟨⟨by show (-9223372036854775808 : Int) ≤ ((i : Int) + 1); omega, by show ((i : Int) + 1) ≤ (9223372036854775807 : Int); omega⟩, ?_⟩
                exact ⟨rfl, cf.length - (i + 1), by omega, i + 1, by omega, rangeAll hc3_1 hok, rfl, rfl, rfl⟩
            · replace h9 : ¬ ((i : Int) < (nd - 1)) := h9
              have hs : symB cf cf.length = true := by rw [show cf.length = i by omega]; exact hc3_1
              have e : chkD nd cf = 0 := by unfold chkD; rw [if_neg (by omega : ¬ (nd < 2 ∨ 12 < nd)), if_neg (by omega : ¬ ((cf.length : Int) ≠ nd - 1)), if_neg (by rw [hall]; decide), if_neg (by unfold n00 n0; omega), if_neg (by rw [hs]; decide)]
              rw [e]
              exact ⟨rfl, rfl, rfl, rfl⟩
  · replace h0 : nd < 2 := h0
    have e : chkD nd cf = 3 := by unfold chkD; rw [if_pos (by omega)]
    rw [e]
    exact ⟨rfl, rfl, rfl, rfl⟩
def CChk : List (Nat × Con) := (10, pureC [.v (.cons (.int .i64) (.cons (.sl (.sl .str)) .nil))] sChk) :: CAgrE
theorem kChk : Known Tryd.prog (En CChk tys G6 []) := kAgrE.add Tryd.func10 Tryd.call10 [.k] fun ds p v bs h hp => by
  unfold sChk at h
  split at h <;> simp only [Option.some.injEq, Prod.mk.injEq, reduceCtorEq] at h
  obtain ⟨rfl, rfl, rfl⟩ := h
  exact bChk _ _ hp.1 hp.2
def sRow : List V → Option (Prop × V × List Blk)
  | [.agg [.int .i64 nd, .sl false (.sl .str) cf], .int .i64 h] => some (cf.length ≤ 1048576 ∧ (∀ l ∈ cf, l.length ≤ 1048576 ∧ ∀ x ∈ l, x.length ≤ 1048576), .tup [.own .str 0, .int .i64 (rowE nd cf h)], [.row true .str (rowL nd cf h)])
  | _ => none
set_option maxHeartbeats 1000000 in
theorem bRow (nd : Int) (cf : List (List (List UInt8))) (h : Int) (hp0 : cf.length ≤ 1048576) (hp1 : (∀ l ∈ cf, l.length ≤ 1048576 ∧ ∀ x ∈ l, x.length ≤ 1048576)) : bodyP (En CChk tys G6 []) Tryd.f8 [.o .str, .k] [.agg [.int .i64 nd, .sl false (.sl .str) cf], .int .i64 h] (.tup [.own .str 0, .int .i64 (rowE nd cf h)]) [.row true .str (rowL nd cf h)] := by
  refine ⟨rfl, ⟨by show cf.length ≤ 1048576; first | omega | assumption, by first | assumption | simp⟩, fun h0 => ?_, fun h0 => ?_⟩
  · replace h0 : (chkD nd cf) ≠ 0 := h0
    have e : rowE nd cf h = chkD nd cf := if_neg h0
    rw [rowL, if_neg (by rw [e]; exact h0), e]
    exact ⟨rfl, rfl, rfl, rfl⟩
  · replace h0 : ¬ ((chkD nd cf) ≠ 0) := h0
    have hc := Classical.not_not.1 h0
    have hd := chkD0 hc
    obtain ⟨d1, d2, d3, d4, d5, d6, d7⟩ := id hd
    refine ⟨rfl, trivial, fun h1 => ?_, fun h1 => ?_⟩
    · replace h1 : ¬ (knw h) := h1
      have e : rowE nd cf h = 8 := by unfold rowE; rw [if_pos hc, if_neg h1]
      rw [rowL, if_neg (by rw [e]; decide), e]
      exact ⟨rfl, rfl, rfl, rfl⟩
    · replace h1 : ¬ (¬ (knw h)) := h1
      have hk := Classical.not_not.1 h1
      obtain ⟨k1, k2⟩ := id hk
      refine ⟨1, [(1, .k), (7, .o .str), (19, .k), (20, .k), (21, .k)], fun nM vs H => ∃ (k : Nat), k ≤ cf.length ∧ nM = cf.length - k ∧ vs = [.int .i64 h, .own .str 1, .sl false (.sl .str) cf, .int .i64 (cf.length : Int), .int .i64 (k : Int)] ∧ H = [.cells [.int .i64 nd, .sl false (.sl .str) cf], .row true .str ((cf.take k).map fun l => atL l (pt h))], ⟨rfl, cf.length, 0, by omega, by omega, rfl, rfl⟩, ?_⟩
      rintro nM vs H ⟨k, hc1_0, rfl, rfl, rfl⟩
      refine ⟨fun h2 => ?_, fun h2 => ?_⟩
      · replace h2 : (k : Int) < (cf.length : Int) := h2
        have hkl : k < cf.length := by omega
        have hm := getD_mem [] cf k hkl
        have hr4 := d4 _ hm
        have hr5 : ∀ x ∈ cf.getD k [], x.length ≤ 1048576 := (hp1 _ hm).2
        have hml : ((cf.take k).map fun l => atL l (pt h)).length = k := by rw [List.length_map, List.length_take]; omega
        refine ⟨⟨by show (0 : Int) ≤ (k : Int); omega, by show (k : Int) < (cf.length : Int); omega⟩, ⟨by show (-9223372036854775808 : Int) ≤ (h + 1); omega, by show (h + 1) ≤ (9223372036854775807 : Int); omega⟩, ⟨by show 1 ≤ (cf.getD k []).length; first | omega | assumption | (simp only [List.length_cons, List.length_nil, List.length_append, List.length_take, List.length_drop, List.length_set, List.length_replicate]; omega), by show (cf.getD k []).length ≤ 1000000; first | omega | assumption | (simp only [List.length_cons, List.length_nil, List.length_append, List.length_take, List.length_drop, List.length_set, List.length_replicate]; omega), by first | assumption | simp⟩, ⟨rfl, rfl⟩, by show ((cf.take k).map fun l => atL l (pt h)).length + ([atL (cf.getD k []) (UInt8.ofNat ((h + 1) % 256).toNat)] : List (List UInt8)).length ≤ 1000000000; simp only [List.length_cons, List.length_nil]; omega, ⟨by show (-9223372036854775808 : Int) ≤ ((k : Int) + 1); omega, by show ((k : Int) + 1) ≤ (9223372036854775807 : Int); omega⟩, ?_⟩
        exact ⟨rfl, cf.length - (k + 1), by omega, k + 1, by omega, rfl, rfl, by rw [map_take_snoc [] _ cf k hkl]; rfl⟩
      · replace h2 : ¬ ((k : Int) < (cf.length : Int)) := h2
        have e : rowE nd cf h = 0 := by unfold rowE; rw [if_pos hc, if_pos hk]
        rw [rowL, if_pos e, e, rowD, show k = cf.length by omega, List.take_length]
        exact ⟨rfl, rfl, rfl, rfl⟩
def CRow : List (Nat × Con) := (8, pureC [.v (.cons (.int .i64) (.cons (.sl (.sl .str)) .nil)), .v (.int .i64)] sRow) :: CChk
theorem kRow : Known Tryd.prog (En CRow tys G6 []) := kChk.add Tryd.func8 Tryd.call8 [.o .str, .k] fun ds p v bs h hp => by
  unfold sRow at h
  split at h <;> simp only [Option.some.injEq, Prod.mk.injEq, reduceCtorEq] at h
  obtain ⟨rfl, rfl, rfl⟩ := h
  exact bRow _ _ _ hp.1 hp.2
def sUpd : List V → Option (Prop × V × List Blk)
  | [.agg [.int .i64 h, .str bs], .sl false (.sl .str) rs] => some (rs.length ≤ 1048576 ∧ (∀ l ∈ rs, l.length ≤ 1048576), .tup [.agg [.int .i64 (updH h bs rs), .str (updS h bs rs)], .int .i64 (updE h bs rs)], [])
  | _ => none
set_option maxHeartbeats 2000000 in
theorem bUpd (h : Int) (bs : List UInt8) (rs : List (List (List UInt8))) (hp0 : rs.length ≤ 1048576) (hp1 : (∀ l ∈ rs, l.length ≤ 1048576)) : bodyP (En CRow tys G6 []) Tryd.f15 [.k, .k] [.agg [.int .i64 h, .str bs], .sl false (.sl .str) rs] (.tup [.agg [.int .i64 (updH h bs rs), .str (updS h bs rs)], .int .i64 (updE h bs rs)]) [] := by
  refine ⟨rfl, trivial, fun h0 => ?_, fun h0 => ?_⟩
  · replace h0 : ¬ (knw h) := h0
    refine ⟨⟨rfl, rfl, rfl, Nat.le_of_ble_eq_true rfl⟩, ?_⟩
    have e : updE h bs rs = 8 := by unfold updE; rw [if_neg h0]
    rw [updH, updS, if_neg (by rw [e]; decide), if_neg (by rw [e]; decide), e]
    exact ⟨rfl, rfl, rfl, rfl⟩
  · replace h0 : ¬ (¬ (knw h)) := h0
    have hk := Classical.not_not.1 h0
    obtain ⟨k1, k2⟩ := id hk
    refine ⟨fun h1 => ?_, fun h1 => ?_⟩
    · replace h1 : 4096 < (bs.length : Int) := h1
      refine ⟨⟨rfl, rfl, rfl, Nat.le_of_ble_eq_true rfl⟩, ?_⟩
      have e : updE h bs rs = 2 := by unfold updE; rw [if_pos hk, if_neg (by omega)]
      rw [updH, updS, if_neg (by rw [e]; decide), if_neg (by rw [e]; decide), e]
      exact ⟨rfl, rfl, rfl, rfl⟩
    · replace h1 : ¬ (4096 < (bs.length : Int)) := h1
      refine ⟨2, [(1, .k), (2, .k), (4, .k), (20, .k), (21, .k), (22, .k)], fun nM vs H => ∃ (k : Nat), k ≤ rs.length ∧ (rs.drop k).all (updOk bs) = rs.all (updOk bs) ∧ nM = rs.length - k ∧ vs = [.sl false (.sl .str) rs, .ptr 0 1 0 0, .ptr 1 1 0 0, .sl false (.sl .str) rs, .int .i64 (rs.length : Int), .int .i64 (k : Int)] ∧ H = [.cells [.int .i64 h, .str bs], .cells [.int .i64 0, .str ([])]], ⟨rfl, rs.length, 0, by omega, rfl, by omega, rfl, rfl⟩, ?_⟩
      rintro nM vs H ⟨k, hc1_0, hc1_1, rfl, rfl, rfl⟩
      refine ⟨fun h2 => ?_, fun h2 => ?_⟩
      · replace h2 : (k : Int) < (rs.length : Int) := h2
        have hkl : k < rs.length := by omega
        have hrl := hp1 _ (getD_mem [] rs k hkl)
        refine ⟨⟨by show (0 : Int) ≤ (k : Int); omega, by show (k : Int) < (rs.length : Int); omega⟩, by kernel_rfl, by show (rs.getD k []).length ≤ 1048576; first | omega | assumption | (simp only [List.length_cons, List.length_nil, List.length_append, List.length_take, List.length_drop, List.length_set, List.length_replicate]; omega), fun h3 => ?_, fun h3 => ?_⟩
        · replace h3 : ¬ (¬ (rightB (rs.getD k []) = true)) := h3
          have hr := Classical.not_not.1 h3
          obtain ⟨r1, r2, r3, r4⟩ := right_ok hr
          refine ⟨fun h4 => ?_, fun h4 => absurd h4 (show ¬ (¬ (rightB (rs.getD k []) = true)) by first | omega | assumption | simp_all)⟩
          refine ⟨⟨by show (0 : Int) ≤ 0; omega, by show 0 < ((rs.getD k []).length : Int); omega⟩, fun h5 => ?_, fun h5 => absurd h5 (show ¬ (¬ (rightB (rs.getD k []) = true)) by first | omega | assumption | simp_all)⟩
          refine ⟨fun h6 => ?_, fun h6 => absurd h6 (show ¬ (¬ (rightB (rs.getD k []) = true)) by first | omega | assumption | simp_all)⟩
          refine ⟨fun h7 => ?_, fun h7 => absurd h7 (show ¬ (¬ (rightB (rs.getD k []) = true)) by first | omega | assumption | simp_all)⟩
          refine ⟨fun h8 => ?_, fun h8 => absurd h8 (show ¬ (¬ (rightB (rs.getD k []) = true)) by first | omega | assumption | simp_all)⟩
          refine ⟨fun h9 => ?_, fun h9 => absurd h9 (show ¬ (¬ (rightB (rs.getD k []) = true)) by first | omega | assumption | simp_all)⟩
          refine ⟨fun h10 => ?_, fun h10 => absurd h10 (show ¬ (¬ (rightB (rs.getD k []) = true)) by first | omega | assumption | simp_all)⟩
          refine ⟨fun h11 => absurd h11 (show ¬ (¬ (rightB (rs.getD k []) = true)) by first | omega | assumption | simp_all), fun h11 => ?_⟩
          refine ⟨fun h12 => ?_, fun h12 => ?_⟩
          · replace h12 : ((((rs.getD k []).getD 0 []).length : Nat) : Int) ≠ (bs.length : Int) := h12
            refine ⟨⟨rfl, rfl, rfl, Nat.le_of_ble_eq_true rfl⟩, ?_⟩
            have hf : rs.all (updOk bs) = false := all_bad (d := []) hkl hc1_1 (updOk_bad2 (by unfold n0; omega))
            have e : updE h bs rs = 1 := by unfold updE; rw [if_pos hk, if_pos (by omega), if_neg (by rw [hf]; decide)]
            rw [updH, updS, if_neg (by rw [e]; decide), if_neg (by rw [e]; decide), e]
            exact ⟨rfl, rfl, rfl, rfl⟩
          · replace h12 : ¬ (((((rs.getD k []).getD 0 []).length : Nat) : Int) ≠ (bs.length : Int)) := h12
            have hok := updOk_yes (b := bs) hr (by unfold n0; omega)
            refine ⟨⟨by show (-9223372036854775808 : Int) ≤ ((k : Int) + 1); omega, by show ((k : Int) + 1) ≤ (9223372036854775807 : Int); omega⟩, ?_⟩
            exact ⟨rfl, rs.length - (k + 1), by omega, k + 1, by omega, all_next (d := []) hkl hc1_1 hok, rfl, rfl, rfl⟩
        · replace h3 : ¬ (rightB (rs.getD k []) = true) := h3
          refine ⟨fun h13 => absurd (show ¬ (rightB (rs.getD k []) = true) by first | omega | assumption | simp_all) h13, fun h13 => ?_⟩
          refine ⟨fun h14 => absurd (show ¬ (rightB (rs.getD k []) = true) by first | omega | assumption | simp_all) h14, fun h14 => ?_⟩
          refine ⟨fun h15 => absurd (show ¬ (rightB (rs.getD k []) = true) by first | omega | assumption | simp_all) h15, fun h15 => ?_⟩
          refine ⟨fun h16 => absurd (show ¬ (rightB (rs.getD k []) = true) by first | omega | assumption | simp_all) h16, fun h16 => ?_⟩
          refine ⟨fun h17 => absurd (show ¬ (rightB (rs.getD k []) = true) by first | omega | assumption | simp_all) h17, fun h17 => ?_⟩
          refine ⟨fun h18 => absurd (show ¬ (rightB (rs.getD k []) = true) by first | omega | assumption | simp_all) h18, fun h18 => ?_⟩
          refine ⟨fun h19 => absurd (show ¬ (rightB (rs.getD k []) = true) by first | omega | assumption | simp_all) h19, fun h19 => ?_⟩
          refine ⟨fun h20 => ?_, fun h20 => absurd (show ¬ (rightB (rs.getD k []) = true) by first | omega | assumption | simp_all) h20⟩
          refine ⟨⟨rfl, rfl, rfl, Nat.le_of_ble_eq_true rfl⟩, ?_⟩
          have hf : rs.all (updOk bs) = false := all_bad (d := []) hkl hc1_1 (updOk_bad1 h3)
          have e : updE h bs rs = 1 := by unfold updE; rw [if_pos hk, if_pos (by omega), if_neg (by rw [hf]; decide)]
          rw [updH, updS, if_neg (by rw [e]; decide), if_neg (by rw [e]; decide), e]
          exact ⟨rfl, rfl, rfl, rfl⟩
      · replace h2 : ¬ ((k : Int) < (rs.length : Int)) := h2
        have hall : rs.all (updOk bs) = true := all_stop (by omega) hc1_1
        have hev := List.all_eq_true.1 hall
        refine ⟨2, [(2, .k), (4, .k), (41, .k), (42, .k), (43, .k)], fun nM vs H => ∃ (k : Nat), k ≤ rs.length ∧ nM = rs.length - k ∧ vs = [.ptr 0 1 0 0, .ptr 1 1 0 0, .sl false (.sl .str) rs, .int .i64 (rs.length : Int), .int .i64 (k : Int)] ∧ H = [.cells [.int .i64 h, .str (updB h bs (rs.take k))], .cells [.int .i64 0, .str ([])]], ⟨rfl, rs.length, 0, by omega, by omega, rfl, rfl⟩, ?_⟩
        rintro nM vs H ⟨k, hc2_0, rfl, rfl, rfl⟩
        refine ⟨fun h21 => ?_, fun h21 => ?_⟩
        · replace h21 : (k : Int) < (rs.length : Int) := h21
          have hkm : k < rs.length := by omega
          obtain ⟨hr, hn⟩ := updOk_no (hev _ (getD_mem [] rs k hkm))
          obtain ⟨r1, r2, r3, r4⟩ := right_ok hr
          have hl1 := upd_len (h := h) (b := bs) (rs.take k) bs rfl (fun x hx => hev x (List.mem_of_mem_take hx))
          replace hn : ((rs.getD k []).getD 0 []).length = bs.length := hn
          refine ⟨⟨by show (0 : Int) ≤ (k : Int); omega, by show (k : Int) < (rs.length : Int); omega⟩, by kernel_rfl, ⟨by show (-9223372036854775808 : Int) ≤ (h + 1); omega, by show (h + 1) ≤ (9223372036854775807 : Int); omega⟩, ⟨by show (0 : Int) ≤ 0; omega, by show 0 < ((rs.getD k []).length : Int); omega⟩, by show ((rs.getD k []).getD 0 []).length ≤ 1000000000; first | omega | assumption | (simp only [List.length_cons, List.length_nil, List.length_append, List.length_take, List.length_drop, List.length_set, List.length_replicate]; omega), ⟨by show 1 ≤ ([updB h bs (rs.take k), scaleB (UInt8.ofNat ((h + 1) % 256).toNat) ((rs.getD k []).getD 0 [])] : List (List UInt8)).length; first | omega | assumption | (simp only [List.length_cons, List.length_nil, List.length_append, List.length_take, List.length_drop, List.length_set, List.length_replicate]; omega), by show ([updB h bs (rs.take k), scaleB (UInt8.ofNat ((h + 1) % 256).toNat) ((rs.getD k []).getD 0 [])] : List (List UInt8)).length ≤ 1000000; first | omega | assumption | (simp only [List.length_cons, List.length_nil, List.length_append, List.length_take, List.length_drop, List.length_set, List.length_replicate]; omega), by show (∀ x ∈ ([updB h bs (rs.take k), scaleB (UInt8.ofNat ((h + 1) % 256).toNat) ((rs.getD k []).getD 0 [])] : List (List UInt8)), x.length ≤ 1048576); exact two_len (by omega) (by rw [scale_len]; omega)⟩, ⟨rfl, rfl, rfl⟩, ⟨by show (-9223372036854775808 : Int) ≤ ((k : Int) + 1); omega, by show ((k : Int) + 1) ≤ (9223372036854775807 : Int); omega⟩, ?_⟩
          exact ⟨rfl, rs.length - (k + 1), by omega, k + 1, by omega, rfl, rfl, by rw [upd_snoc hkm]; rfl⟩
        · replace h21 : ¬ ((k : Int) < (rs.length : Int)) := h21
          refine ⟨⟨rfl, rfl, rfl, Nat.le_of_ble_eq_true rfl⟩, ?_⟩
          have e : updE h bs rs = 0 := by unfold updE; rw [if_pos hk, if_pos (by omega), if_pos hall]
          rw [updH, updS, if_pos e, if_pos e, e, show updB h bs rs = updB h bs (rs.take k) by rw [List.take_of_length_le (by omega)]]
          exact ⟨rfl, rfl, rfl, rfl⟩
def CUpd : List (Nat × Con) := (15, pureC [.v (.cons (.int .i64) (.cons .str .nil)), .v (.sl (.sl .str))] sUpd) :: CRow
theorem kUpd : Known Tryd.prog (En CUpd tys G6 []) := kRow.add Tryd.func15 Tryd.call15 [.k, .k] fun ds p v bs h hp => by
  unfold sUpd at h
  split at h <;> simp only [Option.some.injEq, Prod.mk.injEq, reduceCtorEq] at h
  obtain ⟨rfl, rfl, rfl⟩ := h
  exact bUpd _ _ _ hp.1 hp.2
end Go.Proofs.YtcodgflbafanlaaDoor.S27

namespace Go.Proofs.YtcodgflbafanlaaDoor.S27
open Go Go.Proofs.YtcodgflbafanlaaDoor.Vc Go.Proofs
set_option maxRecDepth 100000
set_option linter.unusedVariables false

def sPrs : List V → Option (Prop × Nat × (Nat → List V))
  | [.rp false (.sl (.sl .str)) rs 0] => some (rs.length ≤ 1048576, ((pairsL rs).length, fun n => [.dat false (.arr 2 (.int .i64)) (prI ((pairsL rs).getD n (0, 0)))]))
  | _ => none
set_option maxHeartbeats 1000000 in
theorem bPrs (rs : List (List (List UInt8))) (hp0 : rs.length ≤ 1048576) : bodyS (En CUpd tys G6 []).inR Tryd.f37 [.rp false (.sl (.sl .str)) rs 0] [.v (.arr 2 (.int .i64))] ((pairsL rs).length, fun n => [.dat false (.arr 2 (.int .i64)) (prI ((pairsL rs).getD n (0, 0)))]) := by
  refine ⟨rfl, 0, [(0, .k), (1, .k), (6, .k), (7, .k)], fun nM vs H => ∃ (k i : Nat), k ≤ (pairsL rs).length ∧ i ≤ rs.length ∧ (pairsL rs).drop k = prA rs (rs.length - i) i ∧ nM = rs.length - i ∧ vs = [.yld (some k), .rp false (.sl (.sl .str)) rs 0, .int .i64 (rs.length : Int), .int .i64 (i : Int)] ∧ H = [], ⟨rfl, rs.length, 0, 0, by omega, by omega, rfl, by omega, rfl, rfl⟩, ?_⟩
  rintro nM vs H ⟨k, i, hc1_0, hc1_1, hc1_2, rfl, rfl, rfl⟩
  refine ⟨fun h0 => ?_, fun h0 => ?_⟩
  · replace h0 : (i : Int) < (rs.length : Int) := h0
    obtain ⟨f, hf⟩ : ∃ f, rs.length - i = f + 1 := ⟨rs.length - i - 1, by omega⟩
    have hf2 : rs.length - (i + 1) = f := by omega
    rw [hf, prA] at hc1_2
    refine ⟨⟨by show (-9223372036854775808 : Int) ≤ ((i : Int) + 1); omega, by show ((i : Int) + 1) ≤ (9223372036854775807 : Int); omega⟩, 0, [(0, .k), (1, .k), (3, .k), (4, .k), (6, .k), (7, .k)], fun nM vs H => ∃ (k j : Nat), k ≤ (pairsL rs).length ∧ i < j ∧ (pairsL rs).drop k = prJ rs i (rs.length - j) j ++ prA rs (rs.length - (i + 1)) (i + 1) ∧ nM = rs.length - j ∧ vs = [.yld (some k), .rp false (.sl (.sl .str)) rs 0, .int .i64 (i : Int), .int .i64 (j : Int), .int .i64 (rs.length : Int), .int .i64 (i : Int)] ∧ H = [], ⟨rfl, rs.length - (i + 1), k, i + 1, by omega, by omega, by rw [hf2] at hc1_2 ⊢; exact hc1_2, by omega, rfl, rfl⟩, ?_⟩
    rintro nM vs H ⟨k, j, hc2_0, hc2_1, hc2_2, rfl, rfl, rfl⟩
    refine ⟨fun h1 => ?_, fun h1 => ?_⟩
    · replace h1 : (j : Int) < (rs.length : Int) := h1
      obtain ⟨m, hm⟩ : ∃ m, rs.length - j = m + 1 := ⟨rs.length - j - 1, by omega⟩
      have hm2 : rs.length - (j + 1) = m := by omega
      rw [hm, prJ] at hc2_2
      refine ⟨⟨by show (0 : Int) ≤ (i : Int); omega, by show (i : Int) < (rs.length : Int); omega⟩, fun h2 => ?_, fun h2 => ?_⟩
      · replace h2 : 0 < (((rs.getD i []).length : Nat) : Int) := h2
        refine ⟨⟨by show (0 : Int) ≤ (j : Int); omega, by show (j : Int) < (rs.length : Int); omega⟩, fun h3 => ?_, fun h3 => ?_⟩
        · replace h3 : 0 < (((rs.getD j []).length : Nat) : Int) := h3
          rw [if_pos (show prOk rs i j = true from decide_eq_true ⟨by omega, by omega⟩), List.cons_append] at hc2_2
          obtain ⟨y1, y2, y3⟩ := drop_cons (d := (0, 0)) hc2_2
          refine ⟨rfl, rfl, ⟨y1, by show [V.dat false (.arr 2 (.int .i64)) [(i : Int), ((j : Nat) : Int)]] = [V.dat false (.arr 2 (.int .i64)) (prI ((pairsL rs).getD k (0, 0)))]; rw [y2]; rfl⟩, ?_, ?_⟩
          · refine ⟨⟨by show (-9223372036854775808 : Int) ≤ ((j : Int) + 1); omega, by show ((j : Int) + 1) ≤ (9223372036854775807 : Int); omega⟩, ?_⟩
            exact ⟨rfl, rs.length - (j + 1), by omega, k + 1, j + 1, by omega, by omega, by rw [hm2]; exact y3, rfl, rfl, rfl⟩
          · trivial
        · replace h3 : ¬ (0 < (((rs.getD j []).length : Nat) : Int)) := h3
          rw [if_neg (show ¬ prOk rs i j = true by unfold prOk; rw [decide_eq_true_eq]; omega)] at hc2_2
          refine ⟨⟨by show (-9223372036854775808 : Int) ≤ ((j : Int) + 1); omega, by show ((j : Int) + 1) ≤ (9223372036854775807 : Int); omega⟩, ?_⟩
          exact ⟨rfl, rs.length - (j + 1), by omega, k, j + 1, by omega, by omega, by rw [hm2]; exact hc2_2, rfl, rfl, rfl⟩
      · replace h2 : ¬ (0 < (((rs.getD i []).length : Nat) : Int)) := h2
        rw [if_neg (show ¬ prOk rs i j = true by unfold prOk; rw [decide_eq_true_eq]; omega)] at hc2_2
        refine ⟨⟨by show (-9223372036854775808 : Int) ≤ ((j : Int) + 1); omega, by show ((j : Int) + 1) ≤ (9223372036854775807 : Int); omega⟩, ?_⟩
        exact ⟨rfl, rs.length - (j + 1), by omega, k, j + 1, by omega, by omega, by rw [hm2]; exact hc2_2, rfl, rfl, rfl⟩
    · replace h1 : ¬ ((j : Int) < (rs.length : Int)) := h1
      rw [show rs.length - j = 0 by omega, prJ, List.nil_append] at hc2_2
      refine ⟨⟨by show (-9223372036854775808 : Int) ≤ ((i : Int) + 1); omega, by show ((i : Int) + 1) ≤ (9223372036854775807 : Int); omega⟩, ?_⟩
      exact ⟨rfl, rs.length - (i + 1), by omega, k, i + 1, by omega, by omega, hc2_2, rfl, rfl, rfl⟩
  · replace h0 : ¬ ((i : Int) < (rs.length : Int)) := h0
    rw [show rs.length - i = 0 by omega, prA] at hc1_2
    have hz := drop_nil hc1_0 hc1_2
    show (k : Nat) = (pairsL rs).length
    omega
def QPrs : List (Nat × SeqC) := (37, [.ref (.sl (.sl .str))], sPrs) :: []
def CPrs : List (Nat × Con) := CUpd
theorem kPrs : Known Tryd.prog (En CPrs tys G6 QPrs) := kUpd.addSeq Tryd.func37 Tryd.call37 [.v (.arr 2 (.int .i64))] fun ds p L h hp => by
  unfold sPrs at h
  split at h <;> simp only [Option.some.injEq, Prod.mk.injEq, reduceCtorEq] at h
  obtain ⟨rfl, rfl⟩ := h
  exact bPrs _ hp
def sPrz : List V → Option (Prop × V × List Blk)
  | [.sl false (.sl .str) rs] => some (True, .fn 37 [.ptr 0 1 0 0], [.cells [.sl false (.sl .str) (rs)]])
  | _ => none
set_option maxHeartbeats 1000000 in
theorem bPrz (rs : List (List (List UInt8)))  : bodyI (En CPrs tys G6 QPrs) Tryd.f30 [.c []] [.sl false (.sl .str) rs] (.fn 37 [.ptr 0 1 0 0]) [.cells [.sl false (.sl .str) (rs)]] := by
  exact ⟨rfl, rfl, rfl, rfl⟩
def CPrz : List (Nat × Con) := (30, immC [.v (.sl (.sl .str))] sPrz) :: CPrs
theorem kPrz : Known Tryd.prog (En CPrz tys G6 QPrs) := kPrs.addI Tryd.func30 Tryd.call30 [.c []] fun ds p v bs h hp => by
  unfold sPrz at h
  split at h <;> simp only [Option.some.injEq, Prod.mk.injEq, reduceCtorEq] at h
  obtain ⟨rfl, rfl, rfl⟩ := h
  exact bPrz _
def sCmp : List V → Option (Prop × V × List Blk)
  | [.sl false (.sl .str) rs] => some (rs.length ≤ 1048576 ∧ (∀ l ∈ rs, l.length ≤ 1048576 ∧ ∀ x ∈ l, x.length ≤ 1048576), .tup [.own (.arr 2 (.int .i64)) 0, .int .i64 (cmpE rs)], [.row true (.arr 2 (.int .i64)) (cmpL rs)])
  | _ => none
set_option maxHeartbeats 2000000 in
theorem bCmp (rs : List (List (List UInt8))) (hp0 : rs.length ≤ 1048576) (hp1 : (∀ l ∈ rs, l.length ≤ 1048576 ∧ ∀ x ∈ l, x.length ≤ 1048576)) : bodyP (En CPrz tys G6 QPrs) Tryd.f18 [.o (.arr 2 (.int .i64)), .k] [.sl false (.sl .str) rs] (.tup [.own (.arr 2 (.int .i64)) 0, .int .i64 (cmpE rs)]) [.row true (.arr 2 (.int .i64)) (cmpL rs)] := by
  refine ⟨fun h0 => ?_, fun h0 => ?_⟩
  · replace h0 : 12 < (rs.length : Int) := h0
    refine ⟨⟨rfl, rfl, rfl⟩, ⟨rfl, rfl, rfl⟩, ?_⟩
    have e : cmpE rs = 2 := if_pos (by omega)
    rw [cmpL, if_neg (by rw [e]; decide), e]
    exact ⟨rfl, rfl, rfl, rfl⟩
  · replace h0 : ¬ (12 < (rs.length : Int)) := h0
    refine ⟨3, [(1, .k), (2, .k), (3, .k), (11, .k), (12, .k), (13, .k)], fun nM vs H => ∃ (k : Nat), k ≤ rs.length ∧ (rs.drop k).all rgtB = rs.all rgtB ∧ nM = rs.length - k ∧ vs = [.ptr 0 1 0 0, .ptr 1 1 0 0, .ptr 2 1 0 0, .sl false (.sl .str) rs, .int .i64 (rs.length : Int), .int .i64 (k : Int)] ∧ H = [.cells [.sl false (.sl .str) rs], .cells [.nils], .cells [.int .i64 0]], ⟨rfl, rs.length, 0, by omega, rfl, by omega, rfl, rfl⟩, ?_⟩
    rintro nM vs H ⟨k, hc1_0, hc1_1, rfl, rfl, rfl⟩
    refine ⟨fun h1 => ?_, fun h1 => ?_⟩
    · replace h1 : (k : Int) < (rs.length : Int) := h1
      have hkl : k < rs.length := by omega
      have hkx := (hp1 _ (getD_mem [] rs k hkl)).1
      refine ⟨⟨by show (0 : Int) ≤ (k : Int); omega, by show (k : Int) < (rs.length : Int); omega⟩, fun h2 => ?_, fun h2 => ?_⟩
      · replace h2 : 0 < (((rs.getD k []).length : Nat) : Int) := h2
        refine ⟨by show (rs.getD k []).length ≤ 1048576; first | omega | assumption | (simp only [List.length_cons, List.length_nil, List.length_append, List.length_take, List.length_drop, List.length_set, List.length_replicate]; omega), fun h3 => ?_, fun h3 => ?_⟩
        · replace h3 : ¬ (rightB (rs.getD k []) = true) := h3
          refine ⟨⟨rfl, rfl, rfl⟩, ⟨rfl, rfl, rfl⟩, ?_⟩
          have hf : rs.all rgtB = false := all_bad (d := []) hkl hc1_1 (rgtB_no (by omega) h3)
          have e : cmpE rs = 1 := by unfold cmpE; rw [if_neg (by omega), if_pos hf]
          rw [cmpL, if_neg (by rw [e]; decide), e]
          exact ⟨rfl, rfl, rfl, rfl⟩
        · replace h3 : ¬ (¬ (rightB (rs.getD k []) = true)) := h3
          have hok := rgtB_yes (Classical.not_not.1 h3)
          refine ⟨⟨by show (-9223372036854775808 : Int) ≤ ((k : Int) + 1); omega, by show ((k : Int) + 1) ≤ (9223372036854775807 : Int); omega⟩, ?_⟩
          exact ⟨rfl, rs.length - (k + 1), by omega, k + 1, by omega, all_next (d := []) hkl hc1_1 hok, rfl, rfl, rfl⟩
      · replace h2 : ¬ (0 < (((rs.getD k []).length : Nat) : Int)) := h2
        have hok := rgtB_nil (r := rs.getD k []) (by omega)
        refine ⟨⟨by show (-9223372036854775808 : Int) ≤ ((k : Int) + 1); omega, by show ((k : Int) + 1) ≤ (9223372036854775807 : Int); omega⟩, ?_⟩
        exact ⟨rfl, rs.length - (k + 1), by omega, k + 1, by omega, all_next (d := []) hkl hc1_1 hok, rfl, rfl, rfl⟩
    · replace h1 : ¬ ((k : Int) < (rs.length : Int)) := h1
      have hall : rs.all rgtB = true := all_stop (by omega) hc1_1
      have hrg : ∀ r ∈ rs, 0 < r.length → rightB r = true := fun r hr h => rgtB_ok h (List.all_eq_true.1 hall r hr)
      have hpl := pairs_len (rows := rs) (by omega)
      refine ⟨trivial, rfl, ⟨by show rs.length ≤ 1048576; first | omega | assumption, fun _ _ => rfl⟩, 6, [(1, .k), (2, .k), (3, .k), (6, .c [(0, (.arr 2 (.int .i64)))])], fun n vs H => n ≤ (pairsL rs).length ∧ ((pairsL rs).drop n).all (alkB rs) = (pairsL rs).all (alkB rs) ∧ vs = [.ptr 0 1 0 0, .ptr 1 1 0 0, .ptr 2 1 0 0, .ptr 3 1 0 0] ∧ H = [.cells [.sl false (.sl .str) rs], .cells [.nils], .cells [.int .i64 0], .cells [.own (.arr 2 (.int .i64)) 5], .dead, .row true (.arr 2 (.int .i64)) (cmpO rs ((pairsL rs).take n))], ⟨rfl, by omega, rfl, rfl, rfl⟩, ?_, ?_⟩
      · rintro n vs H ⟨hc2_0, hc2_1, rfl, rfl⟩ hn2
        replace hn2 : n < (pairsL rs).length := hn2
        have hpm := pairs_mem.1 (getD_mem (0, 0) (pairsL rs) n hn2)
        obtain ⟨p1, p2, p3, p4⟩ := id hpm
        have g0 : ((prI ((pairsL rs).getD n (0, 0))).getD 0 0) = (((pairsL rs).getD n (0, 0)).1 : Int) := rfl
        have R0 : rightB (rs.getD ((prI ((pairsL rs).getD n (0, 0))).getD 0 0).toNat []) = true := hrg _ (getD_mem [] rs _ (by show ((pairsL rs).getD n (0, 0)).1 < rs.length; omega)) p3
        obtain ⟨u0, v0, _, _⟩ := right_ok R0
        have X0 : ∀ x ∈ rs.getD ((prI ((pairsL rs).getD n (0, 0))).getD 0 0).toNat [], x.length ≤ 1048576 := fun s hs => Nat.le_trans (right_len R0 s hs) (by omega)
        have K0 : knw ((prI ((pairsL rs).getD n (0, 0))).getD 0 0) := ⟨by omega, by omega⟩
        have g1 : ((prI ((pairsL rs).getD n (0, 0))).getD 1 0) = (((pairsL rs).getD n (0, 0)).2 : Int) := rfl
        have R1 : rightB (rs.getD ((prI ((pairsL rs).getD n (0, 0))).getD 1 0).toNat []) = true := hrg _ (getD_mem [] rs _ (by show ((pairsL rs).getD n (0, 0)).2 < rs.length; omega)) p4
        obtain ⟨u1, v1, _, _⟩ := right_ok R1
        have X1 : ∀ x ∈ rs.getD ((prI ((pairsL rs).getD n (0, 0))).getD 1 0).toNat [], x.length ≤ 1048576 := fun s hs => Nat.le_trans (right_len R1 s hs) (by omega)
        have K1 : knw ((prI ((pairsL rs).getD n (0, 0))).getD 1 0) := ⟨by omega, by omega⟩
        have hcl := cmpO_len rs ((pairsL rs).take n)
        rw [List.length_take] at hcl
        refine ⟨⟨rfl, rfl, rfl, by first | assumption | rfl | simp, rfl⟩, by kernel_rfl, ⟨by show (0 : Int) ≤ 0; omega, by show 0 < (2 : Int); omega, by first | assumption | rfl | simp⟩, ⟨by show (0 : Int) ≤ ((prI ((pairsL rs).getD n (0, 0))).getD 0 0); omega, by show ((prI ((pairsL rs).getD n (0, 0))).getD 0 0) < (rs.length : Int); omega⟩, ⟨by show (0 : Int) ≤ 1; omega, by show 1 < (2 : Int); omega, by first | assumption | rfl | simp⟩, ⟨by show (0 : Int) ≤ ((prI ((pairsL rs).getD n (0, 0))).getD 1 0); omega, by show ((prI ((pairsL rs).getD n (0, 0))).getD 1 0) < (rs.length : Int); omega⟩, ⟨by show 1 ≤ (rs.getD (((prI ((pairsL rs).getD n (0, 0))).getD 0 0).toNat) []).length; first | omega | assumption | (simp only [List.length_cons, List.length_nil, List.length_append, List.length_take, List.length_drop, List.length_set, List.length_replicate]; omega), by show 1 ≤ (rs.getD (((prI ((pairsL rs).getD n (0, 0))).getD 1 0).toNat) []).length; first | omega | assumption | (simp only [List.length_cons, List.length_nil, List.length_append, List.length_take, List.length_drop, List.length_set, List.length_replicate]; omega)⟩, fun h4 => ?_, fun h4 => ?_⟩
        · replace h4 : ¬ (alikeP (rs.getD (((prI ((pairsL rs).getD n (0, 0))).getD 0 0).toNat) []) (rs.getD (((prI ((pairsL rs).getD n (0, 0))).getD 1 0).toNat) [])) := h4
          refine ⟨⟨rfl, rfl, rfl⟩, ⟨rfl, rfl, rfl⟩, rfl, rfl, ?_⟩
          have hf : (pairsL rs).all (alkB rs) = false := all_bad (d := (0, 0)) hn2 hc2_1 (alkB_no h4)
          have e : cmpE rs = 1 := by unfold cmpE; rw [if_neg (by omega), if_neg (by rw [hall]; decide), if_pos hf]
          rw [cmpL, if_neg (by rw [e]; decide), e]
          exact ⟨rfl, rfl, rfl, rfl⟩
        · replace h4 : ¬ (¬ (alikeP (rs.getD (((prI ((pairsL rs).getD n (0, 0))).getD 0 0).toNat) []) (rs.getD (((prI ((pairsL rs).getD n (0, 0))).getD 1 0).toNat) []))) := h4
          have hok := alkB_yes (rows := rs) (p := ((pairsL rs).getD n (0, 0))) (Classical.not_not.1 h4)
          refine ⟨by kernel_rfl, ⟨by show (0 : Int) ≤ 0; omega, by show 0 < (2 : Int); omega, by first | assumption | rfl | simp⟩, ⟨by show (0 : Int) ≤ ((prI ((pairsL rs).getD n (0, 0))).getD 0 0); omega, by show ((prI ((pairsL rs).getD n (0, 0))).getD 0 0) < (rs.length : Int); omega⟩, ⟨by show (0 : Int) ≤ 0; omega, by show 0 < (2 : Int); omega, by first | assumption | rfl | simp⟩, ⟨by show (0 : Int) ≤ 1; omega, by show 1 < (2 : Int); omega, by first | assumption | rfl | simp⟩, ⟨by show (0 : Int) ≤ ((prI ((pairsL rs).getD n (0, 0))).getD 1 0); omega, by show ((prI ((pairsL rs).getD n (0, 0))).getD 1 0) < (rs.length : Int); omega⟩, ⟨by show (0 : Int) ≤ 1; omega, by show 1 < (2 : Int); omega, by first | assumption | rfl | simp⟩, rfl, rfl, ⟨by show 1 ≤ (rs.getD (((prI ((pairsL rs).getD n (0, 0))).getD 0 0).toNat) []).length; first | omega | assumption | (simp only [List.length_cons, List.length_nil, List.length_append, List.length_take, List.length_drop, List.length_set, List.length_replicate]; omega), by show (rs.getD (((prI ((pairsL rs).getD n (0, 0))).getD 0 0).toNat) []).length ≤ 1000000; first | omega | assumption | (simp only [List.length_cons, List.length_nil, List.length_append, List.length_take, List.length_drop, List.length_set, List.length_replicate]; omega), by first | assumption | simp, by show 1 ≤ (rs.getD (((prI ((pairsL rs).getD n (0, 0))).getD 1 0).toNat) []).length; first | omega | assumption | (simp only [List.length_cons, List.length_nil, List.length_append, List.length_take, List.length_drop, List.length_set, List.length_replicate]; omega), by show (rs.getD (((prI ((pairsL rs).getD n (0, 0))).getD 1 0).toNat) []).length ≤ 1000000; first | omega | assumption | (simp only [List.length_cons, List.length_nil, List.length_append, List.length_take, List.length_drop, List.length_set, List.length_replicate]; omega), by first | assumption | simp, by assumption, by assumption⟩, fun h5 => ?_, fun h5 => ?_⟩
          · replace h5 : ¬ (agrP (rs.getD (((prI ((pairsL rs).getD n (0, 0))).getD 0 0).toNat) []) ((prI ((pairsL rs).getD n (0, 0))).getD 0 0) (rs.getD (((prI ((pairsL rs).getD n (0, 0))).getD 1 0).toNat) []) ((prI ((pairsL rs).getD n (0, 0))).getD 1 0)) := h5
            have hod := oddB_yes (rows := rs) (p := ((pairsL rs).getD n (0, 0))) h5
            refine ⟨by first | assumption | rfl | simp, ⟨rfl, rfl⟩, by show (cmpO rs ((pairsL rs).take n)).length + ([prI ((pairsL rs).getD n (0, 0))] : List (List Int)).length ≤ 1000000000; simp only [List.length_cons, List.length_nil]; omega, ⟨rfl, rfl, rfl⟩, ?_⟩
            first
            | exact ⟨rfl, rfl, by omega, all_next (d := (0, 0)) hn2 hc2_1 hok, rfl, by rw [cmpO_snoc rs _ n hn2, if_pos hod]; rfl⟩
            | exact ⟨rfl, rfl, by omega, all_next (d := (0, 0)) hn2 hc2_1 hok, rfl, by rw [cmpO_snoc rs _ n hn2, if_neg hod, List.append_nil]; rfl⟩
          · replace h5 : ¬ (¬ (agrP (rs.getD (((prI ((pairsL rs).getD n (0, 0))).getD 0 0).toNat) []) ((prI ((pairsL rs).getD n (0, 0))).getD 0 0) (rs.getD (((prI ((pairsL rs).getD n (0, 0))).getD 1 0).toNat) []) ((prI ((pairsL rs).getD n (0, 0))).getD 1 0))) := h5
            have hod := oddB_no (rows := rs) (p := ((pairsL rs).getD n (0, 0))) (Classical.not_not.1 h5)
            first
            | exact ⟨rfl, rfl, by omega, all_next (d := (0, 0)) hn2 hc2_1 hok, rfl, by rw [cmpO_snoc rs _ n hn2, if_pos hod]; rfl⟩
            | exact ⟨rfl, rfl, by omega, all_next (d := (0, 0)) hn2 hc2_1 hok, rfl, by rw [cmpO_snoc rs _ n hn2, if_neg hod, List.append_nil]; rfl⟩
      · rintro vs H ⟨hc2_0, hc2_1, rfl, rfl⟩
        refine ⟨⟨rfl, rfl, rfl⟩, ⟨rfl, rfl, rfl⟩, ?_⟩
        have hf : (pairsL rs).all (alkB rs) = true := all_stop (by omega) hc2_1
        have e : cmpE rs = 0 := by unfold cmpE; rw [if_neg (by omega), if_neg (by rw [hall]; decide), if_neg (by rw [hf]; decide)]
        rw [cmpL, if_pos e, e, show cmpO rs (pairsL rs) = cmpO rs ((pairsL rs).take (pairsL rs).length) by rw [List.take_length]]
        exact ⟨rfl, rfl, rfl, rfl⟩
def CCmp : List (Nat × Con) := (18, pureC [.v (.sl (.sl .str))] sCmp) :: CPrz
theorem kCmp : Known Tryd.prog (En CCmp tys G6 QPrs) := kPrz.add Tryd.func18 Tryd.call18 [.o (.arr 2 (.int .i64)), .k] fun ds p v bs h hp => by
  unfold sCmp at h
  split at h <;> simp only [Option.some.injEq, Prod.mk.injEq, reduceCtorEq] at h
  obtain ⟨rfl, rfl, rfl⟩ := h
  exact bCmp _ hp.1 hp.2
end Go.Proofs.YtcodgflbafanlaaDoor.S27

namespace Go.Proofs.YtcodgflbafanlaaDoor.S27
open Go Go.Proofs.YtcodgflbafanlaaDoor.Vc Go.Proofs
set_option maxRecDepth 100000
set_option linter.unusedVariables false

def sRfl : List V → Option (Prop × V × List Blk)
  | [.sl false (.sl .str) rs, .int .i64 h] => some (rs.length ≤ 1048576 ∧ (∀ l ∈ rs, l.length ≤ 1048576 ∧ ∀ x ∈ l, x.length ≤ 1048576), .tup [.own .str 0, .int .i64 (rflE rs h)], [.row true .str (rflL rs h)])
  | _ => none
set_option maxHeartbeats 4000000 in
theorem bRfl (rs : List (List (List UInt8))) (h : Int) (hp0 : rs.length ≤ 1048576) (hp1 : (∀ l ∈ rs, l.length ≤ 1048576 ∧ ∀ x ∈ l, x.length ≤ 1048576)) : bodyP (En CCmp tys G6 QPrs) Tryd.f19 [.o .str, .k] [.sl false (.sl .str) rs, .int .i64 h] (.tup [.own .str 0, .int .i64 (rflE rs h)]) [.row true .str (rflL rs h)] := by
  refine ⟨⟨by show rs.length ≤ 1048576; first | omega | assumption, by first | assumption | simp⟩, fun h0 => ?_, fun h0 => ?_⟩
  · replace h0 : (cmpE rs) ≠ 0 := h0
    have e : rflE rs h = cmpE rs := if_neg h0
    rw [rflL, if_neg (by rw [e]; exact h0), e]
    exact ⟨rfl, rfl, rfl, rfl⟩
  · replace h0 : ¬ ((cmpE rs) ≠ 0) := h0
    have hc := Classical.not_not.1 h0
    obtain ⟨c1, c2, c3⟩ := cmp0 hc
    refine ⟨rfl, trivial, fun h1 => ?_, fun h1 => ?_⟩
    · replace h1 : ¬ (knw h) := h1
      have e : rflE rs h = 8 := by unfold rflE; rw [if_pos hc, if_neg h1]
      rw [rflL, if_neg (by rw [e]; decide), e]
      exact ⟨rfl, rfl, rfl, rfl⟩
    · replace h1 : ¬ (¬ (knw h)) := h1
      have hk := Classical.not_not.1 h1
      obtain ⟨k1, k2⟩ := id hk
      refine ⟨1, [(1, .k), (6, .o (.arr 2 (.int .i64))), (8, .o .u8), (9, .o .str), (10, .k), (32, .k), (33, .k), (34, .k)], fun nM vs H => ∃ (k : Nat), k ≤ rs.length ∧ nM = rs.length - k ∧ vs = [.int .i64 h, .own (.arr 2 (.int .i64)) 0, .own .u8 1, .own .str 2, .int .i64 ((lastK rs k : Nat) : Int), .sl false (.sl .str) rs, .int .i64 (rs.length : Int), .int .i64 (k : Int)] ∧ H = [.row true (.arr 2 (.int .i64)) (cmpL rs), .row true .u8 (ptsK rs k), .row true .str (vlsK rs h k)], ⟨rfl, rs.length, 0, by omega, by omega, rfl, rfl⟩, ?_⟩
      rintro nM vs H ⟨k, hc1_0, rfl, rfl, rfl⟩
      refine ⟨fun h2 => ?_, fun h2 => ?_⟩
      · replace h2 : (k : Int) < (rs.length : Int) := h2
        have hkl : k < rs.length := by omega
        have hm := getD_mem [] rs k hkl
        have hpl := pts_len rs k
        have hvl := vls_len rs h k
        have hfl := full_len rs k
        refine ⟨⟨by show (0 : Int) ≤ (k : Int); omega, by show (k : Int) < (rs.length : Int); omega⟩, fun h3 => ?_, fun h3 => ?_⟩
        · replace h3 : 0 < (((rs.getD k []).length : Nat) : Int) := h3
          have hr := c2 _ hm (by omega)
          obtain ⟨r1, r2, r3, r4⟩ := right_ok hr
          have r5 : ∀ x ∈ rs.getD k [], x.length ≤ 1048576 := (hp1 _ hm).2
          have h3n : 0 < (rs.getD k []).length := by omega
          refine ⟨⟨by show (-9223372036854775808 : Int) ≤ ((k : Int) + 1); omega, by show ((k : Int) + 1) ≤ (9223372036854775807 : Int); omega⟩, ⟨rfl, rfl⟩, by show (ptsK rs k).length + ([UInt8.ofNat (((k : Int) + 1) % 256).toNat] : List UInt8).length ≤ 1000000000; simp only [List.length_cons, List.length_nil]; omega, ⟨by show (-9223372036854775808 : Int) ≤ (h + 1); omega, by show (h + 1) ≤ (9223372036854775807 : Int); omega⟩, ⟨by show 1 ≤ (rs.getD k []).length; first | omega | assumption | (simp only [List.length_cons, List.length_nil, List.length_append, List.length_take, List.length_drop, List.length_set, List.length_replicate]; omega), by show (rs.getD k []).length ≤ 1000000; first | omega | assumption | (simp only [List.length_cons, List.length_nil, List.length_append, List.length_take, List.length_drop, List.length_set, List.length_replicate]; omega), by first | assumption | simp⟩, ⟨rfl, rfl⟩, by show (vlsK rs h k).length + ([atL (rs.getD k []) (UInt8.ofNat ((h + 1) % 256).toNat)] : List (List UInt8)).length ≤ 1000000000; simp only [List.length_cons, List.length_nil]; omega, ⟨by show (-9223372036854775808 : Int) ≤ ((k : Int) + 1); omega, by show ((k : Int) + 1) ≤ (9223372036854775807 : Int); omega⟩, ?_⟩
          first
          | exact ⟨rfl, rs.length - (k + 1), by omega, k + 1, by omega, rfl, by rw [last_yes hkl h3n]; rfl, by rw [pts_yes h3n, vls_yes h3n]; rfl⟩
          | exact ⟨rfl, rs.length - (k + 1), by omega, k + 1, by omega, rfl, by rw [last_no hkl h3n]; rfl, by rw [pts_no h3n, vls_no h3n]; rfl⟩
        · replace h3 : ¬ (0 < (((rs.getD k []).length : Nat) : Int)) := h3
          have h3n : ¬ 0 < (rs.getD k []).length := by omega
          refine ⟨⟨by show (-9223372036854775808 : Int) ≤ ((k : Int) + 1); omega, by show ((k : Int) + 1) ≤ (9223372036854775807 : Int); omega⟩, ?_⟩
          first
          | exact ⟨rfl, rs.length - (k + 1), by omega, k + 1, by omega, rfl, by rw [last_yes hkl h3n]; rfl, by rw [pts_yes h3n, vls_yes h3n]; rfl⟩
          | exact ⟨rfl, rs.length - (k + 1), by omega, k + 1, by omega, rfl, by rw [last_no hkl h3n]; rfl, by rw [pts_no h3n, vls_no h3n]; rfl⟩
      · replace h2 : ¬ ((k : Int) < (rs.length : Int)) := h2
        have hkn : k = rs.length := by omega
        have hpl := pts_len rs k
        have hvl := vls_len rs h k
        have hfl := full_len rs k
        have hml := last_11 c2 k
        have hvs := vls_le (h := h) c2 hc1_0
        refine ⟨fun h4 => ?_, fun h4 => ?_⟩
        · replace h4 : ¬ (((lastK rs k : Nat) : Int) = 0) := h4
          refine ⟨fun h5 => ?_, fun h5 => ?_⟩
          · replace h5 : (((ptsK rs k).length : Nat) : Int) < ((lastK rs k : Nat) : Int) := h5
            have e : rflE rs h = 17 := by unfold rflE; rw [if_pos hc, if_pos hk, if_pos (.inr (by rw [← hkn]; omega))]
            rw [rflL, if_neg (by rw [e]; decide), e]
            exact ⟨rfl, rfl, rfl, rfl⟩
          · replace h5 : ¬ ((((ptsK rs k).length : Nat) : Int) < ((lastK rs k : Nat) : Int)) := h5
            have hno : ¬ (lastK rs rs.length = 0 ∨ (fullK rs rs.length).length < lastK rs rs.length) := by rw [← hkn]; omega
            refine ⟨fun h6 => ?_, fun h6 => ?_⟩
            · replace h6 : 0 < (((cmpL rs).length : Nat) : Int) := h6
              have e : rflE rs h = 4 := by unfold rflE; rw [if_pos hc, if_pos hk, if_neg hno, if_neg (fun g => by rw [g] at h6; simp at h6)]
              rw [rflL, if_neg (by rw [e]; decide), e]
              exact ⟨rfl, rfl, rfl, rfl⟩
            · replace h6 : ¬ (0 < (((cmpL rs).length : Nat) : Int)) := h6
              have hcl : cmpL rs = [] := List.eq_nil_of_length_eq_zero (by omega)
              have e0 : rflE rs h = 0 := by unfold rflE; rw [if_pos hc, if_pos hk, if_neg hno, if_pos hcl]
              refine ⟨by kernel_rfl, ⟨by omega, by omega⟩, ⟨by omega, by omega⟩, ⟨rfl, by show (0 : Int) ≤ ((lastK rs k : Nat) : Int); omega, by show ((lastK rs k : Nat) : Int) ≤ (1000000000 : Int); omega⟩, 3, [(8, .k), (10, .k), (13, .o .str), (78, .k), (79, .k), (80, .k)], fun nM vs H => ∃ (i : Nat), i ≤ (lastK rs k) ∧ nM = (lastK rs k) - i ∧ vs = [.slc .u8 1 0 (lastK rs k - 0), .int .i64 ((lastK rs k : Nat) : Int), .own .str 3, .slc .str 2 0 (lastK rs k - 0), .int .i64 (((lastK rs k - 0) : Nat) : Int), .int .i64 (i : Int)] ∧ H = [.row true (.arr 2 (.int .i64)) (cmpL rs), .row true .u8 (ptsK rs k), .row true .str (vlsK rs h k), .row true .str (outS ((ptsK rs k).take (lastK rs k)) (vlsK rs h k) (lastK rs k) i)], ⟨rfl, (lastK rs k), 0, by omega, by omega, rfl, rfl⟩, ?_⟩
              rintro nM vs H ⟨i, hc2_0, rfl, rfl, rfl⟩
              refine ⟨fun h7 => ?_, fun h7 => ?_⟩
              · replace h7 : (i : Int) < (((lastK rs k - 0) : Nat) : Int) := h7
                have hi : i < lastK rs k := by omega
                have hV : ((vlsK rs h k).getD (0 + i) []).length ≤ 4096 := hvs _ (by rw [Nat.zero_add]; exact getD_mem [] _ i (by omega))
                have hrl : (List.replicate (lastK rs k) (0 : UInt8)).length = lastK rs k := List.length_replicate ..
                have hos := outS_le (ps := ((ptsK rs k).take (lastK rs k))) (m := lastK rs k) hvs i
                have hsl := outS_len ((ptsK rs k).take (lastK rs k)) (vlsK rs h k) (lastK rs k) i
                have hVV : (vlsK rs h k).getD i [] = (vlsK rs h k).getD (0 + i) [] := by rw [Nat.zero_add]
                refine ⟨⟨by show (0 : Int) ≤ (i : Int); omega, by show (i : Int) < ((lastK rs k - 0) : Int); omega⟩, ⟨rfl, by show (0 : Int) ≤ ((lastK rs k : Nat) : Int); omega, by show ((lastK rs k : Nat) : Int) ≤ (1000000000 : Int); omega⟩, ⟨by show (0 : Int) ≤ (i : Int); omega, by show (i : Int) < ((List.replicate (lastK rs k) 0).length : Int); omega⟩, ⟨rfl, rfl⟩, ⟨by show (((ptsK rs k).drop 0).take (lastK rs k - 0)).length ≤ 10000; first | omega | assumption | (simp only [List.length_cons, List.length_nil, List.length_append, List.length_take, List.length_drop, List.length_set, List.length_replicate]; omega), by show ((List.replicate (lastK rs k) 0).set i 1).length ≤ 10000; first | omega | assumption | (simp only [List.length_cons, List.length_nil, List.length_append, List.length_take, List.length_drop, List.length_set, List.length_replicate]; omega)⟩, 3, [(8, .k), (10, .k), (13, .o .str), (14, .k), (15, .k), (17, .o .u8), (78, .k), (79, .k), (80, .k), (96, .k), (97, .k)], fun nM vs H => ∃ (a : Nat), a ≤ (lastK rs k) ∧ nM = (lastK rs k) - a ∧ vs = [.slc .u8 1 0 (lastK rs k - 0), .int .i64 ((lastK rs k : Nat) : Int), .own .str 3, .int .i64 (i : Int), .str ((vlsK rs h k).getD (0 + i) []), .own .u8 4, .slc .str 2 0 (lastK rs k - 0), .int .i64 (((lastK rs k - 0) : Nat) : Int), .int .i64 (i : Int), .int .i64 ((lastK rs k : Nat) : Int), .int .i64 (a : Int)] ∧ H = [.row true (.arr 2 (.int .i64)) (cmpL rs), .row true .u8 (ptsK rs k), .row true .str (vlsK rs h k), .row true .str (outP ((ptsK rs k).take (lastK rs k)) (vlsK rs h k) (lastK rs k) i (outS ((ptsK rs k).take (lastK rs k)) (vlsK rs h k) (lastK rs k) i) a), .row true .u8 ((ipL (((ptsK rs k).drop 0).take (lastK rs k - 0)) ((List.replicate (lastK rs k) 0).set i 1)).1)], ⟨rfl, (lastK rs k), 0, by omega, by omega, rfl, by rw [outP_zero (outS_len _ _ _ i)]; rfl⟩, ?_⟩
                rintro nM vs H ⟨a, hc3_0, rfl, rfl, rfl⟩
                refine ⟨fun h8 => ?_, fun h8 => ?_⟩
                · replace h8 : (a : Int) < ((lastK rs k : Nat) : Int) := h8
                  have ha : a < lastK rs k := by omega
                  have hol := outP_len ((ptsK rs k).take (lastK rs k)) (vlsK rs h k) (lastK rs k) i (outS ((ptsK rs k).take (lastK rs k)) (vlsK rs h k) (lastK rs k) i) a
                  have hog : ((outP ((ptsK rs k).take (lastK rs k)) (vlsK rs h k) (lastK rs k) i (outS ((ptsK rs k).take (lastK rs k)) (vlsK rs h k) (lastK rs k) i) a).getD a []).length ≤ 4096 := by rw [outP_get ha]; exact hos _ (getD_mem [] _ a (by omega))
                  refine ⟨fun h9 => ?_, fun h9 => ?_⟩
                  · replace h9 : (a : Int) < ((((ipL (((ptsK rs k).drop 0).take (lastK rs k - 0)) ((List.replicate (lastK rs k) 0).set i 1)).1).length : Nat) : Int) := h9
                    refine ⟨⟨by show (0 : Int) ≤ (a : Int); omega, by show (a : Int) < (((ipL (((ptsK rs k).drop 0).take (lastK rs k - 0)) ((List.replicate (lastK rs k) 0).set i 1)).1).length : Int); omega⟩, fun h10 => ?_, fun h10 => ?_⟩
                    · replace h10 : (i : Int) = 0 := h10
                      have hst := out_first (ps := ((ptsK rs k).take (lastK rs k))) (vs := (vlsK rs h k)) (old := (outS ((ptsK rs k).take (lastK rs k)) (vlsK rs h k) (lastK rs k) i)) (by omega : i = 0) ha
                      rw [hVV] at hst
                      refine ⟨by show ((vlsK rs h k).getD (0 + i) []).length ≤ 1000000000; first | omega | assumption | (simp only [List.length_cons, List.length_nil, List.length_append, List.length_take, List.length_drop, List.length_set, List.length_replicate]; omega), ⟨by show (0 : Int) ≤ (a : Int); omega, by show (a : Int) < ((outP ((ptsK rs k).take (lastK rs k)) (vlsK rs h k) (lastK rs k) i (outS ((ptsK rs k).take (lastK rs k)) (vlsK rs h k) (lastK rs k) i) a).length : Int); omega⟩, ⟨rfl, rfl⟩, ⟨by show (-9223372036854775808 : Int) ≤ ((a : Int) + 1); omega, by show ((a : Int) + 1) ≤ (9223372036854775807 : Int); omega⟩, ?_⟩
                      exact ⟨rfl, lastK rs k - (a + 1), by omega, a + 1, by omega, rfl, rfl, by rw [← hst]; rfl⟩
                    · replace h10 : ¬ ((i : Int) = 0) := h10
                      have hst := out_next (ps := ((ptsK rs k).take (lastK rs k))) (vs := (vlsK rs h k)) (old := (outS ((ptsK rs k).take (lastK rs k)) (vlsK rs h k) (lastK rs k) i)) (by omega : ¬ i = 0) ha
                      rw [hVV] at hst
                      refine ⟨by kernel_rfl, ⟨by show (0 : Int) ≤ (a : Int); omega, by show (a : Int) < ((outP ((ptsK rs k).take (lastK rs k)) (vlsK rs h k) (lastK rs k) i (outS ((ptsK rs k).take (lastK rs k)) (vlsK rs h k) (lastK rs k) i) a).length : Int); omega⟩, by show ((vlsK rs h k).getD (0 + i) []).length ≤ 1000000000; first | omega | assumption | (simp only [List.length_cons, List.length_nil, List.length_append, List.length_take, List.length_drop, List.length_set, List.length_replicate]; omega), ⟨by show 1 ≤ ([((outP ((ptsK rs k).take (lastK rs k)) (vlsK rs h k) (lastK rs k) i (outS ((ptsK rs k).take (lastK rs k)) (vlsK rs h k) (lastK rs k) i) a).getD a []), scaleB (((ipL (((ptsK rs k).drop 0).take (lastK rs k - 0)) ((List.replicate (lastK rs k) 0).set i 1)).1).getD a 0) ((vlsK rs h k).getD (0 + i) [])] : List (List UInt8)).length; first | omega | assumption | (simp only [List.length_cons, List.length_nil, List.length_append, List.length_take, List.length_drop, List.length_set, List.length_replicate]; omega), by show ([((outP ((ptsK rs k).take (lastK rs k)) (vlsK rs h k) (lastK rs k) i (outS ((ptsK rs k).take (lastK rs k)) (vlsK rs h k) (lastK rs k) i) a).getD a []), scaleB (((ipL (((ptsK rs k).drop 0).take (lastK rs k - 0)) ((List.replicate (lastK rs k) 0).set i 1)).1).getD a 0) ((vlsK rs h k).getD (0 + i) [])] : List (List UInt8)).length ≤ 1000000; first | omega | assumption | (simp only [List.length_cons, List.length_nil, List.length_append, List.length_take, List.length_drop, List.length_set, List.length_replicate]; omega), by show (∀ x ∈ ([((outP ((ptsK rs k).take (lastK rs k)) (vlsK rs h k) (lastK rs k) i (outS ((ptsK rs k).take (lastK rs k)) (vlsK rs h k) (lastK rs k) i) a).getD a []), scaleB (((ipL (((ptsK rs k).drop 0).take (lastK rs k - 0)) ((List.replicate (lastK rs k) 0).set i 1)).1).getD a 0) ((vlsK rs h k).getD (0 + i) [])] : List (List UInt8)), x.length ≤ 1048576); exact two_len (by omega) (by rw [scale_len]; omega)⟩, ⟨by show (0 : Int) ≤ (a : Int); omega, by show (a : Int) < ((outP ((ptsK rs k).take (lastK rs k)) (vlsK rs h k) (lastK rs k) i (outS ((ptsK rs k).take (lastK rs k)) (vlsK rs h k) (lastK rs k) i) a).length : Int); omega⟩, ⟨rfl, rfl⟩, ⟨by show (-9223372036854775808 : Int) ≤ ((a : Int) + 1); omega, by show ((a : Int) + 1) ≤ (9223372036854775807 : Int); omega⟩, ?_⟩
                      exact ⟨rfl, lastK rs k - (a + 1), by omega, a + 1, by omega, rfl, rfl, by rw [← hst]; rfl⟩
                  · replace h9 : ¬ ((a : Int) < ((((ipL (((ptsK rs k).drop 0).take (lastK rs k - 0)) ((List.replicate (lastK rs k) 0).set i 1)).1).length : Nat) : Int)) := h9
                    have hc0 : coefP ((ptsK rs k).take (lastK rs k)) (lastK rs k) i a = 0 := coef_out (by show ¬ a < (ipL (((ptsK rs k).drop 0).take (lastK rs k - 0)) ((List.replicate (lastK rs k) 0).set i 1)).1.length; omega)
                    refine ⟨fun h11 => ?_, fun h11 => ?_⟩
                    · replace h11 : (i : Int) = 0 := h11
                      have hst := out_first (ps := ((ptsK rs k).take (lastK rs k))) (vs := (vlsK rs h k)) (old := (outS ((ptsK rs k).take (lastK rs k)) (vlsK rs h k) (lastK rs k) i)) (by omega : i = 0) ha
                      rw [hVV, hc0] at hst
                      refine ⟨by show ((vlsK rs h k).getD (0 + i) []).length ≤ 1000000000; first | omega | assumption | (simp only [List.length_cons, List.length_nil, List.length_append, List.length_take, List.length_drop, List.length_set, List.length_replicate]; omega), ⟨by show (0 : Int) ≤ (a : Int); omega, by show (a : Int) < ((outP ((ptsK rs k).take (lastK rs k)) (vlsK rs h k) (lastK rs k) i (outS ((ptsK rs k).take (lastK rs k)) (vlsK rs h k) (lastK rs k) i) a).length : Int); omega⟩, ⟨rfl, rfl⟩, ⟨by show (-9223372036854775808 : Int) ≤ ((a : Int) + 1); omega, by show ((a : Int) + 1) ≤ (9223372036854775807 : Int); omega⟩, ?_⟩
                      exact ⟨rfl, lastK rs k - (a + 1), by omega, a + 1, by omega, rfl, rfl, by rw [← hst]; rfl⟩
                    · replace h11 : ¬ ((i : Int) = 0) := h11
                      have hst := out_next (ps := ((ptsK rs k).take (lastK rs k))) (vs := (vlsK rs h k)) (old := (outS ((ptsK rs k).take (lastK rs k)) (vlsK rs h k) (lastK rs k) i)) (by omega : ¬ i = 0) ha
                      rw [hVV, hc0] at hst
                      refine ⟨by kernel_rfl, ⟨by show (0 : Int) ≤ (a : Int); omega, by show (a : Int) < ((outP ((ptsK rs k).take (lastK rs k)) (vlsK rs h k) (lastK rs k) i (outS ((ptsK rs k).take (lastK rs k)) (vlsK rs h k) (lastK rs k) i) a).length : Int); omega⟩, by show ((vlsK rs h k).getD (0 + i) []).length ≤ 1000000000; first | omega | assumption | (simp only [List.length_cons, List.length_nil, List.length_append, List.length_take, List.length_drop, List.length_set, List.length_replicate]; omega), ⟨by show 1 ≤ ([((outP ((ptsK rs k).take (lastK rs k)) (vlsK rs h k) (lastK rs k) i (outS ((ptsK rs k).take (lastK rs k)) (vlsK rs h k) (lastK rs k) i) a).getD a []), scaleB 0 ((vlsK rs h k).getD (0 + i) [])] : List (List UInt8)).length; first | omega | assumption | (simp only [List.length_cons, List.length_nil, List.length_append, List.length_take, List.length_drop, List.length_set, List.length_replicate]; omega), by show ([((outP ((ptsK rs k).take (lastK rs k)) (vlsK rs h k) (lastK rs k) i (outS ((ptsK rs k).take (lastK rs k)) (vlsK rs h k) (lastK rs k) i) a).getD a []), scaleB 0 ((vlsK rs h k).getD (0 + i) [])] : List (List UInt8)).length ≤ 1000000; first | omega | assumption | (simp only [List.length_cons, List.length_nil, List.length_append, List.length_take, List.length_drop, List.length_set, List.length_replicate]; omega), by show (∀ x ∈ ([((outP ((ptsK rs k).take (lastK rs k)) (vlsK rs h k) (lastK rs k) i (outS ((ptsK rs k).take (lastK rs k)) (vlsK rs h k) (lastK rs k) i) a).getD a []), scaleB 0 ((vlsK rs h k).getD (0 + i) [])] : List (List UInt8)), x.length ≤ 1048576); exact two_len (by omega) (by rw [scale_len]; omega)⟩, ⟨by show (0 : Int) ≤ (a : Int); omega, by show (a : Int) < ((outP ((ptsK rs k).take (lastK rs k)) (vlsK rs h k) (lastK rs k) i (outS ((ptsK rs k).take (lastK rs k)) (vlsK rs h k) (lastK rs k) i) a).length : Int); omega⟩, ⟨rfl, rfl⟩, ⟨by show (-9223372036854775808 : Int) ≤ ((a : Int) + 1); omega, by show ((a : Int) + 1) ≤ (9223372036854775807 : Int); omega⟩, ?_⟩
                      exact ⟨rfl, lastK rs k - (a + 1), by omega, a + 1, by omega, rfl, rfl, by rw [← hst]; rfl⟩
                · replace h8 : ¬ ((a : Int) < ((lastK rs k : Nat) : Int)) := h8
                  refine ⟨⟨by show (-9223372036854775808 : Int) ≤ ((i : Int) + 1); omega, by show ((i : Int) + 1) ≤ (9223372036854775807 : Int); omega⟩, ?_⟩
                  exact ⟨rfl, lastK rs k - (i + 1), by omega, i + 1, by omega, rfl, rfl, by (have ham : a = lastK rs k := by omega); subst ham; rw [← outP_all]; rfl⟩
              · replace h7 : ¬ ((i : Int) < (((lastK rs k - 0) : Nat) : Int)) := h7
                have hie : i = lastK rs k := by omega
                rw [rflL, if_pos e0, e0, rflO, ← hkn, ← hie]
                exact ⟨rfl, rfl, rfl, rfl⟩
        · replace h4 : ((lastK rs k : Nat) : Int) = 0 := h4
          have e : rflE rs h = 17 := by unfold rflE; rw [if_pos hc, if_pos hk, if_pos (.inl (by rw [← hkn]; omega))]
          rw [rflL, if_neg (by rw [e]; decide), e]
          exact ⟨rfl, rfl, rfl, rfl⟩
def CRfl : List (Nat × Con) := (19, pureC [.v (.sl (.sl .str)), .v (.int .i64)] sRfl) :: CCmp
theorem kRfl : Known Tryd.prog (En CRfl tys G6 QPrs) := kCmp.add Tryd.func19 Tryd.call19 [.o .str, .k] fun ds p v bs h hp => by
  unfold sRfl at h
  split at h <;> simp only [Option.some.injEq, Prod.mk.injEq, reduceCtorEq] at h
  obtain ⟨rfl, rfl, rfl⟩ := h
  exact bRfl _ _ hp.1 hp.2
end Go.Proofs.YtcodgflbafanlaaDoor.S27

namespace Go.Proofs.YtcodgflbafanlaaDoor.S27
open Go

/-! ### deals that are made -/
theorem kr4 {P : Prop} {v : Go.Proofs.YtcodgflbafanlaaDoor.Vc.V} (h : ((true = true) ∧ (true = true) ∧ (v = v) ∧ (([] : List Go.Proofs.YtcodgflbafanlaaDoor.Vc.Blk) = [])) = P) : P := Eq.mp h ⟨rfl, rfl, rfl, rfl⟩
theorem prod_bd {nd sz : Int} (h2 : 2 ≤ nd) (h12 : nd ≤ 12) (hz : 0 ≤ sz) (h4 : sz ≤ 4096) : (0 ≤ sz * (nd - 1) ∧ sz * (nd - 1) ≤ 45056) ∧ (0 ≤ (sz * (nd - 1)) * ((nd - 1) + 1) ∧ (sz * (nd - 1)) * ((nd - 1) + 1) ≤ 540672) ∧ ((sz * (nd - 1)) * ((nd - 1) + 1)) / 2 = sz * (((nd - 1) * nd) / 2) := by
  obtain rfl | rfl | rfl | rfl | rfl | rfl | rfl | rfl | rfl | rfl | rfl : nd = 2 ∨ nd = 3 ∨ nd = 4 ∨ nd = 5 ∨ nd = 6 ∨ nd = 7 ∨ nd = 8 ∨ nd = 9 ∨ nd = 10 ∨ nd = 11 ∨ nd = 12 := by omega
  all_goals omega
theorem yy {p X Y : Prop} (h : p) (x : X) : (p → X) ∧ (¬p → Y) := ⟨fun _ => x, fun g => absurd h g⟩
theorem nn {p X Y : Prop} (h : ¬p) (y : Y) : (p → X) ∧ (¬p → Y) := ⟨fun g => absurd g h, fun _ => y⟩
theorem ww {α β : Sort _} {a : α} {b : β} : a = a ∧ b = b := ⟨rfl, rfl⟩
theorem ww3 {α β γ : Sort _} {a : α} {b : β} {c : γ} : a = a ∧ b = b ∧ c = c := ⟨rfl, rfl, rfl⟩
theorem q {p : Prop} [d : Decidable p] (h : Decidable.decide p = true := by kernel_rfl) : p := of_decide_eq_true h
def dn (z : Nat) : Nat → List UInt8 → List UInt8
  | 0, s => s
  | k + 1, s => (dn z k s).drop z
theorem dn_eq (z : Nat) : ∀ (k : Nat) (s : List UInt8), dn z k s = s.drop (k * z)
  | 0, s => by simp [dn]
  | k + 1, s => by rw [dn, dn_eq z k s, List.drop_drop, Nat.succ_mul]
theorem dn_len (z k : Nat) (s : List UInt8) : (dn z k s).length = s.length - k * z := by rw [dn_eq, List.length_drop]
theorem cutOk {sz : Int} {s : List UInt8} (K : Nat) (h0 : 0 ≤ sz) (hl : (s.length : Int) = sz * (K : Int)) (k : Nat) (hk : k < K := by decide) : 0 ≤ sz ∧ sz ≤ ((dn sz.toNat k s).length : Int) := by
  refine ⟨h0, ?_⟩
  rw [dn_len]
  obtain ⟨z, rfl⟩ := Int.eq_ofNat_of_zero_le h0
  have h1 : s.length = z * K := by exact_mod_cast hl
  have h2 : (k + 1) * z ≤ K * z := Nat.mul_le_mul_right z hk
  rw [Nat.succ_mul] at h2
  rw [h1, Nat.mul_comm z K]
  show (z : Int) ≤ ((K * z - k * z : Nat) : Int)
  omega
def posT (m a b : Nat) : Nat := bif Nat.ble a b then a * m - a * (a - 1) / 2 + (b - a) else b * m - b * (b - 1) / 2 + (a - b)
def mkD (m z : Nat) (s : List UInt8) : List Rw := (List.range m).map fun a => (List.range m).map fun b => (dn z (posT m a b) s).take z
def mkE (nd sz : Int) (s : List UInt8) : Int := if nd < 2 ∨ 12 < nd ∨ sz < 0 ∨ 4096 < sz then 3 else if (s.length : Int) = sz * (((nd - 1) * nd) / 2) then 0 else 1
def mkN (nd sz : Int) (s : List UInt8) : Int := if mkE nd sz s = 0 then nd else 0
def mkC (nd sz : Int) (s : List UInt8) : List Rw := if mkE nd sz s = 0 then mkD (nd - 1).toNat sz.toNat s else []
theorem mkE3 {nd sz : Int} {s : List UInt8} (h : nd < 2 ∨ 12 < nd ∨ sz < 0 ∨ 4096 < sz) : mkE nd sz s = 3 ∧ mkN nd sz s = 0 ∧ mkC nd sz s = [] := by
  have e : mkE nd sz s = 3 := if_pos h
  refine ⟨e, if_neg (by rw [e]; decide), if_neg (by rw [e]; decide)⟩
theorem mkE1 {nd sz : Int} {s : List UInt8} (h : ¬ (nd < 2 ∨ 12 < nd ∨ sz < 0 ∨ 4096 < sz)) (hl : (s.length : Int) ≠ sz * (((nd - 1) * nd) / 2)) : mkE nd sz s = 1 ∧ mkN nd sz s = 0 ∧ mkC nd sz s = [] := by
  have e : mkE nd sz s = 1 := by unfold mkE; rw [if_neg h, if_neg hl]
  refine ⟨e, if_neg (by rw [e]; decide), if_neg (by rw [e]; decide)⟩
theorem mkE0 {nd sz : Int} {s : List UInt8} (h : ¬ (nd < 2 ∨ 12 < nd ∨ sz < 0 ∨ 4096 < sz)) (hl : (s.length : Int) = sz * (((nd - 1) * nd) / 2)) : mkE nd sz s = 0 ∧ mkN nd sz s = nd ∧ mkC nd sz s = mkD (nd - 1).toNat sz.toNat s := by
  have e : mkE nd sz s = 0 := by unfold mkE; rw [if_neg h, if_pos hl]
  refine ⟨e, if_pos e, if_pos e⟩
end Go.Proofs.YtcodgflbafanlaaDoor.S27

namespace Go.Proofs.YtcodgflbafanlaaDoor.S27
open Go

/-! ### the reference's deals -/
def fr (sz : Int) : Nat → Int
  | 0 => 0
  | k + 1 => fr sz k + sz
def cutR (sz : Int) (s : List UInt8) (k : Nat) : List UInt8 := (s.drop (fr sz k).toNat).take ((fr sz (k + 1)).toNat - (fr sz k).toNat)
def mkR (m : Nat) (sz : Int) (s : List UInt8) : List Rw := (List.range m).map fun a => (List.range m).map fun b => cutR sz s (posT m a b)
theorem fr_eq (z : Nat) : ∀ k, fr (z : Int) k = ((k * z : Nat) : Int)
  | 0 => by rw [fr, Nat.zero_mul]; rfl
  | k + 1 => by rw [fr, fr_eq z k, Nat.succ_mul]; omega
theorem frR {sz : Int} (hz : 0 ≤ sz) (h1 : sz ≤ 4096) (k : Nat) (hk : k ≤ 66 := by decide) : (-9223372036854775808 : Int) ≤ fr sz k ∧ fr sz k ≤ (9223372036854775807 : Int) := by
  obtain ⟨z, rfl⟩ := Int.eq_ofNat_of_zero_le hz
  have h2 : k * z ≤ 66 * 4096 := Nat.mul_le_mul hk (by omega)
  rw [fr_eq]; omega
theorem frC {sz : Int} {s : List UInt8} (K : Nat) (hz : 0 ≤ sz) (hl : (s.length : Int) = sz * (K : Int)) (k : Nat) (hk : k < K := by decide) : 0 ≤ fr sz k ∧ fr sz k ≤ fr sz (k + 1) ∧ fr sz (k + 1) ≤ (s.length : Int) := by
  obtain ⟨z, rfl⟩ := Int.eq_ofNat_of_zero_le hz
  have h1 : s.length = z * K := by exact_mod_cast hl
  have h2 : (k + 1) * z ≤ K * z := Nat.mul_le_mul_right z hk
  rw [fr_eq, fr_eq, h1, Nat.mul_comm z K]
  rw [Nat.succ_mul] at h2 ⊢
  omega
theorem mkR_eq {m : Nat} {sz : Int} {s : List UInt8} (hz : 0 ≤ sz) : mkR m sz s = mkD m sz.toNat s := by
  obtain ⟨z, rfl⟩ := Int.eq_ofNat_of_zero_le hz
  unfold mkR mkD
  refine List.map_congr_left fun a _ => List.map_congr_left fun b _ => ?_
  unfold cutR
  rw [fr_eq, fr_eq, dn_eq, Nat.succ_mul]
  rw [show (((posT m a b * z : Nat) : Int)).toNat = posT m a b * z from rfl, show (((posT m a b * z + z : Nat) : Int)).toNat = posT m a b * z + z from rfl, show ((z : Int)).toNat = z from rfl, Nat.add_sub_cancel_left]
/-! ### what the reference says of a deal -/
section
variable {nd : Int} {cf : List Rw}
theorem ck_pre (h1 : ¬ (nd < 2 ∨ 12 < nd)) (h2 : ¬ (cf.length : Int) ≠ nd - 1) : chkD nd cf = if cf.all (lenB cf) = false then 1 else if 4096 < n00 cf then 2 else if symB cf cf.length = false then 1 else 0 := by
  unfold chkD; rw [if_neg h1, if_neg h2]
theorem ck_bad (h1 : ¬ (nd < 2 ∨ 12 < nd)) (h2 : ¬ (cf.length : Int) ≠ nd - 1) {a : Nat} (ha : a < cf.length) (h : lenB cf (cf.getD a []) = false) : chkD nd cf = 1 := by
  rw [ck_pre h1 h2, if_pos]
  cases e : cf.all (lenB cf) with
  | false => rfl
  | true => rw [List.all_eq_true.1 e _ (getD_mem [] cf a ha)] at h; cases h
theorem ck_len (h1 : ¬ (nd < 2 ∨ 12 < nd)) (h2 : ¬ (cf.length : Int) ≠ nd - 1) {a : Nat} (ha : a < cf.length) (h : ¬ (cf.getD a []).length = cf.length) : chkD nd cf = 1 := ck_bad h1 h2 ha (lenB_bad1 h)
theorem ck_ent (h1 : ¬ (nd < 2 ∨ 12 < nd)) (h2 : ¬ (cf.length : Int) ≠ nd - 1) (hl : ∀ i, i < cf.length → (cf.getD i []).length = cf.length) {a b : Nat} (ha : a < cf.length) (hb : b < cf.length) (h : ¬ ((cf.getD a []).getD b []).length = n00 cf) : chkD nd cf = 1 := by
  refine ck_bad h1 h2 ha (lenB_bad3 ?_)
  cases e : (cf.getD a []).all (fun s => decide (s.length = n00 cf)) with
  | false => rfl
  | true => exact absurd (of_decide_eq_true (List.all_eq_true.1 e _ (getD_mem [] _ b (by rw [hl a ha]; exact hb)))) h
theorem ck_all (h0 : 0 < cf.length) (hl : ∀ i, i < cf.length → (cf.getD i []).length = cf.length) (he : ∀ i j, i < cf.length → j < cf.length → ((cf.getD i []).getD j []).length = n00 cf) : cf.all (lenB cf) = true := by
  refine List.all_eq_true.2 fun l hm => ?_
  obtain ⟨i, hi, e⟩ := List.mem_iff_getElem.1 hm
  have e : cf.getD i [] = l := by rw [List.getD_eq_getElem?_getD, List.getElem?_eq_getElem hi]; exact e
  refine lenB_yes (e ▸ hl i hi) (hl 0 h0) (List.all_eq_true.2 fun s hs => decide_eq_true ?_)
  obtain ⟨j, hj, e2⟩ := List.mem_iff_getElem.1 hs
  have e2 : l.getD j [] = s := by rw [List.getD_eq_getElem?_getD, List.getElem?_eq_getElem hj]; exact e2
  have hj2 : j < cf.length := by rw [← hl i hi, e]; exact hj
  have := he i j hi hj2
  rw [e, e2] at this
  exact this
theorem ck_lim (h1 : ¬ (nd < 2 ∨ 12 < nd)) (h2 : ¬ (cf.length : Int) ≠ nd - 1) (hl : ∀ i, i < cf.length → (cf.getD i []).length = cf.length) (he : ∀ i j, i < cf.length → j < cf.length → ((cf.getD i []).getD j []).length = n00 cf) (h : 4096 < n00 cf) : chkD nd cf = 2 := by
  rw [ck_pre h1 h2, if_neg (by rw [ck_all (by omega) hl he]; decide), if_pos h]
theorem sym_get (h : symB cf cf.length = true) {a b : Nat} (ha : a < cf.length) (hb : b < a) : (cf.getD a []).getD b [] = (cf.getD b []).getD a [] :=
  of_decide_eq_true (List.all_eq_true.1 (List.all_eq_true.1 h a (List.mem_range.2 ha)) b (List.mem_range.2 hb))
theorem ck_sym (h1 : ¬ (nd < 2 ∨ 12 < nd)) (h2 : ¬ (cf.length : Int) ≠ nd - 1) (hl : ∀ i, i < cf.length → (cf.getD i []).length = cf.length) (he : ∀ i j, i < cf.length → j < cf.length → ((cf.getD i []).getD j []).length = n00 cf) (h3 : ¬ 4096 < n00 cf) {a b : Nat} (ha : a < cf.length) (hb : b < cf.length) (h : ¬ (cf.getD a []).getD b [] = (cf.getD b []).getD a []) : chkD nd cf = 1 := by
  rw [ck_pre h1 h2, if_neg (by rw [ck_all (by omega) hl he]; decide), if_neg h3, if_pos]
  cases e : symB cf cf.length with
  | false => rfl
  | true =>
    exfalso
    rcases Nat.lt_trichotomy a b with g | g | g
    · exact h (sym_get e hb g).symm
    · subst g; exact h rfl
    · exact h (sym_get e ha g)
theorem ck_okR (h1 : ¬ (nd < 2 ∨ 12 < nd)) (h2 : ¬ (cf.length : Int) ≠ nd - 1) (hl : ∀ i, i < cf.length → (cf.getD i []).length = cf.length) (he : ∀ i j, i < cf.length → j < cf.length → ((cf.getD i []).getD j []).length = n00 cf) (h3 : ¬ 4096 < n00 cf) (hs : ∀ i j, i < cf.length → j < cf.length → (cf.getD i []).getD j [] = (cf.getD j []).getD i []) : chkD nd cf = 0 := by
  rw [ck_pre h1 h2, if_neg (by rw [ck_all (by omega) hl he]; decide), if_neg h3, if_neg]
  intro g
  have : symB cf cf.length = true := List.all_eq_true.2 fun a ha => List.all_eq_true.2 fun b hb => decide_eq_true (hs a b (List.mem_range.1 ha) (by have := List.mem_range.1 ha; have := List.mem_range.1 hb; omega))
  rw [this] at g; cases g
theorem lt_ext {p : Nat → Prop} {k : Nat} (h : ∀ i, i < k → p i) (hk : p k) : ∀ i, i < k + 1 → p i := fun i hi => by
  rcases Nat.lt_or_ge i k with g | g
  · exact h i g
  · rw [show i = k by omega]; exact hk
end
end Go.Proofs.YtcodgflbafanlaaDoor.S27

namespace Go.Proofs.YtcodgflbafanlaaDoor.S27
open Go Go.Proofs.YtcodgflbafanlaaDoor.Vc Go.Proofs
set_option maxRecDepth 100000
set_option linter.unusedVariables false
def sRk : List V → Option (Prop × V × List Blk)
  | [.int .i64 nd, .int .i64 sz, .str nz] => some (True, .agg [.int .i64 (mkN nd sz nz), .sl true (.sl .str) (mkC nd sz nz), .int .i64 (mkE nd sz nz)], [])
  | _ => none
def CRk : List (Nat × Con) := (7, pureC [.v (.int .i64), .v (.int .i64), .v .str] sRk) :: CRfl
end Go.Proofs.YtcodgflbafanlaaDoor.S27

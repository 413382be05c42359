/- Texts of this claim: S27d.H1, S27d.Py, S27d.Pz, S27d.Cd0. -/
import Derived.Test.YtcodgflbafanlaaDoorS12
import Derived.Test.YtcodgflbafanlaaDoorS2
import Derived.Test.YtcodgflbafanlaaDoorVc10
import Derived.Test.YtcodgflbafanlaaDoorCards
import Derived.Test.YtcodgflbafanlaaDoorTie
import Derived.WalkKit
import Derived.ProofKit
import Derived.OpenShut
import Derived.Deep.DeepHandedRow
import Derived.Lib.LaidTab
set_option linter.unusedVariables false
set_option linter.unusedSimpArgs false
namespace Go.Proofs.YtcodgflbafanlaaDoor.S27
open Go Go.Proofs.YtcodgflbafanlaaDoor.Vc Go.Proofs
set_option maxRecDepth 100000
set_option linter.unusedVariables false

def sRChk : List V → Option (Prop × V × List Blk)
  | [.agg [.int .i64 nd, .sl false (.sl .str) cf]] => some (cf.length ≤ 1048576 ∧ (∀ l ∈ cf, l.length ≤ 1048576 ∧ ∀ x ∈ l, x.length ≤ 1048576), .int .i64 (chkD nd cf), [])
  | _ => none
set_option maxHeartbeats 2000000 in
theorem bRChk (nd : Int) (cf : List (List (List UInt8))) (hp0 : cf.length ≤ 1048576) (hp1 : (∀ l ∈ cf, l.length ≤ 1048576 ∧ ∀ x ∈ l, x.length ≤ 1048576)) : bodyP (En CRAt tys G6 QPrs) Tryd.f11 [.k] [.agg [.int .i64 nd, .sl false (.sl .str) cf]] (.int .i64 (chkD nd cf)) [] := by
  refine ⟨fun h0 => ?_, fun h0 => ?_⟩
  · replace h0 : ¬ (nd < 2) := h0
    refine ⟨fun h1 => ?_, fun h1 => ?_⟩
    · replace h1 : 12 < nd := h1
      have e : chkD nd cf = 3 := if_pos (by omega)
      rw [e]
      exact ⟨rfl, rfl, rfl, rfl⟩
    · replace h1 : ¬ (12 < nd) := h1
      have hnd : ¬ (nd < 2 ∨ 12 < nd) := by omega
      refine ⟨⟨by show (-9223372036854775808 : Int) ≤ (nd - 1); omega, by show (nd - 1) ≤ (9223372036854775807 : Int); omega⟩, fun h2 => ?_, fun h2 => ?_⟩
      · replace h2 : (cf.length : Int) ≠ (nd - 1) := h2
        have e : chkD nd cf = 1 := by unfold chkD; rw [if_neg hnd, if_pos h2]
        rw [e]
        exact ⟨rfl, rfl, rfl, rfl⟩
      · replace h2 : ¬ ((cf.length : Int) ≠ (nd - 1)) := h2
        refine ⟨1, [(1, .k), (3, .k), (4, .k)], fun nM vs H => ∃ (a : Nat), a ≤ cf.length ∧ (∀ i, i < a → (cf.getD i []).length = cf.length) ∧ nM = cf.length - a ∧ vs = [.ptr 0 1 0 0, .int .i64 (nd - 1), .int .i64 (a : Int)] ∧ H = [.cells [.int .i64 nd, .sl false (.sl .str) cf]], ⟨rfl, cf.length, 0, by omega, fun i hi => absurd hi (by omega), by omega, rfl, rfl⟩, ?_⟩
        rintro nM vs H ⟨a, hc1_0, hc1_1, rfl, rfl, rfl⟩
        refine ⟨fun h3 => ?_, fun h3 => ?_⟩
        · replace h3 : (a : Int) < (nd - 1) := h3
          refine ⟨⟨by show (0 : Int) ≤ (a : Int); omega, by show (a : Int) < (cf.length : Int); omega⟩, fun h4 => ?_, fun h4 => ?_⟩
          · replace h4 : (((cf.getD a []).length : Nat) : Int) ≠ (nd - 1) := h4
            have e := ck_len hnd h2 (a := a) (by omega) (by omega)
            rw [e]
            exact ⟨rfl, rfl, rfl, rfl⟩
          · replace h4 : ¬ ((((cf.getD a []).length : Nat) : Int) ≠ (nd - 1)) := h4
            refine ⟨⟨by show (-9223372036854775808 : Int) ≤ ((a : Int) + 1); omega, by show ((a : Int) + 1) ≤ (9223372036854775807 : Int); omega⟩, ?_⟩
            exact ⟨rfl, cf.length - (a + 1), by omega, a + 1, by omega, lt_ext hc1_1 (by omega), rfl, rfl, rfl⟩
        · replace h3 : ¬ ((a : Int) < (nd - 1)) := h3
          have hl : ∀ i, i < cf.length → (cf.getD i []).length = cf.length := fun i hi => hc1_1 i (by omega)
          refine ⟨1, [(1, .k), (3, .k), (5, .k)], fun nM vs H => ∃ (a : Nat), a ≤ cf.length ∧ (∀ i, i < a → ∀ j, j < cf.length → ((cf.getD i []).getD j []).length = n00 cf) ∧ nM = cf.length - a ∧ vs = [.ptr 0 1 0 0, .int .i64 (nd - 1), .int .i64 (a : Int)] ∧ H = [.cells [.int .i64 nd, .sl false (.sl .str) cf]], ⟨rfl, cf.length, 0, by omega, fun i hi => absurd hi (by omega), by omega, rfl, rfl⟩, ?_⟩
          rintro nM vs H ⟨a, hc2_0, hc2_1, rfl, rfl, rfl⟩
          refine ⟨fun h5 => ?_, fun h5 => ?_⟩
          · replace h5 : (a : Int) < (nd - 1) := h5
            have hla := hl a (by omega)
            have hl0 := hl 0 (by omega)
            refine ⟨1, [(1, .k), (3, .k), (5, .k), (6, .k)], fun nM vs H => ∃ (b : Nat), b ≤ cf.length ∧ (∀ j, j < b → ((cf.getD a []).getD j []).length = n00 cf) ∧ nM = cf.length - b ∧ vs = [.ptr 0 1 0 0, .int .i64 (nd - 1), .int .i64 (a : Int), .int .i64 (b : Int)] ∧ H = [.cells [.int .i64 nd, .sl false (.sl .str) cf]], ⟨rfl, cf.length, 0, by omega, fun i hi => absurd hi (by omega), by omega, rfl, rfl⟩, ?_⟩
            rintro nM vs H ⟨b, hc3_0, hc3_1, rfl, rfl, rfl⟩
            refine ⟨fun h6 => ?_, fun h6 => ?_⟩
            · replace h6 : (b : Int) < (nd - 1) := h6
              have hn0 : ((cf.getD 0 []).getD 0 []).length = n00 cf := rfl
              refine ⟨by kernel_rfl, ⟨by show (0 : Int) ≤ (a : Int); omega, by show (a : Int) < (cf.length : Int); omega⟩, ⟨by show (0 : Int) ≤ (b : Int); omega, by show (b : Int) < ((cf.getD a []).length : Int); omega⟩, ⟨by show (0 : Int) ≤ 0; omega, by show 0 < (cf.length : Int); omega⟩, ⟨by show (0 : Int) ≤ 0; omega, by show 0 < ((cf.getD 0 []).length : Int); omega⟩, fun h7 => ?_, fun h7 => ?_⟩
              · replace h7 : ((((cf.getD a []).getD b []).length : Nat) : Int) ≠ ((((cf.getD 0 []).getD 0 []).length : Nat) : Int) := h7
                have e := ck_ent hnd h2 hl (a := a) (b := b) (by omega) (by omega) (fun g => h7 (by omega))
                rw [e]
                exact ⟨rfl, rfl, rfl, rfl⟩
              · replace h7 : ¬ (((((cf.getD a []).getD b []).length : Nat) : Int) ≠ ((((cf.getD 0 []).getD 0 []).length : Nat) : Int)) := h7
                refine ⟨⟨by show (-9223372036854775808 : Int) ≤ ((b : Int) + 1); omega, by show ((b : Int) + 1) ≤ (9223372036854775807 : Int); omega⟩, ?_⟩
                exact ⟨rfl, cf.length - (b + 1), by omega, b + 1, by omega, lt_ext hc3_1 (by omega), rfl, rfl, rfl⟩
            · replace h6 : ¬ ((b : Int) < (nd - 1)) := h6
              refine ⟨⟨by show (-9223372036854775808 : Int) ≤ ((a : Int) + 1); omega, by show ((a : Int) + 1) ≤ (9223372036854775807 : Int); omega⟩, ?_⟩
              exact ⟨rfl, cf.length - (a + 1), by omega, a + 1, by omega, lt_ext hc2_1 (fun j hj => hc3_1 j (by omega)), rfl, rfl, rfl⟩
          · replace h5 : ¬ ((a : Int) < (nd - 1)) := h5
            have he : ∀ i j, i < cf.length → j < cf.length → ((cf.getD i []).getD j []).length = n00 cf := fun i j hi hj => hc2_1 i (by omega) j hj
            have hn0 : ((cf.getD 0 []).getD 0 []).length = n00 cf := rfl
            have hl0 := hl 0 (by omega)
            refine ⟨⟨by show (0 : Int) ≤ 0; omega, by show 0 < (cf.length : Int); omega⟩, ⟨by show (0 : Int) ≤ 0; omega, by show 0 < ((cf.getD 0 []).length : Int); omega⟩, fun h8 => ?_, fun h8 => ?_⟩
            · replace h8 : 4096 < ((((cf.getD 0 []).getD 0 []).length : Nat) : Int) := h8
              have e := ck_lim hnd h2 hl he (by omega)
              rw [e]
              exact ⟨rfl, rfl, rfl, rfl⟩
            · replace h8 : ¬ (4096 < ((((cf.getD 0 []).getD 0 []).length : Nat) : Int)) := h8
              refine ⟨1, [(1, .k), (3, .k), (7, .k)], fun nM vs H => ∃ (a : Nat), a ≤ cf.length ∧ (∀ i, i < a → ∀ j, j < cf.length → (cf.getD i []).getD j [] = (cf.getD j []).getD i []) ∧ nM = cf.length - a ∧ vs = [.ptr 0 1 0 0, .int .i64 (nd - 1), .int .i64 (a : Int)] ∧ H = [.cells [.int .i64 nd, .sl false (.sl .str) cf]], ⟨rfl, cf.length, 0, by omega, fun i hi => absurd hi (by omega), by omega, rfl, rfl⟩, ?_⟩
              rintro nM vs H ⟨a, hc4_0, hc4_1, rfl, rfl, rfl⟩
              refine ⟨fun h9 => ?_, fun h9 => ?_⟩
              · replace h9 : (a : Int) < (nd - 1) := h9
                refine ⟨1, [(1, .k), (3, .k), (7, .k), (8, .k)], fun nM vs H => ∃ (b : Nat), b ≤ cf.length ∧ (∀ j, j < b → (cf.getD a []).getD j [] = (cf.getD j []).getD a []) ∧ nM = cf.length - b ∧ vs = [.ptr 0 1 0 0, .int .i64 (nd - 1), .int .i64 (a : Int), .int .i64 (b : Int)] ∧ H = [.cells [.int .i64 nd, .sl false (.sl .str) cf]], ⟨rfl, cf.length, 0, by omega, fun i hi => absurd hi (by omega), by omega, rfl, rfl⟩, ?_⟩
                rintro nM vs H ⟨b, hc5_0, hc5_1, rfl, rfl, rfl⟩
                refine ⟨fun h10 => ?_, fun h10 => ?_⟩
                · replace h10 : (b : Int) < (nd - 1) := h10
                  have hla := hl a (by omega)
                  have hlb := hl b (by omega)
                  refine ⟨by kernel_rfl, ⟨by show (0 : Int) ≤ (a : Int); omega, by show (a : Int) < (cf.length : Int); omega⟩, ⟨by show (0 : Int) ≤ (b : Int); omega, by show (b : Int) < ((cf.getD a []).length : Int); omega⟩, ⟨by show (0 : Int) ≤ (b : Int); omega, by show (b : Int) < (cf.length : Int); omega⟩, ⟨by show (0 : Int) ≤ (a : Int); omega, by show (a : Int) < ((cf.getD b []).length : Int); omega⟩, fun h11 => ?_, fun h11 => ?_⟩
                  · replace h11 : ((cf.getD a []).getD b []) ≠ ((cf.getD b []).getD a []) := h11
                    have e := ck_sym hnd h2 hl he (by omega) (a := a) (b := b) (by omega) (by omega) h11
                    rw [e]
                    exact ⟨rfl, rfl, rfl, rfl⟩
                  · replace h11 : ¬ (((cf.getD a []).getD b []) ≠ ((cf.getD b []).getD a [])) := h11
                    have hok := Classical.not_not.1 h11
                    refine ⟨⟨by show (-9223372036854775808 : Int) ≤ ((b : Int) + 1); omega, by show ((b : Int) + 1) ≤ (9223372036854775807 : Int); omega⟩, ?_⟩
                    exact ⟨rfl, cf.length - (b + 1), by omega, b + 1, by omega, lt_ext hc5_1 hok, rfl, rfl, rfl⟩
                · replace h10 : ¬ ((b : Int) < (nd - 1)) := h10
                  refine ⟨⟨by show (-9223372036854775808 : Int) ≤ ((a : Int) + 1); omega, by show ((a : Int) + 1) ≤ (9223372036854775807 : Int); omega⟩, ?_⟩
                  exact ⟨rfl, cf.length - (a + 1), by omega, a + 1, by omega, lt_ext hc4_1 (fun j hj => hc5_1 j (by omega)), rfl, rfl, rfl⟩
              · replace h9 : ¬ ((a : Int) < (nd - 1)) := h9
                have e := ck_okR hnd h2 hl he (by omega) (fun i j hi hj => hc4_1 i (by omega) j hj)
                rw [e]
                exact ⟨rfl, rfl, rfl, rfl⟩
  · replace h0 : nd < 2 := h0
    have e : chkD nd cf = 3 := if_pos (by omega)
    rw [e]
    exact ⟨rfl, rfl, rfl, rfl⟩
def CRChk : List (Nat × Con) := (11, pureC [.v (.cons (.int .i64) (.cons (.sl (.sl .str)) .nil))] sRChk) :: CRAt
theorem kRChk : Known Tryd.prog (En CRChk tys G6 QPrs) := kRAt.add Tryd.func11 Tryd.call11 [.k] fun ds p v bs h hp => by
  unfold sRChk at h
  split at h <;> simp only [Option.some.injEq, Prod.mk.injEq, reduceCtorEq] at h
  obtain ⟨rfl, rfl, rfl⟩ := h
  exact bRChk _ _ hp.1 hp.2
def sRRow : List V → Option (Prop × V × List Blk)
  | [.agg [.int .i64 nd, .sl false (.sl .str) cf], .int .i64 h] => some (cf.length ≤ 1048576 ∧ (∀ l ∈ cf, l.length ≤ 1048576 ∧ ∀ x ∈ l, x.length ≤ 1048576), .agg [.own .str 0, .int .i64 (rowE nd cf h)], [.row true .str (rowL nd cf h)])
  | _ => none
set_option maxHeartbeats 2000000 in
theorem bRRow (nd : Int) (cf : List (List (List UInt8))) (h : Int) (hp0 : cf.length ≤ 1048576) (hp1 : (∀ l ∈ cf, l.length ≤ 1048576 ∧ ∀ x ∈ l, x.length ≤ 1048576)) : bodyP (En CRChk tys G6 QPrs) Tryd.f9 [.o .str, .k] [.agg [.int .i64 nd, .sl false (.sl .str) cf], .int .i64 h] (.agg [.own .str 0, .int .i64 (rowE nd cf h)]) [.row true .str (rowL nd cf h)] := by
  refine ⟨rfl, ⟨by show cf.length ≤ 1048576; first | omega | assumption, by first | assumption | simp⟩, fun h0 => ?_, fun h0 => ?_⟩
  · replace h0 : (chkD nd cf) ≠ 0 := h0
    refine ⟨⟨rfl, rfl, rfl, Nat.le_of_ble_eq_true rfl⟩, ?_⟩
    have e : rowE nd cf h = chkD nd cf := if_neg h0
    rw [rowL, if_neg (by rw [e]; exact h0), e]
    exact ⟨rfl, rfl, rfl, rfl⟩
  · replace h0 : ¬ ((chkD nd cf) ≠ 0) := h0
    have hc := Classical.not_not.1 h0
    have hd := chkD0 hc
    obtain ⟨d1, d2, d3, d4, d5, d6, d7⟩ := id hd
    refine ⟨rfl, trivial, fun h1 => ?_, fun h1 => ?_⟩
    · replace h1 : ¬ (knw h) := h1
      refine ⟨⟨rfl, rfl, rfl, Nat.le_of_ble_eq_true rfl⟩, ?_⟩
      have e : rowE nd cf h = 8 := by unfold rowE; rw [if_pos hc, if_neg h1]
      rw [rowL, if_neg (by rw [e]; decide), e]
      exact ⟨rfl, rfl, rfl, rfl⟩
    · replace h1 : ¬ (¬ (knw h)) := h1
      have hk := Classical.not_not.1 h1
      obtain ⟨k1, k2⟩ := id hk
      refine ⟨2, [(1, .k), (2, .k), (4, .k), (7, .o .str), (8, .k)], fun nM vs H => ∃ (k : Nat), k ≤ cf.length ∧ nM = cf.length - k ∧ vs = [.int .i64 h, .ptr 0 1 0 0, .ptr 1 1 0 0, .own .str 2, .int .i64 (k : Int)] ∧ H = [.cells [.int .i64 nd, .sl false (.sl .str) cf], .cells [.nils, .int .i64 0], .row true .str ((cf.take k).map fun l => atL l (pt h))], ⟨rfl, cf.length, 0, by omega, by omega, rfl, rfl⟩, ?_⟩
      rintro nM vs H ⟨k, hc1_0, rfl, rfl, rfl⟩
      refine ⟨⟨by show (-9223372036854775808 : Int) ≤ (nd - 1); omega, by show (nd - 1) ≤ (9223372036854775807 : Int); omega⟩, fun h2 => ?_, fun h2 => ?_⟩
      · replace h2 : (k : Int) < (nd - 1) := h2
        have hkl : k < cf.length := by omega
        have hm := getD_mem [] cf k hkl
        have hr4 := d4 _ hm
        have hrn0 : n0 (cf.getD k []) = n00 cf := d5 _ hm _ (getD_mem [] _ 0 (by omega))
        have hr5 : ∀ x ∈ cf.getD k [], x.length ≤ 1048576 := (hp1 _ hm).2
        have hml : ((cf.take k).map fun l => atL l (pt h)).length = k := by rw [List.length_map, List.length_take]; omega
        refine ⟨⟨by show (0 : Int) ≤ (k : Int); omega, by show (k : Int) < (cf.length : Int); omega⟩, ⟨by show (-9223372036854775808 : Int) ≤ (h + 1); omega, by show (h + 1) ≤ (9223372036854775807 : Int); omega⟩, ⟨by show 1 ≤ (cf.getD k []).length; first | omega | assumption | (simp only [List.length_cons, List.length_nil, List.length_append, List.length_take, List.length_drop, List.length_set, List.length_replicate]; omega), by show (cf.getD k []).length ≤ 1000000; first | omega | assumption | (simp only [List.length_cons, List.length_nil, List.length_append, List.length_take, List.length_drop, List.length_set, List.length_replicate]; omega), (fun s hs => (d5 _ hm s hs).trans hrn0.symm), Nat.le_trans (Nat.le_of_eq hrn0) (by omega)⟩, ⟨rfl, rfl⟩, by show ((cf.take k).map fun l => atL l (pt h)).length + ([atL (cf.getD k []) (UInt8.ofNat ((h + 1) % 256).toNat)] : List (List UInt8)).length ≤ 1000000000; simp only [List.length_cons, List.length_nil]; omega, ⟨by show (-9223372036854775808 : Int) ≤ ((k : Int) + 1); omega, by show ((k : Int) + 1) ≤ (9223372036854775807 : Int); omega⟩, ?_⟩
        exact ⟨rfl, cf.length - (k + 1), by omega, k + 1, by omega, rfl, rfl, by rw [map_take_snoc [] _ cf k hkl]; rfl⟩
      · replace h2 : ¬ ((k : Int) < (nd - 1)) := h2
        refine ⟨⟨rfl, rfl, rfl, Nat.le_of_ble_eq_true rfl⟩, ?_⟩
        have e : rowE nd cf h = 0 := by unfold rowE; rw [if_pos hc, if_pos hk]
        rw [rowL, if_pos e, e, rowD, show k = cf.length by omega, List.take_length]
        exact ⟨rfl, rfl, rfl, rfl⟩
def CRRow : List (Nat × Con) := (9, pureC [.v (.cons (.int .i64) (.cons (.sl (.sl .str)) .nil)), .v (.int .i64)] sRRow) :: CRChk
theorem kRRow : Known Tryd.prog (En CRRow tys G6 QPrs) := kRChk.add Tryd.func9 Tryd.call9 [.o .str, .k] fun ds p v bs h hp => by
  unfold sRRow at h
  split at h <;> simp only [Option.some.injEq, Prod.mk.injEq, reduceCtorEq] at h
  obtain ⟨rfl, rfl, rfl⟩ := h
  exact bRRow _ _ _ hp.1 hp.2
def sSmD : List V → Option (Prop × V × List Blk)
  | [.agg [.int .i64 na, .sl false (.sl .str) ca], .agg [.int .i64 nb, .sl false (.sl .str) cb]] => some (ca.length ≤ 1048576 ∧ (∀ l ∈ ca, l.length ≤ 1048576 ∧ ∀ x ∈ l, x.length ≤ 1048576) ∧ cb.length ≤ 1048576 ∧ (∀ l ∈ cb, l.length ≤ 1048576 ∧ ∀ x ∈ l, x.length ≤ 1048576), .b (na = nb ∧ ca = cb), [])
  | _ => none
set_option maxHeartbeats 1000000 in
theorem bSmD (na : Int) (ca : List (List (List UInt8))) (nb : Int) (cb : List (List (List UInt8))) (hp0 : ca.length ≤ 1048576) (hp1 : (∀ l ∈ ca, l.length ≤ 1048576 ∧ ∀ x ∈ l, x.length ≤ 1048576)) (hp2 : cb.length ≤ 1048576) (hp3 : (∀ l ∈ cb, l.length ≤ 1048576 ∧ ∀ x ∈ l, x.length ≤ 1048576)) : bodyP (En CRRow tys G6 QPrs) Tryd.f12 [.k] [.agg [.int .i64 na, .sl false (.sl .str) ca], .agg [.int .i64 nb, .sl false (.sl .str) cb]] (.b (na = nb ∧ ca = cb)) [] := by
  refine ⟨fun h0 => ?_, fun h0 => ?_⟩
  · replace h0 : ¬ (na ≠ nb) := h0
    refine ⟨fun h1 => ?_, fun h1 => ?_⟩
    · replace h1 : (ca.length : Int) ≠ (cb.length : Int) := h1
      exact ⟨rfl, rfl, congrArg V.b (no_b (fun g => h1 (by rw [g.2]))), rfl⟩
    · replace h1 : ¬ ((ca.length : Int) ≠ (cb.length : Int)) := h1
      have hl : ca.length = cb.length := by omega
      refine ⟨2, [(2, .k), (3, .k), (5, .k)], fun nM vs H => ∃ (k : Nat), k ≤ ca.length ∧ ca.take k = cb.take k ∧ nM = ca.length - k ∧ vs = [.ptr 0 1 0 0, .ptr 1 1 0 0, .int .i64 (k : Int)] ∧ H = [.cells [.int .i64 na, .sl false (.sl .str) ca], .cells [.int .i64 nb, .sl false (.sl .str) cb]], ⟨rfl, ca.length, 0, by omega, rfl, by omega, rfl, rfl⟩, ?_⟩
      rintro nM vs H ⟨k, hc1_0, hc1_1, rfl, rfl, rfl⟩
      refine ⟨fun h2 => ?_, fun h2 => ?_⟩
      · replace h2 : (k : Int) < (ca.length : Int) := h2
        have hk : k < ca.length := by omega
        refine ⟨by kernel_rfl, ⟨by show (0 : Int) ≤ (k : Int); omega, by show (k : Int) < (ca.length : Int); omega⟩, ⟨by show (0 : Int) ≤ (k : Int); omega, by show (k : Int) < (cb.length : Int); omega⟩, ⟨(hp1 _ (getD_mem [] ca k (by omega))).1, (hp3 _ (getD_mem [] cb k (by omega))).1⟩, fun h3 => ?_, fun h3 => ?_⟩
        · replace h3 : ¬ ((ca.getD k []) = (cb.getD k [])) := h3
          exact ⟨rfl, rfl, congrArg V.b (no_b (fun g => h3 (by rw [g.2]))), rfl⟩
        · replace h3 : ¬ (¬ ((ca.getD k []) = (cb.getD k []))) := h3
          refine ⟨⟨by show (-9223372036854775808 : Int) ≤ ((k : Int) + 1); omega, by show ((k : Int) + 1) ≤ (9223372036854775807 : Int); omega⟩, ?_⟩
          exact ⟨rfl, ca.length - (k + 1), by omega, k + 1, by omega, same_next (d := []) hk hl hc1_1 (Classical.not_not.1 h3), rfl, rfl, rfl⟩
      · replace h2 : ¬ ((k : Int) < (ca.length : Int)) := h2
        exact ⟨rfl, rfl, congrArg V.b (yes_b ⟨Classical.not_not.1 h0, same_end (by omega) hl hc1_1⟩), rfl⟩
  · replace h0 : na ≠ nb := h0
    exact ⟨rfl, rfl, congrArg V.b (no_b (fun g => h0 g.1)), rfl⟩
def CSmD : List (Nat × Con) := (12, pureC [.v (.cons (.int .i64) (.cons (.sl (.sl .str)) .nil)), .v (.cons (.int .i64) (.cons (.sl (.sl .str)) .nil))] sSmD) :: CRRow
theorem kSmD : Known Tryd.prog (En CSmD tys G6 QPrs) := kRRow.add Tryd.func12 Tryd.call12 [.k] fun ds p v bs h hp => by
  unfold sSmD at h
  split at h <;> simp only [Option.some.injEq, Prod.mk.injEq, reduceCtorEq] at h
  obtain ⟨rfl, rfl, rfl⟩ := h
  exact bSmD _ _ _ _ hp.1 hp.2.1 hp.2.2.1 hp.2.2.2
end Go.Proofs.YtcodgflbafanlaaDoor.S27

namespace Go.Proofs.YtcodgflbafanlaaDoor.S27
open Go

theorem mkC_mx (nd sz : Int) {nz : List UInt8} (h : nz.length ≤ 1048576) : (mkC nd sz nz).length ≤ 1048576 ∧ ∀ l ∈ mkC nd sz nz, l.length ≤ 1048576 ∧ ∀ x ∈ l, x.length ≤ 1048576 := by
  unfold mkC
  split
  · rename_i h0
    have hn : ¬ (nd < 2 ∨ 12 < nd ∨ sz < 0 ∨ 4096 < sz) := fun g => by unfold mkE at h0; rw [if_pos g] at h0; cases h0
    unfold mkD
    refine ⟨by rw [List.length_map, List.length_range]; omega, fun l hl => ?_⟩
    obtain ⟨a, _, rfl⟩ := List.mem_map.1 hl
    refine ⟨by rw [List.length_map, List.length_range]; omega, fun x hx => ?_⟩
    obtain ⟨b, _, rfl⟩ := List.mem_map.1 hx
    rw [List.length_take, dn_len]; omega
  · exact ⟨Nat.zero_le _, fun l hl => by cases hl⟩
theorem rowL_len (nd : Int) (cf : List Rw) (h : Int) : (rowL nd cf h).length ≤ cf.length := by
  unfold rowL rowD
  split
  · rw [List.length_map]; exact Nat.le_refl _
  · exact Nat.zero_le _
end Go.Proofs.YtcodgflbafanlaaDoor.S27

namespace Go.Proofs.YtcodgflbafanlaaDoor.S27
open Go Go.Proofs.YtcodgflbafanlaaDoor.Vc

/-! ### how large the parts of a datum are -/
theorem wt_mem {t : Ty} {xs : List t.D} {x : t.D} (h : x ∈ xs) : wt t x + 1 ≤ wt (.sl t) xs := by
  have e : wt (.sl t) xs = (xs.map (wt t)).sum + 1 := rfl
  rw [e]
  clear e
  induction xs with
  | nil => cases h
  | cons y ys ih =>
    rw [List.map_cons, List.sum_cons]
    rcases List.mem_cons.1 h with rfl | h
    · omega
    · have := ih h; omega
theorem wt_len {t : Ty} (h1 : ∀ x, 1 ≤ wt t x) (xs : List t.D) : xs.length + 1 ≤ wt (.sl t) xs := by
  have e : wt (.sl t) xs = (xs.map (wt t)).sum + 1 := rfl
  rw [e]
  clear e
  induction xs with
  | nil => simp
  | cons x xs ih => have := h1 x; rw [List.map_cons, List.sum_cons, List.length_cons]; omega
theorem wt_s (s : List UInt8) : wt .str s = s.length + 1 := rfl
theorem wt_sl1 {t : Ty} (xs : List t.D) : 1 ≤ wt (.sl t) xs := by
  have e : wt (.sl t) xs = (xs.map (wt t)).sum + 1 := rfl
  omega
theorem mx1 (r : Rw) : r.length ≤ wt (.sl .str) r ∧ ∀ x ∈ r, x.length ≤ wt (.sl .str) r := by
  refine ⟨?_, fun x hx => ?_⟩
  · have := wt_len (t := .str) (fun x => by rw [wt_s]; omega) r; omega
  · have := wt_mem (t := .str) hx; rw [wt_s] at this; omega
theorem mx2 (cf : List Rw) : cf.length ≤ wt (.sl (.sl .str)) cf ∧ ∀ l ∈ cf, l.length ≤ wt (.sl (.sl .str)) cf ∧ ∀ x ∈ l, x.length ≤ wt (.sl (.sl .str)) cf := by
  refine ⟨?_, fun l hl => ?_⟩
  · have := wt_len (t := .sl .str) (fun x => wt_sl1 x) cf; omega
  · have h := wt_mem (t := .sl .str) hl
    obtain ⟨h1, h2⟩ := mx1 l
    exact ⟨by omega, fun x hx => by have := h2 x hx; omega⟩
section
variable {N : Nat}
theorem mx2' {cf : List Rw} (h : wt (.sl (.sl .str)) cf ≤ N) : cf.length ≤ N ∧ ∀ l ∈ cf, l.length ≤ N ∧ ∀ x ∈ l, x.length ≤ N := by
  obtain ⟨a, b⟩ := mx2 cf
  exact ⟨by omega, fun l hl => ⟨by have := (b l hl).1; omega, fun x hx => by have := (b l hl).2 x hx; omega⟩⟩
end
end Go.Proofs.YtcodgflbafanlaaDoor.S27

namespace Go.Proofs.YtcodgflbafanlaaDoor.Cd
open Go Go.Proofs.YtcodgflbafanlaaDoor.Vc Go.Proofs Go.Proofs.YtcodgflbafanlaaDoor.S27 Go.ChangeShapes Go.WideShapes Go.ChangeAt Go.RowKit
set_option maxRecDepth 100000
set_option linter.unusedVariables false

theorem bulkAll {H : Type} : ∀ l : List (DataW H), Rows.uptoBulkAll l = (l.map Rows.uptoBulk).sum
  | [] => rfl
  | d :: l => by rw [Rows.uptoBulkAll, bulkAll l]; rfl
theorem bulk {H : Type} : Bulk (H := H) Rows.uptoBulk where
  one d := by cases d with
    | lit l => cases l <;> simp [Rows.uptoBulk]
    | _ => simp [Rows.uptoBulk]
  str b := by simp [Rows.uptoBulk]
  sl es sp := by rw [Rows.uptoBulk, bulkAll, bulkAll]; omega
  agg ps := by rw [Rows.uptoBulk, bulkAll]; omega
theorem laidOut : laidOutB Tryd.prog = true := by kernel_rfl
theorem own : ownKnob Tryd.prog.godebug = none := by kernel_rfl

section
variable {H : Type} {enc : TypeId × Value → H} {P : Program}
theorem post_same {f : Func} {s : ChangeSpec} {apart fresh handsOn again : Bool} {W W' : World} {args : Array Value} {v : Value} {ds gs : List (DataW H)} {before pa pv : List MemPlace}
    (hW : DataW.Whole enc P f.params.toList s.vars apart W args.toList ds gs before)
    (hres : ∀ (b : Nat) (sp : Nat → Bool) (hd : Bool), DataW.TrodAll enc P W' b sp hd f.resultTypes.toList (v.resultList f.resultTypes.size) (s.fn H (ds ++ gs)).results [])
    (hargs : ∀ sp : Nat → Bool, (∀ p ∈ before, sp p.block = true) → DataW.TrodAll enc P W' 0 sp true f.params.toList args.toList (s.fn H (ds ++ gs)).args pa)
    (hvars : ∀ sp : Nat → Bool, (∀ p ∈ before, sp p.block = true) → DataW.TrodVars enc P W' sp s.vars (s.fn H (ds ++ gs)).vars pv)
    (hps : before = pa ++ pv) (hb : Below W.heap.size W W')
    (hok : ∀ (j : Nat) (t : TypeId) (r : Value), f.resultTypes[j]? = some t → (v.resultList f.resultTypes.size)[j]? = some r → Value.okWide P W' .any 0 t r) :
    s.post enc P f apart fresh handsOn again W args v W' := by
  have hlt : ∀ p ∈ before, p.block < W.heap.size := fun p hp => by simpa using hW.lt p hp
  have hold : ∀ p ∈ before, (fun b => decide (b < W.heap.size)) p.block = true := fun p hp => by simpa using hW.lt p hp
  refine ⟨ds, gs, before, [], pa, pv, hW, hres _ _ _, hargs _ hold, hvars _ hold, World.keptBut_mono (fun p hp => ⟨hp, ?_⟩) (hb.frame (· ∈ before)), fun _ => ?_⟩
  · rw [hps, List.mem_append] at hp
    exact Or.inr hp
  · obtain ⟨_, _, _, _, _, hz, hn⟩ := hW
    refine ⟨hok, _, _, ([] ++ pa) ++ pv, ⟨[] ++ pa, pv, trodAll_append (hargs _ (fun _ _ => rfl)) (hres _ _ _), hvars _ (fun _ _ => rfl), rfl, ?_, ?_⟩, ?_⟩
    · intro b off hp
      have hp' : MemPlace.cell b off ∈ before := by rw [hps]; simpa using hp
      rw [hb.frozen (hlt _ hp')]
      exact hz b off hp'
    · intro ha
      have := hn ha
      rw [hps] at this
      simpa using this
    · intro p hp _
      rw [hps]
      simpa using hp
end
end Go.Proofs.YtcodgflbafanlaaDoor.Cd

/- Texts of this claim: S6.LawA, S6.Cd0. -/
import Derived.Test.YtifaanbnijnbdaaDoorS1
import Derived.Test.YtifaanbnijnbdaaDoorCards
import Derived.Test.YtifaanbnijnbdaaDoorTie
import Derived.WalkKit
import Derived.ProofKit
import Derived.OpenShut
import Derived.Deep.DeepHandedRow
import Derived.Lib.LaidTab
import Derived.Test.YtifaanbnijnbdaaDoorVc3
set_option linter.unusedVariables false
set_option linter.unusedSimpArgs false
namespace Go.Proofs.YtifaanbnijnbdaaDoor.S6
open Go Go.Proofs.YtifaanbnijnbdaaDoor.Vc Go.Proofs
set_option maxRecDepth 100000
set_option linter.unusedVariables false

def sLRing : List V → Option (Prop × V × List Blk)
  | [.sl false .u8 a, .sl false .u8 b, .u8 x] => some (a.length ≤ 1048576 ∧ b.length ≤ 1048576, .b True, [])
  | _ => none
set_option maxHeartbeats 4000000 in
theorem bLRing (a : List UInt8) (b : List UInt8) (x : UInt8) (hp0 : a.length ≤ 1048576) (hp1 : b.length ≤ 1048576) : bodyP ⟨CSanity, tys, G6⟩ Tryd.f9 [.k] [.sl false .u8 a, .sl false .u8 b, .u8 x] (.b True) [] := by
  refine ⟨fun h0 => ?_, fun h0 => ?_⟩
  · replace h0 : ¬ (40 < (a.length : Int)) := h0
    refine ⟨fun h1 => ?_, fun h1 => ?_⟩
    · replace h1 : 40 < (b.length : Int) := h1
      refine ⟨trivial, ?_⟩
      exact ⟨rfl, rfl, congrArg V.b (propext ⟨fun _ => trivial, fun _ => (show True by first | trivial | exact hdE0 (by omega) | exact hdE1 (by omega) | exact hmE (by omega) | exact hrem (by omega) | exact hsum (by omega) | exact fun h => h hE | exact fun h => h hA | exact fun h => h hV | exact fun h => h (hD (by omega) (by omega)) | exact fun h => h (hD0 (by omega)))⟩), rfl⟩
    · replace h1 : ¬ (40 < (b.length : Int)) := h1
      have ha : a.length ≤ 40 := by omega
      have hb : b.length ≤ 40 := by omega
      have hlong : ¬ longB a b = true := by simp [longB]; omega
      have hE : mulPE a b = 0 := if_neg hlong
      have hM : mulPL a b = prodL a b := if_neg hlong
      have hz : degL b < 0 ↔ trimL b = [] := by
        rw [degL_sz, ← sz_zero]
        omega
      have hza : degL a < 0 ↔ trimL a = [] := by
        rw [degL_sz, ← sz_zero]
        omega
      have hda : -1 ≤ degL a ∧ degL a ≤ 40 := by rw [degL_sz]; have := sz_len a; omega
      have hdb : -1 ≤ degL b ∧ degL b ≤ 40 := by rw [degL_sz]; have := sz_len b; omega
      have hdE0 : 0 ≤ degL b → dmE a b = 0 := fun h => by
        have hb0 : ¬ trimL b = [] := fun e => by have := hz.2 e; omega
        unfold dmE; rw [if_neg hlong, if_neg hb0]
      have hdE1 : degL b < 0 → dmE a b = 1 := fun h => by unfold dmE; rw [if_neg hlong, if_pos (hz.1 h)]
      have hQ : 0 ≤ degL b → dmQ a b = trimL (divR a b).1 := fun h => by
        have hb0 : ¬ trimL b = [] := fun e => by have := hz.2 e; omega
        unfold dmQ; rw [if_neg hlong, if_neg hb0]
      have hR : 0 ≤ degL b → dmR a b = trimL (divR a b).2 := fun h => by
        have hb0 : ¬ trimL b = [] := fun e => by have := hz.2 e; omega
        unfold dmR; rw [if_neg hlong, if_neg hb0]
      have hlm := prodL_len a b
      have hlM : (mulPL a b).length ≤ 80 := by rw [hM]; omega
      have hls : (sumL [a, b]).length ≤ 40 := sumL_two_len _ _ _ ha hb
      have hta := trimL_len a
      have hlq : (dmQ a b).length ≤ 41 := by
        by_cases h : 0 ≤ degL b
        · rw [hQ h]; exact Nat.le_trans (divQ_len a b) (by omega)
        · unfold dmQ; rw [if_neg hlong, if_pos (hz.1 (by omega))]; exact Nat.zero_le _
      have hlr : (dmR a b).length ≤ 41 := by
        by_cases h : 0 ≤ degL b
        · rw [hR h]
          have h1 := div_rem a b fun e => by have := hz.2 e; omega
          have h2 := sz_len b
          unfold sz at *
          omega
        · unfold dmR; rw [if_neg hlong, if_pos (hz.1 (by omega))]; exact Nat.zero_le _
      have hlong2 : ¬ longB (dmQ a b) b = true := by simp [longB]; omega
      have hmE : 0 ≤ degL b → mulPE (dmQ a b) b = 0 := fun _ => if_neg hlong2
      have hmM : mulPL (dmQ a b) b = prodL (dmQ a b) b := if_neg hlong2
      have hlm2 := prodL_len (dmQ a b) b
      have hlM2 : (mulPL (dmQ a b) b).length ≤ 90 := by rw [hmM]; omega
      have hls2 : (sumL [mulPL (dmQ a b) b, dmR a b]).length ≤ 90 := sumL_two_len _ _ _ hlM2 (by omega)
      have hA : horner x (sumL [a, b]) = horner x a ^^^ horner x b := horner_sum x a b
      have hV : horner x (mulPL a b) = mulL (horner x a) (horner x b) := by rw [hM, horner_prod]
      have hD : 0 ≤ degL a → 0 ≤ degL b → degL (mulPL a b) = degL a + degL b := fun h1 h2 => by
        rw [hM, degL_sz, degL_sz, degL_sz]
        have := sz_prod a b (fun e => by have := hza.2 e; omega) (fun e => by have := hz.2 e; omega)
        omega
      have hD0 : (degL a < 0 ∨ degL b < 0) → degL (mulPL a b) = -1 := fun h => by
        rw [hM]
        rcases h with h | h
        · rw [prod_zero_l a b (hza.1 h)]; rfl
        · rw [prod_zero_r a b (hz.1 h)]; rfl
      have hsum : 0 ≤ degL b → sumL [mulPL (dmQ a b) b, dmR a b] = trimL a := fun h => by
        rw [hmM, hQ h, hR h]
        exact div_sum a b fun e => by have := hz.2 e; omega
      have hrem : 0 ≤ degL b → degL (dmR a b) < degL b := fun h => by
        rw [hR h, degL_sz, degL_sz, sz_trim]
        have := div_rem a b fun e => by have := hz.2 e; omega
        omega
      refine ⟨⟨by show a.length ≤ 100000; first | omega | assumption, by show b.length ≤ 100000; first | omega | assumption⟩, by show a.length ≤ 1000000; first | omega | assumption, by show b.length ≤ 1000000; first | omega | assumption, fun h2 => ?_, fun h2 => absurd h2 (show ¬ ((mulPE a b) ≠ 0) by first | trivial | exact hdE0 (by omega) | exact hdE1 (by omega) | exact hmE (by omega) | exact hrem (by omega) | exact hsum (by omega) | exact fun h => h hE | exact fun h => h hA | exact fun h => h hV | exact fun h => h (hD (by omega) (by omega)) | exact fun h => h (hD0 (by omega)))⟩
      refine ⟨⟨by show a.length ≤ 1000000; first | omega | assumption, by show b.length ≤ 1000000; first | omega | assumption⟩, by show (sumL [a, b]).length ≤ 1000000; first | omega | assumption | (simp only [List.length_cons, List.length_nil, List.length_append, List.length_take, List.length_drop, List.length_set, List.length_replicate]; omega), fun h3 => ?_, fun h3 => absurd h3 (show ¬ ((horner x (sumL [a, b])) ≠ ((horner x a) ^^^ (horner x b))) by first | trivial | exact hdE0 (by omega) | exact hdE1 (by omega) | exact hmE (by omega) | exact hrem (by omega) | exact hsum (by omega) | exact fun h => h hE | exact fun h => h hA | exact fun h => h hV | exact fun h => h (hD (by omega) (by omega)) | exact fun h => h (hD0 (by omega)))⟩
      refine ⟨by show (mulPL a b).length ≤ 1000000; first | omega | assumption, trivial, fun h4 => absurd h4 (show ¬ ((horner x (mulPL a b)) ≠ (mulL (horner x a) (horner x b))) by first | trivial | exact hdE0 (by omega) | exact hdE1 (by omega) | exact hmE (by omega) | exact hrem (by omega) | exact hsum (by omega) | exact fun h => h hE | exact fun h => h hA | exact fun h => h hV | exact fun h => h (hD (by omega) (by omega)) | exact fun h => h (hD0 (by omega))), fun h4 => ?_⟩
      refine ⟨by show a.length ≤ 1000000; first | omega | assumption, by show b.length ≤ 1000000; first | omega | assumption, fun h5 => ?_, fun h5 => ?_⟩
      · replace h5 : 0 ≤ (degL a) := h5
        refine ⟨fun h6 => ?_, fun h6 => ?_⟩
        · replace h6 : 0 ≤ (degL b) := h6
          refine ⟨by show (mulPL a b).length ≤ 1000000; first | omega | assumption, ⟨by omega, by omega⟩, fun h7 => ?_, fun h7 => absurd h7 (show ¬ ((degL (mulPL a b)) ≠ ((degL a) + (degL b))) by first | trivial | exact hdE0 (by omega) | exact hdE1 (by omega) | exact hmE (by omega) | exact hrem (by omega) | exact hsum (by omega) | exact fun h => h hE | exact fun h => h hA | exact fun h => h hV | exact fun h => h (hD (by omega) (by omega)) | exact fun h => h (hD0 (by omega)))⟩
          refine ⟨fun h8 => ?_, fun h8 => absurd h8 (show ¬ ((degL a) < 0) by first | omega | assumption | simp_all)⟩
          refine ⟨fun h9 => absurd h9 (show ¬ ((degL b) < 0) by first | omega | assumption | simp_all), fun h9 => ?_⟩
          refine ⟨⟨by show a.length ≤ 100000; first | omega | assumption, by show b.length ≤ 100000; first | omega | assumption⟩, fun h10 => absurd h10 (show ¬ ((degL b) < 0) by first | omega | assumption | simp_all), fun h10 => ?_⟩
          refine ⟨⟨by show (dmQ a b).length ≤ 100000; first | omega | assumption, by show b.length ≤ 100000; first | omega | assumption⟩, trivial, fun h11 => ?_, fun h11 => absurd (show True by first | trivial | exact hdE0 (by omega) | exact hdE1 (by omega) | exact hmE (by omega) | exact hrem (by omega) | exact hsum (by omega) | exact fun h => h hE | exact fun h => h hA | exact fun h => h hV | exact fun h => h (hD (by omega) (by omega)) | exact fun h => h (hD0 (by omega))) h11⟩
          refine ⟨fun h12 => ?_, fun h12 => absurd (show (dmE a b) = 0 by first | trivial | exact hdE0 (by omega) | exact hdE1 (by omega) | exact hmE (by omega) | exact hrem (by omega) | exact hsum (by omega) | exact fun h => h hE | exact fun h => h hA | exact fun h => h hV | exact fun h => h (hD (by omega) (by omega)) | exact fun h => h (hD0 (by omega))) h12⟩
          refine ⟨fun h13 => ?_, fun h13 => absurd (show (mulPE (dmQ a b) b) = 0 by first | trivial | exact hdE0 (by omega) | exact hdE1 (by omega) | exact hmE (by omega) | exact hrem (by omega) | exact hsum (by omega) | exact fun h => h hE | exact fun h => h hA | exact fun h => h hV | exact fun h => h (hD (by omega) (by omega)) | exact fun h => h (hD0 (by omega))) h13⟩
          refine ⟨⟨by show (mulPL (dmQ a b) b).length ≤ 1000000; first | omega | assumption, by show (dmR a b).length ≤ 1000000; first | omega | assumption⟩, by show a.length ≤ 1000000; first | omega | assumption, ⟨by show (sumL [(mulPL (dmQ a b) b), (dmR a b)]).length ≤ 1000000; first | omega | assumption | (simp only [List.length_cons, List.length_nil, List.length_append, List.length_take, List.length_drop, List.length_set, List.length_replicate]; omega), by show (trimL a).length ≤ 1000000; first | omega | assumption⟩, fun h14 => ?_, fun h14 => absurd (show (sumL [(mulPL (dmQ a b) b), (dmR a b)]) = (trimL a) by first | trivial | exact hdE0 (by omega) | exact hdE1 (by omega) | exact hmE (by omega) | exact hrem (by omega) | exact hsum (by omega) | exact fun h => h hE | exact fun h => h hA | exact fun h => h hV | exact fun h => h (hD (by omega) (by omega)) | exact fun h => h (hD0 (by omega))) h14⟩
          refine ⟨by show (dmR a b).length ≤ 1000000; first | omega | assumption, ?_⟩
          exact ⟨rfl, rfl, congrArg V.b (propext ⟨fun _ => trivial, fun _ => (show (degL (dmR a b)) < (degL b) by first | trivial | exact hdE0 (by omega) | exact hdE1 (by omega) | exact hmE (by omega) | exact hrem (by omega) | exact hsum (by omega) | exact fun h => h hE | exact fun h => h hA | exact fun h => h hV | exact fun h => h (hD (by omega) (by omega)) | exact fun h => h (hD0 (by omega)))⟩), rfl⟩
        · replace h6 : ¬ (0 ≤ (degL b)) := h6
          refine ⟨fun h15 => ?_, fun h15 => absurd h15 (show ¬ ((degL a) < 0) by first | omega | assumption | simp_all)⟩
          refine ⟨fun h16 => ?_, fun h16 => ?_⟩
          · replace h16 : (degL b) < 0 := h16
            refine ⟨by show (mulPL a b).length ≤ 1000000; first | omega | assumption, fun h17 => absurd h17 (show ¬ ((degL (mulPL a b)) ≠ (-1)) by first | trivial | exact hdE0 (by omega) | exact hdE1 (by omega) | exact hmE (by omega) | exact hrem (by omega) | exact hsum (by omega) | exact fun h => h hE | exact fun h => h hA | exact fun h => h hV | exact fun h => h (hD (by omega) (by omega)) | exact fun h => h (hD0 (by omega))), fun h17 => ?_⟩
            refine ⟨⟨by show a.length ≤ 100000; first | omega | assumption, by show b.length ≤ 100000; first | omega | assumption⟩, fun h18 => ?_, fun h18 => absurd (show (degL b) < 0 by first | omega | assumption | simp_all) h18⟩
            refine ⟨trivial, fun h19 => ?_, fun h19 => absurd (show True by first | trivial | exact hdE0 (by omega) | exact hdE1 (by omega) | exact hmE (by omega) | exact hrem (by omega) | exact hsum (by omega) | exact fun h => h hE | exact fun h => h hA | exact fun h => h hV | exact fun h => h (hD (by omega) (by omega)) | exact fun h => h (hD0 (by omega))) h19⟩
            exact ⟨rfl, rfl, congrArg V.b (propext ⟨fun _ => trivial, fun _ => (show (dmE a b) = 1 by first | trivial | exact hdE0 (by omega) | exact hdE1 (by omega) | exact hmE (by omega) | exact hrem (by omega) | exact hsum (by omega) | exact fun h => h hE | exact fun h => h hA | exact fun h => h hV | exact fun h => h (hD (by omega) (by omega)) | exact fun h => h (hD0 (by omega)))⟩), rfl⟩
          · replace h16 : ¬ ((degL b) < 0) := h16
            refine ⟨⟨by show a.length ≤ 100000; first | omega | assumption, by show b.length ≤ 100000; first | omega | assumption⟩, fun h20 => ?_, fun h20 => ?_⟩
            · replace h20 : (degL b) < 0 := h20
              refine ⟨trivial, fun h21 => ?_, fun h21 => absurd (show True by first | trivial | exact hdE0 (by omega) | exact hdE1 (by omega) | exact hmE (by omega) | exact hrem (by omega) | exact hsum (by omega) | exact fun h => h hE | exact fun h => h hA | exact fun h => h hV | exact fun h => h (hD (by omega) (by omega)) | exact fun h => h (hD0 (by omega))) h21⟩
              exact ⟨rfl, rfl, congrArg V.b (propext ⟨fun _ => trivial, fun _ => (show (dmE a b) = 1 by first | trivial | exact hdE0 (by omega) | exact hdE1 (by omega) | exact hmE (by omega) | exact hrem (by omega) | exact hsum (by omega) | exact fun h => h hE | exact fun h => h hA | exact fun h => h hV | exact fun h => h (hD (by omega) (by omega)) | exact fun h => h (hD0 (by omega)))⟩), rfl⟩
            · replace h20 : ¬ ((degL b) < 0) := h20
              refine ⟨⟨by show (dmQ a b).length ≤ 100000; first | omega | assumption, by show b.length ≤ 100000; first | omega | assumption⟩, trivial, fun h22 => ?_, fun h22 => absurd (show True by first | trivial | exact hdE0 (by omega) | exact hdE1 (by omega) | exact hmE (by omega) | exact hrem (by omega) | exact hsum (by omega) | exact fun h => h hE | exact fun h => h hA | exact fun h => h hV | exact fun h => h (hD (by omega) (by omega)) | exact fun h => h (hD0 (by omega))) h22⟩
              refine ⟨fun h23 => ?_, fun h23 => absurd (show (dmE a b) = 0 by first | trivial | exact hdE0 (by omega) | exact hdE1 (by omega) | exact hmE (by omega) | exact hrem (by omega) | exact hsum (by omega) | exact fun h => h hE | exact fun h => h hA | exact fun h => h hV | exact fun h => h (hD (by omega) (by omega)) | exact fun h => h (hD0 (by omega))) h23⟩
              refine ⟨fun h24 => ?_, fun h24 => absurd (show (mulPE (dmQ a b) b) = 0 by first | trivial | exact hdE0 (by omega) | exact hdE1 (by omega) | exact hmE (by omega) | exact hrem (by omega) | exact hsum (by omega) | exact fun h => h hE | exact fun h => h hA | exact fun h => h hV | exact fun h => h (hD (by omega) (by omega)) | exact fun h => h (hD0 (by omega))) h24⟩
              refine ⟨⟨by show (mulPL (dmQ a b) b).length ≤ 1000000; first | omega | assumption, by show (dmR a b).length ≤ 1000000; first | omega | assumption⟩, by show a.length ≤ 1000000; first | omega | assumption, ⟨by show (sumL [(mulPL (dmQ a b) b), (dmR a b)]).length ≤ 1000000; first | omega | assumption | (simp only [List.length_cons, List.length_nil, List.length_append, List.length_take, List.length_drop, List.length_set, List.length_replicate]; omega), by show (trimL a).length ≤ 1000000; first | omega | assumption⟩, fun h25 => ?_, fun h25 => absurd (show (sumL [(mulPL (dmQ a b) b), (dmR a b)]) = (trimL a) by first | trivial | exact hdE0 (by omega) | exact hdE1 (by omega) | exact hmE (by omega) | exact hrem (by omega) | exact hsum (by omega) | exact fun h => h hE | exact fun h => h hA | exact fun h => h hV | exact fun h => h (hD (by omega) (by omega)) | exact fun h => h (hD0 (by omega))) h25⟩
              refine ⟨by show (dmR a b).length ≤ 1000000; first | omega | assumption, ?_⟩
              exact ⟨rfl, rfl, congrArg V.b (propext ⟨fun _ => trivial, fun _ => (show (degL (dmR a b)) < (degL b) by first | trivial | exact hdE0 (by omega) | exact hdE1 (by omega) | exact hmE (by omega) | exact hrem (by omega) | exact hsum (by omega) | exact fun h => h hE | exact fun h => h hA | exact fun h => h hV | exact fun h => h (hD (by omega) (by omega)) | exact fun h => h (hD0 (by omega)))⟩), rfl⟩
      · replace h5 : ¬ (0 ≤ (degL a)) := h5
        refine ⟨fun h26 => ?_, fun h26 => ?_⟩
        · replace h26 : ¬ ((degL a) < 0) := h26
          refine ⟨fun h27 => ?_, fun h27 => ?_⟩
          · replace h27 : (degL b) < 0 := h27
            refine ⟨by show (mulPL a b).length ≤ 1000000; first | omega | assumption, fun h28 => absurd h28 (show ¬ ((degL (mulPL a b)) ≠ (-1)) by first | trivial | exact hdE0 (by omega) | exact hdE1 (by omega) | exact hmE (by omega) | exact hrem (by omega) | exact hsum (by omega) | exact fun h => h hE | exact fun h => h hA | exact fun h => h hV | exact fun h => h (hD (by omega) (by omega)) | exact fun h => h (hD0 (by omega))), fun h28 => ?_⟩
            refine ⟨⟨by show a.length ≤ 100000; first | omega | assumption, by show b.length ≤ 100000; first | omega | assumption⟩, fun h29 => ?_, fun h29 => absurd (show (degL b) < 0 by first | omega | assumption | simp_all) h29⟩
            refine ⟨trivial, fun h30 => ?_, fun h30 => absurd (show True by first | trivial | exact hdE0 (by omega) | exact hdE1 (by omega) | exact hmE (by omega) | exact hrem (by omega) | exact hsum (by omega) | exact fun h => h hE | exact fun h => h hA | exact fun h => h hV | exact fun h => h (hD (by omega) (by omega)) | exact fun h => h (hD0 (by omega))) h30⟩
            exact ⟨rfl, rfl, congrArg V.b (propext ⟨fun _ => trivial, fun _ => (show (dmE a b) = 1 by first | trivial | exact hdE0 (by omega) | exact hdE1 (by omega) | exact hmE (by omega) | exact hrem (by omega) | exact hsum (by omega) | exact fun h => h hE | exact fun h => h hA | exact fun h => h hV | exact fun h => h (hD (by omega) (by omega)) | exact fun h => h (hD0 (by omega)))⟩), rfl⟩
          · replace h27 : ¬ ((degL b) < 0) := h27
            refine ⟨⟨by show a.length ≤ 100000; first | omega | assumption, by show b.length ≤ 100000; first | omega | assumption⟩, fun h31 => ?_, fun h31 => ?_⟩
            · replace h31 : (degL b) < 0 := h31
              refine ⟨trivial, fun h32 => ?_, fun h32 => absurd (show True by first | trivial | exact hdE0 (by omega) | exact hdE1 (by omega) | exact hmE (by omega) | exact hrem (by omega) | exact hsum (by omega) | exact fun h => h hE | exact fun h => h hA | exact fun h => h hV | exact fun h => h (hD (by omega) (by omega)) | exact fun h => h (hD0 (by omega))) h32⟩
              exact ⟨rfl, rfl, congrArg V.b (propext ⟨fun _ => trivial, fun _ => (show (dmE a b) = 1 by first | trivial | exact hdE0 (by omega) | exact hdE1 (by omega) | exact hmE (by omega) | exact hrem (by omega) | exact hsum (by omega) | exact fun h => h hE | exact fun h => h hA | exact fun h => h hV | exact fun h => h (hD (by omega) (by omega)) | exact fun h => h (hD0 (by omega)))⟩), rfl⟩
            · replace h31 : ¬ ((degL b) < 0) := h31
              refine ⟨⟨by show (dmQ a b).length ≤ 100000; first | omega | assumption, by show b.length ≤ 100000; first | omega | assumption⟩, trivial, fun h33 => ?_, fun h33 => absurd (show True by first | trivial | exact hdE0 (by omega) | exact hdE1 (by omega) | exact hmE (by omega) | exact hrem (by omega) | exact hsum (by omega) | exact fun h => h hE | exact fun h => h hA | exact fun h => h hV | exact fun h => h (hD (by omega) (by omega)) | exact fun h => h (hD0 (by omega))) h33⟩
              refine ⟨fun h34 => ?_, fun h34 => absurd (show (dmE a b) = 0 by first | trivial | exact hdE0 (by omega) | exact hdE1 (by omega) | exact hmE (by omega) | exact hrem (by omega) | exact hsum (by omega) | exact fun h => h hE | exact fun h => h hA | exact fun h => h hV | exact fun h => h (hD (by omega) (by omega)) | exact fun h => h (hD0 (by omega))) h34⟩
              refine ⟨fun h35 => ?_, fun h35 => absurd (show (mulPE (dmQ a b) b) = 0 by first | trivial | exact hdE0 (by omega) | exact hdE1 (by omega) | exact hmE (by omega) | exact hrem (by omega) | exact hsum (by omega) | exact fun h => h hE | exact fun h => h hA | exact fun h => h hV | exact fun h => h (hD (by omega) (by omega)) | exact fun h => h (hD0 (by omega))) h35⟩
              refine ⟨⟨by show (mulPL (dmQ a b) b).length ≤ 1000000; first | omega | assumption, by show (dmR a b).length ≤ 1000000; first | omega | assumption⟩, by show a.length ≤ 1000000; first | omega | assumption, ⟨by show (sumL [(mulPL (dmQ a b) b), (dmR a b)]).length ≤ 1000000; first | omega | assumption | (simp only [List.length_cons, List.length_nil, List.length_append, List.length_take, List.length_drop, List.length_set, List.length_replicate]; omega), by show (trimL a).length ≤ 1000000; first | omega | assumption⟩, fun h36 => ?_, fun h36 => absurd (show (sumL [(mulPL (dmQ a b) b), (dmR a b)]) = (trimL a) by first | trivial | exact hdE0 (by omega) | exact hdE1 (by omega) | exact hmE (by omega) | exact hrem (by omega) | exact hsum (by omega) | exact fun h => h hE | exact fun h => h hA | exact fun h => h hV | exact fun h => h (hD (by omega) (by omega)) | exact fun h => h (hD0 (by omega))) h36⟩
              refine ⟨by show (dmR a b).length ≤ 1000000; first | omega | assumption, ?_⟩
              exact ⟨rfl, rfl, congrArg V.b (propext ⟨fun _ => trivial, fun _ => (show (degL (dmR a b)) < (degL b) by first | trivial | exact hdE0 (by omega) | exact hdE1 (by omega) | exact hmE (by omega) | exact hrem (by omega) | exact hsum (by omega) | exact fun h => h hE | exact fun h => h hA | exact fun h => h hV | exact fun h => h (hD (by omega) (by omega)) | exact fun h => h (hD0 (by omega)))⟩), rfl⟩
        · replace h26 : (degL a) < 0 := h26
          refine ⟨by show (mulPL a b).length ≤ 1000000; first | omega | assumption, fun h37 => absurd h37 (show ¬ ((degL (mulPL a b)) ≠ (-1)) by first | trivial | exact hdE0 (by omega) | exact hdE1 (by omega) | exact hmE (by omega) | exact hrem (by omega) | exact hsum (by omega) | exact fun h => h hE | exact fun h => h hA | exact fun h => h hV | exact fun h => h (hD (by omega) (by omega)) | exact fun h => h (hD0 (by omega))), fun h37 => ?_⟩
          refine ⟨⟨by show a.length ≤ 100000; first | omega | assumption, by show b.length ≤ 100000; first | omega | assumption⟩, fun h38 => ?_, fun h38 => ?_⟩
          · replace h38 : (degL b) < 0 := h38
            refine ⟨trivial, fun h39 => ?_, fun h39 => absurd (show True by first | trivial | exact hdE0 (by omega) | exact hdE1 (by omega) | exact hmE (by omega) | exact hrem (by omega) | exact hsum (by omega) | exact fun h => h hE | exact fun h => h hA | exact fun h => h hV | exact fun h => h (hD (by omega) (by omega)) | exact fun h => h (hD0 (by omega))) h39⟩
            exact ⟨rfl, rfl, congrArg V.b (propext ⟨fun _ => trivial, fun _ => (show (dmE a b) = 1 by first | trivial | exact hdE0 (by omega) | exact hdE1 (by omega) | exact hmE (by omega) | exact hrem (by omega) | exact hsum (by omega) | exact fun h => h hE | exact fun h => h hA | exact fun h => h hV | exact fun h => h (hD (by omega) (by omega)) | exact fun h => h (hD0 (by omega)))⟩), rfl⟩
          · replace h38 : ¬ ((degL b) < 0) := h38
            refine ⟨⟨by show (dmQ a b).length ≤ 100000; first | omega | assumption, by show b.length ≤ 100000; first | omega | assumption⟩, trivial, fun h40 => ?_, fun h40 => absurd (show True by first | trivial | exact hdE0 (by omega) | exact hdE1 (by omega) | exact hmE (by omega) | exact hrem (by omega) | exact hsum (by omega) | exact fun h => h hE | exact fun h => h hA | exact fun h => h hV | exact fun h => h (hD (by omega) (by omega)) | exact fun h => h (hD0 (by omega))) h40⟩
            refine ⟨fun h41 => ?_, fun h41 => absurd (show (dmE a b) = 0 by first | trivial | exact hdE0 (by omega) | exact hdE1 (by omega) | exact hmE (by omega) | exact hrem (by omega) | exact hsum (by omega) | exact fun h => h hE | exact fun h => h hA | exact fun h => h hV | exact fun h => h (hD (by omega) (by omega)) | exact fun h => h (hD0 (by omega))) h41⟩
            refine ⟨fun h42 => ?_, fun h42 => absurd (show (mulPE (dmQ a b) b) = 0 by first | trivial | exact hdE0 (by omega) | exact hdE1 (by omega) | exact hmE (by omega) | exact hrem (by omega) | exact hsum (by omega) | exact fun h => h hE | exact fun h => h hA | exact fun h => h hV | exact fun h => h (hD (by omega) (by omega)) | exact fun h => h (hD0 (by omega))) h42⟩
            refine ⟨⟨by show (mulPL (dmQ a b) b).length ≤ 1000000; first | omega | assumption, by show (dmR a b).length ≤ 1000000; first | omega | assumption⟩, by show a.length ≤ 1000000; first | omega | assumption, ⟨by show (sumL [(mulPL (dmQ a b) b), (dmR a b)]).length ≤ 1000000; first | omega | assumption | (simp only [List.length_cons, List.length_nil, List.length_append, List.length_take, List.length_drop, List.length_set, List.length_replicate]; omega), by show (trimL a).length ≤ 1000000; first | omega | assumption⟩, fun h43 => ?_, fun h43 => absurd (show (sumL [(mulPL (dmQ a b) b), (dmR a b)]) = (trimL a) by first | trivial | exact hdE0 (by omega) | exact hdE1 (by omega) | exact hmE (by omega) | exact hrem (by omega) | exact hsum (by omega) | exact fun h => h hE | exact fun h => h hA | exact fun h => h hV | exact fun h => h (hD (by omega) (by omega)) | exact fun h => h (hD0 (by omega))) h43⟩
            refine ⟨by show (dmR a b).length ≤ 1000000; first | omega | assumption, ?_⟩
            exact ⟨rfl, rfl, congrArg V.b (propext ⟨fun _ => trivial, fun _ => (show (degL (dmR a b)) < (degL b) by first | trivial | exact hdE0 (by omega) | exact hdE1 (by omega) | exact hmE (by omega) | exact hrem (by omega) | exact hsum (by omega) | exact fun h => h hE | exact fun h => h hA | exact fun h => h hV | exact fun h => h (hD (by omega) (by omega)) | exact fun h => h (hD0 (by omega)))⟩), rfl⟩
  · replace h0 : 40 < (a.length : Int) := h0
    refine ⟨trivial, ?_⟩
    exact ⟨rfl, rfl, congrArg V.b (propext ⟨fun _ => trivial, fun _ => (show True by first | trivial | exact hdE0 (by omega) | exact hdE1 (by omega) | exact hmE (by omega) | exact hrem (by omega) | exact hsum (by omega) | exact fun h => h hE | exact fun h => h hA | exact fun h => h hV | exact fun h => h (hD (by omega) (by omega)) | exact fun h => h (hD0 (by omega)))⟩), rfl⟩
def CLRing : List (Nat × Con) := (9, pureC [.v (.sl .u8), .v (.sl .u8), .v .u8] sLRing) :: CSanity
theorem kLRing : Known Tryd.prog ⟨CLRing, tys, G6⟩ := kSanity.add Tryd.func9 Tryd.call9 [.k] fun ds p v bs h hp => by
  unfold sLRing at h
  split at h <;> simp only [Option.some.injEq, Prod.mk.injEq, reduceCtorEq] at h
  obtain ⟨rfl, rfl, rfl⟩ := h
  exact bLRing _ _ _ hp.1 hp.2
end Go.Proofs.YtifaanbnijnbdaaDoor.S6

namespace Go.Proofs.YtifaanbnijnbdaaDoor.Cd
open Go Go.Proofs.YtifaanbnijnbdaaDoor.Vc Go.Proofs Go.Proofs.YtifaanbnijnbdaaDoor.S6 Go.ChangeShapes Go.WideShapes Go.ChangeAt Go.RowKit
set_option maxRecDepth 100000
set_option linter.unusedVariables false

theorem bulkAll {H : Type} : ∀ l : List (DataW H), Rows.uptoBulkAll l = (l.map Rows.uptoBulk).sum
  | [] => rfl
  | d :: l => by rw [Rows.uptoBulkAll, bulkAll l]; rfl
theorem bulk {H : Type} : Bulk (H := H) Rows.uptoBulk where
  one d := by cases d with
    | lit l => cases l <;> simp [Rows.uptoBulk]
    | _ => simp [Rows.uptoBulk]
  str b := by simp [Rows.uptoBulk]
  sl es sp := by rw [Rows.uptoBulk, bulkAll, bulkAll]; omega
  agg ps := by rw [Rows.uptoBulk, bulkAll]; omega
theorem laidOut : laidOutB Tryd.prog = true := by kernel_rfl
theorem own : ownKnob Tryd.prog.godebug = none := by kernel_rfl

section
variable {H : Type} {enc : TypeId × Value → H} {P : Program}
theorem post_same {f : Func} {s : ChangeSpec} {apart fresh handsOn again : Bool} {W W' : World} {args : Array Value} {v : Value} {ds gs : List (DataW H)} {before pa pv : List MemPlace}
    (hW : DataW.Whole enc P f.params.toList s.vars apart W args.toList ds gs before)
    (hres : ∀ (b : Nat) (sp : Nat → Bool) (hd : Bool), DataW.TrodAll enc P W' b sp hd f.resultTypes.toList (v.resultList f.resultTypes.size) (s.fn H (ds ++ gs)).results [])
    (hargs : ∀ sp : Nat → Bool, (∀ p ∈ before, sp p.block = true) → DataW.TrodAll enc P W' 0 sp true f.params.toList args.toList (s.fn H (ds ++ gs)).args pa)
    (hvars : ∀ sp : Nat → Bool, (∀ p ∈ before, sp p.block = true) → DataW.TrodVars enc P W' sp s.vars (s.fn H (ds ++ gs)).vars pv)
    (hps : before = pa ++ pv) (hb : Below W.heap.size W W')
    (hok : ∀ (j : Nat) (t : TypeId) (r : Value), f.resultTypes[j]? = some t → (v.resultList f.resultTypes.size)[j]? = some r → Value.okWide P W' .any 0 t r) :
    s.post enc P f apart fresh handsOn again W args v W' := by
  have hlt : ∀ p ∈ before, p.block < W.heap.size := fun p hp => by simpa using hW.lt p hp
  have hold : ∀ p ∈ before, (fun b => decide (b < W.heap.size)) p.block = true := fun p hp => by simpa using hW.lt p hp
  refine ⟨ds, gs, before, [], pa, pv, hW, hres _ _ _, hargs _ hold, hvars _ hold, World.keptBut_mono (fun p hp => ⟨hp, ?_⟩) (hb.frame (· ∈ before)), fun _ => ?_⟩
  · rw [hps, List.mem_append] at hp
    exact Or.inr hp
  · obtain ⟨_, _, _, _, _, hz, hn⟩ := hW
    refine ⟨hok, _, _, ([] ++ pa) ++ pv, ⟨[] ++ pa, pv, trodAll_append (hargs _ (fun _ _ => rfl)) (hres _ _ _), hvars _ (fun _ _ => rfl), rfl, ?_, ?_⟩, ?_⟩
    · intro b off hp
      have hp' : MemPlace.cell b off ∈ before := by rw [hps]; simpa using hp
      rw [hb.frozen (hlt _ hp')]
      exact hz b off hp'
    · intro ha
      have := hn ha
      rw [hps] at this
      simpa using this
    · intro p hp _
      rw [hps]
      simpa using hp
end
end Go.Proofs.YtifaanbnijnbdaaDoor.Cd

/- Texts of this claim: S41.B2, S41.B3, S41.B4, S41.B5, S41.P6d, S41.Ta, S41.CPa, S41.CA0. -/
import Derived.Test.YtogipicegdbhdaaDoorS2
import Derived.Test.YtogipicegdbhdaaDoorS1
import Derived.Test.YtogipicegdbhdaaDoorVc9
set_option linter.unusedVariables false
set_option linter.unusedSimpArgs false
namespace Go.Proofs.YtogipicegdbhdaaDoor.S41
open Go Go.Proofs.YtogipicegdbhdaaDoor.Vc Go.Proofs
set_option maxRecDepth 100000
set_option linter.unusedVariables false

def sZSpl : List V → Option (Prop × V × List Blk)
 | [.str s, .int .i64 nd, .sl false (.int .i64) hs, .str nz] => some (s.length ≤ 1048576 ∧ hs.length ≤ 1048576 ∧ nz.length ≤ 1048576, .tup [.own (.cons (.int .i64) (.cons .str .nil)) 0, .int .i64 (splE s nd hs nz)], [.row true (.cons (.int .i64) (.cons .str .nil)) (splL s nd hs nz)])
 | _ => none
set_option maxHeartbeats 2000000 in
theorem bZSpl (s : List UInt8) (nd : Int) (hs : List Int) (nz : List UInt8) (hp0 : s.length ≤ 1048576) (hp1 : hs.length ≤ 1048576) (hp2 : nz.length ≤ 1048576) : bodyP (En CZChk tys G6 []) Tryd.f18 [.o (.cons (.int .i64) (.cons .str .nil)), .k] [.str s, .int .i64 nd, .sl false (.int .i64) hs, .str nz] (.tup [.own (.cons (.int .i64) (.cons .str .nil)) 0, .int .i64 (splE s nd hs nz)]) [.row true (.cons (.int .i64) (.cons .str .nil)) (splL s nd hs nz)] := by
 refine ⟨fun h0 => ?_, fun h0 => ?_⟩
 ·replace h0 : 4096 < (s.length : Int) := h0
  have e : splE s nd hs nz = 2 := by unfold splE; rw [if_pos (by omega)]
  rw [splL, if_neg (by rw [e]; decide), e]
  exact ⟨rfl, rfl, rfl, rfl⟩
 ·replace h0 : ¬ (4096 < (s.length : Int)) := h0
  refine ⟨fun h1 => ?_, fun h1 => ?_⟩
  ·replace h1 : ¬ (nd < 1) := h1
   refine ⟨fun h2 => ?_, fun h2 => ?_⟩
   ·replace h2 : 12 < nd := h2
    have e : splE s nd hs nz = 3 := by unfold splE; rw [if_neg (by omega : ¬ 4096 < s.length), if_pos (by omega)]
    rw [splL, if_neg (by rw [e]; decide), e]
    exact ⟨rfl, rfl, rfl, rfl⟩
   ·replace h2 : ¬ (12 < nd) := h2
    refine ⟨fun h3 => ?_, fun h3 => ?_⟩
    ·replace h3 : (hs.length : Int) < nd := h3
     have e : splE s nd hs nz = 1 := by unfold splE; rw [if_neg (by omega : ¬ 4096 < s.length), if_neg (by omega : ¬ (nd < 1 ∨ 12 < nd)), if_pos (by omega)]
     rw [splL, if_neg (by rw [e]; decide), e]
     exact ⟨rfl, rfl, rfl, rfl⟩
    ·replace h3 : ¬ ((hs.length : Int) < nd) := h3
     refine ⟨0, [(0, .k), (1, .k), (2, .k), (3, .k), (10, .k), (35, .k), (36, .k), (37, .k)], fun nM vs H => ∃ (k : Nat), k ≤ hs.length ∧ (∀ j, j < k → hsB hs j = true) ∧ nM = hs.length - k ∧ vs = [.str s, .int .i64 nd, .sl false (.int .i64) hs, .str nz, .int .i64 (s.length : Int), .sl false (.int .i64) hs, .int .i64 (hs.length : Int), .int .i64 (k : Int)] ∧ H = [], ⟨rfl, hs.length, 0, by omega, fun j h => absurd h (Nat.not_lt_zero j), by omega, rfl, rfl⟩, ?_⟩
     rintro nM vs H ⟨k, hc1_0, hc1_1, rfl, rfl, rfl⟩
     refine ⟨fun h4 => ?_, fun h4 => ?_⟩
     ·replace h4 : (k : Int) < (hs.length : Int) := h4
      have hk : k < hs.length := by omega
      refine ⟨(i0 (k : Int) (hs.length : Int)), rfl, trivial, fun h5 => ?_, fun h5 => ?_⟩
      ·replace h5 : ¬ (¬ (knw (hs.getD k 0))) := h5
       refine ⟨fun h6 => ?_, fun h6 => ?_⟩
       ·replace h6 : 0 < (k : Int) := h6
        refine ⟨(r64 ((k : Int) - 1)), (i0 ((k : Int) - 1) (hs.length : Int)), fun h7 => ?_, fun h7 => ?_⟩
        ·replace h7 : (hs.getD k 0) ≤ (hs.getD (((k : Int) - 1).toNat) 0) := h7
         have hf : hsOk hs = false := hs_bad (fun g => by rw [show ((k : Int) - 1).toNat = k - 1 by omega] at h7; have := g.2; omega) hk
         have e : splE s nd hs nz = 1 := by unfold splE; rw [if_neg (by omega : ¬ 4096 < s.length), if_neg (by omega : ¬ (nd < 1 ∨ 12 < nd)), if_neg (by omega : ¬ (hs.length : Int) < nd), if_pos hf]
         rw [splL, if_neg (by rw [e]; decide), e]
         exact ⟨rfl, rfl, rfl, rfl⟩
        ·replace h7 : ¬ ((hs.getD k 0) ≤ (hs.getD (((k : Int) - 1).toNat) 0)) := h7
         have hok := hs_yes (l := hs) (Classical.not_not.1 h5) (.inr h7)
         refine ⟨(r64 ((k : Int) + 1)), ?_⟩
         exact ⟨rfl, hs.length - (k + 1), by omega, k + 1, by omega, hs_next hc1_1 hok, rfl, rfl, rfl⟩
       ·replace h6 : ¬ (0 < (k : Int)) := h6
        have hok := hs_yes (l := hs) (Classical.not_not.1 h5) (.inl (by omega))
        refine ⟨(r64 ((k : Int) + 1)), ?_⟩
        exact ⟨rfl, hs.length - (k + 1), by omega, k + 1, by omega, hs_next hc1_1 hok, rfl, rfl, rfl⟩
      ·replace h5 : ¬ (knw (hs.getD k 0)) := h5
       have hf : hsOk hs = false := hs_bad (fun g => h5 g.1) hk
       have e : splE s nd hs nz = 1 := by unfold splE; rw [if_neg (by omega : ¬ 4096 < s.length), if_neg (by omega : ¬ (nd < 1 ∨ 12 < nd)), if_neg (by omega : ¬ (hs.length : Int) < nd), if_pos hf]
       rw [splL, if_neg (by rw [e]; decide), e]
       exact ⟨rfl, rfl, rfl, rfl⟩
     ·replace h4 : ¬ ((k : Int) < (hs.length : Int)) := h4
      have hso := hs_all hc1_1 (by omega)
      obtain ⟨hm1, hm2⟩ := mul_bd (a := (s.length : Int)) (b := nd - 1) (A := 4096) (B := 11) (by omega) (by omega) (by omega) (by omega)
      refine ⟨(r64 (nd - 1)), (r64 ((s.length : Int) * (nd - 1))), fun h8 => ?_, fun h8 => ?_⟩
      ·replace h8 : (nz.length : Int) ≠ ((s.length : Int) * (nd - 1)) := h8
       have e : splE s nd hs nz = 1 := by unfold splE; rw [if_neg (by omega : ¬ 4096 < s.length), if_neg (by omega : ¬ (nd < 1 ∨ 12 < nd)), if_neg (by omega : ¬ (hs.length : Int) < nd), if_neg (by rw [hso]; decide), if_neg h8]
       rw [splL, if_neg (by rw [e]; decide), e]
       exact ⟨rfl, rfl, rfl, rfl⟩
      ·replace h8 : ¬ ((nz.length : Int) ≠ ((s.length : Int) * (nd - 1))) := h8
       have hn : nz.length = s.length * (nd - 1).toNat := Int.ofNat_inj.1 (by rw [Int.natCast_mul, Int.toNat_of_nonneg (by omega)]; exact Classical.not_not.1 h8)
       refine ⟨⟨rfl, by show (0 : Int) ≤ (hs.length : Int); omega, by show (hs.length : Int) ≤ (1000000000 : Int); omega⟩, 0, [(0, .k), (1, .k), (3, .k), (10, .k), (13, .o (.cons (.int .i64) (.cons .str .nil))), (69, .k), (70, .k), (71, .k)], fun nM vs H => ∃ (k : Nat), k ≤ hs.length ∧ nM = hs.length - k ∧ vs = [.str s, .int .i64 nd, .str nz, .int .i64 (s.length : Int), .own (.cons (.int .i64) (.cons .str .nil)) 0, .sl false (.int .i64) hs, .int .i64 (hs.length : Int), .int .i64 (k : Int)] ∧ H = [.row true (.cons (.int .i64) (.cons .str .nil)) (outL s nd hs nz k)], ⟨rfl, hs.length, 0, by omega, by omega, rfl, by rw [out_zero]; rfl⟩, ?_⟩
       rintro nM vs H ⟨k, hc2_0, rfl, rfl, rfl⟩
       have hol := out_len s nd hs nz k
       refine ⟨fun h9 => ?_, fun h9 => ?_⟩
       ·replace h9 : (k : Int) < (hs.length : Int) := h9
        have hk : k < hs.length := by omega
        obtain ⟨⟨q1, q2⟩, _⟩ := hs_get hso hk
        refine ⟨(i0 (k : Int) (hs.length : Int)), ⟨rfl, by show (0 : Int) ≤ (s.length : Int); omega, by show (s.length : Int) ≤ (1000000000 : Int); omega⟩, (r64 (nd - 2)), 1, [(0, .k), (1, .k), (3, .k), (10, .k), (13, .k), (14, .k), (15, .k), (16, .k), (17, .k), (69, .k), (70, .k), (71, .k)], fun nM vs H => ∃ (j : Nat), j ≤ (nd - 1).toNat ∧ nM = j + 1 ∧ vs = [.str s, .int .i64 nd, .str nz, .int .i64 (s.length : Int), .own (.cons (.int .i64) (.cons .str .nil)) 0, .int .i64 (k : Int), .int .i64 (hs.getD k 0), .str (accL nz s.length (nd - 1).toNat (pt (hs.getD k 0)) j), .int .i64 ((j : Int) - 1), .sl false (.int .i64) hs, .int .i64 (hs.length : Int), .int .i64 (k : Int)] ∧ H = [.row true (.cons (.int .i64) (.cons .str .nil)) (outL s nd hs nz k)], ⟨rfl, (nd - 1).toNat + 1, (nd - 1).toNat, by omega, by omega, by rw [acc_top, show (((nd - 1).toNat : Nat) : Int) - 1 = nd - 2 by omega]; rfl, rfl⟩, ?_⟩
        rintro nM vs H ⟨j, hc3_0, rfl, rfl, rfl⟩
        refine ⟨fun h10 => ?_, fun h10 => ?_⟩
        ·replace h10 : 0 ≤ ((j : Int) - 1) := h10
         obtain ⟨i, hj⟩ : ∃ i, j = i + 1 := ⟨j - 1, by omega⟩
         have e1 : (((j : Int) - 1) * (s.length : Int)) = ((i * s.length : Nat) : Int) := by rw [show (j : Int) - 1 = (i : Int) by omega, Int.natCast_mul]
         have e2 : ((((j : Int) - 1) + 1) * (s.length : Int)) = ((i * s.length : Nat) : Int) + (s.length : Int) := by rw [show ((j : Int) - 1) + 1 = (i : Int) + 1 by omega, Int.add_mul, Int.one_mul, Int.natCast_mul]
         have e3 : i * s.length + s.length ≤ nz.length := by (have := Nat.mul_le_mul_left s.length (show i + 1 ≤ (nd - 1).toNat by omega); rw [← hn, Nat.mul_succ, Nat.mul_comm] at this; exact this)
         have e4 : i * s.length ≤ 11 * 4096 := Nat.mul_le_mul (by omega) (by omega)
         have ey : ((((j : Int) - 1) + 1) * (s.length : Int)).toNat - (((j : Int) - 1) * (s.length : Int)).toNat = s.length := by omega
         have ex : (((j : Int) - 1) * (s.length : Int)).toNat = i * s.length := by omega
         have hst : scaleB (pt (hs.getD k 0)) (sumB (accL nz s.length (nd - 1).toNat (pt (hs.getD k 0)) j) ((nz.drop ((((j : Int) - 1) * (s.length : Int)).toNat)).take (((((j : Int) - 1) + 1) * (s.length : Int)).toNat - (((j : Int) - 1) * (s.length : Int)).toNat))) = accL nz s.length (nd - 1).toNat (pt (hs.getD k 0)) i := by rw [ey, ex, hj]; exact acc_step (by omega) hn rfl
         have hal := acc_len nz s.length (nd - 1).toNat (pt (hs.getD k 0)) j
         have hcl : ((nz.drop ((((j : Int) - 1) * (s.length : Int)).toNat)).take (((((j : Int) - 1) + 1) * (s.length : Int)).toNat - (((j : Int) - 1) * (s.length : Int)).toNat)).length = s.length := by rw [ey, List.length_take, List.length_drop]; omega
         refine ⟨by kernel_rfl, rfl, ⟨by show 0 ≤ (hs.getD k 0); first | omega | assumption, by show (hs.getD k 0) < 1000000; first | omega | assumption⟩, (r64 (((j : Int) - 1) * (s.length : Int))), (r64 (((j : Int) - 1) + 1)), (r64 ((((j : Int) - 1) + 1) * (s.length : Int))), ⟨by omega, by omega, by omega⟩, ⟨by show (accL nz s.length (nd - 1).toNat (pt (hs.getD k 0)) j).length ≤ 1000000000; first | omega | assumption, by show ((nz.drop ((((j : Int) - 1) * (s.length : Int)).toNat)).take (((((j : Int) - 1) + 1) * (s.length : Int)).toNat - (((j : Int) - 1) * (s.length : Int)).toNat)).length ≤ 1000000000; first | omega | assumption | (simp only [List.length_cons, List.length_nil, List.length_append, List.length_take, List.length_drop, List.length_set, List.length_replicate]; omega)⟩, by show (sumB _ _).length ≤ _; rw [sum_len, hcl, hal]; omega, (r64 (((j : Int) - 1) - 1)), ?_⟩
         exact ⟨rfl, i + 1, by omega, i, by omega, rfl, by rw [hst, show (j : Int) - 1 - 1 = (i : Int) - 1 by omega]; rfl, rfl⟩
        ·replace h10 : ¬ (0 ≤ ((j : Int) - 1)) := h10
         have hfin : sumB (accL nz s.length (nd - 1).toNat (pt (hs.getD k 0)) j) s = shB s nz (nd - 1).toNat (pt (hs.getD k 0)) := by rw [show j = 0 by omega]; exact acc_end
         have hal := acc_len nz s.length (nd - 1).toNat (pt (hs.getD k 0)) j
         refine ⟨⟨by show (accL nz s.length (nd - 1).toNat (pt (hs.getD k 0)) j).length ≤ 1000000000; first | omega | assumption, by show s.length ≤ 1000000000; first | omega | assumption⟩, (i0 (k : Int) ((outL s nd hs nz k).length : Int)), rfl, ⟨fun h => (by first | rfl | cases h), rfl, rfl⟩, (r64 ((k : Int) + 1)), ?_⟩
         exact ⟨rfl, hs.length - (k + 1), by omega, k + 1, by omega, rfl, rfl, by rw [← out_set (x := (hs.getD k 0, sumB (accL nz s.length (nd - 1).toNat (pt (hs.getD k 0)) j) s, ())) hk (by rw [hfin]; rfl)]; rfl⟩
       ·replace h9 : ¬ ((k : Int) < (hs.length : Int)) := h9
        have e : splE s nd hs nz = 0 := by unfold splE; rw [if_neg (by omega : ¬ 4096 < s.length), if_neg (by omega : ¬ (nd < 1 ∨ 12 < nd)), if_neg (by omega : ¬ (hs.length : Int) < nd), if_neg (by rw [hso]; decide), if_pos (Classical.not_not.1 h8)]
        rw [splL, if_pos e, e, ← out_all (by omega : hs.length ≤ k)]
        exact ⟨rfl, rfl, rfl, rfl⟩
  ·replace h1 : nd < 1 := h1
   have e : splE s nd hs nz = 3 := by unfold splE; rw [if_neg (by omega : ¬ 4096 < s.length), if_pos (by omega)]
   rw [splL, if_neg (by rw [e]; decide), e]
   exact ⟨rfl, rfl, rfl, rfl⟩
def CZSpl : List (Nat × Con) := (18, pureC [.v .str, .v (.int .i64), .v (.sl (.int .i64)), .v .str] sZSpl) :: CZChk
theorem kZSpl : Known Tryd.prog (En CZSpl tys G6 []) := kZChk.add Tryd.func18 Tryd.call18 [.o (.cons (.int .i64) (.cons .str .nil)), .k] fun ds p v bs h hp => by
 unfold sZSpl at h
 split at h <;> simp only [Option.some.injEq, Prod.mk.injEq, reduceCtorEq] at h
 obtain ⟨rfl, rfl, rfl⟩ := h
 exact bZSpl _ _ _ _ hp.1 hp.2.1 hp.2.2
end Go.Proofs.YtogipicegdbhdaaDoor.S41

namespace Go.Proofs.YtogipicegdbhdaaDoor.S41
open Go Go.Proofs.YtogipicegdbhdaaDoor.Vc Go.Proofs
set_option maxRecDepth 100000
set_option linter.unusedVariables false

def sZCo1 : List V → Option (Prop × V × List Blk)
 | [.int .i64 k, .rp false (.sl (.cons (.int .i64) (.cons .str .nil))) l 0] => some (0 ≤ k ∧ l.length ≤ 1048576 ∧ (∀ x ∈ l, k < (x.2.1.length : Int)), .own .u8 0, [.row true .u8 (ysL l k.toNat)])
 | _ => none
set_option maxHeartbeats 1000000 in
theorem bZCo1 (k : Int) (l : List (Int × (List UInt8 × Unit))) (hp0 : 0 ≤ k) (hp1 : l.length ≤ 1048576) (hp2 : (∀ x ∈ l, k < (x.2.1.length : Int))) : bodyP (En CZSpl tys G6 []) Tryd.f97 [.o .u8] [.int .i64 k, .rp false (.sl (.cons (.int .i64) (.cons .str .nil))) l 0] (.own .u8 0) [.row true .u8 (ysL l k.toNat)] := by
 refine ⟨⟨rfl, by show (0 : Int) ≤ (l.length : Int); omega, by show (l.length : Int) ≤ (1000000000 : Int); omega⟩, 0, [(0, .k), (4, .o .u8), (10, .k), (11, .k), (12, .k)], fun nM vs H => ∃ (i : Nat), i ≤ l.length ∧ nM = l.length - i ∧ vs = [.int .i64 k, .own .u8 0, .sl false (.cons (.int .i64) (.cons .str .nil)) l, .int .i64 (l.length : Int), .int .i64 (i : Int)] ∧ H = [.row true .u8 (fillF (yF l k.toNat) l.length i)], ⟨rfl, l.length, 0, by omega, by omega, rfl, by rw [fill_zero]; rfl⟩, ?_⟩
 rintro nM vs H ⟨i, hc1_0, rfl, rfl, rfl⟩
 have hfl := fill_len (yF l k.toNat) l.length i
 refine ⟨fun h0 => ?_, fun h0 => ?_⟩
 ·replace h0 : (i : Int) < (l.length : Int) := h0
  have hi : i < l.length := by omega
  have hkl := hp2 _ (getD_mem (0, [], ()) l i hi)
  refine ⟨(i0 (i : Int) (l.length : Int)), ⟨rfl, rfl, rfl, Nat.le_of_ble_eq_true rfl⟩, (i0 k ((((l.getD i (0, ([], ()))).2).1).length : Int)), (i0 (i : Int) ((fillF (yF l k.toNat) l.length i).length : Int)), ⟨rfl, rfl⟩, (r64 ((i : Int) + 1)), ?_⟩
  exact ⟨rfl, l.length - (i + 1), by omega, i + 1, by omega, rfl, rfl, by rw [← fill_set (yF l k.toNat) hi]; rfl⟩
 ·replace h0 : ¬ ((i : Int) < (l.length : Int)) := h0
  rw [show i = l.length by omega, ys_fill]
  exact ⟨rfl, rfl, rfl, rfl⟩
def CZCo1 : List (Nat × Con) := (97, pureC [.v (.int .i64), .ref (.sl (.cons (.int .i64) (.cons .str .nil)))] sZCo1) :: CZSpl
theorem kZCo1 : Known Tryd.prog (En CZCo1 tys G6 []) := kZSpl.add Tryd.func97 Tryd.call97 [.o .u8] fun ds p v bs h hp => by
 unfold sZCo1 at h
 split at h <;> simp only [Option.some.injEq, Prod.mk.injEq, reduceCtorEq] at h
 obtain ⟨rfl, rfl, rfl⟩ := h
 exact bZCo1 _ _ hp.1 hp.2.1 hp.2.2
def sZPts : List V → Option (Prop × V × List Blk)
 | [.sl false (.cons (.int .i64) (.cons .str .nil)) l] => some (l.length ≤ 1048576 ∧ (∀ x ∈ l, knw x.1), .own .u8 0, [.row true .u8 (xsL l)])
 | _ => none
set_option maxHeartbeats 1000000 in
theorem bZPts (l : List (Int × (List UInt8 × Unit))) (hp0 : l.length ≤ 1048576) (hp1 : (∀ x ∈ l, knw x.1)) : bodyP (En CZCo1 tys G6 []) Tryd.f79 [.o .u8] [.sl false (.cons (.int .i64) (.cons .str .nil)) l] (.own .u8 0) [.row true .u8 (xsL l)] := by
 refine ⟨⟨rfl, by show (0 : Int) ≤ (l.length : Int); omega, by show (l.length : Int) ≤ (1000000000 : Int); omega⟩, 0, [(3, .o .u8), (9, .k), (10, .k), (11, .k)], fun nM vs H => ∃ (i : Nat), i ≤ l.length ∧ nM = l.length - i ∧ vs = [.own .u8 0, .sl false (.cons (.int .i64) (.cons .str .nil)) l, .int .i64 (l.length : Int), .int .i64 (i : Int)] ∧ H = [.row true .u8 (fillF (xF l) l.length i)], ⟨rfl, l.length, 0, by omega, by omega, rfl, by rw [fill_zero]; rfl⟩, ?_⟩
 rintro nM vs H ⟨i, hc1_0, rfl, rfl, rfl⟩
 have hfl := fill_len (xF l) l.length i
 refine ⟨fun h0 => ?_, fun h0 => ?_⟩
 ·replace h0 : (i : Int) < (l.length : Int) := h0
  have hi : i < l.length := by omega
  obtain ⟨q1, q2⟩ := hp1 _ (getD_mem (0, [], ()) l i hi)
  refine ⟨(i0 (i : Int) (l.length : Int)), ⟨rfl, rfl, rfl, Nat.le_of_ble_eq_true rfl⟩, rfl, ⟨by show 0 ≤ ((l.getD i (0, ([], ()))).1); first | omega | assumption | (simp only [List.length_cons, List.length_nil, List.length_append, List.length_take, List.length_drop, List.length_set, List.length_replicate]; omega), by show ((l.getD i (0, ([], ()))).1) < 1000000; first | omega | assumption | (simp only [List.length_cons, List.length_nil, List.length_append, List.length_take, List.length_drop, List.length_set, List.length_replicate]; omega)⟩, (i0 (i : Int) ((fillF (xF l) l.length i).length : Int)), ⟨rfl, rfl⟩, (r64 ((i : Int) + 1)), ?_⟩
  exact ⟨rfl, l.length - (i + 1), by omega, i + 1, by omega, rfl, rfl, by rw [← fill_set (xF l) hi]; rfl⟩
 ·replace h0 : ¬ ((i : Int) < (l.length : Int)) := h0
  rw [show i = l.length by omega, xs_fill]
  exact ⟨rfl, rfl, rfl, rfl⟩
def CZPts : List (Nat × Con) := (79, pureC [.v (.sl (.cons (.int .i64) (.cons .str .nil)))] sZPts) :: CZCo1
theorem kZPts : Known Tryd.prog (En CZPts tys G6 []) := kZCo1.add Tryd.func79 Tryd.call79 [.o .u8] fun ds p v bs h hp => by
 unfold sZPts at h
 split at h <;> simp only [Option.some.injEq, Prod.mk.injEq, reduceCtorEq] at h
 obtain ⟨rfl, rfl, rfl⟩ := h
 exact bZPts _ hp.1 hp.2
def sZCo2 : List V → Option (Prop × Nat × (Nat → List V))
 | [.rp false (.sl (.cons (.int .i64) (.cons .str .nil))) l 0, .rb (.fn 97 [.rp false (.sl (.cons (.int .i64) (.cons .str .nil))) l2 0])] => some (1 ≤ l.length ∧ l.length ≤ 1048576 ∧ lnS l ≤ 1048576 ∧ (∀ x ∈ l, x.2.1.length = lnS l) ∧ l2 = l, (lnS l, fun n => [.int .i64 ((n : Nat) : Int), .sl false .u8 (ysL l n)]))
 | _ => none
set_option maxHeartbeats 1000000 in
theorem bZCo2 (l : List (Int × (List UInt8 × Unit))) (l2 : List (Int × (List UInt8 × Unit))) (hp0 : 1 ≤ l.length) (hp1 : l.length ≤ 1048576) (hp2 : lnS l ≤ 1048576) (hp3 : (∀ x ∈ l, x.2.1.length = lnS l)) (hp4 : l2 = l) : bodyS (En CZPts tys G6 []).inR Tryd.f98 [.rp false (.sl (.cons (.int .i64) (.cons .str .nil))) l 0, .rb (.fn 97 [.rp false (.sl (.cons (.int .i64) (.cons .str .nil))) l2 0])] [.v (.int .i64), .v (.sl .u8)] (lnS l, fun n => [.int .i64 ((n : Nat) : Int), .sl false .u8 (ysL l n)]) := by
 have hlS : (l.getD 0 (0, [], ())).2.1.length = lnS l := rfl
 refine ⟨rfl, (i0 0 (l.length : Int)), 0, [(0, .k), (2, .k), (9, .k), (10, .k)], fun nM vs H => ∃ (k : Nat), k ≤ lnS l ∧ nM = lnS l - k ∧ vs = [.yld (some k), .rb (.fn 97 [.rp false (.sl (.cons (.int .i64) (.cons .str .nil))) l2 0]), .int .i64 (((((l.getD 0 (0, ([], ()))).2).1).length : Nat) : Int), .int .i64 (k : Int)] ∧ H = [], ⟨rfl, lnS l, 0, by omega, by omega, rfl, rfl⟩, ?_⟩
 rintro nM vs H ⟨k, hc1_0, rfl, rfl, rfl⟩
 refine ⟨fun h0 => ?_, fun h0 => ?_⟩
 ·replace h0 : (k : Int) < (((((l.getD 0 (0, ([], ()))).2).1).length : Nat) : Int) := h0
  refine ⟨rfl, ⟨by show 0 ≤ (k : Int); first | omega | assumption, by rw [hp4]; omega, by rw [hp4]; exact fun x hx => by rw [hp3 x hx]; omega⟩, rfl, ⟨(by omega), by rw [hp4]; rfl⟩, ?_, ?_⟩
  ·refine ⟨(r64 ((k : Int) + 1)), ?_⟩
   exact ⟨rfl, lnS l - (k + 1), by omega, k + 1, by omega, rfl, rfl, rfl⟩
  ·trivial
 ·replace h0 : ¬ ((k : Int) < (((((l.getD 0 (0, ([], ()))).2).1).length : Nat) : Int)) := h0
  show (k : Nat) = lnS l
  omega
def QZCo2 : List (Nat × SeqC) := (98, [.ref (.sl (.cons (.int .i64) (.cons .str .nil))), .rf [(97, [.ref (.sl (.cons (.int .i64) (.cons .str .nil)))])]], sZCo2) :: []
def CZCo2 : List (Nat × Con) := CZPts
theorem kZCo2 : Known Tryd.prog (En CZCo2 tys G6 QZCo2) := kZPts.addSeq Tryd.func98 Tryd.call98 [.v (.int .i64), .v (.sl .u8)] fun ds p L h hp => by
 unfold sZCo2 at h
 split at h <;> simp only [Option.some.injEq, Prod.mk.injEq, reduceCtorEq] at h
 obtain ⟨rfl, rfl⟩ := h
 exact bZCo2 _ _ hp.1 hp.2.1 hp.2.2.1 hp.2.2.2.1 hp.2.2.2.2
end Go.Proofs.YtogipicegdbhdaaDoor.S41

namespace Go.Proofs.YtogipicegdbhdaaDoor.S41
open Go Go.Proofs.YtogipicegdbhdaaDoor.Vc Go.Proofs
set_option maxRecDepth 100000
set_option linter.unusedVariables false

def sZCol : List V → Option (Prop × V × List Blk)
 | [.sl false (.cons (.int .i64) (.cons .str .nil)) l] => some (True, .fn 98 [.ptr 0 1 0 0, .ptr 1 1 0 0], [.cells [.sl false (.cons (.int .i64) (.cons .str .nil)) (l)], .cells [.fn 97 [.ptr 0 1 0 0]]])
 | _ => none
set_option maxHeartbeats 1000000 in
theorem bZCol (l : List (Int × (List UInt8 × Unit)))  : bodyI (En CZCo2 tys G6 QZCo2) Tryd.f77 [.c []] [.sl false (.cons (.int .i64) (.cons .str .nil)) l] (.fn 98 [.ptr 0 1 0 0, .ptr 1 1 0 0]) [.cells [.sl false (.cons (.int .i64) (.cons .str .nil)) (l)], .cells [.fn 97 [.ptr 0 1 0 0]]] := by
 refine ⟨⟨rfl, rfl, rfl⟩, ?_⟩
 exact ⟨rfl, rfl, rfl, rfl⟩
def CZCol : List (Nat × Con) := (77, immC [.v (.sl (.cons (.int .i64) (.cons .str .nil)))] sZCol) :: CZCo2
theorem kZCol : Known Tryd.prog (En CZCol tys G6 QZCo2) := kZCo2.addI Tryd.func77 Tryd.call77 [.c []] fun ds p v bs h hp => by
 unfold sZCol at h
 split at h <;> simp only [Option.some.injEq, Prod.mk.injEq, reduceCtorEq] at h
 obtain ⟨rfl, rfl, rfl⟩ := h
 exact bZCol _
def sZjoi : List V → Option (Prop × V × List Blk)
 | [.sl false (.cons (.int .i64) (.cons .str .nil)) l, .int .i64 nd, .u8 x] => some (chkE l = 0 ∧ 1 ≤ nd ∧ nd ≤ 12, .tup [.str (jnS l nd x), .int .i64 (jnE l nd)], [])
 | _ => none
set_option maxHeartbeats 2000000 in
theorem bZjoi (l : List (Int × (List UInt8 × Unit))) (nd : Int) (x : UInt8) (hp0 : chkE l = 0) (hp1 : 1 ≤ nd) (hp2 : nd ≤ 12) : bodyP (En CZCol tys G6 QZCo2) Tryd.f42 [.k, .k] [.sl false (.cons (.int .i64) (.cons .str .nil)) l, .int .i64 nd, .u8 x] (.tup [.str (jnS l nd x), .int .i64 (jnE l nd)]) [] := by
 have hc := chk0 hp0
 have hcl := hc.len
 have hcm := hc.max
 have hcb := hc.bytes
 have hch := hc.house
 refine ⟨fun h0 => ?_, fun h0 => ?_⟩
 ·replace h0 : (l.length : Int) < nd := h0
  refine ⟨⟨rfl, rfl, rfl⟩, ⟨rfl, rfl, rfl⟩, ?_⟩
  have e : jnE l nd = 29 := jn29 h0
  rw [jnSn (by rw [e]; decide), e]
  exact ⟨rfl, rfl, rfl, rfl⟩
 ·replace h0 : ¬ ((l.length : Int) < nd) := h0
  refine ⟨trivial, rfl, rfl, ⟨⟨by show 1 ≤ l.length; first | omega | assumption, by show l.length ≤ 1048576; first | omega | assumption, by show lnS l ≤ 1048576; first | omega | assumption, hcb, rfl⟩, fun _ _ => rfl⟩, 9, [(3, .k), (4, .k), (5, .k), (6, .k), (7, .k), (8, .c [(0, .u8)])], fun n vs H => n ≤ lnS l ∧ (∀ i, i < n → (tpL (xsL l) (ysL l i) (nd - 1)).2 = 0) ∧ vs = [.ptr 0 1 0 0, .ptr 1 1 0 0, .ptr 2 1 0 0, .ptr 3 1 0 0, .ptr 4 1 0 0, .ptr 5 1 0 0] ∧ H = [.cells [.sl false (.cons (.int .i64) (.cons .str .nil)) l], .cells [.int .i64 nd], .cells [.u8 x], .cells [.str ([])], .cells [.int .i64 0], .cells [.own .u8 8], .dead, .dead, .row true .u8 (jnK l nd x n)], ⟨rfl, by omega, fun i h => absurd h (Nat.not_lt_zero i), rfl, rfl⟩, ?_, ?_⟩
  ·rintro n vs H ⟨hc1_0, hc1_1, rfl, rfl⟩ hn1
   replace hn1 : n < lnS l := hn1
   have hjl := jnK_len l nd x n
   refine ⟨by kernel_rfl, ⟨by show l.length ≤ 1048576; first | omega | assumption, by assumption⟩, (r64 (nd - 1)), rfl, ⟨by show (xsL l).length ≤ 10000; rw [xsL_len]; omega, by show (ysL l n).length ≤ 10000; rw [ysL_len]; omega⟩, fun h1 => ?_, fun h1 => ?_⟩
   ·replace h1 : ((tpL (xsL l) (ysL l n) (nd - 1)).2) ≠ 0 := h1
    refine ⟨⟨rfl, rfl, rfl⟩, ⟨rfl, rfl, rfl⟩, rfl, rfl, ?_⟩
    have e : jnE l nd = 14 := jn14 h0 hn1 h1
    rw [jnSn (by rw [e]; decide), e]
    exact ⟨rfl, rfl, rfl, rfl⟩
   ·replace h1 : ¬ (((tpL (xsL l) (ysL l n) (nd - 1)).2) ≠ 0) := h1
    refine ⟨by kernel_rfl, by show ((tpL (xsL l) (ysL l n) (nd - 1)).1).length ≤ 1000000; have := tp_len (xsL l) (ysL l n) (nd - 1); rw [xsL_len] at this; omega, ⟨rfl, rfl⟩, by show (jnK l nd x n).length + ([horner x ((tpL (xsL l) (ysL l n) (nd - 1)).1)] : List UInt8).length ≤ 1000000000; simp only [List.length_cons, List.length_nil]; omega, ⟨rfl, rfl, rfl⟩, ?_⟩
    exact ⟨rfl, rfl, by omega, up_next (P := fun i => (tpL (xsL l) (ysL l i) (nd - 1)).2 = 0) hc1_1 (Classical.not_not.1 h1), rfl, by rw [jnK_snoc]; rfl⟩
  ·rintro vs H ⟨hc1_0, hc1_1, rfl, rfl⟩
   refine ⟨⟨rfl, rfl, rfl⟩, ⟨rfl, rfl, rfl⟩, ?_⟩
   have e := jn0 h0 hc1_1
   rw [jnS0 e, e]
   exact ⟨rfl, rfl, rfl, rfl⟩
def CZjoi : List (Nat × Con) := (42, pureC [.v (.sl (.cons (.int .i64) (.cons .str .nil))), .v (.int .i64), .v .u8] sZjoi) :: CZCol
theorem kZjoi : Known Tryd.prog (En CZjoi tys G6 QZCo2) := kZCol.add Tryd.func42 Tryd.call42 [.k, .k] fun ds p v bs h hp => by
 unfold sZjoi at h
 split at h <;> simp only [Option.some.injEq, Prod.mk.injEq, reduceCtorEq] at h
 obtain ⟨rfl, rfl, rfl⟩ := h
 exact bZjoi _ _ _ hp.1 hp.2.1 hp.2.2
end Go.Proofs.YtogipicegdbhdaaDoor.S41

namespace Go.Proofs.YtogipicegdbhdaaDoor.S41
open Go Go.Proofs.YtogipicegdbhdaaDoor.Vc Go.Proofs
set_option maxRecDepth 100000
set_option linter.unusedVariables false

def sZrdy : List V → Option (Prop × V × List Blk)
 | [.sl false (.cons (.int .i64) (.cons .str .nil)) l, .int .i64 nd] => some (l.length ≤ 1048576, .int .i64 (rdE l nd), [])
 | _ => none
set_option maxHeartbeats 1000000 in
theorem bZrdy (l : List (Int × (List UInt8 × Unit))) (nd : Int) (hp0 : l.length ≤ 1048576) : bodyP (En CZjoi tys G6 QZCo2) Tryd.f41 [.k] [.sl false (.cons (.int .i64) (.cons .str .nil)) l, .int .i64 nd] (.int .i64 (rdE l nd)) [] := by
 refine ⟨by show l.length ≤ 1048576; first | omega | assumption, fun h0 => ?_, fun h0 => ?_⟩
 ·replace h0 : (chkE l) ≠ 0 := h0
  rw [show rdE l nd = chkE l from if_neg h0]
  exact ⟨rfl, rfl, rfl, rfl⟩
 ·replace h0 : ¬ ((chkE l) ≠ 0) := h0
  refine ⟨fun h1 => ?_, fun h1 => ?_⟩
  ·replace h1 : ¬ (nd < 1) := h1
   refine ⟨fun h2 => ?_, fun h2 => ?_⟩
   ·replace h2 : 12 < nd := h2
    rw [show rdE l nd = 3 by unfold rdE; rw [if_pos (Classical.not_not.1 h0), if_pos (by omega)]]
    exact ⟨rfl, rfl, rfl, rfl⟩
   ·replace h2 : ¬ (12 < nd) := h2
    rw [show rdE l nd = 0 by unfold rdE; rw [if_pos (Classical.not_not.1 h0), if_neg (by omega)]]
    exact ⟨rfl, rfl, rfl, rfl⟩
  ·replace h1 : nd < 1 := h1
   rw [show rdE l nd = 3 by unfold rdE; rw [if_pos (Classical.not_not.1 h0), if_pos (by omega)]]
   exact ⟨rfl, rfl, rfl, rfl⟩
def CZrdy : List (Nat × Con) := (41, pureC [.v (.sl (.cons (.int .i64) (.cons .str .nil))), .v (.int .i64)] sZrdy) :: CZjoi
theorem kZrdy : Known Tryd.prog (En CZrdy tys G6 QZCo2) := kZjoi.add Tryd.func41 Tryd.call41 [.k] fun ds p v bs h hp => by
 unfold sZrdy at h
 split at h <;> simp only [Option.some.injEq, Prod.mk.injEq, reduceCtorEq] at h
 obtain ⟨rfl, rfl, rfl⟩ := h
 exact bZrdy _ _ hp
def sZJoi : List V → Option (Prop × V × List Blk)
 | [.sl false (.cons (.int .i64) (.cons .str .nil)) l, .int .i64 nd] => some (l.length ≤ 1048576, .tup [.str (joS l nd 0), .int .i64 (joE l nd)], [])
 | _ => none
set_option maxHeartbeats 1000000 in
theorem bZJoi (l : List (Int × (List UInt8 × Unit))) (nd : Int) (hp0 : l.length ≤ 1048576) : bodyP (En CZrdy tys G6 QZCo2) Tryd.f15 [.k, .k] [.sl false (.cons (.int .i64) (.cons .str .nil)) l, .int .i64 nd] (.tup [.str (joS l nd 0), .int .i64 (joE l nd)]) [] := by
 refine ⟨rfl, by show l.length ≤ 1048576; first | omega | assumption, fun h0 => ?_, fun h0 => ?_⟩
 ·replace h0 : (rdE l nd) ≠ 0 := h0
  rw [show joE l nd = rdE l nd from if_neg h0, show joS l nd 0 = [] from if_neg h0]
  exact ⟨rfl, rfl, rfl, rfl⟩
 ·replace h0 : ¬ ((rdE l nd) ≠ 0) := h0
  have r := Classical.not_not.1 h0
  obtain ⟨r1, r2, r3⟩ := rd0 r
  have hrl := (chk0 r1).len
  refine ⟨rfl, ⟨by show chkE l = 0; first | omega | assumption, by show 1 ≤ nd; first | omega | assumption, by show nd ≤ 12; first | omega | assumption⟩, ?_⟩
  rw [show joE l nd = jnE l nd from if_pos r, show joS l nd 0 = jnS l nd 0 from if_pos r]
  exact ⟨rfl, rfl, rfl, rfl⟩
def CZJoi : List (Nat × Con) := (15, pureC [.v (.sl (.cons (.int .i64) (.cons .str .nil))), .v (.int .i64)] sZJoi) :: CZrdy
theorem kZJoi : Known Tryd.prog (En CZJoi tys G6 QZCo2) := kZrdy.add Tryd.func15 Tryd.call15 [.k, .k] fun ds p v bs h hp => by
 unfold sZJoi at h
 split at h <;> simp only [Option.some.injEq, Prod.mk.injEq, reduceCtorEq] at h
 obtain ⟨rfl, rfl, rfl⟩ := h
 exact bZJoi _ _ hp
def sZFit : List V → Option (Prop × V × List Blk)
 | [.sl false (.cons (.int .i64) (.cons .str .nil)) l, .int .i64 nd, .str s] => some (l.length ≤ 1048576 ∧ s.length ≤ 1048576, .tup [.int .i64 (ftN l nd s), .b (ftP l nd s)], [])
 | _ => none
set_option maxHeartbeats 1000000 in
theorem bZFit (l : List (Int × (List UInt8 × Unit))) (nd : Int) (s : List UInt8) (hp0 : l.length ≤ 1048576) (hp1 : s.length ≤ 1048576) : bodyP (En CZJoi tys G6 QZCo2) Tryd.f14 [.k, .k] [.sl false (.cons (.int .i64) (.cons .str .nil)) l, .int .i64 nd, .str s] (.tup [.int .i64 (ftN l nd s), .b (ftP l nd s)]) [] := by
 refine ⟨rfl, by show l.length ≤ 1048576; first | omega | assumption, fun h0 => ?_, fun h0 => ?_⟩
 ·replace h0 : ¬ ((rdE l nd) ≠ 0) := h0
  have r := Classical.not_not.1 h0
  obtain ⟨r1, r2, r3⟩ := rd0 r
  have hrl := (chk0 r1).len
  refine ⟨fun h1 => ?_, fun h1 => ?_⟩
  ·replace h1 : ¬ (4096 < (s.length : Int)) := h1
   refine ⟨fun h2 => ?_, fun h2 => ?_⟩
   ·replace h2 : 0 < (l.length : Int) := h2
    refine ⟨(i0 0 (l.length : Int)), fun h3 => ?_, fun h3 => ?_⟩
    ·replace h3 : (((((l.getD 0 (0, ([], ()))).2).1).length : Nat) : Int) ≠ (s.length : Int) := h3
     have e : ftN l nd s = 0 := if_neg (fun g => by rcases g.2.2.1 with q | q; (omega); (exact h3 (by show (((l.getD 0 _).2.1.length : Nat) : Int) = _; unfold lnS at q; omega)))
     have e2 : ftP l nd s = (false = true) := propext ⟨fun g => False.elim (by rcases g.2.2.1 with q | q; (omega); (exact h3 (by show (((l.getD 0 _).2.1.length : Nat) : Int) = _; unfold lnS at q; omega))), fun g => Bool.noConfusion g⟩
     rw [e, e2]
     exact ⟨rfl, rfl, rfl, rfl⟩
    ·replace h3 : ¬ ((((((l.getD 0 (0, ([], ()))).2).1).length : Nat) : Int) ≠ (s.length : Int)) := h3
     refine ⟨(r64 (nd - 1)), (r64 ((nd - 1) - (l.length : Int))), fun h4 => ?_, fun h4 => ?_⟩
     ·replace h4 : 0 ≤ ((nd - 1) - (l.length : Int)) := h4
      obtain ⟨b1, b2⟩ := mul_bd (a := (nd - 1) - (l.length : Int)) (b := (s.length : Int)) (A := 12) (B := 4096) (by omega) (by omega) (by omega) (by omega)
      refine ⟨(r64 (((nd - 1) - (l.length : Int)) * (s.length : Int))), ?_⟩
      have e : ftN l nd s = (nd - 1 - (l.length : Int)) * (s.length : Int) := if_pos ⟨r, by omega, .inr (by show (l.getD 0 _).2.1.length = _; omega), by omega⟩
      have e2 : ftP l nd s = (true = true) := propext ⟨fun _ => rfl, fun _ => ⟨r, by omega, .inr (by show (l.getD 0 _).2.1.length = _; omega), .inl (by omega)⟩⟩
      rw [e, e2]
      exact ⟨rfl, rfl, rfl, rfl⟩
     ·replace h4 : ¬ (0 ≤ ((nd - 1) - (l.length : Int))) := h4
      refine ⟨rfl, ⟨by show chkE l = 0; first | omega | assumption, by show 1 ≤ nd; first | omega | assumption, by show nd ≤ 12; first | omega | assumption⟩, fun h5 => ?_, fun h5 => ?_⟩
      ·replace h5 : (jnE l nd) = 0 := h5
       have e : ftN l nd s = 0 := if_neg (fun g => by have := g.2.2.2; omega)
       have e2 : ftP l nd s = (jnS l nd 0 = s) := propext ⟨fun g => (g.2.2.2.resolve_left (by omega)).2, fun g => ⟨r, by omega, .inr (by show (l.getD 0 _).2.1.length = _; omega), .inr ⟨h5, g⟩⟩⟩
       rw [e, e2]
       exact ⟨rfl, rfl, rfl, rfl⟩
      ·replace h5 : ¬ ((jnE l nd) = 0) := h5
       have e : ftN l nd s = 0 := if_neg (fun g => by have := g.2.2.2; omega)
       have e2 : ftP l nd s = (false = true) := propext ⟨fun g => False.elim (by rcases g.2.2.2 with q | q; (omega); (exact h5 q.1)), fun g => Bool.noConfusion g⟩
       rw [e, e2]
       exact ⟨rfl, rfl, rfl, rfl⟩
   ·replace h2 : ¬ (0 < (l.length : Int)) := h2
    refine ⟨(r64 (nd - 1)), (r64 ((nd - 1) - (l.length : Int))), fun h6 => ?_, fun h6 => ?_⟩
    ·replace h6 : 0 ≤ ((nd - 1) - (l.length : Int)) := h6
     obtain ⟨b1, b2⟩ := mul_bd (a := (nd - 1) - (l.length : Int)) (b := (s.length : Int)) (A := 12) (B := 4096) (by omega) (by omega) (by omega) (by omega)
     refine ⟨(r64 (((nd - 1) - (l.length : Int)) * (s.length : Int))), ?_⟩
     have e : ftN l nd s = (nd - 1 - (l.length : Int)) * (s.length : Int) := if_pos ⟨r, by omega, .inl (by omega), by omega⟩
     have e2 : ftP l nd s = (true = true) := propext ⟨fun _ => rfl, fun _ => ⟨r, by omega, .inl (by omega), .inl (by omega)⟩⟩
     rw [e, e2]
     exact ⟨rfl, rfl, rfl, rfl⟩
    ·replace h6 : ¬ (0 ≤ ((nd - 1) - (l.length : Int))) := h6
     refine ⟨rfl, ⟨by show chkE l = 0; first | omega | assumption, by show 1 ≤ nd; first | omega | assumption, by show nd ≤ 12; first | omega | assumption⟩, fun h7 => ?_, fun h7 => ?_⟩
     ·replace h7 : (jnE l nd) = 0 := h7
      have e : ftN l nd s = 0 := if_neg (fun g => by have := g.2.2.2; omega)
      have e2 : ftP l nd s = (jnS l nd 0 = s) := propext ⟨fun g => (g.2.2.2.resolve_left (by omega)).2, fun g => ⟨r, by omega, .inl (by omega), .inr ⟨h7, g⟩⟩⟩
      rw [e, e2]
      exact ⟨rfl, rfl, rfl, rfl⟩
     ·replace h7 : ¬ ((jnE l nd) = 0) := h7
      have e : ftN l nd s = 0 := if_neg (fun g => by have := g.2.2.2; omega)
      have e2 : ftP l nd s = (false = true) := propext ⟨fun g => False.elim (by rcases g.2.2.2 with q | q; (omega); (exact h7 q.1)), fun g => Bool.noConfusion g⟩
      rw [e, e2]
      exact ⟨rfl, rfl, rfl, rfl⟩
  ·replace h1 : 4096 < (s.length : Int) := h1
   have e : ftN l nd s = 0 := if_neg (fun g => by have := g.2.1; omega)
   have e2 : ftP l nd s = (false = true) := propext ⟨fun g => False.elim (by have := g.2.1; omega), fun g => Bool.noConfusion g⟩
   rw [e, e2]
   exact ⟨rfl, rfl, rfl, rfl⟩
 ·replace h0 : (rdE l nd) ≠ 0 := h0
  have e : ftN l nd s = 0 := if_neg (fun g => h0 g.1)
  have e2 : ftP l nd s = (false = true) := propext ⟨fun g => False.elim (h0 g.1), fun g => Bool.noConfusion g⟩
  rw [e, e2]
  exact ⟨rfl, rfl, rfl, rfl⟩
def CZFit : List (Nat × Con) := (14, pureC [.v (.sl (.cons (.int .i64) (.cons .str .nil))), .v (.int .i64), .v .str] sZFit) :: CZJoi
theorem kZFit : Known Tryd.prog (En CZFit tys G6 QZCo2) := kZJoi.add Tryd.func14 Tryd.call14 [.k, .k] fun ds p v bs h hp => by
 unfold sZFit at h
 split at h <;> simp only [Option.some.injEq, Prod.mk.injEq, reduceCtorEq] at h
 obtain ⟨rfl, rfl, rfl⟩ := h
 exact bZFit _ _ _ hp.1 hp.2
end Go.Proofs.YtogipicegdbhdaaDoor.S41

namespace Go.Proofs.YtogipicegdbhdaaDoor.S41
open Go Go.Proofs.YtogipicegdbhdaaDoor.Vc Go.Proofs
set_option maxRecDepth 100000
theorem xsL_get {l : List (Int × List UInt8 × Unit)} {k : Nat} (h : k < l.length) : (xsL l).getD k 0 = pt (l.getD k (0, [], ())).1 := by
 simp [xsL, List.getD_eq_getElem?_getD, List.getElem?_eq_getElem h]
theorem ysL_get {l : List (Int × List UInt8 × Unit)} {k i : Nat} (h : i < l.length) : (ysL l k).getD i 0 = (l.getD i (0, [], ())).2.1.getD k 0 := by
 simp [ysL, List.getD_eq_getElem?_getD, List.getElem?_eq_getElem h]
theorem tp_line {xs ys : List UInt8} (hr : rightP xs ys) {m : Nat} (h1 : 1 ≤ m) (hm : m ≤ xs.length) {d : Int} (hd : d = (m : Int) - 1) :
  ((tpL xs ys d).2 = 0 ↔ ∀ j, m ≤ j → j < xs.length → horner (xs.getD j 0) (lineL (xs.take m) (ys.take m)) = ys.getD j 0) ∧ ((tpL xs ys d).2 = 0 → (tpL xs ys d).1 = lineL (xs.take m) (ys.take m)) := by
 have hls := lineL_sz (xs.take m) (ys.take m)
 have hl : (xs.take m).length = m := by rw [List.length_take]; omega
 have hn : (xs.take m).Nodup := (right_take xs ys m hr).1
 have hlv : ∀ j, j < m → horner (xs.getD j 0) (lineL (xs.take m) (ys.take m)) = ys.getD j 0 := fun j hj => by
  have := lineL_val (xs.take m) (ys.take m) hn j (by omega)
  rwa [getD_take _ _ _ hj, getD_take _ _ _ hj] at this
 have key : (tpL xs ys d).2 = 0 → thrL xs ys = lineL (xs.take m) (ys.take m) := fun h => by
  have hdg : ¬ d < degL (thrL xs ys) := fun g => by
   unfold tpL at h
   rw [if_pos hr, if_neg (by omega), if_neg (by omega), if_pos g] at h
   exact absurd h (by decide)
  rw [thr_line xs ys hr] at hdg ⊢
  rw [← lineL_trim xs ys, ← lineL_trim (xs.take m) (ys.take m)]
  refine poly_unique (xs.take m) _ _ hn (fun x hx => ?_) (by rw [degL_sz] at hdg; omega) (by omega)
  obtain ⟨k, hk, rfl⟩ := getD_mem' (d := 0) hx
  rw [hl] at hk
  rw [getD_take _ _ _ hk, lineL_val xs ys hr.1 k (by omega), hlv k hk]
 have hone : (tpL xs ys d).2 = 0 → (tpL xs ys d).1 = thrL xs ys := fun h => by
  unfold tpL at h ⊢
  rw [if_pos hr, if_neg (by omega), if_neg (by omega)] at h ⊢
  split at h
  ·exact absurd h (by decide)
  ·rename_i g; rw [if_neg g]
 refine ⟨⟨fun h j hj hjl => ?_, fun h => ?_⟩, fun h => (hone h).trans (key h)⟩
 ·rw [← key h, thr_line xs ys hr, lineL_val xs ys hr.1 j hjl]
 ·have hth : thrL xs ys = lineL (xs.take m) (ys.take m) := by
   rw [thr_line xs ys hr, ← lineL_trim xs ys, ← lineL_trim (xs.take m) (ys.take m)]
   refine poly_unique xs _ _ hr.1 (fun x hx => ?_) (lineL_sz xs ys) (by omega)
   obtain ⟨k, hk, rfl⟩ := getD_mem' (d := 0) hx
   rw [lineL_val xs ys hr.1 k hk]
   by_cases e : k < m
   ·rw [hlv k e]
   ·rw [h k (by omega) hk]
  unfold tpL
  rw [if_pos hr, if_neg (by omega), if_neg (by omega), if_neg]
  rw [hth, degL_sz]
  omega
theorem pt_nat' {h : Int} (hh : knw h) : (pt h).toNat = h.toNat + 1 := by
 obtain ⟨a, b⟩ := hh
 have := pt_nat (h := h.toNat) (by omega)
 rwa [Int.toNat_of_nonneg a] at this
theorem up_lt {l : List (Int × List UInt8 × Unit)} (h : ∀ k, k + 1 < l.length → (l.getD k (0, [], ())).1 < (l.getD (k + 1) (0, [], ())).1) {i j : Nat} (hij : i < j) : j < l.length → (l.getD i (0, [], ())).1 < (l.getD j (0, [], ())).1 := by
 induction j with
 | zero => omega
 | succ j ih =>
  intro hj
  have h1 := h j hj
  by_cases e : i = j
  ·rw [e]; exact h1
  ·have := ih (by omega) (by omega); omega
theorem ShOk.nodup {l : List (Int × List UInt8 × Unit)} (hc : ShOk l) : (xsL l).Nodup := by
 rw [List.nodup_iff_pairwise_ne, List.pairwise_iff_getElem]
 intro i j hi hj hij
 rw [xsL_len] at hi hj
 have h1 := up_lt hc.up hij hj
 have h2 := pt_nat' (hc.house _ (getD_mem (0, [], ()) l i hi))
 have h3 := pt_nat' (hc.house _ (getD_mem (0, [], ()) l j hj))
 have h4 := hc.house _ (getD_mem (0, [], ()) l i hi)
 intro e
 have e1 : (xsL l)[i] = pt (l.getD i (0, [], ())).1 := by rw [← xsL_get hi]; simp [List.getD_eq_getElem?_getD, hi, xsL_len]
 have e2 : (xsL l)[j] = pt (l.getD j (0, [], ())).1 := by rw [← xsL_get hj]; simp [List.getD_eq_getElem?_getD, hj, xsL_len]
 rw [e1, e2] at e
 have := congrArg UInt8.toNat e
 unfold knw at h4
 omega
theorem ShOk.right {l : List (Int × List UInt8 × Unit)} (hc : ShOk l) (k : Nat) : rightP (xsL l) (ysL l k) := ⟨hc.nodup, by rw [xsL_len, ysL_len]⟩
theorem inc_len : ∀ (l : List Int) (a b : Int), a ≤ b → (∀ x ∈ l, a ≤ x ∧ x < b) → l.Pairwise (· < ·) → (l.length : Int) ≤ b - a
 | [], a, b, h, _, _ => by simp; omega
 | x :: l, a, b, _, hx, hp => by
  rw [List.pairwise_cons] at hp
  have h1 := hx x (by simp)
  have := inc_len l (x + 1) b (by omega) (fun y hy => by have := hx y (by simp [hy]); have := hp.1 y hy; omega) hp.2
  rw [List.length_cons]; omega
theorem chk_of {l : List (Int × List UInt8 × Unit)} {n : Nat} (h1 : ∀ s ∈ l, knw s.1 ∧ s.2.1.length = n) (hn : n ≤ 4096) (hp : l.Pairwise fun a b => a.1 < b.1) : chkE l = 0 := by
 have hl : ((l.map (·.1)).length : Int) ≤ 12 - 0 := inc_len _ 0 12 (by omega) (fun x hx => by obtain ⟨s, hs, rfl⟩ := List.mem_map.1 hx; exact (h1 s hs).1) (List.pairwise_map.2 hp)
 rw [List.length_map] at hl
 have ha : ¬ l.all smB = false := fun e => by
  have : l.all smB = true := List.all_eq_true.2 fun s hs => decide_eq_true (by have := (h1 s hs).2; omega)
  rw [e] at this; cases this
 refine chk0' (by omega) ha (List.all_eq_true.2 fun k hk => decide_eq_true ?_)
 have hk := List.mem_range.1 hk
 have hm := h1 _ (getD_mem (0, [], ()) l k hk)
 have h0 := h1 _ (getD_mem (0, [], ()) l 0 (by omega))
 refine ⟨hm.1, ?_, by unfold lnS; omega⟩
 rcases Nat.eq_zero_or_pos k with e | e
 ·exact .inl e
 ·right
  have := List.pairwise_iff_getElem.1 hp (k - 1) k (by omega) hk (by omega)
  simpa [List.getD_eq_getElem?_getD, hk, show k - 1 < l.length by omega] using this
theorem ShOk.pair {l : List (Int × List UInt8 × Unit)} (hc : ShOk l) : l.Pairwise fun a b => a.1 < b.1 := by
 rw [List.pairwise_iff_getElem]
 intro i j hi hj hij
 have := up_lt hc.up hij hj
 simpa [List.getD_eq_getElem?_getD, hi, hj] using this
theorem chk_sub {l p : List (Int × List UInt8 × Unit)} (hc : ShOk l) (h : p.Sublist l) : chkE p = 0 :=
 chk_of (n := lnS l) (fun s hs => ⟨hc.house s (h.subset hs), hc.bytes s (h.subset hs)⟩) hc.max (hc.pair.sublist h)
theorem poly_line {l : List (Int × List UInt8 × Unit)} (hc : ShOk l) {m k : Nat} (h1 : 1 ≤ m) (h2 : m ≤ l.length) {p : List UInt8} (hz : sz p ≤ m) (hv : ∀ s ∈ l, s.2.1.getD k 0 = horner (pt s.1) p) :
  (tpL (xsL l) (ysL l k) ((m : Int) - 1)).2 = 0 ∧ ∀ x, horner x (tpL (xsL l) (ysL l k) ((m : Int) - 1)).1 = horner x p := by
 have ht := tp_line (hc.right k) h1 (by rw [xsL_len]; exact h2) (d := (m : Int) - 1) rfl
 have hr := right_take (xsL l) (ysL l k) m (hc.right k)
 have hl : ((xsL l).take m).length = m := by rw [List.length_take, xsL_len]; omega
 have hval : ∀ j, j < l.length → horner ((xsL l).getD j 0) p = (ysL l k).getD j 0 := fun j hj => by
  rw [xsL_get hj, ysL_get hj, hv _ (getD_mem (0, [], ()) l j hj)]
 have hline : trimL (lineL ((xsL l).take m) ((ysL l k).take m)) = trimL p := by
  refine poly_unique ((xsL l).take m) _ _ hr.1 (fun x hx => ?_) (by have := lineL_sz ((xsL l).take m) ((ysL l k).take m); omega) (by omega)
  obtain ⟨j, hj, rfl⟩ := getD_mem' (d := 0) hx
  rw [hl] at hj
  rw [lineL_val _ _ hr.1 j (by omega), getD_take _ _ _ hj, getD_take _ _ _ hj, hval j (by omega)]
 have hh : ∀ x, horner x (lineL ((xsL l).take m) ((ysL l k).take m)) = horner x p := fun x => by rw [← horner_trim x (lineL _ _), hline, horner_trim]
 have h0 : (tpL (xsL l) (ysL l k) ((m : Int) - 1)).2 = 0 := ht.1.2 fun j _ hj => by rw [xsL_len] at hj; rw [hh, hval j hj]
 exact ⟨h0, fun x => by rw [ht.2 h0, hh]⟩
theorem join_poly {l : List (Int × List UInt8 × Unit)} (hc : ShOk l) {nd : Int} (h1 : 1 ≤ nd) (h2 : nd ≤ (l.length : Int)) {P : Nat → List UInt8} (hP : ∀ k, k < lnS l → sz (P k) ≤ nd.toNat ∧ ∀ s ∈ l, s.2.1.getD k 0 = horner (pt s.1) (P k)) (x : UInt8) :
  jnE l nd = 0 ∧ jnS l nd x = (List.range (lnS l)).map fun k => horner x (P k) := by
 have key : ∀ k, k < lnS l → (tpL (xsL l) (ysL l k) (nd - 1)).2 = 0 ∧ ∀ x, horner x (tpL (xsL l) (ysL l k) (nd - 1)).1 = horner x (P k) := fun k hk => by
  have := poly_line hc (m := nd.toNat) (k := k) (by omega) (by omega) (hP k hk).1 (hP k hk).2
  rwa [Int.toNat_of_nonneg (by omega)] at this
 have e := jn0 (l := l) (nd := nd) (by omega) fun k hk => (key k hk).1
 refine ⟨e, ?_⟩
 rw [jnS0 e]
 unfold jnK
 apply List.map_congr_left
 intro k hk
 exact (key k (List.mem_range.1 hk)).2 x
structure Spl (sec : List UInt8) (nd : Int) (hs : List Int) (nz : List UInt8) : Prop where
 len : sec.length ≤ 4096
 n1 : 1 ≤ nd
 n12 : nd ≤ 12
 hl : nd ≤ (hs.length : Int)
 ok : hsOk hs = true
 nz : (nz.length : Int) = (sec.length : Int) * (nd - 1)
theorem Spl.e {sec : List UInt8} {nd : Int} {hs : List Int} {nz : List UInt8} (h : Spl sec nd hs nz) : splE sec nd hs nz = 0 := by
 unfold splE
 rw [if_neg (by have := h.len; omega), if_neg (by have := h.n1; have := h.n12; omega), if_neg (by have := h.hl; omega), if_neg (by rw [h.ok]; decide), if_pos h.nz]
theorem Spl.l {sec : List UInt8} {nd : Int} {hs : List Int} {nz : List UInt8} (h : Spl sec nd hs nz) : splL sec nd hs nz = hs.map (shS sec nd nz) := if_pos h.e
theorem hs_pair {hs : List Int} (h : hsOk hs = true) : hs.Pairwise (· < ·) := by
 have h1 : ∀ k, k + 1 < hs.length → hs.getD k 0 < hs.getD (k + 1) 0 := fun k hk => by
  have := (hs_get h hk).2
  rcases this with e | e
  ·omega
  ·simpa using e
 have h2 : ∀ i j, i < j → j < hs.length → hs.getD i 0 < hs.getD j 0 := fun i j hij => by
  induction j with
  | zero => omega
  | succ j ih =>
   intro hj
   have h3 := h1 j hj
   by_cases e : i = j
   ·rw [e]; exact h3
   ·have := ih (by omega) (by omega); omega
 rw [List.pairwise_iff_getElem]
 intro i j hi hj hij
 simpa [List.getD_eq_getElem?_getD, hi, hj] using h2 i j hij hj
theorem hs_knw {hs : List Int} (h : hsOk hs = true) : ∀ x ∈ hs, knw x := fun x hx => by
 obtain ⟨k, hk, rfl⟩ := getD_mem' (d := 0) hx
 exact (hs_get h hk).1
def polK (sec nz : List UInt8) (nd : Int) (k : Nat) : List UInt8 := sec.getD k 0 :: cfs nz sec.length (nd - 1).toNat k
theorem shS_get (sec nz : List UInt8) (nd h : Int) {k : Nat} (hk : k < sec.length) : (shS sec nd nz h).2.1.getD k 0 = horner (pt h) (polK sec nz nd k) := map_range_get hk
theorem Spl.mem {sec : List UInt8} {nd : Int} {hs : List Int} {nz : List UInt8} (h : Spl sec nd hs nz) {s : (Int × List UInt8 × Unit)} (hs' : s ∈ splL sec nd hs nz) : knw s.1 ∧ s.2.1.length = sec.length ∧ ∀ k, k < sec.length → s.2.1.getD k 0 = horner (pt s.1) (polK sec nz nd k) := by
 rw [h.l] at hs'
 obtain ⟨x, hx, rfl⟩ := List.mem_map.1 hs'
 exact ⟨hs_knw h.ok x hx, shB_len _ _ _ _, fun k hk => shS_get sec nz nd x hk⟩
theorem Spl.chk {sec : List UInt8} {nd : Int} {hs : List Int} {nz : List UInt8} (h : Spl sec nd hs nz) : chkE (splL sec nd hs nz) = 0 := by
 refine chk_of (n := sec.length) (fun s hs' => ⟨(h.mem hs').1, (h.mem hs').2.1⟩) h.len ?_
 rw [h.l]
 exact List.pairwise_map.2 (hs_pair h.ok)
theorem horner_z (c : UInt8) (p : List UInt8) : horner 0 (c :: p) = c := by
 rw [horner, mul_zero']; simp
theorem range_self (s : List UInt8) : (List.range s.length).map (fun k => s.getD k 0) = s := by
 have := range_get 0 (fun x : UInt8 => x) s
 simpa using this
end Go.Proofs.YtogipicegdbhdaaDoor.S41

namespace Go.Proofs.YtogipicegdbhdaaDoor.S41
open Go Go.Proofs.YtogipicegdbhdaaDoor.Vc Go.Proofs
set_option maxRecDepth 100000

/-! ### noise -/
/-! ### deals that are made are right -/
theorem pos_lt : ∀ m, m < 12 → ∀ a, a < m → ∀ b, b < m → posT m a b < m * (m + 1) / 2 ∧ posT m a b = posT m b a := by decide +kernel
theorem mkD_get {m z : Nat} {s : List UInt8} {a b : Nat} (ha : a < m) (hb : b < m) : ((mkD m z s).getD a []).getD b [] = (dn z (posT m a b) s).take z := by
 simp [mkD, List.getD_eq_getElem?_getD, ha, hb]
theorem mkD_row {m z : Nat} {s : List UInt8} {l : Rw} (h : l ∈ mkD m z s) : ∃ a, a < m ∧ l = (List.range m).map fun b => (dn z (posT m a b) s).take z := by
 obtain ⟨a, ha, rfl⟩ := List.mem_map.1 h
 exact ⟨a, List.mem_range.1 ha, rfl⟩
theorem mkD_len (m z : Nat) (s : List UInt8) : (mkD m z s).length = m := by simp [mkD]
theorem mkD_str {m z : Nat} {s : List UInt8} (hm : m < 12) (hl : s.length = z * (m * (m + 1) / 2)) {a b : Nat} (ha : a < m) (hb : b < m) : ((dn z (posT m a b) s).take z).length = z := by
 rw [List.length_take, dn_len, hl]
 have h := (pos_lt m hm a ha b hb).1
 generalize posT m a b = p at h
 generalize m * (m + 1) / 2 = K at h
 have h2 : (p + 1) * z ≤ K * z := Nat.mul_le_mul_right z h
 rw [Nat.succ_mul] at h2
 rw [Nat.mul_comm z K]
 omega
theorem mk_deal {nd sz : Int} {s : List UInt8} (h : mkE nd sz s = 0) : chkD nd (mkC nd sz s) = 0 ∧ n00 (mkC nd sz s) = sz.toNat := by
 have hC : mkC nd sz s = mkD (nd - 1).toNat sz.toNat s := if_pos h
 unfold mkE at h
 split at h
 ·cases h
 ·rename_i h1
  split at h
  ·rename_i h2
   rw [hC]
   generalize hm : (nd - 1).toNat = m
   have hm1 : 1 ≤ m ∧ m < 12 := by omega
   have hnd : nd = (m : Int) + 1 := by omega
   have hl : s.length = sz.toNat * (m * (m + 1) / 2) := by
    have e : (nd - 1) * nd / 2 = ((m * (m + 1) / 2 : Nat) : Int) := by
     rw [hnd, show (m : Int) + 1 - 1 = (m : Int) by omega, Int.natCast_ediv, Int.natCast_mul, Int.natCast_add]; rfl
    rw [e] at h2
    have : ((s.length : Nat) : Int) = ((sz.toNat * (m * (m + 1) / 2) : Nat) : Int) := by rw [h2, Int.natCast_mul, Int.toNat_of_nonneg (by omega)]
    exact Int.ofNat_inj.1 this
   have h00 : n00 (mkD m sz.toNat s) = sz.toNat := by
    show (((mkD m sz.toNat s).getD 0 []).getD 0 []).length = _
    rw [mkD_get (by omega) (by omega), mkD_str hm1.2 hl (by omega) (by omega)]
   refine ⟨?_, h00⟩
   unfold chkD
   rw [if_neg (by omega), if_neg (by rw [mkD_len]; omega), if_neg, if_neg (by omega), if_neg]
   ·intro e
    have : symB (mkD m sz.toNat s) (mkD m sz.toNat s).length = true := by
     rw [mkD_len]
     refine List.all_eq_true.2 fun a ha => List.all_eq_true.2 fun b hb => decide_eq_true ?_
     have ha := List.mem_range.1 ha
     have hb := List.mem_range.1 hb
     rw [mkD_get ha (by omega), mkD_get (by omega) ha, (pos_lt m hm1.2 a ha b (by omega)).2]
    rw [this] at e; cases e
   ·intro e
    have : (mkD m sz.toNat s).all (lenB (mkD m sz.toNat s)) = true := by
     refine List.all_eq_true.2 fun l hl' => ?_
     obtain ⟨a, ha, rfl⟩ := mkD_row hl'
     refine lenB_yes (by rw [mkD_len]; simp) ?_ (List.all_eq_true.2 fun x hx => decide_eq_true ?_)
     ·rw [mkD_len]
      simp [mkD, List.getD_eq_getElem?_getD, show 0 < m by omega]
     ·obtain ⟨b, hb, rfl⟩ := List.mem_map.1 hx
      rw [h00, mkD_str hm1.2 hl ha (List.mem_range.1 hb)]
    rw [this] at e; cases e
  ·cases h

/-! ### shares of a key -/
structure Fine (key : List UInt8) (nd : Int) (hs : List Int) (l : List (Int × List UInt8 × Unit)) : Prop where
 hm : l.map (·.1) = hs
 len : ∀ s ∈ l, s.2.1.length = key.length
 pol : ∀ k, k < key.length → ∃ p : List UInt8, p.length ≤ nd.toNat ∧ horner 0 p = key.getD k 0 ∧ ∀ s ∈ l, s.2.1.getD k 0 = horner (pt s.1) p
theorem fine_spl {key : List UInt8} {nd : Int} {hs : List Int} {nz : List UInt8} (h : Spl key nd hs nz) : Fine key nd hs (splL key nd hs nz) where
 hm := by
  rw [h.l, List.map_map]
  show hs.map (fun x => x) = hs
  exact List.map_id _
 len s hs' := (h.mem hs').2.1
 pol k hk := ⟨polK key nz nd k, by
  have := h.n1
  unfold polK
  rw [List.length_cons, cfs_len]
  omega, horner_z _ _, fun s hs' => (h.mem hs').2.2 k hk⟩
def upS (nd : Int) (cf : List Rw) (s : Int × List UInt8 × Unit) : Int × List UInt8 × Unit := (updH s.1 s.2.1 [rowL nd cf s.1], updS s.1 s.2.1 [rowL nd cf s.1], ())
theorem up_one {nd : Int} {cf : List Rw} (hc : chkD nd cf = 0) {s : Int × List UInt8 × Unit} (hk : knw s.1) (hn : s.2.1.length = n00 cf) :
  rowE nd cf s.1 = 0 ∧ updE s.1 s.2.1 [rowL nd cf s.1] = 0 ∧ (upS nd cf s).1 = s.1 ∧ (upS nd cf s).2.1.length = s.2.1.length ∧
  ∀ k p, k < n00 cf → s.2.1.getD k 0 = horner (pt s.1) p → (upS nd cf s).2.1.getD k 0 = horner (pt s.1) (xorL p (0 :: colL (cf.getD 0 []) k)) := by
 have D := chkD0 hc
 have n2 := D.n2; have n12 := D.n12; have n3 := D.len; have nm := D.max
 have e1 : rowE nd cf s.1 = 0 := by unfold rowE; rw [if_pos hc, if_pos hk]
 have e2 : rowL nd cf s.1 = rowD cf s.1 := if_pos e1
 have hm := getD_mem [] cf 0 (by omega)
 have hr0 : (rowD cf s.1).getD 0 [] = atL (cf.getD 0 []) (pt s.1) := row_get D _ 0 (by omega)
 have hrl := D.rows _ hm
 have hrs := D.strs _ hm
 have hal : (atL (cf.getD 0 []) (pt s.1)).length = n00 cf := at_len _ (by omega) hrs
 have hrow := row_len D s.1
 have hdl : (rowD cf s.1).length = cf.length := List.length_map ..
 have hn0 : n0 (rowD cf s.1) = n00 cf := by unfold n0; rw [hr0, hal]
 have hright : rightB (rowD cf s.1) = true := by
  rw [right_all (by omega) (by omega)]
  exact List.all_eq_true.2 fun x hx => by rw [hrow x hx, hn0, decide_eq_true rfl, decide_eq_true nm]; rfl
 have e3 : updE s.1 s.2.1 [rowD cf s.1] = 0 := by
  unfold updE
  rw [if_pos hk, if_pos (by omega), if_pos]
  rw [List.all_cons, updOk_yes hright (by omega)]; rfl
 have e4 : updB s.1 s.2.1 [rowD cf s.1] = sumB s.2.1 (scaleB (pt s.1) (atL (cf.getD 0 []) (pt s.1))) := by rw [← hr0]; rfl
 refine ⟨e1, by rw [e2]; exact e3, ?_, ?_, fun k p hk' hp => ?_⟩
 ·show updH s.1 s.2.1 [rowL nd cf s.1] = s.1
  rw [e2]; exact if_pos e3
 ·show (updS s.1 s.2.1 [rowL nd cf s.1]).length = s.2.1.length
  rw [e2, updS, if_pos e3, e4, sum_len, scale_len, hal]; omega
 ·show (updS s.1 s.2.1 [rowL nd cf s.1]).getD k 0 = _
  rw [e2, updS, if_pos e3, e4, sum_get (by rw [scale_len, hal, hn]) (by omega), hp, scale_get (by omega), at_get hk' _ (by omega) hrs, horner_xor]
  show _ = _ ^^^ (mulL (horner (pt s.1) (colL (cf.getD 0 []) k)) (pt s.1) ^^^ 0)
  rw [mul_comm' (horner _ _)]
  simp
theorem hor_up (p q : List UInt8) : horner 0 (xorL p (0 :: q)) = horner 0 p := by
 rw [horner_xor, horner_z]; simp
theorem fine_up {key : List UInt8} {nd : Int} {hs : List Int} {l : List (Int × List UInt8 × Unit)} (F : Fine key nd hs l) (hk : ∀ x ∈ hs, knw x) {cf : List Rw} (hc : chkD nd cf = 0) (hn : n00 cf = key.length) : Fine key nd hs (l.map (upS nd cf)) := by
 have K : ∀ s ∈ l, knw s.1 := fun s hs' => hk _ (by rw [← F.hm]; exact List.mem_map.2 ⟨s, hs', rfl⟩)
 have U := fun s (hs' : s ∈ l) => up_one hc (K s hs') (by rw [F.len s hs', hn])
 have D := chkD0 hc
 have n3 := D.len; have n2 := D.n2
 refine ⟨?_, fun x hx => ?_, fun k hk' => ?_⟩
 ·rw [List.map_map, ← F.hm]
  exact List.map_congr_left fun s hs' => (U s hs').2.2.1
 ·obtain ⟨s, hs', rfl⟩ := List.mem_map.1 hx
  rw [(U s hs').2.2.2.1]; exact F.len s hs'
 ·obtain ⟨p, h1, h2, h3⟩ := F.pol k hk'
  refine ⟨xorL p (0 :: colL (cf.getD 0 []) k), ?_, by rw [hor_up, h2], fun x hx => ?_⟩
  ·have hrl := D.rows _ (getD_mem [] cf 0 (by omega))
   rw [xorL_length, List.length_cons, colL_len]; omega
  ·obtain ⟨s, hs', rfl⟩ := List.mem_map.1 hx
   rw [(U s hs').2.2.1]
   exact (U s hs').2.2.2.2 k p (by omega) (h3 s hs')
structure Ready (key : List UInt8) (nd : Int) (hs : List Int) (l : List (Int × List UInt8 × Unit)) : Prop extends Fine key nd hs l where
 ok : hsOk hs = true
 n1 : 1 ≤ nd
 n12 : nd ≤ 12
 k4 : key.length ≤ 4096
theorem Ready.chk {key : List UInt8} {nd : Int} {hs : List Int} {l : List (Int × List UInt8 × Unit)} (h : Ready key nd hs l) : chkE l = 0 := by
 refine chk_of (n := key.length) (fun s hs' => ⟨hs_knw h.ok _ (by rw [← h.hm]; exact List.mem_map.2 ⟨s, hs', rfl⟩), h.len s hs'⟩) h.k4 ?_
 have := hs_pair h.ok
 rw [← h.hm] at this
 exact List.pairwise_map.1 this
theorem Ready.part {key : List UInt8} {nd : Int} {hs : List Int} {l : List (Int × List UInt8 × Unit)} (h : Ready key nd hs l) {p : List (Int × List UInt8 × Unit)} (hp : p.Sublist l) :
  rdE p nd = 0 ∧ (¬ (p.length : Int) < nd → jnE p nd = 0 ∧ jnS p nd 0 = key) := by
 have hc := chk0 h.chk
 have hcp := chk_sub hc hp
 have h1 := h.n1; have h2 := h.n12
 refine ⟨by unfold rdE; rw [if_pos hcp, if_neg (by omega)], fun e => ?_⟩
 have hln : lnS p = key.length := h.len _ (hp.subset (getD_mem (0, [], ()) p 0 (by omega)))
 have hP : ∀ k, ∃ q : List UInt8, k < key.length → q.length ≤ nd.toNat ∧ horner 0 q = key.getD k 0 ∧ ∀ s ∈ l, s.2.1.getD k 0 = horner (pt s.1) q := fun k => by
  by_cases g : k < key.length
  ·obtain ⟨q, hq⟩ := h.pol k g; exact ⟨q, fun _ => hq⟩
  ·exact ⟨[], fun g' => absurd g' g⟩
 have key1 := join_poly (chk0 hcp) h1 (by omega) (P := fun k => Classical.choose (hP k)) (fun k hk => by
  obtain ⟨a, b, c⟩ := Classical.choose_spec (hP k) (by omega)
  exact ⟨Nat.le_trans (sz_len _) a, fun s hs' => c s (hp.subset hs')⟩) 0
 refine ⟨key1.1, ?_⟩
 rw [key1.2, hln]
 refine Eq.trans ?_ (range_self key)
 apply List.map_congr_left
 intro k hk
 exact (Classical.choose_spec (hP k) (List.mem_range.1 hk)).2.1
theorem Ready.few {key : List UInt8} {nd : Int} {hs : List Int} {l : List (Int × List UInt8 × Unit)} (h : Ready key nd hs l) {p : List (Int × List UInt8 × Unit)} (hp : p.Sublist l) (hl : ¬ nd ≤ (p.length : Int)) {o : List UInt8} (ho : o.length = key.length) :
  ftP p nd o ∧ ftN p nd o = (nd - 1 - (p.length : Int)) * (key.length : Int) := by
 have hr := (h.part hp).1
 have hk4 := h.k4
 have hln : p.length = 0 ∨ lnS p = o.length := by
  rcases Nat.eq_zero_or_pos p.length with g | g
  ·exact .inl g
  ·exact .inr (by rw [ho]; exact h.len _ (hp.subset (getD_mem (0, [], ()) p 0 g)))
 refine ⟨⟨hr, by omega, hln, .inl (by omega)⟩, ?_⟩
 unfold ftN
 rw [if_pos ⟨hr, by omega, hln, by omega⟩, ho]
theorem Ready.many {key : List UInt8} {nd : Int} {hs : List Int} {l : List (Int × List UInt8 × Unit)} (h : Ready key nd hs l) {p : List (Int × List UInt8 × Unit)} (hp : p.Sublist l) (hl : nd ≤ (p.length : Int)) {o : List UInt8} (ho : o.length = key.length) :
  (ftP p nd o ↔ o = key) ∧ ftN p nd o = 0 := by
 obtain ⟨hr, hj⟩ := h.part hp
 obtain ⟨j1, j2⟩ := hj (by omega)
 have hk4 := h.k4; have h1 := h.n1
 have hln : p.length = 0 ∨ lnS p = o.length := .inr (by rw [ho]; exact h.len _ (hp.subset (getD_mem (0, [], ()) p 0 (by omega))))
 refine ⟨⟨fun g => ?_, fun g => ⟨hr, by omega, hln, .inr ⟨j1, by rw [j2, g]⟩⟩⟩, ?_⟩
 ·have := (g.2.2.2.resolve_left (by omega)).2
  rw [j2] at this; exact this.symm
 ·unfold ftN
  rw [if_neg (fun g => by omega)]
theorem Ready.join {key : List UInt8} {nd : Int} {hs : List Int} {l : List (Int × List UInt8 × Unit)} (h : Ready key nd hs l) {p : List (Int × List UInt8 × Unit)} (hp : p.Sublist l) (hl : nd ≤ (p.length : Int)) : joE p nd = 0 ∧ joS p nd 0 = key := by
 obtain ⟨hr, hj⟩ := h.part hp
 obtain ⟨j1, j2⟩ := hj (by omega)
 exact ⟨by unfold joE; rw [if_pos hr, j1], by unfold joS; rw [if_pos hr, j2]⟩
theorem Ready.up {key : List UInt8} {nd : Int} {hs : List Int} {l : List (Int × List UInt8 × Unit)} (h : Ready key nd hs l) {cf : List Rw} (hc : chkD nd cf = 0) (hn : n00 cf = key.length) : Ready key nd hs (l.map (upS nd cf)) :=
 ⟨fine_up h.toFine (hs_knw h.ok) hc hn, h.ok, h.n1, h.n12, h.k4⟩
end Go.Proofs.YtogipicegdbhdaaDoor.S41

namespace Go.Proofs.YtogipicegdbhdaaDoor.S41c
open Go

def cntL (b l n : Int) : Int := (l - b) / n + 1
def hsF : Int → List Int → Bool
 | _, [] => true
 | p, h :: t => decide (0 ≤ h ∧ h ≤ 11 ∧ p < h) && hsF h t
def chkL (b l n m : Int) (hs : List Int) : Int :=
 if 0 ≤ b ∧ b ≤ 1000000 ∧ b ≤ l ∧ l ≤ 1000000 ∧ 1 ≤ n ∧ n ≤ 1000000 then
  (if 500 < cntL b l n then 2 else if hsF (-1) hs = true then (if 1 ≤ m ∧ m ≤ hs.length then 0 else 3) else 1)
 else 3

/-- What is so of a calendar that is right. -/
structure Cal (b l n m : Int) (hs : List Int) : Prop where
 b0 : 0 ≤ b
 bl : b ≤ l
 l1 : l ≤ 1000000
 n1 : 1 ≤ n
 n2 : n ≤ 1000000
 c1 : 1 ≤ cntL b l n
 c2 : cntL b l n ≤ 500
 ho : hsF (-1) hs = true
 m1 : 1 ≤ m
 m2 : m ≤ List.length hs
 h12 : List.length hs ≤ 12

theorem hsF_len : ∀ (l : List Int) (p : Int), -1 ≤ p → hsF p l = true → p ≤ 11 → (List.length l : Int) ≤ 11 - p
 | [], p, _, _, hp => by simp only [List.length_nil]; omega
 | h :: t, p, h0, hh, hp => by
  simp only [hsF, Bool.and_eq_true, decide_eq_true_eq] at hh
  have := hsF_len t h (by omega) hh.2 (by omega)
  simp only [List.length_cons]; omega

theorem chk0 {b l n m : Int} {hs : List Int} (h : chkL b l n m hs = 0) : Cal b l n m hs := by
 unfold chkL at h
 split at h
 ·rename_i h1
  split at h
  ·omega
  ·rename_i h2
   split at h
   ·rename_i h3
    split at h
    ·rename_i h4
     obtain ⟨a1, a2, a3, a4, a5, a6⟩ := h1
     have := hsF_len hs (-1) (by omega) h3 (by omega)
     exact ⟨a1, a3, a4, a5, a6, by unfold cntL; have := Int.ediv_nonneg (a := l - b) (b := n) (by omega) (by omega); omega, by omega, h3, h4.1, h4.2, by omega⟩
    ·omega
   ·omega
 ·omega
theorem Cal.chk {b l n m : Int} {hs : List Int} (h : Cal b l n m hs) : chkL b l n m hs = 0 := by
 unfold chkL
 rw [if_pos ⟨h.b0, by have := h.bl; have := h.l1; omega, h.bl, h.l1, h.n1, h.n2⟩, if_neg (by have := h.c2; omega), if_pos h.ho, if_pos ⟨h.m1, h.m2⟩]

def spanF (b n q : Int) : Int := b + q * n
def spanT (b l n q : Int) : Int := min l (b + q * n + n - 1)
def expF (b n q : Int) : Int := b + max 0 (q - 1) * n
def expT (b l n q : Int) : Int := min l (b + q * n + n - 1) + 2
def perL (b l n m : Int) (hs : List Int) (t : Int) : Int := if chkL b l n m hs = 0 ∧ b ≤ t ∧ t ≤ l then (t - b) / n else -1
def askL (b l n m : Int) (hs : List Int) (q : Int) : Int := if chkL b l n m hs = 0 then (if 0 ≤ q ∧ q ≤ cntL b l n - 1 then 0 else 8) else chkL b l n m hs

theorem ask0 {b l n m : Int} {hs : List Int} {q : Int} (h : askL b l n m hs q = 0) : Cal b l n m hs ∧ 0 ≤ q ∧ q < cntL b l n := by
 unfold askL at h
 split at h
 ·rename_i h1
  split at h
  ·exact ⟨chk0 h1, by omega, by omega⟩
  ·omega
 ·contradiction
theorem Cal.ask {b l n m : Int} {hs : List Int} (h : Cal b l n m hs) {q : Int} (h0 : 0 ≤ q) (h1 : q < cntL b l n) : askL b l n m hs q = 0 := by
 unfold askL
 rw [if_pos h.chk, if_pos ⟨h0, by omega⟩]

theorem qn_ok {b l n q : Int} (hb : b ≤ l) (hn : 1 ≤ n) (h0 : 0 ≤ q) (h1 : q < cntL b l n) : 0 ≤ q * n ∧ q * n ≤ l - b ∧ q ≤ q * n := by
 have h5 : q * 1 ≤ q * n := Int.mul_le_mul_of_nonneg_left hn h0
 suffices q * n ≤ l - b from ⟨Int.mul_nonneg h0 (by omega), this, by omega⟩
 have h2 : q ≤ (l - b) / n := by unfold cntL at h1; omega
 have h3 : q * n ≤ ((l - b) / n) * n := Int.mul_le_mul_of_nonneg_right h2 (by omega)
 have h4 := Int.ediv_mul_le (l - b) (b := n) (by omega)
 omega
theorem Cal.qn {b l n m : Int} {hs : List Int} (h : Cal b l n m hs) {q : Int} (h0 : 0 ≤ q) (h1 : q < cntL b l n) : 0 ≤ q * n ∧ q * n ≤ l - b ∧ q ≤ q * n := qn_ok h.bl h.n1 h0 h1
theorem Cal.qn1 {b l n m : Int} {hs : List Int} (h : Cal b l n m hs) {q : Int} (h0 : 0 ≤ q) (h1 : q < cntL b l n) : 0 ≤ max 0 (q - 1) * n ∧ max 0 (q - 1) * n ≤ q * n :=
 ⟨Int.mul_nonneg (by omega) (by have := h.n1; omega), Int.mul_le_mul_of_nonneg_right (by omega) (by have := h.n1; omega)⟩

theorem drop_one {α : Type} (d : α) (l : List α) (k : Nat) (h : k < l.length) : l.drop k = l.getD k d :: l.drop (k + 1) := by
 rw [List.drop_eq_getElem_cons h]
 simp [List.getD_eq_getElem?_getD, h]
theorem take_snoc {α : Type} (d : α) (l : List α) (k : Nat) (h : k < l.length) : l.take (k + 1) = l.take k ++ [l.getD k d] := by
 rw [List.take_succ_eq_append_getElem h]
 simp [List.getD_eq_getElem?_getD, h]

/-- The one before, in a list of houses. -/
def prv (hs : List Int) (k : Nat) : Int := if k = 0 then -1 else hs.getD (k - 1) 0
theorem prv_pos (hs : List Int) {k : Nat} (h : 0 < k) : prv hs k = hs.getD (k - 1) 0 := if_neg (by omega)
theorem prv_zero (hs : List Int) {k : Nat} (h : ¬ 0 < k) : prv hs k = -1 := if_pos (by omega)
theorem hs_bad {hs : List Int} {k : Nat} (hk : k < hs.length) (hc : hsF (prv hs k) (hs.drop k) = hsF (-1) hs) (h : ¬ (0 ≤ hs.getD k 0 ∧ hs.getD k 0 ≤ 11 ∧ prv hs k < hs.getD k 0)) : hsF (-1) hs = false := by
 rw [← hc, drop_one 0 hs k hk, hsF, decide_eq_false h, Bool.false_and]
theorem hs_next {hs : List Int} {k : Nat} (hk : k < hs.length) (hc : hsF (prv hs k) (hs.drop k) = hsF (-1) hs) (h : 0 ≤ hs.getD k 0 ∧ hs.getD k 0 ≤ 11 ∧ prv hs k < hs.getD k 0) : hsF (prv hs (k + 1)) (hs.drop (k + 1)) = hsF (-1) hs := by
 rw [← hc, drop_one 0 hs k hk, hsF, decide_eq_true h, Bool.true_and]; rfl
theorem hs_end {hs : List Int} {k : Nat} (hk : k = hs.length) (hc : hsF (prv hs k) (hs.drop k) = hsF (-1) hs) : hsF (-1) hs = true := by
 rw [← hc, hk, List.drop_length]; rfl
end Go.Proofs.YtogipicegdbhdaaDoor.S41c

namespace Go.Proofs.YtogipicegdbhdaaDoor.S41c
open Go Go.Proofs.YtogipicegdbhdaaDoor.Vc Go.Proofs
set_option maxRecDepth 100000
set_option linter.unusedVariables false
open Go.Proofs.YtogipicegdbhdaaDoor.S41
def sWi : List V → Option (Prop × V × List Blk)
 | [.int .i64 x, .int .i64 lo, .int .i64 hi] => some (True, .b (lo ≤ x ∧ x ≤ hi), [])
 | _ => none
set_option maxHeartbeats 1000000 in
theorem bWi (x : Int) (lo : Int) (hi : Int)  : bodyP (En CZFit tys G6 QZCo2) Tryd.f73 [.k] [.int .i64 x, .int .i64 lo, .int .i64 hi] (.b (lo ≤ x ∧ x ≤ hi)) [] := by
 refine ⟨fun h0 => ?_, fun h0 => ?_⟩
 ·replace h0 : lo ≤ x := h0
  exact ⟨rfl, rfl, congrArg V.b (propext (by constructor <;> intro h <;> first | omega | (exfalso; first | omega | exact Bool.noConfusion h))), rfl⟩
 ·replace h0 : ¬ (lo ≤ x) := h0
  exact ⟨rfl, rfl, congrArg V.b (propext (by constructor <;> intro h <;> first | omega | (exfalso; first | omega | exact Bool.noConfusion h))), rfl⟩
def CWi : List (Nat × Con) := (73, pureC [.v (.int .i64), .v (.int .i64), .v (.int .i64)] sWi) :: CZFit
theorem kWi : Known Tryd.prog (En CWi tys G6 QZCo2) := kZFit.add Tryd.func73 Tryd.call73 [.k] fun ds p v bs h hp => by
 unfold sWi at h
 split at h <;> simp only [Option.some.injEq, Prod.mk.injEq, reduceCtorEq] at h
 obtain ⟨rfl, rfl, rfl⟩ := h
 exact bWi _ _ _
def sCnt : List V → Option (Prop × V × List Blk)
 | [.agg [.int .i64 b, .int .i64 l, .int .i64 d, .int .i64 m, .sl false (.int .i64) hs]] => some (0 ≤ b ∧ b ≤ l ∧ l ≤ 1000000 ∧ 1 ≤ d, .int .i64 (cntL b l d), [])
 | _ => none
set_option maxHeartbeats 1000000 in
theorem bCnt (b : Int) (l : Int) (d : Int) (m : Int) (hs : List Int) (hp0 : 0 ≤ b) (hp1 : b ≤ l) (hp2 : l ≤ 1000000) (hp3 : 1 ≤ d) : bodyP (En CWi tys G6 QZCo2) Tryd.f67 [.k] [.agg [.int .i64 b, .int .i64 l, .int .i64 d, .int .i64 m, .sl false (.int .i64) hs]] (.int .i64 (cntL b l d)) [] := by
 have hd := Int.ediv_nonneg (a := l - b) (b := d) (by omega) (by omega)
 have hd2 := Int.ediv_le_self (a := l - b) d (by omega)
 refine ⟨(r64 (l - b)), .inl ⟨⟨by show (0 : Int) ≤ (l - b); omega, by show (0 : Int) < d; omega⟩, ?_⟩⟩
 refine ⟨(r64 (((l - b) / d) + 1)), ?_⟩
 exact ⟨rfl, rfl, rfl, rfl⟩
def CCnt : List (Nat × Con) := (67, pureC [.v (.cons (.int .i64) (.cons (.int .i64) (.cons (.int .i64) (.cons (.int .i64) (.cons (.sl (.int .i64)) .nil)))))] sCnt) :: CWi
theorem kCnt : Known Tryd.prog (En CCnt tys G6 QZCo2) := kWi.add Tryd.func67 Tryd.call67 [.k] fun ds p v bs h hp => by
 unfold sCnt at h
 split at h <;> simp only [Option.some.injEq, Prod.mk.injEq, reduceCtorEq] at h
 obtain ⟨rfl, rfl, rfl⟩ := h
 exact bCnt _ _ _ _ _ hp.1 hp.2.1 hp.2.2.1 hp.2.2.2
def sChk : List V → Option (Prop × V × List Blk)
 | [.agg [.int .i64 b, .int .i64 l, .int .i64 d, .int .i64 m, .sl false (.int .i64) hs]] => some (hs.length ≤ 2000000, .int .i64 (chkL b l d m hs), [])
 | _ => none
set_option maxHeartbeats 1000000 in
theorem bChk (b : Int) (l : Int) (d : Int) (m : Int) (hs : List Int) (hp0 : hs.length ≤ 2000000) : bodyP (En CCnt tys G6 QZCo2) Tryd.f33 [.k] [.agg [.int .i64 b, .int .i64 l, .int .i64 d, .int .i64 m, .sl false (.int .i64) hs]] (.int .i64 (chkL b l d m hs)) [] := by
 refine ⟨rfl, rfl, rfl, trivial, fun h0 => ?_, fun h0 => ?_⟩
 ·replace h0 : ¬ (¬ (0 ≤ b ∧ b ≤ 1000000)) := h0
  refine ⟨rfl, rfl, rfl, trivial, fun h1 => ?_, fun h1 => ?_⟩
  ·replace h1 : ¬ (¬ (b ≤ l ∧ l ≤ 1000000)) := h1
   refine ⟨rfl, rfl, rfl, trivial, fun h2 => ?_, fun h2 => ?_⟩
   ·replace h2 : ¬ (1 ≤ d ∧ d ≤ 1000000) := h2
    refine ⟨rfl, rfl, ?_, rfl⟩
    unfold chkL
    repeat' split
    all_goals first | rfl | omega | (exfalso; simp_all; done)
   ·replace h2 : ¬ (¬ (1 ≤ d ∧ d ≤ 1000000)) := h2
    refine ⟨rfl, rfl, rfl, rfl, ⟨by show 0 ≤ b; first | omega | assumption, by show b ≤ l; first | omega | assumption, by show l ≤ 1000000; first | omega | assumption, by show 1 ≤ d; first | omega | assumption⟩, fun h3 => ?_, fun h3 => ?_⟩
    ·replace h3 : 500 < (cntL b l d) := h3
     refine ⟨rfl, rfl, ?_, rfl⟩
     unfold chkL
     repeat' split
     all_goals first | rfl | omega | (exfalso; simp_all; done)
    ·replace h3 : ¬ (500 < (cntL b l d)) := h3
     refine ⟨1, [(1, .k), (29, .k), (30, .k), (31, .k)], fun nM vs H => ∃ (k : Nat), k ≤ hs.length ∧ hsF (prv hs k) (hs.drop k) = hsF (-1) hs ∧ nM = hs.length - k ∧ vs = [.ptr 0 1 0 0, .sl false (.int .i64) hs, .int .i64 (hs.length : Int), .int .i64 (k : Int)] ∧ H = [.cells [.int .i64 b, .int .i64 l, .int .i64 d, .int .i64 m, .sl false (.int .i64) hs]], ⟨rfl, hs.length, 0, by omega, rfl, by omega, rfl, rfl⟩, ?_⟩
     rintro nM vs H ⟨k, hc1_0, hc1_1, rfl, rfl, rfl⟩
     refine ⟨fun h4 => ?_, fun h4 => ?_⟩
     ·replace h4 : (k : Int) < (hs.length : Int) := h4
      have hkl : k < hs.length := by omega
      have hk1 : ((k : Int) - 1).toNat = k - 1 := by omega
      refine ⟨(i0 (k : Int) (hs.length : Int)), rfl, rfl, rfl, trivial, fun h5 => ?_, fun h5 => ?_⟩
      ·replace h5 : ¬ (¬ (0 ≤ (hs.getD k 0) ∧ (hs.getD k 0) ≤ 11)) := h5
       refine ⟨fun h6 => ?_, fun h6 => ?_⟩
       ·replace h6 : 0 < (k : Int) := h6
        refine ⟨(r64 ((k : Int) - 1)), (i0 ((k : Int) - 1) (hs.length : Int)), fun h7 => ?_, fun h7 => ?_⟩
        ·replace h7 : (hs.getD k 0) ≤ (hs.getD (((k : Int) - 1).toNat) 0) := h7
         rw [hk1] at h7
         have e := hs_bad hkl hc1_1 (by rw [prv_pos hs (by omega)]; omega)
         refine ⟨rfl, rfl, ?_, rfl⟩
         unfold chkL
         repeat' split
         all_goals first | rfl | omega | (exfalso; simp_all; done)
        ·replace h7 : ¬ ((hs.getD k 0) ≤ (hs.getD (((k : Int) - 1).toNat) 0)) := h7
         rw [hk1] at h7
         refine ⟨(r64 ((k : Int) + 1)), ?_⟩
         exact ⟨rfl, hs.length - (k + 1), by omega, k + 1, by omega, hs_next hkl hc1_1 (by first | (rw [prv_pos hs (by omega)]; omega) | (rw [prv_zero hs (by omega)]; omega)), rfl, rfl, rfl⟩
       ·replace h6 : ¬ (0 < (k : Int)) := h6
        refine ⟨(r64 ((k : Int) + 1)), ?_⟩
        exact ⟨rfl, hs.length - (k + 1), by omega, k + 1, by omega, hs_next hkl hc1_1 (by first | (rw [prv_pos hs (by omega)]; omega) | (rw [prv_zero hs (by omega)]; omega)), rfl, rfl, rfl⟩
      ·replace h5 : ¬ (0 ≤ (hs.getD k 0) ∧ (hs.getD k 0) ≤ 11) := h5
       have e := hs_bad hkl hc1_1 (by omega)
       refine ⟨rfl, rfl, ?_, rfl⟩
       unfold chkL
       repeat' split
       all_goals first | rfl | omega | (exfalso; simp_all; done)
     ·replace h4 : ¬ ((k : Int) < (hs.length : Int)) := h4
      have e := hs_end (by omega) hc1_1
      refine ⟨rfl, rfl, rfl, trivial, fun h8 => ?_, fun h8 => ?_⟩
      ·replace h8 : ¬ (1 ≤ m ∧ m ≤ (hs.length : Int)) := h8
       refine ⟨rfl, rfl, ?_, rfl⟩
       unfold chkL
       repeat' split
       all_goals first | rfl | omega | (exfalso; simp_all; done)
      ·replace h8 : ¬ (¬ (1 ≤ m ∧ m ≤ (hs.length : Int))) := h8
       refine ⟨rfl, rfl, ?_, rfl⟩
       unfold chkL
       repeat' split
       all_goals first | rfl | omega | (exfalso; simp_all; done)
  ·replace h1 : ¬ (b ≤ l ∧ l ≤ 1000000) := h1
   refine ⟨rfl, rfl, ?_, rfl⟩
   unfold chkL
   repeat' split
   all_goals first | rfl | omega | (exfalso; simp_all; done)
 ·replace h0 : ¬ (0 ≤ b ∧ b ≤ 1000000) := h0
  refine ⟨rfl, rfl, ?_, rfl⟩
  unfold chkL
  repeat' split
  all_goals first | rfl | omega | (exfalso; simp_all; done)
def CChk : List (Nat × Con) := (33, pureC [.v (.cons (.int .i64) (.cons (.int .i64) (.cons (.int .i64) (.cons (.int .i64) (.cons (.sl (.int .i64)) .nil)))))] sChk) :: CCnt
theorem kChk : Known Tryd.prog (En CChk tys G6 QZCo2) := kCnt.add Tryd.func33 Tryd.call33 [.k] fun ds p v bs h hp => by
 unfold sChk at h
 split at h <;> simp only [Option.some.injEq, Prod.mk.injEq, reduceCtorEq] at h
 obtain ⟨rfl, rfl, rfl⟩ := h
 exact bChk _ _ _ _ _ hp
def sPers : List V → Option (Prop × V × List Blk)
 | [.agg [.int .i64 b, .int .i64 l, .int .i64 d, .int .i64 m, .sl false (.int .i64) hs]] => some (hs.length ≤ 2000000, .int .i64 (if chkL b l d m hs = 0 then cntL b l d else 0), [])
 | _ => none
set_option maxHeartbeats 1000000 in
theorem bPers (b : Int) (l : Int) (d : Int) (m : Int) (hs : List Int) (hp0 : hs.length ≤ 2000000) : bodyP (En CChk tys G6 QZCo2) Tryd.f29 [.k] [.agg [.int .i64 b, .int .i64 l, .int .i64 d, .int .i64 m, .sl false (.int .i64) hs]] (.int .i64 (if chkL b l d m hs = 0 then cntL b l d else 0)) [] := by
 refine ⟨rfl, rfl, rfl, rfl, by show hs.length ≤ 2000000; first | omega | assumption, fun h0 => ?_, fun h0 => ?_⟩
 ·replace h0 : (chkL b l d m hs) ≠ 0 := h0
  first | (rw [if_neg h0]; exact ⟨rfl, rfl, rfl, rfl⟩) | (rw [if_pos (Classical.not_not.1 h0)]; exact ⟨rfl, rfl, rfl, rfl⟩)
 ·replace h0 : ¬ ((chkL b l d m hs) ≠ 0) := h0
  have hc := chk0 (Classical.not_not.1 h0)
  obtain ⟨q1, q2, q3, q4, q5, q6, q7, _, _, _, _⟩ := hc
  refine ⟨rfl, rfl, rfl, rfl, ⟨by show 0 ≤ b; first | omega | assumption, by show b ≤ l; first | omega | assumption, by show l ≤ 1000000; first | omega | assumption, by show 1 ≤ d; first | omega | assumption⟩, ?_⟩
  first | (rw [if_neg h0]; exact ⟨rfl, rfl, rfl, rfl⟩) | (rw [if_pos (Classical.not_not.1 h0)]; exact ⟨rfl, rfl, rfl, rfl⟩)
def CPers : List (Nat × Con) := (29, pureC [.v (.cons (.int .i64) (.cons (.int .i64) (.cons (.int .i64) (.cons (.int .i64) (.cons (.sl (.int .i64)) .nil)))))] sPers) :: CChk
theorem kPers : Known Tryd.prog (En CPers tys G6 QZCo2) := kChk.add Tryd.func29 Tryd.call29 [.k] fun ds p v bs h hp => by
 unfold sPers at h
 split at h <;> simp only [Option.some.injEq, Prod.mk.injEq, reduceCtorEq] at h
 obtain ⟨rfl, rfl, rfl⟩ := h
 exact bPers _ _ _ _ _ hp
def sPer : List V → Option (Prop × V × List Blk)
 | [.agg [.int .i64 b, .int .i64 l, .int .i64 d, .int .i64 m, .sl false (.int .i64) hs], .int .i64 t] => some (hs.length ≤ 2000000, .int .i64 (perL b l d m hs t), [])
 | _ => none
set_option maxHeartbeats 1000000 in
theorem bPer (b : Int) (l : Int) (d : Int) (m : Int) (hs : List Int) (t : Int) (hp0 : hs.length ≤ 2000000) : bodyP (En CPers tys G6 QZCo2) Tryd.f63 [.k] [.agg [.int .i64 b, .int .i64 l, .int .i64 d, .int .i64 m, .sl false (.int .i64) hs], .int .i64 t] (.int .i64 (perL b l d m hs t)) [] := by
 refine ⟨rfl, rfl, rfl, rfl, by show hs.length ≤ 2000000; first | omega | assumption, fun h0 => ?_, fun h0 => ?_⟩
 ·replace h0 : ¬ ((chkL b l d m hs) ≠ 0) := h0
  have hc := chk0 (Classical.not_not.1 h0)
  obtain ⟨q1, q2, q3, q4, q5, q6, q7, q8, q9, q10, q11⟩ := id hc
  refine ⟨rfl, rfl, rfl, trivial, fun h1 => ?_, fun h1 => ?_⟩
  ·replace h1 : ¬ (b ≤ t ∧ t ≤ l) := h1
   refine ⟨rfl, rfl, ?_, rfl⟩
   unfold perL
   repeat' split
   all_goals first | rfl | omega | (exfalso; simp_all; done)
  ·replace h1 : ¬ (¬ (b ≤ t ∧ t ≤ l)) := h1
   refine ⟨(r64 (t - b)), .inl ⟨⟨by show (0 : Int) ≤ (t - b); omega, by show (0 : Int) < d; omega⟩, ?_⟩⟩
   refine ⟨rfl, rfl, ?_, rfl⟩
   unfold perL
   repeat' split
   all_goals first | rfl | omega | (exfalso; simp_all; done)
 ·replace h0 : (chkL b l d m hs) ≠ 0 := h0
  refine ⟨rfl, rfl, ?_, rfl⟩
  unfold perL
  repeat' split
  all_goals first | rfl | omega | (exfalso; simp_all; done)
def CPer : List (Nat × Con) := (63, pureC [.v (.cons (.int .i64) (.cons (.int .i64) (.cons (.int .i64) (.cons (.int .i64) (.cons (.sl (.int .i64)) .nil))))), .v (.int .i64)] sPer) :: CPers
theorem kPer : Known Tryd.prog (En CPer tys G6 QZCo2) := kPers.add Tryd.func63 Tryd.call63 [.k] fun ds p v bs h hp => by
 unfold sPer at h
 split at h <;> simp only [Option.some.injEq, Prod.mk.injEq, reduceCtorEq] at h
 obtain ⟨rfl, rfl, rfl⟩ := h
 exact bPer _ _ _ _ _ _ hp
def sSp : List V → Option (Prop × V × List Blk)
 | [.agg [.int .i64 b, .int .i64 l, .int .i64 d, .int .i64 m, .sl false (.int .i64) hs], .int .i64 q] => some (0 ≤ b ∧ b ≤ l ∧ l ≤ 1000000 ∧ 1 ≤ d ∧ d ≤ 1000000 ∧ 0 ≤ q ∧ q < cntL b l d, .tup [.int .i64 (spanF b d q), .int .i64 (spanT b l d q)], [])
 | _ => none
set_option maxHeartbeats 1000000 in
theorem bSp (b : Int) (l : Int) (d : Int) (m : Int) (hs : List Int) (q : Int) (hp0 : 0 ≤ b) (hp1 : b ≤ l) (hp2 : l ≤ 1000000) (hp3 : 1 ≤ d) (hp4 : d ≤ 1000000) (hp5 : 0 ≤ q) (hp6 : q < cntL b l d) : bodyP (En CPer tys G6 QZCo2) Tryd.f91 [.k, .k] [.agg [.int .i64 b, .int .i64 l, .int .i64 d, .int .i64 m, .sl false (.int .i64) hs], .int .i64 q] (.tup [.int .i64 (spanF b d q), .int .i64 (spanT b l d q)]) [] := by
 obtain ⟨z1, z2, z3⟩ := qn_ok hp1 hp3 hp5 hp6
 refine ⟨(r64 (q * d)), (r64 (b + (q * d))), by kernel_rfl, (r64 ((b + (q * d)) + d)), (r64 (((b + (q * d)) + d) - 1)), ?_⟩
 exact ⟨rfl, rfl, rfl, rfl⟩
def CSp : List (Nat × Con) := (91, pureC [.v (.cons (.int .i64) (.cons (.int .i64) (.cons (.int .i64) (.cons (.int .i64) (.cons (.sl (.int .i64)) .nil))))), .v (.int .i64)] sSp) :: CPer
theorem kSp : Known Tryd.prog (En CSp tys G6 QZCo2) := kPer.add Tryd.func91 Tryd.call91 [.k, .k] fun ds p v bs h hp => by
 unfold sSp at h
 split at h <;> simp only [Option.some.injEq, Prod.mk.injEq, reduceCtorEq] at h
 obtain ⟨rfl, rfl, rfl⟩ := h
 exact bSp _ _ _ _ _ _ hp.1 hp.2.1 hp.2.2.1 hp.2.2.2.1 hp.2.2.2.2.1 hp.2.2.2.2.2.1 hp.2.2.2.2.2.2
def sEx : List V → Option (Prop × V × List Blk)
 | [.agg [.int .i64 b, .int .i64 l, .int .i64 d, .int .i64 m, .sl false (.int .i64) hs], .int .i64 q] => some (0 ≤ b ∧ b ≤ l ∧ l ≤ 1000000 ∧ 1 ≤ d ∧ d ≤ 1000000 ∧ 0 ≤ q ∧ q < cntL b l d, .tup [.int .i64 (expF b d q), .int .i64 (expT b l d q)], [])
 | _ => none
set_option maxHeartbeats 1000000 in
theorem bEx (b : Int) (l : Int) (d : Int) (m : Int) (hs : List Int) (q : Int) (hp0 : 0 ≤ b) (hp1 : b ≤ l) (hp2 : l ≤ 1000000) (hp3 : 1 ≤ d) (hp4 : d ≤ 1000000) (hp5 : 0 ≤ q) (hp6 : q < cntL b l d) : bodyP (En CSp tys G6 QZCo2) Tryd.f90 [.k, .k] [.agg [.int .i64 b, .int .i64 l, .int .i64 d, .int .i64 m, .sl false (.int .i64) hs], .int .i64 q] (.tup [.int .i64 (expF b d q), .int .i64 (expT b l d q)]) [] := by
 obtain ⟨z1, z2, z3⟩ := qn_ok hp1 hp3 hp5 hp6
 have hz : spanT b l d q ≤ l ∧ b - 1 ≤ spanT b l d q := by unfold spanT; omega
 refine ⟨(r64 (q - 1)), rfl, rfl, rfl, rfl, rfl, ⟨by show 0 ≤ b; first | omega | assumption, by show b ≤ l; first | omega | assumption, by show l ≤ 1000000; first | omega | assumption, by show 1 ≤ d; first | omega | assumption, by show d ≤ 1000000; first | omega | assumption, by show 0 ≤ (max 0 (q - 1)); first | omega | assumption, by show (max 0 (q - 1)) < cntL b l d; first | omega | assumption⟩, rfl, rfl, rfl, rfl, rfl, ⟨by show 0 ≤ b; first | omega | assumption, by show b ≤ l; first | omega | assumption, by show l ≤ 1000000; first | omega | assumption, by show 1 ≤ d; first | omega | assumption, by show d ≤ 1000000; first | omega | assumption, by show 0 ≤ q; first | omega | assumption, by show q < cntL b l d; first | omega | assumption⟩, (r64 ((spanT b l d q) + 2)), ?_⟩
 exact ⟨rfl, rfl, rfl, rfl⟩
def CEx : List (Nat × Con) := (90, pureC [.v (.cons (.int .i64) (.cons (.int .i64) (.cons (.int .i64) (.cons (.int .i64) (.cons (.sl (.int .i64)) .nil))))), .v (.int .i64)] sEx) :: CSp
theorem kEx : Known Tryd.prog (En CEx tys G6 QZCo2) := kSp.add Tryd.func90 Tryd.call90 [.k, .k] fun ds p v bs h hp => by
 unfold sEx at h
 split at h <;> simp only [Option.some.injEq, Prod.mk.injEq, reduceCtorEq] at h
 obtain ⟨rfl, rfl, rfl⟩ := h
 exact bEx _ _ _ _ _ _ hp.1 hp.2.1 hp.2.2.1 hp.2.2.2.1 hp.2.2.2.2.1 hp.2.2.2.2.2.1 hp.2.2.2.2.2.2
def sAsk : List V → Option (Prop × V × List Blk)
 | [.agg [.int .i64 b, .int .i64 l, .int .i64 d, .int .i64 m, .sl false (.int .i64) hs], .int .i64 q] => some (hs.length ≤ 2000000, .int .i64 (askL b l d m hs q), [])
 | _ => none
set_option maxHeartbeats 1000000 in
theorem bAsk (b : Int) (l : Int) (d : Int) (m : Int) (hs : List Int) (q : Int) (hp0 : hs.length ≤ 2000000) : bodyP (En CEx tys G6 QZCo2) Tryd.f40 [.k] [.agg [.int .i64 b, .int .i64 l, .int .i64 d, .int .i64 m, .sl false (.int .i64) hs], .int .i64 q] (.int .i64 (askL b l d m hs q)) [] := by
 refine ⟨rfl, rfl, rfl, rfl, by show hs.length ≤ 2000000; first | omega | assumption, fun h0 => ?_, fun h0 => ?_⟩
 ·replace h0 : (chkL b l d m hs) ≠ 0 := h0
  refine ⟨rfl, rfl, ?_, rfl⟩
  unfold askL
  repeat' split
  all_goals first | rfl | omega | (exfalso; simp_all; done)
 ·replace h0 : ¬ ((chkL b l d m hs) ≠ 0) := h0
  have hc := chk0 (Classical.not_not.1 h0)
  obtain ⟨q1, q2, q3, q4, q5, q6, q7, q8, q9, q10, q11⟩ := id hc
  refine ⟨rfl, rfl, rfl, rfl, ⟨by show 0 ≤ b; first | omega | assumption, by show b ≤ l; first | omega | assumption, by show l ≤ 1000000; first | omega | assumption, by show 1 ≤ d; first | omega | assumption⟩, (r64 ((cntL b l d) - 1)), rfl, rfl, rfl, trivial, fun h1 => ?_, fun h1 => ?_⟩
  ·replace h1 : ¬ (0 ≤ q ∧ q ≤ ((cntL b l d) - 1)) := h1
   refine ⟨rfl, rfl, ?_, rfl⟩
   unfold askL
   repeat' split
   all_goals first | rfl | omega | (exfalso; simp_all; done)
  ·replace h1 : ¬ (¬ (0 ≤ q ∧ q ≤ ((cntL b l d) - 1))) := h1
   refine ⟨rfl, rfl, ?_, rfl⟩
   unfold askL
   repeat' split
   all_goals first | rfl | omega | (exfalso; simp_all; done)
def CAsk : List (Nat × Con) := (40, pureC [.v (.cons (.int .i64) (.cons (.int .i64) (.cons (.int .i64) (.cons (.int .i64) (.cons (.sl (.int .i64)) .nil))))), .v (.int .i64)] sAsk) :: CEx
theorem kAsk : Known Tryd.prog (En CAsk tys G6 QZCo2) := kEx.add Tryd.func40 Tryd.call40 [.k] fun ds p v bs h hp => by
 unfold sAsk at h
 split at h <;> simp only [Option.some.injEq, Prod.mk.injEq, reduceCtorEq] at h
 obtain ⟨rfl, rfl, rfl⟩ := h
 exact bAsk _ _ _ _ _ _ hp
def sSpn : List V → Option (Prop × V × List Blk)
 | [.agg [.int .i64 b, .int .i64 l, .int .i64 d, .int .i64 m, .sl false (.int .i64) hs], .int .i64 q] => some (hs.length ≤ 2000000, .tup [.int .i64 (if askL b l d m hs q = 0 then spanF b d q else 0), .int .i64 (if askL b l d m hs q = 0 then spanT b l d q else 0), .int .i64 (askL b l d m hs q)], [])
 | _ => none
set_option maxHeartbeats 1000000 in
theorem bSpn (b : Int) (l : Int) (d : Int) (m : Int) (hs : List Int) (q : Int) (hp0 : hs.length ≤ 2000000) : bodyP (En CAsk tys G6 QZCo2) Tryd.f58 [.k, .k, .k] [.agg [.int .i64 b, .int .i64 l, .int .i64 d, .int .i64 m, .sl false (.int .i64) hs], .int .i64 q] (.tup [.int .i64 (if askL b l d m hs q = 0 then spanF b d q else 0), .int .i64 (if askL b l d m hs q = 0 then spanT b l d q else 0), .int .i64 (askL b l d m hs q)]) [] := by
 refine ⟨rfl, rfl, rfl, rfl, rfl, by show hs.length ≤ 2000000; first | omega | assumption, fun h0 => ?_, fun h0 => ?_⟩
 ·replace h0 : (askL b l d m hs q) ≠ 0 := h0
  rw [if_neg h0, if_neg h0]
  exact ⟨rfl, rfl, rfl, rfl⟩
 ·replace h0 : ¬ ((askL b l d m hs q) ≠ 0) := h0
  obtain ⟨hc, hq0, hq1⟩ := ask0 (Classical.not_not.1 h0)
  obtain ⟨q1, q2, q3, q4, q5, q6, q7, q8, q9, q10, q11⟩ := id hc
  rw [if_pos (Classical.not_not.1 h0), if_pos (Classical.not_not.1 h0)]
  refine ⟨rfl, rfl, rfl, rfl, rfl, ⟨by show 0 ≤ b; first | omega | assumption, by show b ≤ l; first | omega | assumption, by show l ≤ 1000000; first | omega | assumption, by show 1 ≤ d; first | omega | assumption, by show d ≤ 1000000; first | omega | assumption, by show 0 ≤ q; first | omega | assumption, by show q < cntL b l d; first | omega | assumption⟩, ?_⟩
  rw [Classical.not_not.1 h0]
  exact ⟨rfl, rfl, rfl, rfl⟩
def CSpn : List (Nat × Con) := (58, pureC [.v (.cons (.int .i64) (.cons (.int .i64) (.cons (.int .i64) (.cons (.int .i64) (.cons (.sl (.int .i64)) .nil))))), .v (.int .i64)] sSpn) :: CAsk
theorem kSpn : Known Tryd.prog (En CSpn tys G6 QZCo2) := kAsk.add Tryd.func58 Tryd.call58 [.k, .k, .k] fun ds p v bs h hp => by
 unfold sSpn at h
 split at h <;> simp only [Option.some.injEq, Prod.mk.injEq, reduceCtorEq] at h
 obtain ⟨rfl, rfl, rfl⟩ := h
 exact bSpn _ _ _ _ _ _ hp
def sExd : List V → Option (Prop × V × List Blk)
 | [.agg [.int .i64 b, .int .i64 l, .int .i64 d, .int .i64 m, .sl false (.int .i64) hs], .int .i64 q] => some (hs.length ≤ 2000000, .tup [.int .i64 (if askL b l d m hs q = 0 then expF b d q else 0), .int .i64 (if askL b l d m hs q = 0 then expT b l d q else 0), .int .i64 (askL b l d m hs q)], [])
 | _ => none
set_option maxHeartbeats 1000000 in
theorem bExd (b : Int) (l : Int) (d : Int) (m : Int) (hs : List Int) (q : Int) (hp0 : hs.length ≤ 2000000) : bodyP (En CSpn tys G6 QZCo2) Tryd.f57 [.k, .k, .k] [.agg [.int .i64 b, .int .i64 l, .int .i64 d, .int .i64 m, .sl false (.int .i64) hs], .int .i64 q] (.tup [.int .i64 (if askL b l d m hs q = 0 then expF b d q else 0), .int .i64 (if askL b l d m hs q = 0 then expT b l d q else 0), .int .i64 (askL b l d m hs q)]) [] := by
 refine ⟨rfl, rfl, rfl, rfl, rfl, by show hs.length ≤ 2000000; first | omega | assumption, fun h0 => ?_, fun h0 => ?_⟩
 ·replace h0 : (askL b l d m hs q) ≠ 0 := h0
  rw [if_neg h0, if_neg h0]
  exact ⟨rfl, rfl, rfl, rfl⟩
 ·replace h0 : ¬ ((askL b l d m hs q) ≠ 0) := h0
  obtain ⟨hc, hq0, hq1⟩ := ask0 (Classical.not_not.1 h0)
  obtain ⟨q1, q2, q3, q4, q5, q6, q7, q8, q9, q10, q11⟩ := id hc
  rw [if_pos (Classical.not_not.1 h0), if_pos (Classical.not_not.1 h0)]
  refine ⟨rfl, rfl, rfl, rfl, rfl, ⟨by show 0 ≤ b; first | omega | assumption, by show b ≤ l; first | omega | assumption, by show l ≤ 1000000; first | omega | assumption, by show 1 ≤ d; first | omega | assumption, by show d ≤ 1000000; first | omega | assumption, by show 0 ≤ q; first | omega | assumption, by show q < cntL b l d; first | omega | assumption⟩, ?_⟩
  rw [Classical.not_not.1 h0]
  exact ⟨rfl, rfl, rfl, rfl⟩
def CExd : List (Nat × Con) := (57, pureC [.v (.cons (.int .i64) (.cons (.int .i64) (.cons (.int .i64) (.cons (.int .i64) (.cons (.sl (.int .i64)) .nil))))), .v (.int .i64)] sExd) :: CSpn
theorem kExd : Known Tryd.prog (En CExd tys G6 QZCo2) := kSpn.add Tryd.func57 Tryd.call57 [.k, .k, .k] fun ds p v bs h hp => by
 unfold sExd at h
 split at h <;> simp only [Option.some.injEq, Prod.mk.injEq, reduceCtorEq] at h
 obtain ⟨rfl, rfl, rfl⟩ := h
 exact bExd _ _ _ _ _ _ hp
end Go.Proofs.YtogipicegdbhdaaDoor.S41c

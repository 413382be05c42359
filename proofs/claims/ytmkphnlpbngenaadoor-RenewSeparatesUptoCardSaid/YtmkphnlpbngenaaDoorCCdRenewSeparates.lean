/- Texts of this claim: S27.D4, S27.CdRenewSeparates. -/
import Derived.Test.YtmkphnlpbngenaaDoorS4
import Derived.Test.YtmkphnlpbngenaaDoorS5
set_option linter.unusedVariables false
set_option linter.unusedSimpArgs false
namespace Go.Proofs.YtmkphnlpbngenaaDoor.S27
open Go Go.Proofs.YtmkphnlpbngenaaDoor.Vc Go.Proofs
set_option maxRecDepth 100000
set_option linter.unusedVariables false

def sLSep : List V → Option (Prop × V × List Blk)
  | [.int .i64 nd, .sl false (.sl .u8) bf, .sl false (.sl .u8) af, .dat false (.arr 2 (.int .u16)) sets, .str sec] => some (bf.length ≤ 1048576 ∧ (∀ x ∈ bf, x.length ≤ 1048576) ∧ af.length ≤ 1048576 ∧ (∀ x ∈ af, x.length ≤ 1048576) ∧ sets.length = 2 ∧ (∀ x ∈ sets, 0 ≤ x ∧ x ≤ 65535), .b True, [])
  | _ => none
set_option maxHeartbeats 8000000 in
theorem bLSep (nd : Int) (bf : List (List UInt8)) (af : List (List UInt8)) (sets : List Int) (sec : List UInt8) (hp0 : bf.length ≤ 1048576) (hp1 : (∀ x ∈ bf, x.length ≤ 1048576)) (hp2 : af.length ≤ 1048576) (hp3 : (∀ x ∈ af, x.length ≤ 1048576)) (hp4 : sets.length = 2) (hp5 : (∀ x ∈ sets, 0 ≤ x ∧ x ≤ 65535)) : bodyP (En CBtw tys G6 QPrs [1000002]) Tryd.f9 [.k] [.int .i64 nd, .sl false (.sl .u8) bf, .sl false (.sl .u8) af, .dat false (.arr 2 (.int .u16)) sets, .str sec] (.b True) [] := by
  have hb0 := hp5 _ (getD_mem 0 sets 0 (by omega))
  have hb1 := hp5 _ (getD_mem 0 sets 1 (by omega))
  refine ⟨⟨rfl, by first | assumption | rfl | simp⟩, trivial, ⟨by show (0 : Int) ≤ 0; omega, by show 0 < (2 : Int); omega, by first | assumption | rfl | simp⟩, ⟨by show (-9223372036854775808 : Int) ≤ (sets.getD 0 0); omega, by show (sets.getD 0 0) ≤ (9223372036854775807 : Int); omega⟩, .inl ⟨⟨by show (0 : Int) ≤ (sets.getD 0 0); omega, by show (0 : Int) < 4096; omega⟩, ?_⟩⟩
  refine ⟨⟨by show (0 : Int) ≤ 1; omega, by show 1 < (2 : Int); omega, by first | assumption | rfl | simp⟩, ⟨by show (-9223372036854775808 : Int) ≤ (sets.getD 1 0); omega, by show (sets.getD 1 0) ≤ (9223372036854775807 : Int); omega⟩, .inl ⟨⟨by show (0 : Int) ≤ (sets.getD 1 0); omega, by show (0 : Int) < 4096; omega⟩, ?_⟩⟩
  refine ⟨fun h0 => ?_, fun h0 => absurd h0 (show ¬ (¬ True) by simp)⟩
  refine ⟨rfl, ⟨by show ([]).length ≤ 1048576; first | omega | assumption | (simp only [List.length_cons, List.length_nil, List.length_append, List.length_take, List.length_drop, List.length_set, List.length_replicate]; omega), (fun d hd => by cases hd), by show bf.length ≤ 1048576; first | omega | assumption, hp1⟩, fun h1 => ?_, fun h1 => ?_⟩
  · replace h1 : ¬ (¬ (fitP nd ([]) bf)) := h1
    have hF1 := fit_ok (Classical.not_not.1 h1)
    have hn2 := hF1.n2
    have hn12 := hF1.n12
    have hl8 := hF1.len
    refine ⟨rfl, ⟨by show ([]).length ≤ 1048576; first | omega | assumption | (simp only [List.length_cons, List.length_nil, List.length_append, List.length_take, List.length_drop, List.length_set, List.length_replicate]; omega), (fun d hd => by cases hd), by show af.length ≤ 1048576; first | omega | assumption, hp3⟩, fun h2 => ?_, fun h2 => ?_⟩
    · replace h2 : ¬ (¬ (fitP nd ([]) af)) := h2
      have hF2 := fit_ok (Classical.not_not.1 h2)
      refine ⟨fun h3 => ?_, fun h3 => ?_⟩
      · replace h3 : ¬ ((bf.length : Int) ≠ (af.length : Int)) := h3
        refine ⟨fun h4 => ?_, fun h4 => ?_⟩
        · replace h4 : ¬ ((bf.length : Int) = 0) := h4
          refine ⟨fun h5 => ?_, fun h5 => ?_⟩
          · replace h5 : ¬ ((sec.length : Int) ≠ (bf.length : Int)) := h5
            refine ⟨rfl, ⟨by show 0 ≤ ((sets.getD 0 0) % 4096); first | omega | assumption, by show ((sets.getD 0 0) % 4096) < 4096; first | omega | assumption⟩, fun h6 => ?_, fun h6 => ?_⟩
            · replace h6 : ¬ (nd ≤ ((cntK 12 ((sets.getD 0 0) % 4096).toNat : Nat) : Int)) := h6
              refine ⟨rfl, ⟨by show 0 ≤ ((sets.getD 1 0) % 4096); first | omega | assumption, by show ((sets.getD 1 0) % 4096) < 4096; first | omega | assumption⟩, fun h7 => ?_, fun h7 => ?_⟩
              · replace h7 : nd ≤ ((cntK 12 ((sets.getD 1 0) % 4096).toNat : Nat) : Int) := h7
                exact ⟨rfl, rfl, rfl, rfl⟩
              · replace h7 : ¬ (nd ≤ ((cntK 12 ((sets.getD 1 0) % 4096).toNat : Nat) : Int)) := h7
                refine ⟨0, [(0, .k), (1, .k), (2, .k), (4, .k), (12, .k), (13, .k), (14, .o (.sl .u8)), (15, .o (.sl .u8)), (16, .k)], fun n vs H => ∃ (k : Nat), k ≤ bf.length ∧ n = bf.length - k ∧ vs = [.int .i64 nd, .sl false (.sl .u8) bf, .sl false (.sl .u8) af, .str sec, .int .i64 ((sets.getD 0 0) % 4096), .int .i64 ((sets.getD 1 0) % 4096), .own (.sl .u8) 0, .own (.sl .u8) 1, .int .i64 (k : Int)] ∧ H = [.row true (.sl .u8) (alsoK bf (sets.getD 0 0 % 4096) nd sec k), .row true (.sl .u8) (alsoK af (sets.getD 1 0 % 4096) nd sec k)], ⟨rfl, bf.length, 0, by omega, by omega, rfl, rfl⟩, ?_⟩
                rintro n vs H ⟨k, hc1_0, rfl, rfl, rfl⟩
                have hal1 := also_len bf (sets.getD 0 0 % 4096) nd sec k
                have hal2 := also_len af (sets.getD 1 0 % 4096) nd sec k
                refine ⟨fun h8 => ?_, fun h8 => ?_⟩
                · replace h8 : (k : Int) < (bf.length : Int) := h8
                  refine ⟨by kernel_rfl, ⟨by show (0 : Int) ≤ (k : Int); omega, by show (k : Int) < (bf.length : Int); omega⟩, ⟨by show (0 : Int) ≤ (k : Int); omega, by show (k : Int) < (sec.length : Int); omega⟩, rfl, rfl, ⟨by show (bf.getD k []).length ≤ 1000000; have := hF1.pl _ (getD_mem [] bf k (by omega)); have := hF1.n12; omega, by show 0 ≤ ((sets.getD 0 0) % 4096); first | omega | assumption, by show ((sets.getD 0 0) % 4096) < 4096; first | omega | assumption⟩, ⟨rfl, rfl⟩, by show (alsoK bf (sets.getD 0 0 % 4096) nd sec k).length + ([othL (bf.getD k []) ((sets.getD 0 0) % 4096) nd (sec.getD k 0)] : List (List UInt8)).length ≤ 1000000000; simp only [List.length_cons, List.length_nil]; omega, by kernel_rfl, ⟨by show (0 : Int) ≤ (k : Int); omega, by show (k : Int) < (af.length : Int); omega⟩, ⟨by show (0 : Int) ≤ (k : Int); omega, by show (k : Int) < (sec.length : Int); omega⟩, rfl, rfl, ⟨by show (af.getD k []).length ≤ 1000000; have := hF2.pl _ (getD_mem [] af k (by omega)); have := hF2.n12; omega, by show 0 ≤ ((sets.getD 1 0) % 4096); first | omega | assumption, by show ((sets.getD 1 0) % 4096) < 4096; first | omega | assumption⟩, ⟨rfl, rfl⟩, by show (alsoK af (sets.getD 1 0 % 4096) nd sec k).length + ([othL (af.getD k []) ((sets.getD 1 0) % 4096) nd (sec.getD k 0)] : List (List UInt8)).length ≤ 1000000000; simp only [List.length_cons, List.length_nil]; omega, ⟨by show (-9223372036854775808 : Int) ≤ ((k : Int) + 1); omega, by show ((k : Int) + 1) ≤ (9223372036854775807 : Int); omega⟩, ?_⟩
                  exact ⟨rfl, bf.length - (k + 1), by omega, k + 1, by omega, rfl, rfl, by rw [also_snoc, also_snoc]; rfl⟩
                · replace h8 : ¬ ((k : Int) < (bf.length : Int)) := h8
                  have hkl : k = bf.length := by omega
                  have hkl2 : k = af.length := by omega
                  have hA1 := also_ok (s := (sets.getD 0 0 % 4096)) (l := bf) (sec := sec) (by omega) hF1.n12 (by omega) (by omega)
                  have hA2 := also_ok (s := (sets.getD 1 0 % 4096)) (l := af) (sec := sec) (by omega) hF1.n12 (by omega) (by omega)
                  rw [← hkl] at hA1
                  rw [← hkl2] at hA2
                  have hN : bf.length = (alsoK bf (sets.getD 0 0 % 4096) nd sec k).length := by rw [also_len]; omega
                  have hsep := sep (m := (nd - 1).toNat) hn2 hn12 (by omega) hl8 (by omega) hA1 hA2
                  rw [hN] at hsep
                  have hs1 := shK_len (alsoK bf (sets.getD 0 0 % 4096) nd sec k) 12
                  have hs2 := shK_len bf 12
                  have hs3 := shK_len af 12
                  have hs4 := shK_len (alsoK af (sets.getD 1 0 % 4096) nd sec k) 12
                  have hrl : (rnK (shK (alsoK bf (sets.getD 0 0 % 4096) nd sec k) 12) [(nd, (btL (alsoK bf (sets.getD 0 0 % 4096) nd sec k) (alsoK af (sets.getD 1 0 % 4096) nd sec k) (alsoK bf (sets.getD 0 0 % 4096) nd sec k).length (nd - 1).toNat (nd - 1).toNat), ())] (shK (alsoK bf (sets.getD 0 0 % 4096) nd sec k) 12).length).length = 12 := by rw [rnK_len, shK_len]
                  have hth : (rnK (shK (alsoK bf (sets.getD 0 0 % 4096) nd sec k) 12) [(nd, (btL (alsoK bf (sets.getD 0 0 % 4096) nd sec k) (alsoK af (sets.getD 1 0 % 4096) nd sec k) (alsoK bf (sets.getD 0 0 % 4096) nd sec k).length (nd - 1).toNat (nd - 1).toNat), ())] (shK (alsoK bf (sets.getD 0 0 % 4096) nd sec k) 12).length) = shK (alsoK af (sets.getD 1 0 % 4096) nd sec k) 12 := by rw [shK_len]; exact hsep.2.2.1
                  refine ⟨rfl, ⟨by show 2 ≤ nd; first | omega | assumption, by show nd ≤ 12; first | omega | assumption, by rw [also_len]; omega, by rw [also_len, also_len], fun x hx => by have := hA1.pl x hx; have := hF1.n12; omega, fun x hx => by have := hA2.pl x hx; have := hF1.n12; omega⟩, ⟨rfl, rfl, rfl, Nat.le_of_ble_eq_true rfl⟩, rfl, ⟨by rw [btL_len]; omega, bt_mx (by omega) (by omega)⟩, fun h9 => ?_, fun h9 => ?_⟩
                  · replace h9 : (chkD nd (btL (alsoK bf (sets.getD 0 0 % 4096) nd sec k) (alsoK af (sets.getD 1 0 % 4096) nd sec k) (alsoK bf (sets.getD 0 0 % 4096) nd sec k).length (nd - 1).toNat (nd - 1).toNat)) ≠ 0 := h9
                    exact absurd hsep.1 h9
                  · replace h9 : ¬ ((chkD nd (btL (alsoK bf (sets.getD 0 0 % 4096) nd sec k) (alsoK af (sets.getD 1 0 % 4096) nd sec k) (alsoK bf (sets.getD 0 0 % 4096) nd sec k).length (nd - 1).toNat (nd - 1).toNat)) ≠ 0) := h9
                    refine ⟨⟨by rw [also_len]; omega, fun x hx => by have := hA1.pl x hx; have := hF1.n12; omega⟩, rfl, ⟨⟨_, hsep.2.1⟩, fun d hd => by rw [List.mem_singleton] at hd; subst hd; exact ⟨by show (btL _ _ _ _ _).length ≤ 1048576; rw [btL_len]; omega, bt_mx (by omega) (by omega)⟩⟩, fun h10 => ?_, fun h10 => absurd h10 (show ¬ (¬ True) by simp)⟩
                    refine ⟨fun h11 => ?_, fun h11 => ?_⟩
                    · replace h11 : (((rnK (shK (alsoK bf (sets.getD 0 0 % 4096) nd sec k) 12) ([(nd, btL (alsoK bf (sets.getD 0 0 % 4096) nd sec k) (alsoK af (sets.getD 1 0 % 4096) nd sec k) (alsoK bf (sets.getD 0 0 % 4096) nd sec k).length (nd - 1).toNat (nd - 1).toNat, ())] : List (Int × (List (List (List UInt8)) × Unit))) (shK (alsoK bf (sets.getD 0 0 % 4096) nd sec k) 12).length).length : Nat) : Int) ≠ 12 := h11
                      omega
                    · replace h11 : ¬ ((((rnK (shK (alsoK bf (sets.getD 0 0 % 4096) nd sec k) 12) ([(nd, btL (alsoK bf (sets.getD 0 0 % 4096) nd sec k) (alsoK af (sets.getD 1 0 % 4096) nd sec k) (alsoK bf (sets.getD 0 0 % 4096) nd sec k).length (nd - 1).toNat (nd - 1).toNat, ())] : List (Int × (List (List (List UInt8)) × Unit))) (shK (alsoK bf (sets.getD 0 0 % 4096) nd sec k) 12).length).length : Nat) : Int) ≠ 12) := h11
                      refine ⟨⟨by show bf.length ≤ 1048576; first | omega | assumption, fun x hx => by have := hF1.pl x hx; have := hF1.n12; omega⟩, ⟨by show af.length ≤ 1048576; first | omega | assumption, fun x hx => by have := hF2.pl x hx; have := hF2.n12; omega⟩, ⟨by rw [also_len]; omega, fun x hx => by have := hA2.pl x hx; have := hF1.n12; omega⟩, 9, [(0, .k), (4, .k), (12, .k), (13, .k), (18, .k), (19, .k), (21, .k), (22, .k), (23, .k), (24, .k)], fun n vs H => ∃ (h : Nat), h ≤ 12 ∧ n = 12 - h ∧ vs = [.int .i64 nd, .str sec, .int .i64 ((sets.getD 0 0) % 4096), .int .i64 ((sets.getD 1 0) % 4096), .own (.cons (.int .i64) (.cons .str .nil)) 3, .own (.cons (.int .i64) (.cons .str .nil)) 5, .own (.cons (.int .i64) (.cons .str .nil)) 6, .own (.cons (.int .i64) (.cons .str .nil)) 7, .own (.cons (.int .i64) (.cons .str .nil)) 8, .int .i64 (h : Int)] ∧ H = [.row true (.sl .u8) (alsoK bf (sets.getD 0 0 % 4096) nd sec k), .row true (.sl .u8) (alsoK af (sets.getD 1 0 % 4096) nd sec k), .cells [.int .i64 nd, .sl true (.sl .str) (btL (alsoK bf (sets.getD 0 0 % 4096) nd sec k) (alsoK af (sets.getD 1 0 % 4096) nd sec k) (alsoK bf (sets.getD 0 0 % 4096) nd sec k).length (nd - 1).toNat (nd - 1).toNat)], .row true (.cons (.int .i64) (.cons .str .nil)) (shK (alsoK bf (sets.getD 0 0 % 4096) nd sec k) 12), .row true (.cons (.int .i64) (.cons (.sl (.sl .str)) .nil)) ([(nd, btL (alsoK bf (sets.getD 0 0 % 4096) nd sec k) (alsoK af (sets.getD 1 0 % 4096) nd sec k) (alsoK bf (sets.getD 0 0 % 4096) nd sec k).length (nd - 1).toNat (nd - 1).toNat, ())] : List (Int × (List (List (List UInt8)) × Unit))), .row true (.cons (.int .i64) (.cons .str .nil)) (rnK (shK (alsoK bf (sets.getD 0 0 % 4096) nd sec k) 12) ([(nd, btL (alsoK bf (sets.getD 0 0 % 4096) nd sec k) (alsoK af (sets.getD 1 0 % 4096) nd sec k) (alsoK bf (sets.getD 0 0 % 4096) nd sec k).length (nd - 1).toNat (nd - 1).toNat, ())] : List (Int × (List (List (List UInt8)) × Unit))) (shK (alsoK bf (sets.getD 0 0 % 4096) nd sec k) 12).length), .row true (.cons (.int .i64) (.cons .str .nil)) (shK bf 12), .row true (.cons (.int .i64) (.cons .str .nil)) (shK af 12), .row true (.cons (.int .i64) (.cons .str .nil)) (shK (alsoK af (sets.getD 1 0 % 4096) nd sec k) 12)], ⟨rfl, 12, 0, by omega, by omega, rfl, rfl⟩, ?_⟩
                      rintro n vs H ⟨h, hc2_0, rfl, rfl, rfl⟩
                      refine ⟨fun h12 => ?_, fun h12 => ?_⟩
                      · replace h12 : (h : Int) < 12 := h12
                        have hq1 : (rnK (shK (alsoK bf (sets.getD 0 0 % 4096) nd sec k) 12) [(nd, (btL (alsoK bf (sets.getD 0 0 % 4096) nd sec k) (alsoK af (sets.getD 1 0 % 4096) nd sec k) (alsoK bf (sets.getD 0 0 % 4096) nd sec k).length (nd - 1).toNat (nd - 1).toNat), ())] (shK (alsoK bf (sets.getD 0 0 % 4096) nd sec k) 12).length).getD h (0, [], ()) = (shK (alsoK af (sets.getD 1 0 % 4096) nd sec k) 12).getD h (0, [], ()) := by rw [hth]
                        refine ⟨by kernel_rfl, ⟨by show (0 : Int) ≤ (h : Int); omega, by show (h : Int) < ((rnK (shK (alsoK bf (sets.getD 0 0 % 4096) nd sec k) 12) ([(nd, btL (alsoK bf (sets.getD 0 0 % 4096) nd sec k) (alsoK af (sets.getD 1 0 % 4096) nd sec k) (alsoK bf (sets.getD 0 0 % 4096) nd sec k).length (nd - 1).toNat (nd - 1).toNat, ())] : List (Int × (List (List (List UInt8)) × Unit))) (shK (alsoK bf (sets.getD 0 0 % 4096) nd sec k) 12).length).length : Int); omega⟩, ⟨by show (0 : Int) ≤ (h : Int); omega, by show (h : Int) < ((shK (alsoK af (sets.getD 1 0 % 4096) nd sec k) 12).length : Int); omega⟩, fun h13 => ?_, fun h13 => ?_⟩
                        · replace h13 : ¬ (¬ ((((rnK (shK (alsoK bf (sets.getD 0 0 % 4096) nd sec k) 12) ([(nd, btL (alsoK bf (sets.getD 0 0 % 4096) nd sec k) (alsoK af (sets.getD 1 0 % 4096) nd sec k) (alsoK bf (sets.getD 0 0 % 4096) nd sec k).length (nd - 1).toNat (nd - 1).toNat, ())] : List (Int × (List (List (List UInt8)) × Unit))) (shK (alsoK bf (sets.getD 0 0 % 4096) nd sec k) 12).length).getD h (0, ([], ()))).1) = (((shK (alsoK af (sets.getD 1 0 % 4096) nd sec k) 12).getD h (0, ([], ()))).1) ∧ (((((rnK (shK (alsoK bf (sets.getD 0 0 % 4096) nd sec k) 12) ([(nd, btL (alsoK bf (sets.getD 0 0 % 4096) nd sec k) (alsoK af (sets.getD 1 0 % 4096) nd sec k) (alsoK bf (sets.getD 0 0 % 4096) nd sec k).length (nd - 1).toNat (nd - 1).toNat, ())] : List (Int × (List (List (List UInt8)) × Unit))) (shK (alsoK bf (sets.getD 0 0 % 4096) nd sec k) 12).length).getD h (0, ([], ()))).2).1) = ((((shK (alsoK af (sets.getD 1 0 % 4096) nd sec k) 12).getD h (0, ([], ()))).2).1) ∧ True))) := h13
                          refine ⟨fun h14 => ?_, fun h14 => absurd h14 (show ¬ (¬ ((((rnK (shK (alsoK bf (sets.getD 0 0 % 4096) nd sec k) 12) ([(nd, btL (alsoK bf (sets.getD 0 0 % 4096) nd sec k) (alsoK af (sets.getD 1 0 % 4096) nd sec k) (alsoK bf (sets.getD 0 0 % 4096) nd sec k).length (nd - 1).toNat (nd - 1).toNat, ())] : List (Int × (List (List (List UInt8)) × Unit))) (shK (alsoK bf (sets.getD 0 0 % 4096) nd sec k) 12).length).getD h (0, ([], ()))).1) = (((shK (alsoK af (sets.getD 1 0 % 4096) nd sec k) 12).getD h (0, ([], ()))).1) ∧ (((((rnK (shK (alsoK bf (sets.getD 0 0 % 4096) nd sec k) 12) ([(nd, btL (alsoK bf (sets.getD 0 0 % 4096) nd sec k) (alsoK af (sets.getD 1 0 % 4096) nd sec k) (alsoK bf (sets.getD 0 0 % 4096) nd sec k).length (nd - 1).toNat (nd - 1).toNat, ())] : List (Int × (List (List (List UInt8)) × Unit))) (shK (alsoK bf (sets.getD 0 0 % 4096) nd sec k) 12).length).getD h (0, ([], ()))).2).1) = ((((shK (alsoK af (sets.getD 1 0 % 4096) nd sec k) 12).getD h (0, ([], ()))).2).1) ∧ True))) by first | omega | assumption | simp_all)⟩
                          refine ⟨fun h15 => ?_, fun h15 => absurd h15 (show ¬ (¬ ((((rnK (shK (alsoK bf (sets.getD 0 0 % 4096) nd sec k) 12) ([(nd, btL (alsoK bf (sets.getD 0 0 % 4096) nd sec k) (alsoK af (sets.getD 1 0 % 4096) nd sec k) (alsoK bf (sets.getD 0 0 % 4096) nd sec k).length (nd - 1).toNat (nd - 1).toNat, ())] : List (Int × (List (List (List UInt8)) × Unit))) (shK (alsoK bf (sets.getD 0 0 % 4096) nd sec k) 12).length).getD h (0, ([], ()))).1) = (((shK (alsoK af (sets.getD 1 0 % 4096) nd sec k) 12).getD h (0, ([], ()))).1) ∧ (((((rnK (shK (alsoK bf (sets.getD 0 0 % 4096) nd sec k) 12) ([(nd, btL (alsoK bf (sets.getD 0 0 % 4096) nd sec k) (alsoK af (sets.getD 1 0 % 4096) nd sec k) (alsoK bf (sets.getD 0 0 % 4096) nd sec k).length (nd - 1).toNat (nd - 1).toNat, ())] : List (Int × (List (List (List UInt8)) × Unit))) (shK (alsoK bf (sets.getD 0 0 % 4096) nd sec k) 12).length).getD h (0, ([], ()))).2).1) = ((((shK (alsoK af (sets.getD 1 0 % 4096) nd sec k) 12).getD h (0, ([], ()))).2).1) ∧ True))) by first | omega | assumption | simp_all)⟩
                          refine ⟨⟨by show (0 : Int) ≤ (h : Int); omega, by show (h : Int) ≤ (64 : Int); omega⟩, fun h16 => ?_, fun h16 => absurd h16 (show ¬ (¬ ((((rnK (shK (alsoK bf (sets.getD 0 0 % 4096) nd sec k) 12) ([(nd, btL (alsoK bf (sets.getD 0 0 % 4096) nd sec k) (alsoK af (sets.getD 1 0 % 4096) nd sec k) (alsoK bf (sets.getD 0 0 % 4096) nd sec k).length (nd - 1).toNat (nd - 1).toNat, ())] : List (Int × (List (List (List UInt8)) × Unit))) (shK (alsoK bf (sets.getD 0 0 % 4096) nd sec k) 12).length).getD h (0, ([], ()))).1) = (((shK (alsoK af (sets.getD 1 0 % 4096) nd sec k) 12).getD h (0, ([], ()))).1) ∧ (((((rnK (shK (alsoK bf (sets.getD 0 0 % 4096) nd sec k) 12) ([(nd, btL (alsoK bf (sets.getD 0 0 % 4096) nd sec k) (alsoK af (sets.getD 1 0 % 4096) nd sec k) (alsoK bf (sets.getD 0 0 % 4096) nd sec k).length (nd - 1).toNat (nd - 1).toNat, ())] : List (Int × (List (List (List UInt8)) × Unit))) (shK (alsoK bf (sets.getD 0 0 % 4096) nd sec k) 12).length).getD h (0, ([], ()))).2).1) = ((((shK (alsoK af (sets.getD 1 0 % 4096) nd sec k) 12).getD h (0, ([], ()))).2).1) ∧ True))) by first | omega | assumption | simp_all)⟩
                          refine .inr ⟨rfl, ?_⟩
                          refine ⟨fun h17 => ?_, fun h17 => absurd h17 (show ¬ (¬ ((((rnK (shK (alsoK bf (sets.getD 0 0 % 4096) nd sec k) 12) ([(nd, btL (alsoK bf (sets.getD 0 0 % 4096) nd sec k) (alsoK af (sets.getD 1 0 % 4096) nd sec k) (alsoK bf (sets.getD 0 0 % 4096) nd sec k).length (nd - 1).toNat (nd - 1).toNat, ())] : List (Int × (List (List (List UInt8)) × Unit))) (shK (alsoK bf (sets.getD 0 0 % 4096) nd sec k) 12).length).getD h (0, ([], ()))).1) = (((shK (alsoK af (sets.getD 1 0 % 4096) nd sec k) 12).getD h (0, ([], ()))).1) ∧ (((((rnK (shK (alsoK bf (sets.getD 0 0 % 4096) nd sec k) 12) ([(nd, btL (alsoK bf (sets.getD 0 0 % 4096) nd sec k) (alsoK af (sets.getD 1 0 % 4096) nd sec k) (alsoK bf (sets.getD 0 0 % 4096) nd sec k).length (nd - 1).toNat (nd - 1).toNat, ())] : List (Int × (List (List (List UInt8)) × Unit))) (shK (alsoK bf (sets.getD 0 0 % 4096) nd sec k) 12).length).getD h (0, ([], ()))).2).1) = ((((shK (alsoK af (sets.getD 1 0 % 4096) nd sec k) 12).getD h (0, ([], ()))).2).1) ∧ True))) by first | omega | assumption | simp_all)⟩
                          refine ⟨fun h18 => ?_, fun h18 => absurd h18 (show ¬ (¬ ((((rnK (shK (alsoK bf (sets.getD 0 0 % 4096) nd sec k) 12) ([(nd, btL (alsoK bf (sets.getD 0 0 % 4096) nd sec k) (alsoK af (sets.getD 1 0 % 4096) nd sec k) (alsoK bf (sets.getD 0 0 % 4096) nd sec k).length (nd - 1).toNat (nd - 1).toNat, ())] : List (Int × (List (List (List UInt8)) × Unit))) (shK (alsoK bf (sets.getD 0 0 % 4096) nd sec k) 12).length).getD h (0, ([], ()))).1) = (((shK (alsoK af (sets.getD 1 0 % 4096) nd sec k) 12).getD h (0, ([], ()))).1) ∧ (((((rnK (shK (alsoK bf (sets.getD 0 0 % 4096) nd sec k) 12) ([(nd, btL (alsoK bf (sets.getD 0 0 % 4096) nd sec k) (alsoK af (sets.getD 1 0 % 4096) nd sec k) (alsoK bf (sets.getD 0 0 % 4096) nd sec k).length (nd - 1).toNat (nd - 1).toNat, ())] : List (Int × (List (List (List UInt8)) × Unit))) (shK (alsoK bf (sets.getD 0 0 % 4096) nd sec k) 12).length).getD h (0, ([], ()))).2).1) = ((((shK (alsoK af (sets.getD 1 0 % 4096) nd sec k) 12).getD h (0, ([], ()))).2).1) ∧ True))) by first | omega | assumption | simp_all)⟩
                          refine ⟨fun h19 => ?_, fun h19 => ?_⟩
                          · replace h19 : ((((sets.getD 0 0) % 4096) / 2 ^ h) % 2) = 1 := h19
                            have hb := hsep.2.2.2.1 h (by omega) h19
                            refine ⟨fun h20 => ?_, fun h20 => absurd (show ((((sets.getD 0 0) % 4096) / 2 ^ h) % 2) = 1 by first | omega | assumption | simp_all) h20⟩
                            refine ⟨fun h21 => ?_, fun h21 => absurd (show ((((sets.getD 0 0) % 4096) / 2 ^ h) % 2) = 1 by first | omega | assumption | simp_all) h21⟩
                            refine ⟨⟨by show (0 : Int) ≤ (h : Int); omega, by show (h : Int) < ((shK (alsoK bf (sets.getD 0 0 % 4096) nd sec k) 12).length : Int); omega⟩, fun h22 => ?_, fun h22 => absurd (show ((((sets.getD 0 0) % 4096) / 2 ^ h) % 2) = 1 by first | omega | assumption | simp_all) h22⟩
                            refine ⟨fun h23 => ?_, fun h23 => absurd (show ((((sets.getD 0 0) % 4096) / 2 ^ h) % 2) = 1 by first | omega | assumption | simp_all) h23⟩
                            refine ⟨fun h24 => ?_, fun h24 => absurd (show ((((sets.getD 0 0) % 4096) / 2 ^ h) % 2) = 1 by first | omega | assumption | simp_all) h24⟩
                            refine ⟨fun h25 => ?_, fun h25 => absurd (show ((((sets.getD 0 0) % 4096) / 2 ^ h) % 2) = 1 by first | omega | assumption | simp_all) h25⟩
                            refine ⟨⟨by show (0 : Int) ≤ (h : Int); omega, by show (h : Int) < ((shK bf 12).length : Int); omega⟩, fun h26 => ?_, fun h26 => absurd (show ((((sets.getD 0 0) % 4096) / 2 ^ h) % 2) = 1 by first | omega | assumption | simp_all) h26⟩
                            refine ⟨fun h27 => ?_, fun h27 => absurd (show ((((sets.getD 0 0) % 4096) / 2 ^ h) % 2) = 1 by first | omega | assumption | simp_all) h27⟩
                            refine ⟨fun h28 => ?_, fun h28 => absurd h28 (show ¬ (¬ ((((rnK (shK (alsoK bf (sets.getD 0 0 % 4096) nd sec k) 12) ([(nd, btL (alsoK bf (sets.getD 0 0 % 4096) nd sec k) (alsoK af (sets.getD 1 0 % 4096) nd sec k) (alsoK bf (sets.getD 0 0 % 4096) nd sec k).length (nd - 1).toNat (nd - 1).toNat, ())] : List (Int × (List (List (List UInt8)) × Unit))) (shK (alsoK bf (sets.getD 0 0 % 4096) nd sec k) 12).length).getD h (0, ([], ()))).1) = (((shK (alsoK af (sets.getD 1 0 % 4096) nd sec k) 12).getD h (0, ([], ()))).1) ∧ (((((rnK (shK (alsoK bf (sets.getD 0 0 % 4096) nd sec k) 12) ([(nd, btL (alsoK bf (sets.getD 0 0 % 4096) nd sec k) (alsoK af (sets.getD 1 0 % 4096) nd sec k) (alsoK bf (sets.getD 0 0 % 4096) nd sec k).length (nd - 1).toNat (nd - 1).toNat, ())] : List (Int × (List (List (List UInt8)) × Unit))) (shK (alsoK bf (sets.getD 0 0 % 4096) nd sec k) 12).length).getD h (0, ([], ()))).2).1) = ((((shK (alsoK af (sets.getD 1 0 % 4096) nd sec k) 12).getD h (0, ([], ()))).2).1) ∧ True))) by first | omega | assumption | simp_all)⟩
                            refine ⟨fun h29 => ?_, fun h29 => absurd (show ((((sets.getD 0 0) % 4096) / 2 ^ h) % 2) = 1 by first | omega | assumption | simp_all) h29⟩
                            refine ⟨fun h30 => absurd h30 (show ¬ (¬ ((((rnK (shK (alsoK bf (sets.getD 0 0 % 4096) nd sec k) 12) ([(nd, btL (alsoK bf (sets.getD 0 0 % 4096) nd sec k) (alsoK af (sets.getD 1 0 % 4096) nd sec k) (alsoK bf (sets.getD 0 0 % 4096) nd sec k).length (nd - 1).toNat (nd - 1).toNat, ())] : List (Int × (List (List (List UInt8)) × Unit))) (shK (alsoK bf (sets.getD 0 0 % 4096) nd sec k) 12).length).getD h (0, ([], ()))).1) = (((shK (alsoK af (sets.getD 1 0 % 4096) nd sec k) 12).getD h (0, ([], ()))).1) ∧ (((((rnK (shK (alsoK bf (sets.getD 0 0 % 4096) nd sec k) 12) ([(nd, btL (alsoK bf (sets.getD 0 0 % 4096) nd sec k) (alsoK af (sets.getD 1 0 % 4096) nd sec k) (alsoK bf (sets.getD 0 0 % 4096) nd sec k).length (nd - 1).toNat (nd - 1).toNat, ())] : List (Int × (List (List (List UInt8)) × Unit))) (shK (alsoK bf (sets.getD 0 0 % 4096) nd sec k) 12).length).getD h (0, ([], ()))).2).1) = ((((shK (alsoK af (sets.getD 1 0 % 4096) nd sec k) 12).getD h (0, ([], ()))).2).1) ∧ True))) by first | omega | assumption | simp_all), fun h30 => ?_⟩
                            refine ⟨fun h31 => ?_, fun h31 => ?_⟩
                            · replace h31 : ¬ (¬ ((((shK (alsoK bf (sets.getD 0 0 % 4096) nd sec k) 12).getD h (0, ([], ()))).1) = (((shK bf 12).getD h (0, ([], ()))).1) ∧ (((((shK (alsoK bf (sets.getD 0 0 % 4096) nd sec k) 12).getD h (0, ([], ()))).2).1) = ((((shK bf 12).getD h (0, ([], ()))).2).1) ∧ True))) := h31
                              refine ⟨fun h32 => ?_, fun h32 => absurd h32 (show ¬ (¬ ((((shK (alsoK bf (sets.getD 0 0 % 4096) nd sec k) 12).getD h (0, ([], ()))).1) = (((shK bf 12).getD h (0, ([], ()))).1) ∧ (((((shK (alsoK bf (sets.getD 0 0 % 4096) nd sec k) 12).getD h (0, ([], ()))).2).1) = ((((shK bf 12).getD h (0, ([], ()))).2).1) ∧ True))) by first | omega | assumption | simp_all)⟩
                              refine ⟨fun h33 => ?_, fun h33 => absurd h33 (show ¬ (¬ ((((shK (alsoK bf (sets.getD 0 0 % 4096) nd sec k) 12).getD h (0, ([], ()))).1) = (((shK bf 12).getD h (0, ([], ()))).1) ∧ (((((shK (alsoK bf (sets.getD 0 0 % 4096) nd sec k) 12).getD h (0, ([], ()))).2).1) = ((((shK bf 12).getD h (0, ([], ()))).2).1) ∧ True))) by first | omega | assumption | simp_all)⟩
                              refine ⟨⟨by show (0 : Int) ≤ (h : Int); omega, by show (h : Int) ≤ (64 : Int); omega⟩, fun h34 => ?_, fun h34 => absurd h34 (show ¬ (¬ ((((shK (alsoK bf (sets.getD 0 0 % 4096) nd sec k) 12).getD h (0, ([], ()))).1) = (((shK bf 12).getD h (0, ([], ()))).1) ∧ (((((shK (alsoK bf (sets.getD 0 0 % 4096) nd sec k) 12).getD h (0, ([], ()))).2).1) = ((((shK bf 12).getD h (0, ([], ()))).2).1) ∧ True))) by first | omega | assumption | simp_all)⟩
                              refine .inr ⟨rfl, ?_⟩
                              refine ⟨fun h35 => ?_, fun h35 => absurd h35 (show ¬ (¬ ((((shK (alsoK bf (sets.getD 0 0 % 4096) nd sec k) 12).getD h (0, ([], ()))).1) = (((shK bf 12).getD h (0, ([], ()))).1) ∧ (((((shK (alsoK bf (sets.getD 0 0 % 4096) nd sec k) 12).getD h (0, ([], ()))).2).1) = ((((shK bf 12).getD h (0, ([], ()))).2).1) ∧ True))) by first | omega | assumption | simp_all)⟩
                              refine ⟨fun h36 => ?_, fun h36 => absurd h36 (show ¬ (¬ ((((shK (alsoK bf (sets.getD 0 0 % 4096) nd sec k) 12).getD h (0, ([], ()))).1) = (((shK bf 12).getD h (0, ([], ()))).1) ∧ (((((shK (alsoK bf (sets.getD 0 0 % 4096) nd sec k) 12).getD h (0, ([], ()))).2).1) = ((((shK bf 12).getD h (0, ([], ()))).2).1) ∧ True))) by first | omega | assumption | simp_all)⟩
                              refine ⟨fun h37 => ?_, fun h37 => ?_⟩
                              · replace h37 : ((((sets.getD 1 0) % 4096) / 2 ^ h) % 2) = 1 := h37
                                have hb2 : (rnK (shK (alsoK bf (sets.getD 0 0 % 4096) nd sec k) 12) [(nd, (btL (alsoK bf (sets.getD 0 0 % 4096) nd sec k) (alsoK af (sets.getD 1 0 % 4096) nd sec k) (alsoK bf (sets.getD 0 0 % 4096) nd sec k).length (nd - 1).toNat (nd - 1).toNat), ())] (shK (alsoK bf (sets.getD 0 0 % 4096) nd sec k) 12).length).getD h (0, [], ()) = (shK af 12).getD h (0, [], ()) := hq1.trans (hsep.2.2.2.2.1 h (by omega) h37)
                                refine ⟨fun h38 => ?_, fun h38 => absurd (show ((((sets.getD 1 0) % 4096) / 2 ^ h) % 2) = 1 by first | omega | assumption | simp_all) h38⟩
                                refine ⟨fun h39 => ?_, fun h39 => absurd (show ((((sets.getD 1 0) % 4096) / 2 ^ h) % 2) = 1 by first | omega | assumption | simp_all) h39⟩
                                refine ⟨⟨by show (0 : Int) ≤ (h : Int); omega, by show (h : Int) < ((rnK (shK (alsoK bf (sets.getD 0 0 % 4096) nd sec k) 12) ([(nd, btL (alsoK bf (sets.getD 0 0 % 4096) nd sec k) (alsoK af (sets.getD 1 0 % 4096) nd sec k) (alsoK bf (sets.getD 0 0 % 4096) nd sec k).length (nd - 1).toNat (nd - 1).toNat, ())] : List (Int × (List (List (List UInt8)) × Unit))) (shK (alsoK bf (sets.getD 0 0 % 4096) nd sec k) 12).length).length : Int); omega⟩, fun h40 => ?_, fun h40 => absurd (show ((((sets.getD 1 0) % 4096) / 2 ^ h) % 2) = 1 by first | omega | assumption | simp_all) h40⟩
                                refine ⟨fun h41 => ?_, fun h41 => absurd (show ((((sets.getD 1 0) % 4096) / 2 ^ h) % 2) = 1 by first | omega | assumption | simp_all) h41⟩
                                refine ⟨fun h42 => ?_, fun h42 => absurd (show ((((sets.getD 1 0) % 4096) / 2 ^ h) % 2) = 1 by first | omega | assumption | simp_all) h42⟩
                                refine ⟨fun h43 => ?_, fun h43 => absurd (show ((((sets.getD 1 0) % 4096) / 2 ^ h) % 2) = 1 by first | omega | assumption | simp_all) h43⟩
                                refine ⟨⟨by show (0 : Int) ≤ (h : Int); omega, by show (h : Int) < ((shK af 12).length : Int); omega⟩, fun h44 => ?_, fun h44 => absurd (show ((((sets.getD 1 0) % 4096) / 2 ^ h) % 2) = 1 by first | omega | assumption | simp_all) h44⟩
                                refine ⟨fun h45 => ?_, fun h45 => absurd (show ((((sets.getD 1 0) % 4096) / 2 ^ h) % 2) = 1 by first | omega | assumption | simp_all) h45⟩
                                refine ⟨fun h46 => ?_, fun h46 => absurd h46 (show ¬ (¬ ((((shK (alsoK bf (sets.getD 0 0 % 4096) nd sec k) 12).getD h (0, ([], ()))).1) = (((shK bf 12).getD h (0, ([], ()))).1) ∧ (((((shK (alsoK bf (sets.getD 0 0 % 4096) nd sec k) 12).getD h (0, ([], ()))).2).1) = ((((shK bf 12).getD h (0, ([], ()))).2).1) ∧ True))) by first | omega | assumption | simp_all)⟩
                                refine ⟨fun h47 => ?_, fun h47 => absurd (show ((((sets.getD 1 0) % 4096) / 2 ^ h) % 2) = 1 by first | omega | assumption | simp_all) h47⟩
                                refine ⟨fun h48 => absurd h48 (show ¬ (¬ ((((shK (alsoK bf (sets.getD 0 0 % 4096) nd sec k) 12).getD h (0, ([], ()))).1) = (((shK bf 12).getD h (0, ([], ()))).1) ∧ (((((shK (alsoK bf (sets.getD 0 0 % 4096) nd sec k) 12).getD h (0, ([], ()))).2).1) = ((((shK bf 12).getD h (0, ([], ()))).2).1) ∧ True))) by first | omega | assumption | simp_all), fun h48 => ?_⟩
                                refine ⟨fun h49 => ?_, fun h49 => ?_⟩
                                · replace h49 : ¬ ((((rnK (shK (alsoK bf (sets.getD 0 0 % 4096) nd sec k) 12) ([(nd, btL (alsoK bf (sets.getD 0 0 % 4096) nd sec k) (alsoK af (sets.getD 1 0 % 4096) nd sec k) (alsoK bf (sets.getD 0 0 % 4096) nd sec k).length (nd - 1).toNat (nd - 1).toNat, ())] : List (Int × (List (List (List UInt8)) × Unit))) (shK (alsoK bf (sets.getD 0 0 % 4096) nd sec k) 12).length).getD h (0, ([], ()))).1) = (((shK af 12).getD h (0, ([], ()))).1) ∧ (((((rnK (shK (alsoK bf (sets.getD 0 0 % 4096) nd sec k) 12) ([(nd, btL (alsoK bf (sets.getD 0 0 % 4096) nd sec k) (alsoK af (sets.getD 1 0 % 4096) nd sec k) (alsoK bf (sets.getD 0 0 % 4096) nd sec k).length (nd - 1).toNat (nd - 1).toNat, ())] : List (Int × (List (List (List UInt8)) × Unit))) (shK (alsoK bf (sets.getD 0 0 % 4096) nd sec k) 12).length).getD h (0, ([], ()))).2).1) = ((((shK af 12).getD h (0, ([], ()))).2).1) ∧ True)) := h49
                                  exact (h49 ⟨congrArg (·.1) hb2, congrArg (·.2.1) hb2, trivial⟩).elim
                                · replace h49 : ¬ (¬ ((((rnK (shK (alsoK bf (sets.getD 0 0 % 4096) nd sec k) 12) ([(nd, btL (alsoK bf (sets.getD 0 0 % 4096) nd sec k) (alsoK af (sets.getD 1 0 % 4096) nd sec k) (alsoK bf (sets.getD 0 0 % 4096) nd sec k).length (nd - 1).toNat (nd - 1).toNat, ())] : List (Int × (List (List (List UInt8)) × Unit))) (shK (alsoK bf (sets.getD 0 0 % 4096) nd sec k) 12).length).getD h (0, ([], ()))).1) = (((shK af 12).getD h (0, ([], ()))).1) ∧ (((((rnK (shK (alsoK bf (sets.getD 0 0 % 4096) nd sec k) 12) ([(nd, btL (alsoK bf (sets.getD 0 0 % 4096) nd sec k) (alsoK af (sets.getD 1 0 % 4096) nd sec k) (alsoK bf (sets.getD 0 0 % 4096) nd sec k).length (nd - 1).toNat (nd - 1).toNat, ())] : List (Int × (List (List (List UInt8)) × Unit))) (shK (alsoK bf (sets.getD 0 0 % 4096) nd sec k) 12).length).getD h (0, ([], ()))).2).1) = ((((shK af 12).getD h (0, ([], ()))).2).1) ∧ True))) := h49
                                  refine ⟨⟨by show (-9223372036854775808 : Int) ≤ ((h : Int) + 1); omega, by show ((h : Int) + 1) ≤ (9223372036854775807 : Int); omega⟩, ?_⟩
                                  exact ⟨rfl, 12 - (h + 1), by omega, h + 1, by omega, rfl, rfl, rfl⟩
                              · replace h37 : ¬ (((((sets.getD 1 0) % 4096) / 2 ^ h) % 2) = 1) := h37
                                refine ⟨fun h50 => absurd h50 (show ¬ (((((sets.getD 1 0) % 4096) / 2 ^ h) % 2) = 1) by first | omega | assumption | simp_all), fun h50 => ?_⟩
                                refine ⟨fun h51 => absurd h51 (show ¬ (((((sets.getD 1 0) % 4096) / 2 ^ h) % 2) = 1) by first | omega | assumption | simp_all), fun h51 => ?_⟩
                                refine ⟨fun h52 => absurd h52 (show ¬ (((((sets.getD 1 0) % 4096) / 2 ^ h) % 2) = 1) by first | omega | assumption | simp_all), fun h52 => ?_⟩
                                refine ⟨fun h53 => absurd h53 (show ¬ (((((sets.getD 1 0) % 4096) / 2 ^ h) % 2) = 1) by first | omega | assumption | simp_all), fun h53 => ?_⟩
                                refine ⟨fun h54 => absurd h54 (show ¬ (((((sets.getD 1 0) % 4096) / 2 ^ h) % 2) = 1) by first | omega | assumption | simp_all), fun h54 => ?_⟩
                                refine ⟨fun h55 => absurd h55 (show ¬ (((((sets.getD 1 0) % 4096) / 2 ^ h) % 2) = 1) by first | omega | assumption | simp_all), fun h55 => ?_⟩
                                refine ⟨fun h56 => absurd h56 (show ¬ (((((sets.getD 1 0) % 4096) / 2 ^ h) % 2) = 1) by first | omega | assumption | simp_all), fun h56 => ?_⟩
                                refine ⟨fun h57 => absurd h57 (show ¬ (((((sets.getD 1 0) % 4096) / 2 ^ h) % 2) = 1) by first | omega | assumption | simp_all), fun h57 => ?_⟩
                                refine ⟨fun h58 => ?_, fun h58 => absurd h58 (show ¬ (¬ ((((shK (alsoK bf (sets.getD 0 0 % 4096) nd sec k) 12).getD h (0, ([], ()))).1) = (((shK bf 12).getD h (0, ([], ()))).1) ∧ (((((shK (alsoK bf (sets.getD 0 0 % 4096) nd sec k) 12).getD h (0, ([], ()))).2).1) = ((((shK bf 12).getD h (0, ([], ()))).2).1) ∧ True))) by first | omega | assumption | simp_all)⟩
                                refine ⟨fun h59 => absurd h59 (show ¬ (((((sets.getD 1 0) % 4096) / 2 ^ h) % 2) = 1) by first | omega | assumption | simp_all), fun h59 => ?_⟩
                                refine ⟨fun h60 => absurd h60 (show ¬ (¬ ((((shK (alsoK bf (sets.getD 0 0 % 4096) nd sec k) 12).getD h (0, ([], ()))).1) = (((shK bf 12).getD h (0, ([], ()))).1) ∧ (((((shK (alsoK bf (sets.getD 0 0 % 4096) nd sec k) 12).getD h (0, ([], ()))).2).1) = ((((shK bf 12).getD h (0, ([], ()))).2).1) ∧ True))) by first | omega | assumption | simp_all), fun h60 => ?_⟩
                                refine ⟨⟨by show (-9223372036854775808 : Int) ≤ ((h : Int) + 1); omega, by show ((h : Int) + 1) ≤ (9223372036854775807 : Int); omega⟩, ?_⟩
                                exact ⟨rfl, 12 - (h + 1), by omega, h + 1, by omega, rfl, rfl, rfl⟩
                            · replace h31 : ¬ ((((shK (alsoK bf (sets.getD 0 0 % 4096) nd sec k) 12).getD h (0, ([], ()))).1) = (((shK bf 12).getD h (0, ([], ()))).1) ∧ (((((shK (alsoK bf (sets.getD 0 0 % 4096) nd sec k) 12).getD h (0, ([], ()))).2).1) = ((((shK bf 12).getD h (0, ([], ()))).2).1) ∧ True)) := h31
                              exact (h31 ⟨congrArg (·.1) hb, congrArg (·.2.1) hb, trivial⟩).elim
                          · replace h19 : ¬ (((((sets.getD 0 0) % 4096) / 2 ^ h) % 2) = 1) := h19
                            refine ⟨fun h61 => absurd h61 (show ¬ (((((sets.getD 0 0) % 4096) / 2 ^ h) % 2) = 1) by first | omega | assumption | simp_all), fun h61 => ?_⟩
                            refine ⟨fun h62 => absurd h62 (show ¬ (((((sets.getD 0 0) % 4096) / 2 ^ h) % 2) = 1) by first | omega | assumption | simp_all), fun h62 => ?_⟩
                            refine ⟨fun h63 => absurd h63 (show ¬ (((((sets.getD 0 0) % 4096) / 2 ^ h) % 2) = 1) by first | omega | assumption | simp_all), fun h63 => ?_⟩
                            refine ⟨fun h64 => absurd h64 (show ¬ (((((sets.getD 0 0) % 4096) / 2 ^ h) % 2) = 1) by first | omega | assumption | simp_all), fun h64 => ?_⟩
                            refine ⟨fun h65 => absurd h65 (show ¬ (((((sets.getD 0 0) % 4096) / 2 ^ h) % 2) = 1) by first | omega | assumption | simp_all), fun h65 => ?_⟩
                            refine ⟨fun h66 => absurd h66 (show ¬ (((((sets.getD 0 0) % 4096) / 2 ^ h) % 2) = 1) by first | omega | assumption | simp_all), fun h66 => ?_⟩
                            refine ⟨fun h67 => absurd h67 (show ¬ (((((sets.getD 0 0) % 4096) / 2 ^ h) % 2) = 1) by first | omega | assumption | simp_all), fun h67 => ?_⟩
                            refine ⟨fun h68 => absurd h68 (show ¬ (((((sets.getD 0 0) % 4096) / 2 ^ h) % 2) = 1) by first | omega | assumption | simp_all), fun h68 => ?_⟩
                            refine ⟨fun h69 => ?_, fun h69 => absurd h69 (show ¬ (¬ ((((rnK (shK (alsoK bf (sets.getD 0 0 % 4096) nd sec k) 12) ([(nd, btL (alsoK bf (sets.getD 0 0 % 4096) nd sec k) (alsoK af (sets.getD 1 0 % 4096) nd sec k) (alsoK bf (sets.getD 0 0 % 4096) nd sec k).length (nd - 1).toNat (nd - 1).toNat, ())] : List (Int × (List (List (List UInt8)) × Unit))) (shK (alsoK bf (sets.getD 0 0 % 4096) nd sec k) 12).length).getD h (0, ([], ()))).1) = (((shK (alsoK af (sets.getD 1 0 % 4096) nd sec k) 12).getD h (0, ([], ()))).1) ∧ (((((rnK (shK (alsoK bf (sets.getD 0 0 % 4096) nd sec k) 12) ([(nd, btL (alsoK bf (sets.getD 0 0 % 4096) nd sec k) (alsoK af (sets.getD 1 0 % 4096) nd sec k) (alsoK bf (sets.getD 0 0 % 4096) nd sec k).length (nd - 1).toNat (nd - 1).toNat, ())] : List (Int × (List (List (List UInt8)) × Unit))) (shK (alsoK bf (sets.getD 0 0 % 4096) nd sec k) 12).length).getD h (0, ([], ()))).2).1) = ((((shK (alsoK af (sets.getD 1 0 % 4096) nd sec k) 12).getD h (0, ([], ()))).2).1) ∧ True))) by first | omega | assumption | simp_all)⟩
                            refine ⟨fun h70 => absurd h70 (show ¬ (((((sets.getD 0 0) % 4096) / 2 ^ h) % 2) = 1) by first | omega | assumption | simp_all), fun h70 => ?_⟩
                            refine ⟨fun h71 => absurd h71 (show ¬ (¬ ((((rnK (shK (alsoK bf (sets.getD 0 0 % 4096) nd sec k) 12) ([(nd, btL (alsoK bf (sets.getD 0 0 % 4096) nd sec k) (alsoK af (sets.getD 1 0 % 4096) nd sec k) (alsoK bf (sets.getD 0 0 % 4096) nd sec k).length (nd - 1).toNat (nd - 1).toNat, ())] : List (Int × (List (List (List UInt8)) × Unit))) (shK (alsoK bf (sets.getD 0 0 % 4096) nd sec k) 12).length).getD h (0, ([], ()))).1) = (((shK (alsoK af (sets.getD 1 0 % 4096) nd sec k) 12).getD h (0, ([], ()))).1) ∧ (((((rnK (shK (alsoK bf (sets.getD 0 0 % 4096) nd sec k) 12) ([(nd, btL (alsoK bf (sets.getD 0 0 % 4096) nd sec k) (alsoK af (sets.getD 1 0 % 4096) nd sec k) (alsoK bf (sets.getD 0 0 % 4096) nd sec k).length (nd - 1).toNat (nd - 1).toNat, ())] : List (Int × (List (List (List UInt8)) × Unit))) (shK (alsoK bf (sets.getD 0 0 % 4096) nd sec k) 12).length).getD h (0, ([], ()))).2).1) = ((((shK (alsoK af (sets.getD 1 0 % 4096) nd sec k) 12).getD h (0, ([], ()))).2).1) ∧ True))) by first | omega | assumption | simp_all), fun h71 => ?_⟩
                            refine ⟨⟨by show (0 : Int) ≤ (h : Int); omega, by show (h : Int) ≤ (64 : Int); omega⟩, .inr ⟨rfl, ?_⟩⟩
                            refine ⟨fun h72 => ?_, fun h72 => ?_⟩
                            · replace h72 : ((((sets.getD 1 0) % 4096) / 2 ^ h) % 2) = 1 := h72
                              have hb2 : (rnK (shK (alsoK bf (sets.getD 0 0 % 4096) nd sec k) 12) [(nd, (btL (alsoK bf (sets.getD 0 0 % 4096) nd sec k) (alsoK af (sets.getD 1 0 % 4096) nd sec k) (alsoK bf (sets.getD 0 0 % 4096) nd sec k).length (nd - 1).toNat (nd - 1).toNat), ())] (shK (alsoK bf (sets.getD 0 0 % 4096) nd sec k) 12).length).getD h (0, [], ()) = (shK af 12).getD h (0, [], ()) := hq1.trans (hsep.2.2.2.2.1 h (by omega) h72)
                              refine ⟨fun h73 => ?_, fun h73 => absurd (show ((((sets.getD 1 0) % 4096) / 2 ^ h) % 2) = 1 by first | omega | assumption | simp_all) h73⟩
                              refine ⟨fun h74 => ?_, fun h74 => absurd (show ((((sets.getD 1 0) % 4096) / 2 ^ h) % 2) = 1 by first | omega | assumption | simp_all) h74⟩
                              refine ⟨⟨by show (0 : Int) ≤ (h : Int); omega, by show (h : Int) < ((rnK (shK (alsoK bf (sets.getD 0 0 % 4096) nd sec k) 12) ([(nd, btL (alsoK bf (sets.getD 0 0 % 4096) nd sec k) (alsoK af (sets.getD 1 0 % 4096) nd sec k) (alsoK bf (sets.getD 0 0 % 4096) nd sec k).length (nd - 1).toNat (nd - 1).toNat, ())] : List (Int × (List (List (List UInt8)) × Unit))) (shK (alsoK bf (sets.getD 0 0 % 4096) nd sec k) 12).length).length : Int); omega⟩, fun h75 => ?_, fun h75 => absurd (show ((((sets.getD 1 0) % 4096) / 2 ^ h) % 2) = 1 by first | omega | assumption | simp_all) h75⟩
                              refine ⟨fun h76 => ?_, fun h76 => absurd (show ((((sets.getD 1 0) % 4096) / 2 ^ h) % 2) = 1 by first | omega | assumption | simp_all) h76⟩
                              refine ⟨fun h77 => ?_, fun h77 => absurd (show ((((sets.getD 1 0) % 4096) / 2 ^ h) % 2) = 1 by first | omega | assumption | simp_all) h77⟩
                              refine ⟨fun h78 => ?_, fun h78 => absurd (show ((((sets.getD 1 0) % 4096) / 2 ^ h) % 2) = 1 by first | omega | assumption | simp_all) h78⟩
                              refine ⟨⟨by show (0 : Int) ≤ (h : Int); omega, by show (h : Int) < ((shK af 12).length : Int); omega⟩, fun h79 => ?_, fun h79 => absurd (show ((((sets.getD 1 0) % 4096) / 2 ^ h) % 2) = 1 by first | omega | assumption | simp_all) h79⟩
                              refine ⟨fun h80 => ?_, fun h80 => absurd (show ((((sets.getD 1 0) % 4096) / 2 ^ h) % 2) = 1 by first | omega | assumption | simp_all) h80⟩
                              refine ⟨fun h81 => ?_, fun h81 => absurd (show ((((sets.getD 1 0) % 4096) / 2 ^ h) % 2) = 1 by first | omega | assumption | simp_all) h81⟩
                              refine ⟨fun h82 => ?_, fun h82 => ?_⟩
                              · replace h82 : ¬ ((((rnK (shK (alsoK bf (sets.getD 0 0 % 4096) nd sec k) 12) ([(nd, btL (alsoK bf (sets.getD 0 0 % 4096) nd sec k) (alsoK af (sets.getD 1 0 % 4096) nd sec k) (alsoK bf (sets.getD 0 0 % 4096) nd sec k).length (nd - 1).toNat (nd - 1).toNat, ())] : List (Int × (List (List (List UInt8)) × Unit))) (shK (alsoK bf (sets.getD 0 0 % 4096) nd sec k) 12).length).getD h (0, ([], ()))).1) = (((shK af 12).getD h (0, ([], ()))).1) ∧ (((((rnK (shK (alsoK bf (sets.getD 0 0 % 4096) nd sec k) 12) ([(nd, btL (alsoK bf (sets.getD 0 0 % 4096) nd sec k) (alsoK af (sets.getD 1 0 % 4096) nd sec k) (alsoK bf (sets.getD 0 0 % 4096) nd sec k).length (nd - 1).toNat (nd - 1).toNat, ())] : List (Int × (List (List (List UInt8)) × Unit))) (shK (alsoK bf (sets.getD 0 0 % 4096) nd sec k) 12).length).getD h (0, ([], ()))).2).1) = ((((shK af 12).getD h (0, ([], ()))).2).1) ∧ True)) := h82
                                exact (h82 ⟨congrArg (·.1) hb2, congrArg (·.2.1) hb2, trivial⟩).elim
                              · replace h82 : ¬ (¬ ((((rnK (shK (alsoK bf (sets.getD 0 0 % 4096) nd sec k) 12) ([(nd, btL (alsoK bf (sets.getD 0 0 % 4096) nd sec k) (alsoK af (sets.getD 1 0 % 4096) nd sec k) (alsoK bf (sets.getD 0 0 % 4096) nd sec k).length (nd - 1).toNat (nd - 1).toNat, ())] : List (Int × (List (List (List UInt8)) × Unit))) (shK (alsoK bf (sets.getD 0 0 % 4096) nd sec k) 12).length).getD h (0, ([], ()))).1) = (((shK af 12).getD h (0, ([], ()))).1) ∧ (((((rnK (shK (alsoK bf (sets.getD 0 0 % 4096) nd sec k) 12) ([(nd, btL (alsoK bf (sets.getD 0 0 % 4096) nd sec k) (alsoK af (sets.getD 1 0 % 4096) nd sec k) (alsoK bf (sets.getD 0 0 % 4096) nd sec k).length (nd - 1).toNat (nd - 1).toNat, ())] : List (Int × (List (List (List UInt8)) × Unit))) (shK (alsoK bf (sets.getD 0 0 % 4096) nd sec k) 12).length).getD h (0, ([], ()))).2).1) = ((((shK af 12).getD h (0, ([], ()))).2).1) ∧ True))) := h82
                                refine ⟨⟨by show (-9223372036854775808 : Int) ≤ ((h : Int) + 1); omega, by show ((h : Int) + 1) ≤ (9223372036854775807 : Int); omega⟩, ?_⟩
                                exact ⟨rfl, 12 - (h + 1), by omega, h + 1, by omega, rfl, rfl, rfl⟩
                            · replace h72 : ¬ (((((sets.getD 1 0) % 4096) / 2 ^ h) % 2) = 1) := h72
                              refine ⟨fun h83 => absurd h83 (show ¬ (((((sets.getD 1 0) % 4096) / 2 ^ h) % 2) = 1) by first | omega | assumption | simp_all), fun h83 => ?_⟩
                              refine ⟨fun h84 => absurd h84 (show ¬ (((((sets.getD 1 0) % 4096) / 2 ^ h) % 2) = 1) by first | omega | assumption | simp_all), fun h84 => ?_⟩
                              refine ⟨fun h85 => absurd h85 (show ¬ (((((sets.getD 1 0) % 4096) / 2 ^ h) % 2) = 1) by first | omega | assumption | simp_all), fun h85 => ?_⟩
                              refine ⟨fun h86 => absurd h86 (show ¬ (((((sets.getD 1 0) % 4096) / 2 ^ h) % 2) = 1) by first | omega | assumption | simp_all), fun h86 => ?_⟩
                              refine ⟨fun h87 => absurd h87 (show ¬ (((((sets.getD 1 0) % 4096) / 2 ^ h) % 2) = 1) by first | omega | assumption | simp_all), fun h87 => ?_⟩
                              refine ⟨fun h88 => absurd h88 (show ¬ (((((sets.getD 1 0) % 4096) / 2 ^ h) % 2) = 1) by first | omega | assumption | simp_all), fun h88 => ?_⟩
                              refine ⟨fun h89 => absurd h89 (show ¬ (((((sets.getD 1 0) % 4096) / 2 ^ h) % 2) = 1) by first | omega | assumption | simp_all), fun h89 => ?_⟩
                              refine ⟨fun h90 => absurd h90 (show ¬ (((((sets.getD 1 0) % 4096) / 2 ^ h) % 2) = 1) by first | omega | assumption | simp_all), fun h90 => ?_⟩
                              refine ⟨fun h91 => absurd h91 (show ¬ (((((sets.getD 1 0) % 4096) / 2 ^ h) % 2) = 1) by first | omega | assumption | simp_all), fun h91 => ?_⟩
                              refine ⟨⟨by show (-9223372036854775808 : Int) ≤ ((h : Int) + 1); omega, by show ((h : Int) + 1) ≤ (9223372036854775807 : Int); omega⟩, ?_⟩
                              exact ⟨rfl, 12 - (h + 1), by omega, h + 1, by omega, rfl, rfl, rfl⟩
                        · replace h13 : ¬ ((((rnK (shK (alsoK bf (sets.getD 0 0 % 4096) nd sec k) 12) ([(nd, btL (alsoK bf (sets.getD 0 0 % 4096) nd sec k) (alsoK af (sets.getD 1 0 % 4096) nd sec k) (alsoK bf (sets.getD 0 0 % 4096) nd sec k).length (nd - 1).toNat (nd - 1).toNat, ())] : List (Int × (List (List (List UInt8)) × Unit))) (shK (alsoK bf (sets.getD 0 0 % 4096) nd sec k) 12).length).getD h (0, ([], ()))).1) = (((shK (alsoK af (sets.getD 1 0 % 4096) nd sec k) 12).getD h (0, ([], ()))).1) ∧ (((((rnK (shK (alsoK bf (sets.getD 0 0 % 4096) nd sec k) 12) ([(nd, btL (alsoK bf (sets.getD 0 0 % 4096) nd sec k) (alsoK af (sets.getD 1 0 % 4096) nd sec k) (alsoK bf (sets.getD 0 0 % 4096) nd sec k).length (nd - 1).toNat (nd - 1).toNat, ())] : List (Int × (List (List (List UInt8)) × Unit))) (shK (alsoK bf (sets.getD 0 0 % 4096) nd sec k) 12).length).getD h (0, ([], ()))).2).1) = ((((shK (alsoK af (sets.getD 1 0 % 4096) nd sec k) 12).getD h (0, ([], ()))).2).1) ∧ True)) := h13
                          exact (h13 ⟨congrArg (·.1) hq1, congrArg (·.2.1) hq1, trivial⟩).elim
                      · replace h12 : ¬ ((h : Int) < 12) := h12
                        refine ⟨rfl, by show SecOk (rnK (shK (alsoK bf (sets.getD 0 0 % 4096) nd sec k) 12) ([(nd, btL (alsoK bf (sets.getD 0 0 % 4096) nd sec k) (alsoK af (sets.getD 1 0 % 4096) nd sec k) (alsoK bf (sets.getD 0 0 % 4096) nd sec k).length (nd - 1).toNat (nd - 1).toNat, ())] : List (Int × (List (List (List UInt8)) × Unit))) (shK (alsoK bf (sets.getD 0 0 % 4096) nd sec k) 12).length) nd; rw [hth]; exact hsep.2.2.2.2.2.1, fun h92 => ?_, fun h92 => absurd (show True by simp) h92⟩
                        exact ⟨rfl, rfl, congrArg V.b (propext ⟨fun _ => trivial, fun _ => by show secK (rnK (shK (alsoK bf (sets.getD 0 0 % 4096) nd sec k) 12) [(nd, (btL (alsoK bf (sets.getD 0 0 % 4096) nd sec k) (alsoK af (sets.getD 1 0 % 4096) nd sec k) (alsoK bf (sets.getD 0 0 % 4096) nd sec k).length (nd - 1).toNat (nd - 1).toNat), ())] (shK (alsoK bf (sets.getD 0 0 % 4096) nd sec k) 12).length) nd (sN (rnK (shK (alsoK bf (sets.getD 0 0 % 4096) nd sec k) 12) [(nd, (btL (alsoK bf (sets.getD 0 0 % 4096) nd sec k) (alsoK af (sets.getD 1 0 % 4096) nd sec k) (alsoK bf (sets.getD 0 0 % 4096) nd sec k).length (nd - 1).toNat (nd - 1).toNat), ())] (shK (alsoK bf (sets.getD 0 0 % 4096) nd sec k) 12).length)) = sec; rw [hth]; exact hsep.2.2.2.2.2.2⟩), rfl⟩
            · replace h6 : nd ≤ ((cntK 12 ((sets.getD 0 0) % 4096).toNat : Nat) : Int) := h6
              exact ⟨rfl, rfl, rfl, rfl⟩
          · replace h5 : (sec.length : Int) ≠ (bf.length : Int) := h5
            exact ⟨rfl, rfl, rfl, rfl⟩
        · replace h4 : (bf.length : Int) = 0 := h4
          exact ⟨rfl, rfl, rfl, rfl⟩
      · replace h3 : (bf.length : Int) ≠ (af.length : Int) := h3
        exact ⟨rfl, rfl, rfl, rfl⟩
    · replace h2 : ¬ (fitP nd ([]) af) := h2
      exact ⟨rfl, rfl, rfl, rfl⟩
  · replace h1 : ¬ (fitP nd ([]) bf) := h1
    exact ⟨rfl, rfl, rfl, rfl⟩
end Go.Proofs.YtmkphnlpbngenaaDoor.S27

namespace Go.Proofs.YtmkphnlpbngenaaDoor
open Go Go.Proofs.YtmkphnlpbngenaaDoor.Vc Go.Proofs Go.Proofs.YtmkphnlpbngenaaDoor.S27 Go.ChangeShapes Go.WideShapes Go.ChangeAt Go.RowKit
set_option maxRecDepth 100000
set_option linter.unusedVariables false
namespace Cd.renewSeparates
open Go.Proofs.YtmkphnlpbngenaaDoor.Cd
theorem deep0 : Deep Tryd.prog (.int .i64) (.inl 3) := Tryd.underlying3
theorem rec0 : Tryd.prog.readableRec 3 = true := by kernel_rfl
theorem lt0 : 3 < Tryd.prog.types.size := of_decide_eq_true (by kernel_rfl)
theorem deep1 : Deep Tryd.prog (.sl (.sl .u8)) (.inl 80) := ⟨82, Tryd.underlying80, by kernel_rfl, by decide, ⟨5, Tryd.underlying82, by kernel_rfl, by decide, Tryd.underlying5⟩⟩
theorem rec1 : Tryd.prog.readableRec 80 = true := by kernel_rfl
theorem lt1 : 80 < Tryd.prog.types.size := of_decide_eq_true (by kernel_rfl)
theorem deep2 : Deep Tryd.prog (.sl (.sl .u8)) (.inl 80) := ⟨82, Tryd.underlying80, by kernel_rfl, by decide, ⟨5, Tryd.underlying82, by kernel_rfl, by decide, Tryd.underlying5⟩⟩
theorem rec2 : Tryd.prog.readableRec 80 = true := by kernel_rfl
theorem lt2 : 80 < Tryd.prog.types.size := of_decide_eq_true (by kernel_rfl)
theorem deep3 : Deep Tryd.prog (.arr 2 (.int .u16)) (.inl 92) := ⟨72, Tryd.underlying92, by kernel_rfl, by kernel_rfl, Tryd.underlying72⟩
theorem rec3 : Tryd.prog.readableRec 92 = true := by kernel_rfl
theorem lt3 : 92 < Tryd.prog.types.size := of_decide_eq_true (by kernel_rfl)
theorem deep4 : Deep Tryd.prog .str (.inl 9) := Tryd.underlying9
theorem rec4 : Tryd.prog.readableRec 9 = true := by kernel_rfl
theorem lt4 : 9 < Tryd.prog.types.size := of_decide_eq_true (by kernel_rfl)
theorem globs {W : World} (h : laidMetH Tryd.prog Rows.renewSeparatesUptoRow.laid W) : ∀ g x, lk G6 g = some x → VRel (c0 W) [] W x (.pointer (some ⟨g, 0, none⟩)) := fun g x hx => by
  have hg : Tryd.prog.globalNamed "quietus/gf.high" = some 0 := by kernel_rfl
  have ht : Lib.TabIs Tryd.prog W "quietus/gf.high" .u8 [0, 29, 58, 39, 116, 105, 78, 83, 232, 245, 210, 207, 156, 129, 166, 187] := Lib.tabIs_of_head (rest := []) hg (by kernel_rfl) Tryd.underlying129 Tryd.underlying5 (by kernel_rfl) (by kernel_rfl) h
  have key : ∀ i, i < 16 → ([0, 29, 58, 39, 116, 105, 78, 83, 232, 245, 210, 207, 156, 129, 166, 187] : List Int).getD i 0 = ((hi.getD i 0).toNat : Int) := by decide
  have hc : ∀ i, i < hi.length → W.cell? ⟨0, i, none⟩ = some (.int .u8 ((hi.getD i 0).toNat : Int)) := fun i hi' => by
    have := ht.cell hg i hi'
    rwa [key i hi'] at this
  unfold G6 lk at hx
  cases hb : Nat.beq 0 g with
  | false => rw [hb] at hx; simp [lk] at hx
  | true =>
    rw [hb] at hx
    simp only [cond_true, Option.some.injEq] at hx
    have := beq_ok hb
    subst this hx
    exact tab_ok (spot_none (hc 0 (by decide))).2 hc rfl
theorem contract (H : Type) (enc : TypeId × Value → H) (W : World) (base : Nat) (args : Array Value) (ds gs : List (DataW H)) (before : List MemPlace)
    (hval : ∀ (j : Nat) t v, Tryd.f9.params[j]? = some t → args[j]? = some v → Value.okWide Tryd.prog W .any base t v)
    (hW : DataW.Whole enc Tryd.prog Tryd.f9.params.toList Rows.renewSeparatesSpec.vars false W args.toList ds gs before) (hc : Rows.uptoSmall H (ds ++ gs) = true) (hL : laidMetH Tryd.prog Rows.renewSeparatesUptoRow.laid W) :
    Calls Tryd.prog 9 args W fun e W' => ∃ v, e = .returned v ∧ Rows.renewSeparatesSpec.post enc Tryd.prog Tryd.f9 false true false false W args v W' := by
  have hW' := hW
  obtain ⟨p, q, hA0, hV, rfl, hfz, hnd⟩ := hW
  have hA : DataW.TrodAll enc Tryd.prog W 0 (fun _ => true) true Tryd.f9.params.toList args.toList ds p := hA0
  rw [Tryd.params9] at hA hval
  obtain ⟨v0, vs0, d0, ds0, p0, q0, hargs, rfl, rfl, h0, r0⟩ := trodAll_cons hA
  obtain ⟨v1, vs1, d1, ds1, p1, q1, rfl, rfl, rfl, h1, r1⟩ := trodAll_cons r0
  obtain ⟨v2, vs2, d2, ds2, p2, q2, rfl, rfl, rfl, h2, r2⟩ := trodAll_cons r1
  obtain ⟨v3, vs3, d3, ds3, p3, q3, rfl, rfl, rfl, h3, r3⟩ := trodAll_cons r2
  obtain ⟨v4, vs4, d4, ds4, p4, q4, rfl, rfl, rfl, h4, r4⟩ := trodAll_cons r3
  obtain ⟨rfl, rfl, rfl⟩ := trodAll_nil r4
  obtain rfl : args = #[v0, v1, v2, v3, v4] := by cases args; simp_all
  obtain ⟨rfl, rfl⟩ := trodVars_none hV
  obtain ⟨x0, rel0, w0, wf0⟩ := arg_ok (bk := Rows.uptoBulk) bulk deep0 (hval 0 3 v0 rfl rfl) h0
  obtain ⟨x1, rel1, w1, wf1⟩ := arg_ok (bk := Rows.uptoBulk) bulk deep1 (hval 1 80 v1 rfl rfl) h1
  obtain ⟨x2, rel2, w2, wf2⟩ := arg_ok (bk := Rows.uptoBulk) bulk deep2 (hval 2 80 v2 rfl rfl) h2
  obtain ⟨x3, rel3, w3, wf3⟩ := arg_ok (bk := Rows.uptoBulk) bulk deep3 (hval 3 92 v3 rfl rfl) h3
  obtain ⟨x4, rel4, w4, wf4⟩ := arg_ok (bk := Rows.uptoBulk) bulk deep4 (hval 4 9 v4 rfl rfl) h4
  have hsum : Rows.uptoBulkAll [d0, d1, d2, d3, d4] ≤ 1048576 := by simpa [Rows.uptoSmall] using hc
  simp only [Rows.uptoBulkAll] at hsum
  have hlt : ∀ x ∈ p0 ++ p1 ++ p2 ++ p3 ++ p4, x.block < W.heap.size := fun x hx => by simpa using hW'.lt x (by simpa using hx)
  refine (law_ok (kBtw.frz [1000002]) rfl Tryd.func9 (.cons _ _ _ _ rel0 (.cons _ _ _ _ rel1 (.cons _ _ _ _ rel2 (.cons _ _ _ _ rel3 (.cons _ _ _ _ rel4 (VRels.nil)))))) (globs hL) (bLSep x0 x1 x2 x3 x4 (mxP' (N := 1048576) (l := x1) (by omega)).1 (mxP' (N := 1048576) (l := x1) (by omega)).2 (mxP' (N := 1048576) (l := x2) (by omega)).1 (mxP' (N := 1048576) (l := x2) (by omega)).2 wf3.1 (fun x hx => wf3.2 x hx))).mono fun e W' ⟨he, hb⟩ => ?_
  subst he
  exact ⟨_, rfl, post_same (pa := (p0 ++ (p1 ++ (p2 ++ (p3 ++ (p4 ++ [])))))) (pv := []) hW' (fun _ _ _ => trodAll_cons_mk (shut_bool Tryd.underlying4 _) trodAll_mk0) (fun sp hsp => trodAll_cons_mk (WideElems.Trod_stays laidOut rec0 lt0 h0 (fun x hx => hb.same (hlt x (by simp [hx]))) (fun x hx => hsp x (by simp [hx]))) (trodAll_cons_mk (WideElems.Trod_stays laidOut rec1 lt1 h1 (fun x hx => hb.same (hlt x (by simp [hx]))) (fun x hx => hsp x (by simp [hx]))) (trodAll_cons_mk (WideElems.Trod_stays laidOut rec2 lt2 h2 (fun x hx => hb.same (hlt x (by simp [hx]))) (fun x hx => hsp x (by simp [hx]))) (trodAll_cons_mk (WideElems.Trod_stays laidOut rec3 lt3 h3 (fun x hx => hb.same (hlt x (by simp [hx]))) (fun x hx => hsp x (by simp [hx]))) (trodAll_cons_mk (WideElems.Trod_stays laidOut rec4 lt4 h4 (fun x hx => hb.same (hlt x (by simp [hx]))) (fun x hx => hsp x (by simp [hx]))) (trodAll_mk0)))))) (fun _ _ => rfl) rfl hb (ok_one (by kernel_rfl) rfl (okWide_bool_mk Tryd.underlying4 _))⟩
noncomputable def laidWorld (os : Os) : World :=
  { World.holding Tryd.prog os ⟨#[], #[], []⟩ with heap := (World.holding Tryd.prog os ⟨#[], #[], []⟩).heap.modify 0 fun
      | .cells _ t frozen => .cells #[.int .u8 0, .int .u8 29, .int .u8 58, .int .u8 39, .int .u8 116, .int .u8 105, .int .u8 78, .int .u8 83, .int .u8 232, .int .u8 245, .int .u8 210, .int .u8 207, .int .u8 156, .int .u8 129, .int .u8 166, .int .u8 187] t frozen
      | o => o }
theorem laid_met (os : Os) : laidMet Tryd.prog Rows.renewSeparatesUptoRow.laid ((laidWorld os).forCall (fun _ _ => 0) ⟨#[], #[.int .i64 0, .slice none 0 0, .slice none 0 0, .agg #[.int .u16 0, .int .u16 0], .string ⟨#[]⟩], []⟩).memory :=
  laidMet_of_run' 8 (by kernel_rfl) (by kernel_rfl)
theorem reads (os : Os) {H : Type} (enc : TypeId × Value → H) : ∃ places, DataW.whole enc Tryd.prog ((laidWorld os).forCall (fun _ _ => 0) ⟨#[], #[.int .i64 0, .slice none 0 0, .slice none 0 0, .agg #[.int .u16 0, .int .u16 0], .string ⟨#[]⟩], []⟩).memory Tryd.f9.params.toList Rows.renewSeparatesSpec.vars false (#[.int .i64 0, .slice none 0 0, .slice none 0 0, .agg #[.int .u16 0, .int .u16 0], .string ⟨#[]⟩] : Array Value).toList 8 = some ([.lit (.int .i64 0), .nil, .nil, .agg [.lit (.int .u16 0), .lit (.int .u16 0)], .lit (.string [])], [], places) :=
  ⟨[], by kernel_rfl⟩
theorem liftedUpto (os : Os) (started : os.Started) (H : Type) (enc : TypeId × Value → H) (F : Stop.Interp) :
    ReturnsInHanded {} Tryd.checked os 9 .any ((Rows.OpenSpec.upto Rows.renewSeparatesSpec).preRow enc Tryd.prog Tryd.f9 Rows.renewSeparatesUptoRow.domain false Rows.renewSeparatesUptoRow.laid) (((Rows.OpenSpec.upto Rows.renewSeparatesSpec).at F).post enc Tryd.prog Tryd.f9 false true false false) := by
  obtain ⟨places, hx⟩ := reads os enc
  refine returnsInHanded_of_row (C := Tryd.checked) (s := Rows.OpenSpec.upto Rows.renewSeparatesSpec) own started (by kernel_rfl) Tryd.func9
    (witness_row_at (enc := enc) (C := Tryd.checked) false (laidWorld os) #[.int .i64 0, .slice none 0 0, .slice none 0 0, .agg #[.int .u16 0, .int .u16 0], .string ⟨#[]⟩] rfl (by kernel_rfl) (by kernel_rfl) (by kernel_rfl)
      (OpenSpec.preRow_of_cond 8 hx (by kernel_rfl) (fun k hk => by cases hk; kernel_rfl) (by kernel_rfl) (laid_met os))) ?_
  intro W base args ds gs before hval hW _ hcond _ hL _ _
  exact contract H enc W base args ds gs before hval hW (hcond _ rfl) hL
theorem saidUpto : Rows.RenewSeparatesUptoSaid :=
  OpenClaim.holds_of_cond 9 Tryd.f9 rfl rfl rfl rfl rfl rfl rfl ⟨rfl, rfl, rfl, rfl, rfl⟩ rfl rfl rfl rfl rfl (by kernel_rfl) Tryd.func9 (by kernel_rfl)
    (of_decide_eq_true (by kernel_rfl)) (by unfold Func.isWrapper; first | (rw [if_pos (by decide +kernel)]; kernel_rfl) | (rw [if_neg (by decide +kernel)]; exact ⟨rfl, rfl⟩))
    (fun os started H enc _ F => by rw [OpenClaim.pre_eq_preRow]; exact liftedUpto os started H enc F)
theorem plain (f : FuncId) (fn : Func) (hf : Tryd.pinned.checked.prog.funcNamed "quietus/quietuslaw27.RenewSeparates" = some f) (hfn : Tryd.pinned.checked.prog.funcs[f]? = some fn) :
    false = Tryd.pinned.checked.prog.looks [] ∧ ∀ (j : Nat) t, fn.params[j]? = some t → Tryd.pinned.checked.prog.wantsStandIn t = false := by
  obtain rfl : f = 9 := Option.some.inj ((show Tryd.prog.funcNamed "quietus/quietuslaw27.RenewSeparates" = some 9 by kernel_rfl).symm.trans hf) |>.symm
  obtain rfl : fn = Tryd.f9 := (Option.some.inj (Tryd.func9.symm.trans hfn)).symm
  refine ⟨by kernel_rfl, fun j t ht => ?_⟩
  rw [Tryd.params9] at ht
  have hm := Array.mem_of_getElem? ht
  simp only [List.mem_toArray, List.mem_cons, List.not_mem_nil, or_false] at hm
  rcases hm with rfl | rfl | rfl | rfl | rfl
  · exact (show Tryd.prog.wantsStandIn 3 = false by kernel_rfl)
  · exact (show Tryd.prog.wantsStandIn 80 = false by kernel_rfl)
  · exact (show Tryd.prog.wantsStandIn 80 = false by kernel_rfl)
  · exact (show Tryd.prog.wantsStandIn 92 = false by kernel_rfl)
  · exact (show Tryd.prog.wantsStandIn 9 = false by kernel_rfl)
theorem cardUpto : Rows.RenewSeparatesUptoCardSaid :=
  Claim7.holds_tied_plain_at .later [] _ _ _ _ saidUpto (fun _ h => by cases h) (by kernel_rfl) (fun _ h => by cases h) renewSeparatesUpto_row_tie rfl ⟨rfl, rfl⟩ (by kernel_rfl) rfl plain (by kernel_rfl)
end Cd.renewSeparates
theorem renewSeparates_holds : Rows.RenewSeparatesUptoCardSaid := Cd.renewSeparates.cardUpto
end Go.Proofs.YtmkphnlpbngenaaDoor

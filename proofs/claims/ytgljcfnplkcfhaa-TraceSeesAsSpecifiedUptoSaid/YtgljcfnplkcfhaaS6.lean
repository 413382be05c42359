/- Texts of this claim: S38.R2, S38.R3, S38.Qr. -/
import Derived.Test.YtgljcfnplkcfhaaS4
import Derived.Test.YtgljcfnplkcfhaaS5
set_option linter.unusedVariables false
set_option linter.unusedSimpArgs false
namespace Go.Proofs.Ytgljcfnplkcfhaa.S38
open Go Go.Proofs.Ytgljcfnplkcfhaa.Vc Go.Proofs
set_option maxRecDepth 100000
set_option linter.unusedVariables false

noncomputable def sRAs : List V → Option (Prop × V × List Blk)
  | [.sl false (.cons (.int .i64) (.cons (.int .i64) (.cons (.int .i64) (.cons (.sl (.int .i64)) (.cons (.int .i64) (.cons (.int .i64) (.cons (.int .i64) (.cons (.int .i64) (.cons (.int .i64) (.cons (.int .i64) .nil)))))))))) l, .int .i64 o, .int .i64 n, .int .i64 lo, .int .i64 hi] => some (l.length ≤ 1048576 ∧ (∀ a ∈ l, a.2.2.2.1.length ≤ 1048576), .int .i64 (askE l o n lo hi), [])
  | _ => none
set_option maxHeartbeats 1000000 in
theorem bRAs (l : List (Int × (Int × (Int × (List Int × (Int × (Int × (Int × (Int × (Int × (Int × Unit))))))))))) (o : Int) (n : Int) (lo : Int) (hi : Int) (hp0 : l.length ≤ 1048576) (hp1 : (∀ a ∈ l, a.2.2.2.1.length ≤ 1048576)) : bodyP (En CRCk tys [] QOfs) Try.f107 [.k] [.sl false (.cons (.int .i64) (.cons (.int .i64) (.cons (.int .i64) (.cons (.sl (.int .i64)) (.cons (.int .i64) (.cons (.int .i64) (.cons (.int .i64) (.cons (.int .i64) (.cons (.int .i64) (.cons (.int .i64) .nil)))))))))) l, .int .i64 o, .int .i64 n, .int .i64 lo, .int .i64 hi] (.int .i64 (askE l o n lo hi)) [] := by
 refine ⟨⟨by show l.length ≤ 1048576; first | omega | assumption, by first | assumption | simp⟩, fun h0 => ?_, fun h0 => ?_⟩
 ·replace h0 : (chkL l) ≠ 0 := h0
  rw [show askE l o n lo hi = chkL l from if_pos h0]
  exact ⟨rfl, rfl, rfl, rfl⟩
 ·replace h0 : ¬ ((chkL l) ≠ 0) := h0
  refine ⟨fun h1 => ?_, fun h1 => ?_⟩
  ·replace h1 : ¬ (o < 0) := h1
   refine ⟨fun h2 => ?_, fun h2 => ?_⟩
   ·replace h2 : ¬ (1048576 < o) := h2
    refine ⟨fun h3 => ?_, fun h3 => ?_⟩
    ·replace h3 : ¬ (n < lo) := h3
     refine ⟨fun h4 => ?_, fun h4 => ?_⟩
     ·replace h4 : hi < n := h4
      first
      | (rw [show askE l o n lo hi = 3 by unfold askE; rw [if_neg h0, if_pos (by omega)]]; exact ⟨rfl, rfl, rfl, rfl⟩)
      | (rw [show askE l o n lo hi = 0 by unfold askE; rw [if_neg h0, if_neg (by omega)]]; exact ⟨rfl, rfl, rfl, rfl⟩)
     ·replace h4 : ¬ (hi < n) := h4
      first
      | (rw [show askE l o n lo hi = 3 by unfold askE; rw [if_neg h0, if_pos (by omega)]]; exact ⟨rfl, rfl, rfl, rfl⟩)
      | (rw [show askE l o n lo hi = 0 by unfold askE; rw [if_neg h0, if_neg (by omega)]]; exact ⟨rfl, rfl, rfl, rfl⟩)
    ·replace h3 : n < lo := h3
     first
     | (rw [show askE l o n lo hi = 3 by unfold askE; rw [if_neg h0, if_pos (by omega)]]; exact ⟨rfl, rfl, rfl, rfl⟩)
     | (rw [show askE l o n lo hi = 0 by unfold askE; rw [if_neg h0, if_neg (by omega)]]; exact ⟨rfl, rfl, rfl, rfl⟩)
   ·replace h2 : 1048576 < o := h2
    first
    | (rw [show askE l o n lo hi = 3 by unfold askE; rw [if_neg h0, if_pos (by omega)]]; exact ⟨rfl, rfl, rfl, rfl⟩)
    | (rw [show askE l o n lo hi = 0 by unfold askE; rw [if_neg h0, if_neg (by omega)]]; exact ⟨rfl, rfl, rfl, rfl⟩)
  ·replace h1 : o < 0 := h1
   first
   | (rw [show askE l o n lo hi = 3 by unfold askE; rw [if_neg h0, if_pos (by omega)]]; exact ⟨rfl, rfl, rfl, rfl⟩)
   | (rw [show askE l o n lo hi = 0 by unfold askE; rw [if_neg h0, if_neg (by omega)]]; exact ⟨rfl, rfl, rfl, rfl⟩)
def CRAs : List (Nat × Con) := (107, pureC [.v (.sl (.cons (.int .i64) (.cons (.int .i64) (.cons (.int .i64) (.cons (.sl (.int .i64)) (.cons (.int .i64) (.cons (.int .i64) (.cons (.int .i64) (.cons (.int .i64) (.cons (.int .i64) (.cons (.int .i64) .nil))))))))))), .v (.int .i64), .v (.int .i64), .v (.int .i64), .v (.int .i64)] sRAs) :: CRCk
theorem kRAs : Known Try.prog (En CRAs tys [] QOfs) := kRCk.add Try.func107 Try.call107 [.k] fun ds p v bs h hp => by
  unfold sRAs at h
  split at h <;> simp only [Option.some.injEq, Prod.mk.injEq, reduceCtorEq] at h
  obtain ⟨rfl, rfl, rfl⟩ := h
  exact bRAs _ _ _ _ _ hp.1 hp.2
noncomputable def sRSp : List V → Option (Prop × V × List Blk)
  | [.agg [.int .i64 bad, .sl false (.cons (.int .i64) (.cons (.int .i64) .nil)) cs]] => some (cs.length ≤ 1048576, .int .i64 (spE bad cs), [])
  | _ => none
set_option maxHeartbeats 2000000 in
theorem bRSp (bad : Int) (cs : List (Int × (Int × Unit))) (hp0 : cs.length ≤ 1048576) : bodyP (En CRAs tys [] QOfs) Try.f118 [.k] [.agg [.int .i64 bad, .sl false (.cons (.int .i64) (.cons (.int .i64) .nil)) cs]] (.int .i64 (spE bad cs)) [] := by
 refine ⟨fun h0 => ?_, fun h0 => ?_⟩
 ·replace h0 : ¬ (bad < 0) := h0
  refine ⟨fun h1 => ?_, fun h1 => ?_⟩
  ·replace h1 : 4095 < bad := h1
   first
   | (rw [show spE bad cs = 1 by unfold spE; rw [if_pos (by omega)]]; exact ⟨rfl, rfl, rfl, rfl⟩)
   | (rw [show spE bad cs = 2 by unfold spE; rw [if_neg (by omega), if_pos (by omega)]]; exact ⟨rfl, rfl, rfl, rfl⟩)
   | (rw [show spE bad cs = 3 by unfold spE; rw [if_neg (by omega), if_neg (by omega), if_pos ⟨_, getD_mem (0, (0, ())) cs k (by omega), by omega⟩]]; exact ⟨rfl, rfl, rfl, rfl⟩)
   | (rw [show spE bad cs = 0 by unfold spE; rw [if_neg (by omega), if_neg (by omega), if_neg (fun ⟨x, hx, g⟩ => hc1_1 x (by rw [List.take_of_length_le (by omega)]; exact hx) g)]]; exact ⟨rfl, rfl, rfl, rfl⟩)
  ·replace h1 : ¬ (4095 < bad) := h1
   refine ⟨fun h2 => ?_, fun h2 => ?_⟩
   ·replace h2 : 500 < (cs.length : Int) := h2
    first
    | (rw [show spE bad cs = 1 by unfold spE; rw [if_pos (by omega)]]; exact ⟨rfl, rfl, rfl, rfl⟩)
    | (rw [show spE bad cs = 2 by unfold spE; rw [if_neg (by omega), if_pos (by omega)]]; exact ⟨rfl, rfl, rfl, rfl⟩)
    | (rw [show spE bad cs = 3 by unfold spE; rw [if_neg (by omega), if_neg (by omega), if_pos ⟨_, getD_mem (0, (0, ())) cs k (by omega), by omega⟩]]; exact ⟨rfl, rfl, rfl, rfl⟩)
    | (rw [show spE bad cs = 0 by unfold spE; rw [if_neg (by omega), if_neg (by omega), if_neg (fun ⟨x, hx, g⟩ => hc1_1 x (by rw [List.take_of_length_le (by omega)]; exact hx) g)]]; exact ⟨rfl, rfl, rfl, rfl⟩)
   ·replace h2 : ¬ (500 < (cs.length : Int)) := h2
    refine ⟨1, [(1, .k), (3, .k)], fun nM vs H => ∃ (k : Nat), k ≤ cs.length ∧ (∀ x ∈ cs.take k, ¬ (¬ (0 ≤ x.1 ∧ x.1 ≤ 11) ∨ ¬ (0 ≤ x.2.1 ∧ x.2.1 ≤ 1000000))) ∧ nM = cs.length - k ∧ vs = [.ptr 0 1 0 0, .int .i64 (k : Int)] ∧ H = [.cells [.int .i64 bad, .sl false (.cons (.int .i64) (.cons (.int .i64) .nil)) cs]], ⟨rfl, cs.length, 0, by omega, by simp, by omega, rfl, rfl⟩, ?_⟩
    rintro nM vs H ⟨k, hc1_0, hc1_1, rfl, rfl, rfl⟩
    refine ⟨fun h3 => ?_, fun h3 => ?_⟩
    ·replace h3 : (k : Int) < (cs.length : Int) := h3
     refine ⟨⟨by show (0 : Int) ≤ (k : Int); omega, by show (k : Int) < (cs.length : Int); omega⟩, ⟨rfl, rfl, rfl, Nat.le_of_ble_eq_true rfl⟩, fun h4 => ?_, fun h4 => ?_⟩
     ·replace h4 : ¬ ((cs.getD k (0, (0, ()))).1 < 0) := h4
      refine ⟨fun h5 => ?_, fun h5 => ?_⟩
      ·replace h5 : ¬ (11 < (cs.getD k (0, (0, ()))).1) := h5
       refine ⟨fun h6 => ?_, fun h6 => ?_⟩
       ·replace h6 : ¬ ((cs.getD k (0, (0, ()))).2.1 < 0) := h6
        refine ⟨fun h7 => ?_, fun h7 => ?_⟩
        ·replace h7 : 1000000 < (cs.getD k (0, (0, ()))).2.1 := h7
         first
         | (rw [show spE bad cs = 1 by unfold spE; rw [if_pos (by omega)]]; exact ⟨rfl, rfl, rfl, rfl⟩)
         | (rw [show spE bad cs = 2 by unfold spE; rw [if_neg (by omega), if_pos (by omega)]]; exact ⟨rfl, rfl, rfl, rfl⟩)
         | (rw [show spE bad cs = 3 by unfold spE; rw [if_neg (by omega), if_neg (by omega), if_pos ⟨_, getD_mem (0, (0, ())) cs k (by omega), by omega⟩]]; exact ⟨rfl, rfl, rfl, rfl⟩)
         | (rw [show spE bad cs = 0 by unfold spE; rw [if_neg (by omega), if_neg (by omega), if_neg (fun ⟨x, hx, g⟩ => hc1_1 x (by rw [List.take_of_length_le (by omega)]; exact hx) g)]]; exact ⟨rfl, rfl, rfl, rfl⟩)
        ·replace h7 : ¬ (1000000 < (cs.getD k (0, (0, ()))).2.1) := h7
         refine ⟨⟨by show (-9223372036854775808 : Int) ≤ ((k : Int) + 1); omega, by show ((k : Int) + 1) ≤ (9223372036854775807 : Int); omega⟩, ?_⟩
         exact ⟨rfl, cs.length - (k + 1), by omega, k + 1, by omega, all_nextG (d := (0, (0, ()))) (p := fun x : (Int × (Int × Unit)) => ¬ (¬ (0 ≤ x.1 ∧ x.1 ≤ 11) ∨ ¬ (0 ≤ x.2.1 ∧ x.2.1 ≤ 1000000))) (by omega) hc1_1 (by omega), rfl, rfl, rfl⟩
       ·replace h6 : (cs.getD k (0, (0, ()))).2.1 < 0 := h6
        first
        | (rw [show spE bad cs = 1 by unfold spE; rw [if_pos (by omega)]]; exact ⟨rfl, rfl, rfl, rfl⟩)
        | (rw [show spE bad cs = 2 by unfold spE; rw [if_neg (by omega), if_pos (by omega)]]; exact ⟨rfl, rfl, rfl, rfl⟩)
        | (rw [show spE bad cs = 3 by unfold spE; rw [if_neg (by omega), if_neg (by omega), if_pos ⟨_, getD_mem (0, (0, ())) cs k (by omega), by omega⟩]]; exact ⟨rfl, rfl, rfl, rfl⟩)
        | (rw [show spE bad cs = 0 by unfold spE; rw [if_neg (by omega), if_neg (by omega), if_neg (fun ⟨x, hx, g⟩ => hc1_1 x (by rw [List.take_of_length_le (by omega)]; exact hx) g)]]; exact ⟨rfl, rfl, rfl, rfl⟩)
      ·replace h5 : 11 < (cs.getD k (0, (0, ()))).1 := h5
       first
       | (rw [show spE bad cs = 1 by unfold spE; rw [if_pos (by omega)]]; exact ⟨rfl, rfl, rfl, rfl⟩)
       | (rw [show spE bad cs = 2 by unfold spE; rw [if_neg (by omega), if_pos (by omega)]]; exact ⟨rfl, rfl, rfl, rfl⟩)
       | (rw [show spE bad cs = 3 by unfold spE; rw [if_neg (by omega), if_neg (by omega), if_pos ⟨_, getD_mem (0, (0, ())) cs k (by omega), by omega⟩]]; exact ⟨rfl, rfl, rfl, rfl⟩)
       | (rw [show spE bad cs = 0 by unfold spE; rw [if_neg (by omega), if_neg (by omega), if_neg (fun ⟨x, hx, g⟩ => hc1_1 x (by rw [List.take_of_length_le (by omega)]; exact hx) g)]]; exact ⟨rfl, rfl, rfl, rfl⟩)
     ·replace h4 : (cs.getD k (0, (0, ()))).1 < 0 := h4
      first
      | (rw [show spE bad cs = 1 by unfold spE; rw [if_pos (by omega)]]; exact ⟨rfl, rfl, rfl, rfl⟩)
      | (rw [show spE bad cs = 2 by unfold spE; rw [if_neg (by omega), if_pos (by omega)]]; exact ⟨rfl, rfl, rfl, rfl⟩)
      | (rw [show spE bad cs = 3 by unfold spE; rw [if_neg (by omega), if_neg (by omega), if_pos ⟨_, getD_mem (0, (0, ())) cs k (by omega), by omega⟩]]; exact ⟨rfl, rfl, rfl, rfl⟩)
      | (rw [show spE bad cs = 0 by unfold spE; rw [if_neg (by omega), if_neg (by omega), if_neg (fun ⟨x, hx, g⟩ => hc1_1 x (by rw [List.take_of_length_le (by omega)]; exact hx) g)]]; exact ⟨rfl, rfl, rfl, rfl⟩)
    ·replace h3 : ¬ ((k : Int) < (cs.length : Int)) := h3
     first
     | (rw [show spE bad cs = 1 by unfold spE; rw [if_pos (by omega)]]; exact ⟨rfl, rfl, rfl, rfl⟩)
     | (rw [show spE bad cs = 2 by unfold spE; rw [if_neg (by omega), if_pos (by omega)]]; exact ⟨rfl, rfl, rfl, rfl⟩)
     | (rw [show spE bad cs = 3 by unfold spE; rw [if_neg (by omega), if_neg (by omega), if_pos ⟨_, getD_mem (0, (0, ())) cs k (by omega), by omega⟩]]; exact ⟨rfl, rfl, rfl, rfl⟩)
     | (rw [show spE bad cs = 0 by unfold spE; rw [if_neg (by omega), if_neg (by omega), if_neg (fun ⟨x, hx, g⟩ => hc1_1 x (by rw [List.take_of_length_le (by omega)]; exact hx) g)]]; exact ⟨rfl, rfl, rfl, rfl⟩)
 ·replace h0 : bad < 0 := h0
  first
  | (rw [show spE bad cs = 1 by unfold spE; rw [if_pos (by omega)]]; exact ⟨rfl, rfl, rfl, rfl⟩)
  | (rw [show spE bad cs = 2 by unfold spE; rw [if_neg (by omega), if_pos (by omega)]]; exact ⟨rfl, rfl, rfl, rfl⟩)
  | (rw [show spE bad cs = 3 by unfold spE; rw [if_neg (by omega), if_neg (by omega), if_pos ⟨_, getD_mem (0, (0, ())) cs k (by omega), by omega⟩]]; exact ⟨rfl, rfl, rfl, rfl⟩)
  | (rw [show spE bad cs = 0 by unfold spE; rw [if_neg (by omega), if_neg (by omega), if_neg (fun ⟨x, hx, g⟩ => hc1_1 x (by rw [List.take_of_length_le (by omega)]; exact hx) g)]]; exact ⟨rfl, rfl, rfl, rfl⟩)
def CRSp : List (Nat × Con) := (118, pureC [.v (.cons (.int .i64) (.cons (.sl (.cons (.int .i64) (.cons (.int .i64) .nil))) .nil))] sRSp) :: CRAs
theorem kRSp : Known Try.prog (En CRSp tys [] QOfs) := kRAs.add Try.func118 Try.call118 [.k] fun ds p v bs h hp => by
  unfold sRSp at h
  split at h <;> simp only [Option.some.injEq, Prod.mk.injEq, reduceCtorEq] at h
  obtain ⟨rfl, rfl, rfl⟩ := h
  exact bRSp _ _ hp
noncomputable def sRIn : List V → Option (Prop × V × List Blk)
  | [.int .i64 x, .int .i64 k] => some (0 ≤ x ∧ 0 ≤ k ∧ k ≤ 64, .b (x / 2 ^ k.toNat % 2 = 1), [])
  | _ => none
set_option maxHeartbeats 1000000 in
theorem bRIn (x : Int) (k : Int) (hp0 : 0 ≤ x) (hp1 : 0 ≤ k) (hp2 : k ≤ 64) : bodyP (En CRSp tys [] QOfs) Try.f133 [.k] [.int .i64 x, .int .i64 k] (.b (x / 2 ^ k.toNat % 2 = 1)) [] := by
 refine ⟨0, [(0, .k), (1, .k), (5, .k)], fun nM vs H => ∃ (i : Nat), (i : Int) ≤ k ∧ 0 ≤ x / 2 ^ i ∧ nM = k.toNat - i ∧ vs = [.int .i64 (x / 2 ^ i), .int .i64 k, .int .i64 (i : Int)] ∧ H = [], ⟨rfl, k.toNat, 0, by omega, by simpa using hp0, by omega, by rw [show x / 2 ^ 0 = x by simp]; rfl, rfl⟩, ?_⟩
 rintro nM vs H ⟨i, hc1_0, hc1_1, rfl, rfl, rfl⟩
 refine ⟨fun h0 => ?_, fun h0 => ?_⟩
 ·replace h0 : (i : Int) < k := h0
  refine .inl ⟨⟨by show (0 : Int) ≤ (x / 2 ^ i); omega, by show (0 : Int) < 2; omega⟩, ?_⟩
  refine ⟨⟨by show (-9223372036854775808 : Int) ≤ ((i : Int) + 1); omega, by show ((i : Int) + 1) ≤ (9223372036854775807 : Int); omega⟩, ?_⟩
  exact ⟨rfl, k.toNat - (i + 1), by omega, i + 1, by omega, sh_nonneg hp0 _, by omega, by rw [div2]; rfl, rfl⟩
 ·replace h0 : ¬ ((i : Int) < k) := h0
  refine .inl ⟨⟨by show (0 : Int) ≤ (x / 2 ^ i); omega, by show (0 : Int) < 2; omega⟩, ?_⟩
  have hi : i = k.toNat := by omega
  subst hi
  exact ⟨rfl, rfl, rfl, rfl⟩
def CRIn : List (Nat × Con) := (133, pureC [.v (.int .i64), .v (.int .i64)] sRIn) :: CRSp
theorem kRIn : Known Try.prog (En CRIn tys [] QOfs) := kRSp.add Try.func133 Try.call133 [.k] fun ds p v bs h hp => by
  unfold sRIn at h
  split at h <;> simp only [Option.some.injEq, Prod.mk.injEq, reduceCtorEq] at h
  obtain ⟨rfl, rfl, rfl⟩ := h
  exact bRIn _ _ hp.1 hp.2.1 hp.2.2
noncomputable def sRSe : List V → Option (Prop × V × List Blk)
  | [.agg [.int .i64 bad, .sl false (.cons (.int .i64) (.cons (.int .i64) .nil)) cs], .agg [.int .i64 id, .int .i64 kd, .int .i64 ob, .sl false (.int .i64) of, .int .i64 ho, .int .i64 di, .int .i64 bo, .int .i64 go, .int .i64 hr, .int .i64 pe]] => some (cs.length ≤ 1048576 ∧ 0 ≤ ho ∧ ho ≤ 11 ∧ 0 ≤ bad, .b (seeP bad cs (id, (kd, (ob, (of, (ho, (di, (bo, (go, (hr, (pe, ()))))))))))), [])
  | _ => none
set_option maxHeartbeats 1000000 in
theorem bRSe (bad : Int) (cs : List (Int × (Int × Unit))) (id : Int) (kd : Int) (ob : Int) (of : List Int) (ho : Int) (di : Int) (bo : Int) (go : Int) (hr : Int) (pe : Int) (hp0 : cs.length ≤ 1048576) (hp1 : 0 ≤ ho) (hp2 : ho ≤ 11) (hp3 : 0 ≤ bad) : bodyP (En CRIn tys [] QOfs) Try.f119 [.k] [.agg [.int .i64 bad, .sl false (.cons (.int .i64) (.cons (.int .i64) .nil)) cs], .agg [.int .i64 id, .int .i64 kd, .int .i64 ob, .sl false (.int .i64) of, .int .i64 ho, .int .i64 di, .int .i64 bo, .int .i64 go, .int .i64 hr, .int .i64 pe]] (.b (seeP bad cs (id, (kd, (ob, (of, (ho, (di, (bo, (go, (hr, (pe, ())))))))))))) [] := by
 refine ⟨rfl, rfl, ⟨by show 0 ≤ bad; first | omega | assumption, by show 0 ≤ ho; first | omega | assumption, by show ho ≤ 64; first | omega | assumption⟩, fun h0 => ?_, fun h0 => ?_⟩
 ·replace h0 : bad / 2 ^ ho.toNat % 2 = 1 := h0
  refine ⟨fun h1 => ?_, fun h1 => ?_⟩
  ·replace h1 : bo < go := h1
   exact ⟨rfl, rfl, congrArg V.b (propext ⟨fun _ => (by first | exact .inl ⟨by assumption, by assumption⟩ | exact .inr ⟨_, getD_mem (0, (0, ())) cs k (by omega), by assumption, by assumption⟩), fun _ => rfl⟩), rfl⟩
  ·replace h1 : ¬ (bo < go) := h1
   refine ⟨2, [(2, .k), (3, .k), (6, .k)], fun nM vs H => ∃ (k : Nat), k ≤ cs.length ∧ (∀ c ∈ cs.take k, ¬ (c.1 = ho ∧ bo ≤ c.2.1 ∧ c.2.1 < go)) ∧ nM = cs.length - k ∧ vs = [.ptr 0 1 0 0, .ptr 1 1 0 0, .int .i64 (k : Int)] ∧ H = [.cells [.int .i64 bad, .sl false (.cons (.int .i64) (.cons (.int .i64) .nil)) cs], .cells [.int .i64 id, .int .i64 kd, .int .i64 ob, .sl false (.int .i64) of, .int .i64 ho, .int .i64 di, .int .i64 bo, .int .i64 go, .int .i64 hr, .int .i64 pe]], ⟨rfl, cs.length, 0, by omega, by simp, by omega, rfl, rfl⟩, ?_⟩
   rintro nM vs H ⟨k, hc1_0, hc1_1, rfl, rfl, rfl⟩
   have hal : ∀ c ∈ cs.take k, ¬ (c.1 = ho ∧ bo ≤ c.2.1 ∧ c.2.1 < go) := by assumption
   refine ⟨fun h2 => ?_, fun h2 => ?_⟩
   ·replace h2 : (k : Int) < (cs.length : Int) := h2
    refine ⟨by kernel_rfl, ⟨by show (0 : Int) ≤ (k : Int); omega, by show (k : Int) < (cs.length : Int); omega⟩, rfl, rfl, rfl, rfl, rfl, rfl, rfl, rfl, rfl, rfl, trivial, by kernel_rfl, fun h3 => ?_, fun h3 => ?_⟩
    ·replace h3 : (bo ≤ (cs.getD k (0, (0, ()))).2.1 ∧ (cs.getD k (0, (0, ()))).2.1 < go) := h3
     refine ⟨fun h4 => ?_, fun h4 => absurd (show (bo ≤ (cs.getD k (0, (0, ()))).2.1 ∧ (cs.getD k (0, (0, ()))).2.1 < go) by first | omega | assumption | simp_all) h4⟩
     refine ⟨fun h5 => ?_, fun h5 => absurd (show (bo ≤ (cs.getD k (0, (0, ()))).2.1 ∧ (cs.getD k (0, (0, ()))).2.1 < go) by first | omega | assumption | simp_all) h5⟩
     refine ⟨fun h6 => ?_, fun h6 => absurd (show (bo ≤ (cs.getD k (0, (0, ()))).2.1 ∧ (cs.getD k (0, (0, ()))).2.1 < go) by first | omega | assumption | simp_all) h6⟩
     refine ⟨⟨by show (0 : Int) ≤ (k : Int); omega, by show (k : Int) < (cs.length : Int); omega⟩, fun h7 => ?_, fun h7 => absurd (show (bo ≤ (cs.getD k (0, (0, ()))).2.1 ∧ (cs.getD k (0, (0, ()))).2.1 < go) by first | omega | assumption | simp_all) h7⟩
     refine ⟨fun h8 => ?_, fun h8 => absurd (show (bo ≤ (cs.getD k (0, (0, ()))).2.1 ∧ (cs.getD k (0, (0, ()))).2.1 < go) by first | omega | assumption | simp_all) h8⟩
     refine ⟨fun h9 => ?_, fun h9 => absurd (show (bo ≤ (cs.getD k (0, (0, ()))).2.1 ∧ (cs.getD k (0, (0, ()))).2.1 < go) by first | omega | assumption | simp_all) h9⟩
     refine ⟨fun h10 => ?_, fun h10 => absurd (show (bo ≤ (cs.getD k (0, (0, ()))).2.1 ∧ (cs.getD k (0, (0, ()))).2.1 < go) by first | omega | assumption | simp_all) h10⟩
     refine ⟨fun h11 => ?_, fun h11 => absurd (show (bo ≤ (cs.getD k (0, (0, ()))).2.1 ∧ (cs.getD k (0, (0, ()))).2.1 < go) by first | omega | assumption | simp_all) h11⟩
     refine ⟨fun h12 => ?_, fun h12 => absurd (show (bo ≤ (cs.getD k (0, (0, ()))).2.1 ∧ (cs.getD k (0, (0, ()))).2.1 < go) by first | omega | assumption | simp_all) h12⟩
     refine ⟨fun h13 => ?_, fun h13 => ?_⟩
     ·replace h13 : (cs.getD k (0, (0, ()))).1 = ho := h13
      exact ⟨rfl, rfl, congrArg V.b (propext ⟨fun _ => (by first | exact .inl ⟨by assumption, by assumption⟩ | exact .inr ⟨_, getD_mem (0, (0, ())) cs k (by omega), by assumption, by assumption⟩), fun _ => rfl⟩), rfl⟩
     ·replace h13 : ¬ ((cs.getD k (0, (0, ()))).1 = ho) := h13
      refine ⟨⟨by show (-9223372036854775808 : Int) ≤ ((k : Int) + 1); omega, by show ((k : Int) + 1) ≤ (9223372036854775807 : Int); omega⟩, ?_⟩
      exact ⟨rfl, cs.length - (k + 1), by omega, k + 1, by omega, all_nextG (d := (0, (0, ()))) (p := fun c : (Int × (Int × Unit)) => ¬ (c.1 = ho ∧ bo ≤ c.2.1 ∧ c.2.1 < go)) (by omega) (by assumption) (by rintro ⟨g1, g2⟩; first | exact absurd g1 (by assumption) | exact absurd g2 (by assumption)), rfl, rfl, rfl⟩
    ·replace h3 : ¬ (bo ≤ (cs.getD k (0, (0, ()))).2.1 ∧ (cs.getD k (0, (0, ()))).2.1 < go) := h3
     refine ⟨fun h14 => absurd h14 (show ¬ (bo ≤ (cs.getD k (0, (0, ()))).2.1 ∧ (cs.getD k (0, (0, ()))).2.1 < go) by first | omega | assumption | simp_all), fun h14 => ?_⟩
     refine ⟨fun h15 => absurd h15 (show ¬ (bo ≤ (cs.getD k (0, (0, ()))).2.1 ∧ (cs.getD k (0, (0, ()))).2.1 < go) by first | omega | assumption | simp_all), fun h15 => ?_⟩
     refine ⟨fun h16 => absurd h16 (show ¬ (bo ≤ (cs.getD k (0, (0, ()))).2.1 ∧ (cs.getD k (0, (0, ()))).2.1 < go) by first | omega | assumption | simp_all), fun h16 => ?_⟩
     refine ⟨fun h17 => absurd h17 (show ¬ (bo ≤ (cs.getD k (0, (0, ()))).2.1 ∧ (cs.getD k (0, (0, ()))).2.1 < go) by first | omega | assumption | simp_all), fun h17 => ?_⟩
     refine ⟨fun h18 => absurd h18 (show ¬ (bo ≤ (cs.getD k (0, (0, ()))).2.1 ∧ (cs.getD k (0, (0, ()))).2.1 < go) by first | omega | assumption | simp_all), fun h18 => ?_⟩
     refine ⟨fun h19 => absurd h19 (show ¬ (bo ≤ (cs.getD k (0, (0, ()))).2.1 ∧ (cs.getD k (0, (0, ()))).2.1 < go) by first | omega | assumption | simp_all), fun h19 => ?_⟩
     refine ⟨fun h20 => absurd h20 (show ¬ (bo ≤ (cs.getD k (0, (0, ()))).2.1 ∧ (cs.getD k (0, (0, ()))).2.1 < go) by first | omega | assumption | simp_all), fun h20 => ?_⟩
     refine ⟨fun h21 => absurd h21 (show ¬ (bo ≤ (cs.getD k (0, (0, ()))).2.1 ∧ (cs.getD k (0, (0, ()))).2.1 < go) by first | omega | assumption | simp_all), fun h21 => ?_⟩
     refine ⟨fun h22 => absurd h22 (show ¬ (bo ≤ (cs.getD k (0, (0, ()))).2.1 ∧ (cs.getD k (0, (0, ()))).2.1 < go) by first | omega | assumption | simp_all), fun h22 => ?_⟩
     refine ⟨⟨by show (-9223372036854775808 : Int) ≤ ((k : Int) + 1); omega, by show ((k : Int) + 1) ≤ (9223372036854775807 : Int); omega⟩, ?_⟩
     exact ⟨rfl, cs.length - (k + 1), by omega, k + 1, by omega, all_nextG (d := (0, (0, ()))) (p := fun c : (Int × (Int × Unit)) => ¬ (c.1 = ho ∧ bo ≤ c.2.1 ∧ c.2.1 < go)) (by omega) (by assumption) (by rintro ⟨g1, g2⟩; first | exact absurd g1 (by assumption) | exact absurd g2 (by assumption)), rfl, rfl, rfl⟩
   ·replace h2 : ¬ ((k : Int) < (cs.length : Int)) := h2
    exact ⟨rfl, rfl, congrArg V.b (propext ⟨fun h => Bool.noConfusion h, fun h => h.elim (fun g => by first | exact absurd g.1 (by assumption) | exact absurd g.2 (by assumption)) (fun ⟨x, hx, g⟩ => absurd g (hal x (by rw [List.take_of_length_le (by omega)]; exact hx)))⟩), rfl⟩
 ·replace h0 : ¬ (bad / 2 ^ ho.toNat % 2 = 1) := h0
  refine ⟨2, [(2, .k), (3, .k), (6, .k)], fun nM vs H => ∃ (k : Nat), k ≤ cs.length ∧ (∀ c ∈ cs.take k, ¬ (c.1 = ho ∧ bo ≤ c.2.1 ∧ c.2.1 < go)) ∧ nM = cs.length - k ∧ vs = [.ptr 0 1 0 0, .ptr 1 1 0 0, .int .i64 (k : Int)] ∧ H = [.cells [.int .i64 bad, .sl false (.cons (.int .i64) (.cons (.int .i64) .nil)) cs], .cells [.int .i64 id, .int .i64 kd, .int .i64 ob, .sl false (.int .i64) of, .int .i64 ho, .int .i64 di, .int .i64 bo, .int .i64 go, .int .i64 hr, .int .i64 pe]], ⟨rfl, cs.length, 0, by omega, by simp, by omega, rfl, rfl⟩, ?_⟩
  rintro nM vs H ⟨k, hc2_0, hc2_1, rfl, rfl, rfl⟩
  have hal : ∀ c ∈ cs.take k, ¬ (c.1 = ho ∧ bo ≤ c.2.1 ∧ c.2.1 < go) := by assumption
  refine ⟨fun h23 => ?_, fun h23 => ?_⟩
  ·replace h23 : (k : Int) < (cs.length : Int) := h23
   refine ⟨by kernel_rfl, ⟨by show (0 : Int) ≤ (k : Int); omega, by show (k : Int) < (cs.length : Int); omega⟩, rfl, rfl, rfl, rfl, rfl, rfl, rfl, rfl, rfl, rfl, trivial, by kernel_rfl, fun h24 => ?_, fun h24 => ?_⟩
   ·replace h24 : (bo ≤ (cs.getD k (0, (0, ()))).2.1 ∧ (cs.getD k (0, (0, ()))).2.1 < go) := h24
    refine ⟨fun h25 => ?_, fun h25 => absurd (show (bo ≤ (cs.getD k (0, (0, ()))).2.1 ∧ (cs.getD k (0, (0, ()))).2.1 < go) by first | omega | assumption | simp_all) h25⟩
    refine ⟨fun h26 => ?_, fun h26 => absurd (show (bo ≤ (cs.getD k (0, (0, ()))).2.1 ∧ (cs.getD k (0, (0, ()))).2.1 < go) by first | omega | assumption | simp_all) h26⟩
    refine ⟨fun h27 => ?_, fun h27 => absurd (show (bo ≤ (cs.getD k (0, (0, ()))).2.1 ∧ (cs.getD k (0, (0, ()))).2.1 < go) by first | omega | assumption | simp_all) h27⟩
    refine ⟨⟨by show (0 : Int) ≤ (k : Int); omega, by show (k : Int) < (cs.length : Int); omega⟩, fun h28 => ?_, fun h28 => absurd (show (bo ≤ (cs.getD k (0, (0, ()))).2.1 ∧ (cs.getD k (0, (0, ()))).2.1 < go) by first | omega | assumption | simp_all) h28⟩
    refine ⟨fun h29 => ?_, fun h29 => absurd (show (bo ≤ (cs.getD k (0, (0, ()))).2.1 ∧ (cs.getD k (0, (0, ()))).2.1 < go) by first | omega | assumption | simp_all) h29⟩
    refine ⟨fun h30 => ?_, fun h30 => absurd (show (bo ≤ (cs.getD k (0, (0, ()))).2.1 ∧ (cs.getD k (0, (0, ()))).2.1 < go) by first | omega | assumption | simp_all) h30⟩
    refine ⟨fun h31 => ?_, fun h31 => absurd (show (bo ≤ (cs.getD k (0, (0, ()))).2.1 ∧ (cs.getD k (0, (0, ()))).2.1 < go) by first | omega | assumption | simp_all) h31⟩
    refine ⟨fun h32 => ?_, fun h32 => absurd (show (bo ≤ (cs.getD k (0, (0, ()))).2.1 ∧ (cs.getD k (0, (0, ()))).2.1 < go) by first | omega | assumption | simp_all) h32⟩
    refine ⟨fun h33 => ?_, fun h33 => absurd (show (bo ≤ (cs.getD k (0, (0, ()))).2.1 ∧ (cs.getD k (0, (0, ()))).2.1 < go) by first | omega | assumption | simp_all) h33⟩
    refine ⟨fun h34 => ?_, fun h34 => ?_⟩
    ·replace h34 : (cs.getD k (0, (0, ()))).1 = ho := h34
     exact ⟨rfl, rfl, congrArg V.b (propext ⟨fun _ => (by first | exact .inl ⟨by assumption, by assumption⟩ | exact .inr ⟨_, getD_mem (0, (0, ())) cs k (by omega), by assumption, by assumption⟩), fun _ => rfl⟩), rfl⟩
    ·replace h34 : ¬ ((cs.getD k (0, (0, ()))).1 = ho) := h34
     refine ⟨⟨by show (-9223372036854775808 : Int) ≤ ((k : Int) + 1); omega, by show ((k : Int) + 1) ≤ (9223372036854775807 : Int); omega⟩, ?_⟩
     exact ⟨rfl, cs.length - (k + 1), by omega, k + 1, by omega, all_nextG (d := (0, (0, ()))) (p := fun c : (Int × (Int × Unit)) => ¬ (c.1 = ho ∧ bo ≤ c.2.1 ∧ c.2.1 < go)) (by omega) (by assumption) (by rintro ⟨g1, g2⟩; first | exact absurd g1 (by assumption) | exact absurd g2 (by assumption)), rfl, rfl, rfl⟩
   ·replace h24 : ¬ (bo ≤ (cs.getD k (0, (0, ()))).2.1 ∧ (cs.getD k (0, (0, ()))).2.1 < go) := h24
    refine ⟨fun h35 => absurd h35 (show ¬ (bo ≤ (cs.getD k (0, (0, ()))).2.1 ∧ (cs.getD k (0, (0, ()))).2.1 < go) by first | omega | assumption | simp_all), fun h35 => ?_⟩
    refine ⟨fun h36 => absurd h36 (show ¬ (bo ≤ (cs.getD k (0, (0, ()))).2.1 ∧ (cs.getD k (0, (0, ()))).2.1 < go) by first | omega | assumption | simp_all), fun h36 => ?_⟩
    refine ⟨fun h37 => absurd h37 (show ¬ (bo ≤ (cs.getD k (0, (0, ()))).2.1 ∧ (cs.getD k (0, (0, ()))).2.1 < go) by first | omega | assumption | simp_all), fun h37 => ?_⟩
    refine ⟨fun h38 => absurd h38 (show ¬ (bo ≤ (cs.getD k (0, (0, ()))).2.1 ∧ (cs.getD k (0, (0, ()))).2.1 < go) by first | omega | assumption | simp_all), fun h38 => ?_⟩
    refine ⟨fun h39 => absurd h39 (show ¬ (bo ≤ (cs.getD k (0, (0, ()))).2.1 ∧ (cs.getD k (0, (0, ()))).2.1 < go) by first | omega | assumption | simp_all), fun h39 => ?_⟩
    refine ⟨fun h40 => absurd h40 (show ¬ (bo ≤ (cs.getD k (0, (0, ()))).2.1 ∧ (cs.getD k (0, (0, ()))).2.1 < go) by first | omega | assumption | simp_all), fun h40 => ?_⟩
    refine ⟨fun h41 => absurd h41 (show ¬ (bo ≤ (cs.getD k (0, (0, ()))).2.1 ∧ (cs.getD k (0, (0, ()))).2.1 < go) by first | omega | assumption | simp_all), fun h41 => ?_⟩
    refine ⟨fun h42 => absurd h42 (show ¬ (bo ≤ (cs.getD k (0, (0, ()))).2.1 ∧ (cs.getD k (0, (0, ()))).2.1 < go) by first | omega | assumption | simp_all), fun h42 => ?_⟩
    refine ⟨fun h43 => absurd h43 (show ¬ (bo ≤ (cs.getD k (0, (0, ()))).2.1 ∧ (cs.getD k (0, (0, ()))).2.1 < go) by first | omega | assumption | simp_all), fun h43 => ?_⟩
    refine ⟨⟨by show (-9223372036854775808 : Int) ≤ ((k : Int) + 1); omega, by show ((k : Int) + 1) ≤ (9223372036854775807 : Int); omega⟩, ?_⟩
    exact ⟨rfl, cs.length - (k + 1), by omega, k + 1, by omega, all_nextG (d := (0, (0, ()))) (p := fun c : (Int × (Int × Unit)) => ¬ (c.1 = ho ∧ bo ≤ c.2.1 ∧ c.2.1 < go)) (by omega) (by assumption) (by rintro ⟨g1, g2⟩; first | exact absurd g1 (by assumption) | exact absurd g2 (by assumption)), rfl, rfl, rfl⟩
  ·replace h23 : ¬ ((k : Int) < (cs.length : Int)) := h23
   exact ⟨rfl, rfl, congrArg V.b (propext ⟨fun h => Bool.noConfusion h, fun h => h.elim (fun g => by first | exact absurd g.1 (by assumption) | exact absurd g.2 (by assumption)) (fun ⟨x, hx, g⟩ => absurd g (hal x (by rw [List.take_of_length_le (by omega)]; exact hx)))⟩), rfl⟩
def CRSe : List (Nat × Con) := (119, pureC [.v (.cons (.int .i64) (.cons (.sl (.cons (.int .i64) (.cons (.int .i64) .nil))) .nil)), .v (.cons (.int .i64) (.cons (.int .i64) (.cons (.int .i64) (.cons (.sl (.int .i64)) (.cons (.int .i64) (.cons (.int .i64) (.cons (.int .i64) (.cons (.int .i64) (.cons (.int .i64) (.cons (.int .i64) .nil))))))))))] sRSe) :: CRIn
theorem kRSe : Known Try.prog (En CRSe tys [] QOfs) := kRIn.add Try.func119 Try.call119 [.k] fun ds p v bs h hp => by
  unfold sRSe at h
  split at h <;> simp only [Option.some.injEq, Prod.mk.injEq, reduceCtorEq] at h
  obtain ⟨rfl, rfl, rfl⟩ := h
  exact bRSe _ _ _ _ _ _ _ _ _ _ _ _ hp.1 hp.2.1 hp.2.2.1 hp.2.2.2
noncomputable def sRJo : List V → Option (Prop × V × List Blk)
  | [.int .i64 s, .int .i64 h] => some (0 ≤ s ∧ s ≤ 4095 ∧ 0 ≤ h ∧ h ≤ 11, .int .i64 ((s.toNat ||| (1 * 2 ^ h.toNat : Int).toNat : Nat) : Int), [])
  | _ => none
set_option maxHeartbeats 1000000 in
theorem bRJo (s : Int) (h : Int) (hp0 : 0 ≤ s) (hp1 : s ≤ 4095) (hp2 : 0 ≤ h) (hp3 : h ≤ 11) : bodyP (En CRSe tys [] QOfs) Try.f115 [.k] [.int .i64 s, .int .i64 h] (.int .i64 ((s.toNat ||| (1 * 2 ^ h.toNat : Int).toNat : Nat) : Int)) [] := by
 obtain ⟨b1, b2, b3⟩ := bit_or (s := s.toNat) (h := h.toNat) (by omega) (by omega)
 refine ⟨rfl, rfl, ⟨by show 0 ≤ s; first | omega | assumption, by show 0 ≤ h; first | omega | assumption, by show h ≤ 64; first | omega | assumption⟩, fun h0 => ?_, fun h0 => ?_⟩
 ·replace h0 : s / 2 ^ h.toNat % 2 = 1 := h0
  rw [pow_cast, b2 ((in_nat hp0).1 h0), show ((s.toNat : Nat) : Int) = s by omega]
  exact ⟨rfl, rfl, rfl, rfl⟩
 ·replace h0 : ¬ (s / 2 ^ h.toNat % 2 = 1) := h0
  refine ⟨0, [(0, .k), (1, .k), (6, .k), (7, .k)], fun nM vs H => ∃ (i : Nat), (i : Int) ≤ h ∧ nM = h.toNat - i ∧ vs = [.int .i64 s, .int .i64 h, .int .i64 (2 ^ i), .int .i64 (i : Int)] ∧ H = [], ⟨rfl, h.toNat, 0, by omega, by omega, rfl, rfl⟩, ?_⟩
  rintro nM vs H ⟨i, hc1_0, rfl, rfl, rfl⟩
  refine ⟨fun h1 => ?_, fun h1 => ?_⟩
  ·replace h1 : (i : Int) < h := h1
   obtain ⟨p1, p2⟩ := pow_le11 (i := i) (by omega)
   refine ⟨⟨by show (-9223372036854775808 : Int) ≤ (2 * (2 ^ i)); omega, by show (2 * (2 ^ i)) ≤ (9223372036854775807 : Int); omega⟩, ⟨by show (-9223372036854775808 : Int) ≤ ((i : Int) + 1); omega, by show ((i : Int) + 1) ≤ (9223372036854775807 : Int); omega⟩, ?_⟩
   exact ⟨rfl, h.toNat - (i + 1), by omega, i + 1, by omega, rfl, by rw [Int.pow_succ, Int.mul_comm]; rfl, rfl⟩
  ·replace h1 : ¬ ((i : Int) < h) := h1
   obtain ⟨p1, p2⟩ := pow_le11 (i := i) (by omega)
   refine ⟨⟨by show (-9223372036854775808 : Int) ≤ (s + (2 ^ i)); omega, by show (s + (2 ^ i)) ≤ (9223372036854775807 : Int); omega⟩, ?_⟩
   rw [pow_cast, b3 (fun g => h0 ((in_nat hp0).2 g)), show i = h.toNat by omega, show ((s.toNat + 2 ^ h.toNat : Nat) : Int) = s + 2 ^ h.toNat by rw [Int.natCast_add, pow_castI]; omega]
   exact ⟨rfl, rfl, rfl, rfl⟩
def CRJo : List (Nat × Con) := (115, pureC [.v (.int .i64), .v (.int .i64)] sRJo) :: CRSe
theorem kRJo : Known Try.prog (En CRJo tys [] QOfs) := kRSe.add Try.func115 Try.call115 [.k] fun ds p v bs h hp => by
  unfold sRJo at h
  split at h <;> simp only [Option.some.injEq, Prod.mk.injEq, reduceCtorEq] at h
  obtain ⟨rfl, rfl, rfl⟩ := h
  exact bRJo _ _ hp.1 hp.2.1 hp.2.2.1 hp.2.2.2
noncomputable def sRAt : List V → Option (Prop × V × List Blk)
  | [.sl false (.cons (.int .i64) (.cons (.int .i64) (.cons (.int .i64) (.cons (.sl (.int .i64)) (.cons (.int .i64) (.cons (.int .i64) (.cons (.int .i64) (.cons (.int .i64) (.cons (.int .i64) (.cons (.int .i64) .nil)))))))))) l, .int .i64 o, .int .i64 t] => some (l.length ≤ 1048576 ∧ (∀ a ∈ l, a.2.2.2.1.length ≤ 1048576), .agg [.own (.int .i64) 0, .int .i64 (askE l o t 0 1000000)], [.row true (.int .i64) (atL l o t)])
  | _ => none
set_option maxHeartbeats 1000000 in
theorem bRAt (l : List (Int × (Int × (Int × (List Int × (Int × (Int × (Int × (Int × (Int × (Int × Unit))))))))))) (o : Int) (t : Int) (hp0 : l.length ≤ 1048576) (hp1 : (∀ a ∈ l, a.2.2.2.1.length ≤ 1048576)) : bodyP (En CRJo tys [] QOfs) Try.f61 [.o (.int .i64), .k] [.sl false (.cons (.int .i64) (.cons (.int .i64) (.cons (.int .i64) (.cons (.sl (.int .i64)) (.cons (.int .i64) (.cons (.int .i64) (.cons (.int .i64) (.cons (.int .i64) (.cons (.int .i64) (.cons (.int .i64) .nil)))))))))) l, .int .i64 o, .int .i64 t] (.agg [.own (.int .i64) 0, .int .i64 (askE l o t 0 1000000)]) [.row true (.int .i64) (atL l o t)] := by
 refine ⟨rfl, rfl, rfl, rfl, ⟨by show l.length ≤ 1048576; first | omega | assumption, by first | assumption | simp⟩, fun h0 => ?_, fun h0 => ?_⟩
 ·replace h0 : (askE l o t 0 1000000) ≠ 0 := h0
  refine ⟨⟨rfl, rfl, rfl, Nat.le_of_ble_eq_true rfl⟩, ?_⟩
  have e : atL l o t = [] := if_neg h0
  rw [e]
  exact ⟨rfl, rfl, rfl, rfl⟩
 ·replace h0 : ¬ ((askE l o t 0 1000000) ≠ 0) := h0
  have hk0 : askE l o t 0 1000000 = 0 := Classical.not_not.1 h0
  obtain ⟨hc, ho, ht⟩ := ask_ok hk0
  have hl4 := (chk_ok hc).1
  refine ⟨1, [(0, .k), (1, .k), (2, .k), (6, .k), (8, .o (.int .i64)), (9, .k)], fun nM vs H => ∃ (k : Nat), k ≤ l.length ∧ nM = l.length - k ∧ vs = [.sl false (.cons (.int .i64) (.cons (.int .i64) (.cons (.int .i64) (.cons (.sl (.int .i64)) (.cons (.int .i64) (.cons (.int .i64) (.cons (.int .i64) (.cons (.int .i64) (.cons (.int .i64) (.cons (.int .i64) .nil)))))))))) l, .int .i64 o, .int .i64 t, .ptr 0 1 0 0, .own (.int .i64) 1, .int .i64 (k : Int)] ∧ H = [.cells [.nils, .int .i64 0], .row true (.int .i64) (idsF (pT t) (fO o (l.take k)))], ⟨rfl, l.length, 0, by omega, by omega, rfl, rfl⟩, ?_⟩
  rintro nM vs H ⟨k, hc1_0, rfl, rfl, rfl⟩
  refine ⟨fun h1 => ?_, fun h1 => ?_⟩
  ·replace h1 : (k : Int) < (l.length : Int) := h1
   have hk : k < l.length := by omega
   have hfa := fmd_all (chk_fmd hc (getD_mem d0 l k hk))
   have hil := ids_o_len (pT t) o l k
   refine ⟨⟨by show (0 : Int) ≤ (k : Int); omega, by show (k : Int) < (l.length : Int); omega⟩, rfl, rfl, rfl, rfl, rfl, rfl, rfl, rfl, rfl, rfl, trivial, fun h2 => ?_, fun h2 => ?_⟩
   ·replace h2 : ((l.getD k d0).2.2.2.2.2.2.1 ≤ t ∧ t < (l.getD k d0).2.2.2.2.2.2.2.1) := h2
    refine ⟨⟨by show (0 : Int) ≤ (k : Int); omega, by show (k : Int) < (l.length : Int); omega⟩, fun h3 => ?_, fun h3 => ?_⟩
    ·replace h3 : (l.getD k d0).2.2.1 = o := h3
     refine ⟨⟨by show (0 : Int) ≤ (k : Int); omega, by show (k : Int) < (l.length : Int); omega⟩, rfl, ⟨rfl, rfl⟩, by show (idsF (pT t) (fO o (l.take k))).length + ([(l.getD k d0).1] : List Int).length ≤ 1000000000; simp only [List.length_cons, List.length_nil]; omega, ⟨by show (-9223372036854775808 : Int) ≤ ((k : Int) + 1); omega, by show ((k : Int) + 1) ≤ (9223372036854775807 : Int); omega⟩, ?_⟩
     exact ⟨rfl, l.length - (k + 1), by omega, k + 1, by omega, rfl, rfl, by rw [idO_t hk (by assumption) (decide_eq_true (by first | assumption | omega))]; rfl⟩
    ·replace h3 : ¬ ((l.getD k d0).2.2.1 = o) := h3
     refine ⟨⟨by show (-9223372036854775808 : Int) ≤ ((k : Int) + 1); omega, by show ((k : Int) + 1) ≤ (9223372036854775807 : Int); omega⟩, ?_⟩
     exact ⟨rfl, l.length - (k + 1), by omega, k + 1, by omega, rfl, rfl, by rw [idO_f hk (by rintro ⟨g1, g2⟩; have g2 := of_decide_eq_true g2; first | exact absurd g1 (by assumption) | exact absurd g2 (by assumption) | omega)]; rfl⟩
   ·replace h2 : ¬ ((l.getD k d0).2.2.2.2.2.2.1 ≤ t ∧ t < (l.getD k d0).2.2.2.2.2.2.2.1) := h2
    refine ⟨⟨by show (-9223372036854775808 : Int) ≤ ((k : Int) + 1); omega, by show ((k : Int) + 1) ≤ (9223372036854775807 : Int); omega⟩, ?_⟩
    exact ⟨rfl, l.length - (k + 1), by omega, k + 1, by omega, rfl, rfl, by rw [idO_f hk (by rintro ⟨g1, g2⟩; have g2 := of_decide_eq_true g2; first | exact absurd g1 (by assumption) | exact absurd g2 (by assumption) | omega)]; rfl⟩
  ·replace h1 : ¬ ((k : Int) < (l.length : Int)) := h1
   refine ⟨⟨rfl, rfl, rfl, Nat.le_of_ble_eq_true rfl⟩, ?_⟩
   have e : atL l o t = idsF (pT t) (fO o (l.take k)) := by unfold atL; rw [if_pos hk0, List.take_of_length_le (by omega)]
   rw [hk0, e]
   exact ⟨rfl, rfl, rfl, rfl⟩
def CRAt : List (Nat × Con) := (61, pureC [.v (.sl (.cons (.int .i64) (.cons (.int .i64) (.cons (.int .i64) (.cons (.sl (.int .i64)) (.cons (.int .i64) (.cons (.int .i64) (.cons (.int .i64) (.cons (.int .i64) (.cons (.int .i64) (.cons (.int .i64) .nil))))))))))), .v (.int .i64), .v (.int .i64)] sRAt) :: CRJo
theorem kRAt : Known Try.prog (En CRAt tys [] QOfs) := kRJo.add Try.func61 Try.call61 [.o (.int .i64), .k] fun ds p v bs h hp => by
  unfold sRAt at h
  split at h <;> simp only [Option.some.injEq, Prod.mk.injEq, reduceCtorEq] at h
  obtain ⟨rfl, rfl, rfl⟩ := h
  exact bRAt _ _ _ hp.1 hp.2
noncomputable def sRLa : List V → Option (Prop × V × List Blk)
  | [.sl false (.cons (.int .i64) (.cons (.int .i64) (.cons (.int .i64) (.cons (.sl (.int .i64)) (.cons (.int .i64) (.cons (.int .i64) (.cons (.int .i64) (.cons (.int .i64) (.cons (.int .i64) (.cons (.int .i64) .nil)))))))))) l, .int .i64 o, .int .i64 t] => some (l.length ≤ 1048576 ∧ (∀ a ∈ l, a.2.2.2.1.length ≤ 1048576), .agg [.own (.int .i64) 0, .int .i64 (askE l o t 0 1000000)], [.row true (.int .i64) (laL l o t)])
  | _ => none
set_option maxHeartbeats 1000000 in
theorem bRLa (l : List (Int × (Int × (Int × (List Int × (Int × (Int × (Int × (Int × (Int × (Int × Unit))))))))))) (o : Int) (t : Int) (hp0 : l.length ≤ 1048576) (hp1 : (∀ a ∈ l, a.2.2.2.1.length ≤ 1048576)) : bodyP (En CRAt tys [] QOfs) Try.f67 [.o (.int .i64), .k] [.sl false (.cons (.int .i64) (.cons (.int .i64) (.cons (.int .i64) (.cons (.sl (.int .i64)) (.cons (.int .i64) (.cons (.int .i64) (.cons (.int .i64) (.cons (.int .i64) (.cons (.int .i64) (.cons (.int .i64) .nil)))))))))) l, .int .i64 o, .int .i64 t] (.agg [.own (.int .i64) 0, .int .i64 (askE l o t 0 1000000)]) [.row true (.int .i64) (laL l o t)] := by
 refine ⟨rfl, rfl, rfl, rfl, ⟨by show l.length ≤ 1048576; first | omega | assumption, by first | assumption | simp⟩, fun h0 => ?_, fun h0 => ?_⟩
 ·replace h0 : (askE l o t 0 1000000) ≠ 0 := h0
  refine ⟨⟨rfl, rfl, rfl, Nat.le_of_ble_eq_true rfl⟩, ?_⟩
  have e : laL l o t = [] := if_neg h0
  rw [e]
  exact ⟨rfl, rfl, rfl, rfl⟩
 ·replace h0 : ¬ ((askE l o t 0 1000000) ≠ 0) := h0
  have hk0 : askE l o t 0 1000000 = 0 := Classical.not_not.1 h0
  obtain ⟨hc, ho, ht⟩ := ask_ok hk0
  have hl4 := (chk_ok hc).1
  refine ⟨1, [(0, .k), (1, .k), (2, .k), (6, .k), (8, .o (.int .i64)), (9, .k)], fun nM vs H => ∃ (k : Nat), k ≤ l.length ∧ nM = l.length - k ∧ vs = [.sl false (.cons (.int .i64) (.cons (.int .i64) (.cons (.int .i64) (.cons (.sl (.int .i64)) (.cons (.int .i64) (.cons (.int .i64) (.cons (.int .i64) (.cons (.int .i64) (.cons (.int .i64) (.cons (.int .i64) .nil)))))))))) l, .int .i64 o, .int .i64 t, .ptr 0 1 0 0, .own (.int .i64) 1, .int .i64 (k : Int)] ∧ H = [.cells [.nils, .int .i64 0], .row true (.int .i64) (idsF (pL t) (fO o (l.take k)))], ⟨rfl, l.length, 0, by omega, by omega, rfl, rfl⟩, ?_⟩
  rintro nM vs H ⟨k, hc1_0, rfl, rfl, rfl⟩
  refine ⟨fun h1 => ?_, fun h1 => ?_⟩
  ·replace h1 : (k : Int) < (l.length : Int) := h1
   have hk : k < l.length := by omega
   have hfa := fmd_all (chk_fmd hc (getD_mem d0 l k hk))
   have hil := ids_o_len (pL t) o l k
   refine ⟨⟨by show (0 : Int) ≤ (k : Int); omega, by show (k : Int) < (l.length : Int); omega⟩, ⟨rfl, rfl, rfl, Nat.le_of_ble_eq_true rfl⟩, fun h2 => ?_, fun h2 => ?_⟩
   ·replace h2 : (l.getD k d0).2.2.1 = o := h2
    refine ⟨fun h3 => ?_, fun h3 => ?_⟩
    ·replace h3 : (l.getD k d0).2.1 ≠ 4 := h3
     refine ⟨fun h4 => ?_, fun h4 => ?_⟩
     ·replace h4 : (l.getD k d0).2.2.2.2.2.2.1 < (l.getD k d0).2.2.2.2.2.2.2.1 := h4
      refine ⟨⟨by show (-9223372036854775808 : Int) ≤ ((l.getD k d0).2.2.2.2.2.2.2.1 - 1); omega, by show ((l.getD k d0).2.2.2.2.2.2.2.1 - 1) ≤ (9223372036854775807 : Int); omega⟩, ⟨by show (-9223372036854775808 : Int) ≤ (t + 2); omega, by show (t + 2) ≤ (9223372036854775807 : Int); omega⟩, fun h5 => ?_, fun h5 => ?_⟩
      ·replace h5 : (t + 2) < ((l.getD k d0).2.2.2.2.2.2.2.1 - 1) := h5
       refine ⟨rfl, ⟨rfl, rfl⟩, by show (idsF (pL t) (fO o (l.take k))).length + ([(l.getD k d0).1] : List Int).length ≤ 1000000000; simp only [List.length_cons, List.length_nil]; omega, ⟨by show (-9223372036854775808 : Int) ≤ ((k : Int) + 1); omega, by show ((k : Int) + 1) ≤ (9223372036854775807 : Int); omega⟩, ?_⟩
       exact ⟨rfl, l.length - (k + 1), by omega, k + 1, by omega, rfl, rfl, by rw [idO_t hk (by assumption) (decide_eq_true (by first | assumption | omega))]; rfl⟩
      ·replace h5 : ¬ ((t + 2) < ((l.getD k d0).2.2.2.2.2.2.2.1 - 1)) := h5
       refine ⟨⟨by show (-9223372036854775808 : Int) ≤ ((k : Int) + 1); omega, by show ((k : Int) + 1) ≤ (9223372036854775807 : Int); omega⟩, ?_⟩
       exact ⟨rfl, l.length - (k + 1), by omega, k + 1, by omega, rfl, rfl, by rw [idO_f hk (by rintro ⟨g1, g2⟩; have g2 := of_decide_eq_true g2; first | exact absurd g1 (by assumption) | exact absurd g2 (by assumption) | omega)]; rfl⟩
     ·replace h4 : ¬ ((l.getD k d0).2.2.2.2.2.2.1 < (l.getD k d0).2.2.2.2.2.2.2.1) := h4
      refine ⟨⟨by show (-9223372036854775808 : Int) ≤ ((k : Int) + 1); omega, by show ((k : Int) + 1) ≤ (9223372036854775807 : Int); omega⟩, ?_⟩
      exact ⟨rfl, l.length - (k + 1), by omega, k + 1, by omega, rfl, rfl, by rw [idO_f hk (by rintro ⟨g1, g2⟩; have g2 := of_decide_eq_true g2; first | exact absurd g1 (by assumption) | exact absurd g2 (by assumption) | omega)]; rfl⟩
    ·replace h3 : ¬ ((l.getD k d0).2.1 ≠ 4) := h3
     refine ⟨⟨by show (-9223372036854775808 : Int) ≤ ((k : Int) + 1); omega, by show ((k : Int) + 1) ≤ (9223372036854775807 : Int); omega⟩, ?_⟩
     exact ⟨rfl, l.length - (k + 1), by omega, k + 1, by omega, rfl, rfl, by rw [idO_f hk (by rintro ⟨g1, g2⟩; have g2 := of_decide_eq_true g2; first | exact absurd g1 (by assumption) | exact absurd g2 (by assumption) | omega)]; rfl⟩
   ·replace h2 : ¬ ((l.getD k d0).2.2.1 = o) := h2
    refine ⟨⟨by show (-9223372036854775808 : Int) ≤ ((k : Int) + 1); omega, by show ((k : Int) + 1) ≤ (9223372036854775807 : Int); omega⟩, ?_⟩
    exact ⟨rfl, l.length - (k + 1), by omega, k + 1, by omega, rfl, rfl, by rw [idO_f hk (by rintro ⟨g1, g2⟩; have g2 := of_decide_eq_true g2; first | exact absurd g1 (by assumption) | exact absurd g2 (by assumption) | omega)]; rfl⟩
  ·replace h1 : ¬ ((k : Int) < (l.length : Int)) := h1
   refine ⟨⟨rfl, rfl, rfl, Nat.le_of_ble_eq_true rfl⟩, ?_⟩
   have e : laL l o t = idsF (pL t) (fO o (l.take k)) := by unfold laL; rw [if_pos hk0, List.take_of_length_le (by omega)]
   rw [hk0, e]
   exact ⟨rfl, rfl, rfl, rfl⟩
def CRLa : List (Nat × Con) := (67, pureC [.v (.sl (.cons (.int .i64) (.cons (.int .i64) (.cons (.int .i64) (.cons (.sl (.int .i64)) (.cons (.int .i64) (.cons (.int .i64) (.cons (.int .i64) (.cons (.int .i64) (.cons (.int .i64) (.cons (.int .i64) .nil))))))))))), .v (.int .i64), .v (.int .i64)] sRLa) :: CRAt
theorem kRLa : Known Try.prog (En CRLa tys [] QOfs) := kRAt.add Try.func67 Try.call67 [.o (.int .i64), .k] fun ds p v bs h hp => by
  unfold sRLa at h
  split at h <;> simp only [Option.some.injEq, Prod.mk.injEq, reduceCtorEq] at h
  obtain ⟨rfl, rfl, rfl⟩ := h
  exact bRLa _ _ _ hp.1 hp.2
noncomputable def sRTr : List V → Option (Prop × V × List Blk)
  | [.sl false (.cons (.int .i64) (.cons (.int .i64) (.cons (.int .i64) (.cons (.sl (.int .i64)) (.cons (.int .i64) (.cons (.int .i64) (.cons (.int .i64) (.cons (.int .i64) (.cons (.int .i64) (.cons (.int .i64) .nil)))))))))) l, .int .i64 o] => some (l.length ≤ 1048576 ∧ (∀ a ∈ l, a.2.2.2.1.length ≤ 1048576), .agg [.int .i64 (trL l o), .int .i64 (askE l o 0 0 0)], [])
  | _ => none
set_option maxHeartbeats 1000000 in
theorem bRTr (l : List (Int × (Int × (Int × (List Int × (Int × (Int × (Int × (Int × (Int × (Int × Unit))))))))))) (o : Int) (hp0 : l.length ≤ 1048576) (hp1 : (∀ a ∈ l, a.2.2.2.1.length ≤ 1048576)) : bodyP (En CRLa tys [] QOfs) Try.f65 [.k, .k] [.sl false (.cons (.int .i64) (.cons (.int .i64) (.cons (.int .i64) (.cons (.sl (.int .i64)) (.cons (.int .i64) (.cons (.int .i64) (.cons (.int .i64) (.cons (.int .i64) (.cons (.int .i64) (.cons (.int .i64) .nil)))))))))) l, .int .i64 o] (.agg [.int .i64 (trL l o), .int .i64 (askE l o 0 0 0)]) [] := by
 refine ⟨rfl, rfl, rfl, rfl, ⟨by show l.length ≤ 1048576; first | omega | assumption, by first | assumption | simp⟩, fun h0 => ?_, fun h0 => ?_⟩
 ·replace h0 : (askE l o 0 0 0) ≠ 0 := h0
  refine ⟨⟨rfl, rfl, rfl, Nat.le_of_ble_eq_true rfl⟩, ?_⟩
  have e : trL l o = 0 := if_neg h0
  rw [e]
  exact ⟨rfl, rfl, rfl, rfl⟩
 ·replace h0 : ¬ ((askE l o 0 0 0) ≠ 0) := h0
  have hk0 : askE l o 0 0 0 = 0 := Classical.not_not.1 h0
  obtain ⟨hc, ho, ht⟩ := ask_ok hk0
  have hl4 := (chk_ok hc).1
  refine ⟨1, [(0, .k), (1, .k), (4, .k), (6, .k), (7, .k)], fun nM vs H => ∃ (k : Nat), k ≤ l.length ∧ nM = l.length - k ∧ vs = [.sl false (.cons (.int .i64) (.cons (.int .i64) (.cons (.int .i64) (.cons (.sl (.int .i64)) (.cons (.int .i64) (.cons (.int .i64) (.cons (.int .i64) (.cons (.int .i64) (.cons (.int .i64) (.cons (.int .i64) .nil)))))))))) l, .int .i64 o, .ptr 0 1 0 0, .int .i64 ((orF pE (fO o (l.take k)) : Nat) : Int), .int .i64 (k : Int)] ∧ H = [.cells [.int .i64 0, .int .i64 0]], ⟨rfl, l.length, 0, by omega, by omega, rfl, rfl⟩, ?_⟩
  rintro nM vs H ⟨k, hc1_0, rfl, rfl, rfl⟩
  refine ⟨fun h1 => ?_, fun h1 => ?_⟩
  ·replace h1 : (k : Int) < (l.length : Int) := h1
   have hk : k < l.length := by omega
   have hfa := fmd_all (chk_fmd hc (getD_mem d0 l k hk))
   have hor := orF_le (p := pE) (L := fO o (l.take k)) (fun a ha => by have g := fmd_all (chk_fmd hc (List.mem_of_mem_take (List.mem_filter.1 ha).1)); exact ⟨g.2.2.2.2.2.2.1, g.2.2.2.2.2.2.2.1⟩)
   refine ⟨by kernel_rfl, ⟨by show (0 : Int) ≤ (k : Int); omega, by show (k : Int) < (l.length : Int); omega⟩, fun h2 => ?_, fun h2 => ?_⟩
   ·replace h2 : (l.getD k d0).2.2.1 = o := h2
    refine ⟨fun h3 => ?_, fun h3 => absurd (show (l.getD k d0).2.2.1 = o by first | omega | assumption | simp_all) h3⟩
    refine ⟨fun h4 => ?_, fun h4 => absurd (show (l.getD k d0).2.2.1 = o by first | omega | assumption | simp_all) h4⟩
    refine ⟨⟨by show (0 : Int) ≤ (k : Int); omega, by show (k : Int) < (l.length : Int); omega⟩, fun h5 => ?_, fun h5 => absurd (show (l.getD k d0).2.2.1 = o by first | omega | assumption | simp_all) h5⟩
    refine ⟨fun h6 => ?_, fun h6 => absurd (show (l.getD k d0).2.2.1 = o by first | omega | assumption | simp_all) h6⟩
    refine ⟨fun h7 => ?_, fun h7 => absurd (show (l.getD k d0).2.2.1 = o by first | omega | assumption | simp_all) h7⟩
    refine ⟨fun h8 => ?_, fun h8 => absurd (show (l.getD k d0).2.2.1 = o by first | omega | assumption | simp_all) h8⟩
    refine ⟨fun h9 => ?_, fun h9 => absurd (show (l.getD k d0).2.2.1 = o by first | omega | assumption | simp_all) h9⟩
    refine ⟨⟨by show (0 : Int) ≤ (k : Int); omega, by show (k : Int) < (l.length : Int); omega⟩, fun h10 => ?_, fun h10 => absurd (show (l.getD k d0).2.2.1 = o by first | omega | assumption | simp_all) h10⟩
    refine ⟨fun h11 => ?_, fun h11 => absurd (show (l.getD k d0).2.2.1 = o by first | omega | assumption | simp_all) h11⟩
    refine ⟨fun h12 => ?_, fun h12 => absurd (show (l.getD k d0).2.2.1 = o by first | omega | assumption | simp_all) h12⟩
    refine ⟨fun h13 => ?_, fun h13 => absurd (show (l.getD k d0).2.2.1 = o by first | omega | assumption | simp_all) h13⟩
    refine ⟨fun h14 => ?_, fun h14 => ?_⟩
    ·replace h14 : (l.getD k d0).2.2.2.2.2.2.1 < (l.getD k d0).2.2.2.2.2.2.2.1 := h14
     refine ⟨⟨by show (0 : Int) ≤ (k : Int); omega, by show (k : Int) < (l.length : Int); omega⟩, rfl, rfl, ⟨by show 0 ≤ ((orF pE (fO o (l.take k)) : Nat) : Int); first | omega | assumption | (simp only [List.length_cons, List.length_nil, List.length_append, List.length_take, List.length_drop, List.length_set, List.length_replicate]; omega), by show ((orF pE (fO o (l.take k)) : Nat) : Int) ≤ 4095; first | omega | assumption | (simp only [List.length_cons, List.length_nil, List.length_append, List.length_take, List.length_drop, List.length_set, List.length_replicate]; omega), by show 0 ≤ (l.getD k d0).2.2.2.2.1; first | omega | assumption, by show (l.getD k d0).2.2.2.2.1 ≤ 11; first | omega | assumption⟩, ⟨by show (-9223372036854775808 : Int) ≤ ((k : Int) + 1); omega, by show ((k : Int) + 1) ≤ (9223372036854775807 : Int); omega⟩, ?_⟩
     exact ⟨rfl, l.length - (k + 1), by omega, k + 1, by omega, rfl, by rw [orO_t hk (by assumption) (decide_eq_true (by first | assumption | omega))]; rfl, rfl⟩
    ·replace h14 : ¬ ((l.getD k d0).2.2.2.2.2.2.1 < (l.getD k d0).2.2.2.2.2.2.2.1) := h14
     refine ⟨⟨by show (-9223372036854775808 : Int) ≤ ((k : Int) + 1); omega, by show ((k : Int) + 1) ≤ (9223372036854775807 : Int); omega⟩, ?_⟩
     exact ⟨rfl, l.length - (k + 1), by omega, k + 1, by omega, rfl, by rw [orO_f hk (by rintro ⟨g1, g2⟩; have g2 := of_decide_eq_true g2; first | exact absurd g1 (by assumption) | exact absurd g2 (by assumption) | omega)]; rfl, rfl⟩
   ·replace h2 : ¬ ((l.getD k d0).2.2.1 = o) := h2
    refine ⟨fun h15 => absurd h15 (show ¬ ((l.getD k d0).2.2.1 = o) by first | omega | assumption | simp_all), fun h15 => ?_⟩
    refine ⟨fun h16 => absurd h16 (show ¬ ((l.getD k d0).2.2.1 = o) by first | omega | assumption | simp_all), fun h16 => ?_⟩
    refine ⟨fun h17 => absurd h17 (show ¬ ((l.getD k d0).2.2.1 = o) by first | omega | assumption | simp_all), fun h17 => ?_⟩
    refine ⟨fun h18 => absurd h18 (show ¬ ((l.getD k d0).2.2.1 = o) by first | omega | assumption | simp_all), fun h18 => ?_⟩
    refine ⟨fun h19 => absurd h19 (show ¬ ((l.getD k d0).2.2.1 = o) by first | omega | assumption | simp_all), fun h19 => ?_⟩
    refine ⟨fun h20 => absurd h20 (show ¬ ((l.getD k d0).2.2.1 = o) by first | omega | assumption | simp_all), fun h20 => ?_⟩
    refine ⟨fun h21 => absurd h21 (show ¬ ((l.getD k d0).2.2.1 = o) by first | omega | assumption | simp_all), fun h21 => ?_⟩
    refine ⟨fun h22 => absurd h22 (show ¬ ((l.getD k d0).2.2.1 = o) by first | omega | assumption | simp_all), fun h22 => ?_⟩
    refine ⟨fun h23 => absurd h23 (show ¬ ((l.getD k d0).2.2.1 = o) by first | omega | assumption | simp_all), fun h23 => ?_⟩
    refine ⟨fun h24 => absurd h24 (show ¬ ((l.getD k d0).2.2.1 = o) by first | omega | assumption | simp_all), fun h24 => ?_⟩
    refine ⟨fun h25 => absurd h25 (show ¬ ((l.getD k d0).2.2.1 = o) by first | omega | assumption | simp_all), fun h25 => ?_⟩
    refine ⟨⟨by show (-9223372036854775808 : Int) ≤ ((k : Int) + 1); omega, by show ((k : Int) + 1) ≤ (9223372036854775807 : Int); omega⟩, ?_⟩
    exact ⟨rfl, l.length - (k + 1), by omega, k + 1, by omega, rfl, by rw [orO_f hk (by rintro ⟨g1, g2⟩; have g2 := of_decide_eq_true g2; first | exact absurd g1 (by assumption) | exact absurd g2 (by assumption) | omega)]; rfl, rfl⟩
  ·replace h1 : ¬ ((k : Int) < (l.length : Int)) := h1
   refine ⟨⟨rfl, rfl, rfl, Nat.le_of_ble_eq_true rfl⟩, ?_⟩
   have e : trL l o = orF pE (fO o (l.take k)) := by unfold trL; rw [if_pos hk0, List.take_of_length_le (by omega)]
   rw [hk0, e]
   exact ⟨rfl, rfl, rfl, rfl⟩
def CRTr : List (Nat × Con) := (65, pureC [.v (.sl (.cons (.int .i64) (.cons (.int .i64) (.cons (.int .i64) (.cons (.sl (.int .i64)) (.cons (.int .i64) (.cons (.int .i64) (.cons (.int .i64) (.cons (.int .i64) (.cons (.int .i64) (.cons (.int .i64) .nil))))))))))), .v (.int .i64)] sRTr) :: CRLa
theorem kRTr : Known Try.prog (En CRTr tys [] QOfs) := kRLa.add Try.func65 Try.call65 [.k, .k] fun ds p v bs h hp => by
  unfold sRTr at h
  split at h <;> simp only [Option.some.injEq, Prod.mk.injEq, reduceCtorEq] at h
  obtain ⟨rfl, rfl, rfl⟩ := h
  exact bRTr _ _ hp.1 hp.2
end Go.Proofs.Ytgljcfnplkcfhaa.S38

namespace Go.Proofs.Ytgljcfnplkcfhaa.S38
open Go Go.Proofs.Ytgljcfnplkcfhaa.Vc Go.Proofs
set_option maxRecDepth 100000
set_option linter.unusedVariables false

noncomputable def sRHs : List V → Option (Prop × V × List Blk)
  | [.sl false (.int .i64) s, .int .i64 x] => some (s.length ≤ 1000000000, .b (x ∈ s), [])
  | _ => none
set_option maxHeartbeats 1000000 in
theorem bRHs (s : List Int) (x : Int) (hp0 : s.length ≤ 1000000000) : bodyP (En CRTr tys [] QOfs) Try.f100 [.k] [.sl false (.int .i64) s, .int .i64 x] (.b (x ∈ s)) [] := by
 refine ⟨0, [(0, .k), (1, .k), (5, .k)], fun nM vs H => ∃ (k : Nat), k ≤ s.length ∧ x ∉ s.take k ∧ nM = s.length - k ∧ vs = [.sl false (.int .i64) s, .int .i64 x, .int .i64 (k : Int)] ∧ H = [], ⟨rfl, s.length, 0, by omega, by simp, by omega, rfl, rfl⟩, ?_⟩
 rintro nM vs H ⟨k, hc1_0, hc1_1, rfl, rfl, rfl⟩
 refine ⟨fun h0 => ?_, fun h0 => ?_⟩
 ·replace h0 : (k : Int) < (s.length : Int) := h0
  refine ⟨⟨by show (0 : Int) ≤ (k : Int); omega, by show (k : Int) < (s.length : Int); omega⟩, fun h1 => ?_, fun h1 => ?_⟩
  ·replace h1 : (s.getD k 0) = x := h1
   exact ⟨rfl, rfl, congrArg V.b (propext ⟨fun _ => h1 ▸ getD_mem 0 s k (by omega), fun _ => rfl⟩), rfl⟩
  ·replace h1 : ¬ ((s.getD k 0) = x) := h1
   refine ⟨⟨by show (-9223372036854775808 : Int) ≤ ((k : Int) + 1); omega, by show ((k : Int) + 1) ≤ (9223372036854775807 : Int); omega⟩, ?_⟩
   exact ⟨rfl, s.length - (k + 1), by omega, k + 1, by omega, mem_next (by omega) hc1_1 h1, rfl, rfl, rfl⟩
 ·replace h0 : ¬ ((k : Int) < (s.length : Int)) := h0
  exact ⟨rfl, rfl, congrArg V.b (propext ⟨fun h => Bool.noConfusion h, fun h => absurd (by rw [List.take_of_length_le (by omega)]; exact h) hc1_1⟩), rfl⟩
def CRHs : List (Nat × Con) := (100, pureC [.v (.sl (.int .i64)), .v (.int .i64)] sRHs) :: CRTr
theorem kRHs : Known Try.prog (En CRHs tys [] QOfs) := kRTr.add Try.func100 Try.call100 [.k] fun ds p v bs h hp => by
  unfold sRHs at h
  split at h <;> simp only [Option.some.injEq, Prod.mk.injEq, reduceCtorEq] at h
  obtain ⟨rfl, rfl, rfl⟩ := h
  exact bRHs _ _ hp
noncomputable def sRWh : List V → Option (Prop × V × List Blk)
  | [.sl false (.cons (.int .i64) (.cons (.int .i64) (.cons (.int .i64) (.cons (.sl (.int .i64)) (.cons (.int .i64) (.cons (.int .i64) (.cons (.int .i64) (.cons (.int .i64) (.cons (.int .i64) (.cons (.int .i64) .nil)))))))))) l, .int .i64 o, .int .i64 t] => some (l.length ≤ 1048576 ∧ (∀ a ∈ l, a.2.2.2.1.length ≤ 1048576), .agg [.int .i64 (whL l o t), .int .i64 (askE l o t 0 1000000)], [])
  | _ => none
set_option maxHeartbeats 1000000 in
theorem bRWh (l : List (Int × (Int × (Int × (List Int × (Int × (Int × (Int × (Int × (Int × (Int × Unit))))))))))) (o : Int) (t : Int) (hp0 : l.length ≤ 1048576) (hp1 : (∀ a ∈ l, a.2.2.2.1.length ≤ 1048576)) : bodyP (En CRHs tys [] QOfs) Try.f63 [.k, .k] [.sl false (.cons (.int .i64) (.cons (.int .i64) (.cons (.int .i64) (.cons (.sl (.int .i64)) (.cons (.int .i64) (.cons (.int .i64) (.cons (.int .i64) (.cons (.int .i64) (.cons (.int .i64) (.cons (.int .i64) .nil)))))))))) l, .int .i64 o, .int .i64 t] (.agg [.int .i64 (whL l o t), .int .i64 (askE l o t 0 1000000)]) [] := by
 refine ⟨rfl, rfl, ⟨by show l.length ≤ 1048576; first | omega | assumption, by first | assumption | simp⟩, ⟨rfl, rfl, rfl, Nat.le_of_ble_eq_true rfl⟩, fun h0 => ?_, fun h0 => ?_⟩
 ·replace h0 : (askE l o t 0 1000000) ≠ 0 := h0
  refine ⟨⟨rfl, rfl, rfl, Nat.le_of_ble_eq_true rfl⟩, ?_⟩
  have e : whL l o t = 0 := if_neg h0
  rw [e]
  exact ⟨rfl, rfl, rfl, rfl⟩
 ·replace h0 : ¬ ((askE l o t 0 1000000) ≠ 0) := h0
  have hk0 : askE l o t 0 1000000 = 0 := Classical.not_not.1 h0
  obtain ⟨hc, ho, ht⟩ := ask_ok hk0
  have hl4 := (chk_ok hc).1
  have eA : atL l o t = (idsF (pT t) (fO o l)) := if_pos hk0
  have eL : (atL l o t).length = ((fO o l).filter (pT t)).length := by rw [eA]; unfold idsF; exact List.length_map _
  have hal : ((fO o l).filter (pT t)).length ≤ l.length := Nat.le_trans (List.length_filter_le _ _) (fO_len o l)
  refine ⟨3, [(0, .k), (6, .k), (7, .k), (8, .k), (9, .k)], fun nM vs H => ∃ (k : Nat), k ≤ (atL l o t).length ∧ nM = (atL l o t).length - k ∧ vs = [.sl false (.cons (.int .i64) (.cons (.int .i64) (.cons (.int .i64) (.cons (.sl (.int .i64)) (.cons (.int .i64) (.cons (.int .i64) (.cons (.int .i64) (.cons (.int .i64) (.cons (.int .i64) (.cons (.int .i64) .nil)))))))))) l, .ptr 0 1 0 0, .ptr 2 1 0 0, .int .i64 ((orK (((fO o l).filter (pT t)).take k) : Nat) : Int), .int .i64 (k : Int)] ∧ H = [.cells [.int .i64 0, .int .i64 0], .row true (.int .i64) (atL l o t), .cells [.own (.int .i64) 1, .int .i64 (askE l o t 0 1000000)]], ⟨rfl, (atL l o t).length, 0, by omega, by omega, rfl, rfl⟩, ?_⟩
  rintro nM vs H ⟨k, hc1_0, rfl, rfl, rfl⟩
  refine ⟨fun h1 => ?_, fun h1 => ?_⟩
  ·replace h1 : (k : Int) < (((atL l o t).length : Nat) : Int) := h1
   have hk : k < ((fO o l).filter (pT t)).length := by omega
   have eX : (atL l o t).getD k 0 = (((fO o l).filter (pT t)).getD k d0).1 := by rw [eA]; exact idsF_get hk
   obtain ⟨w1, w2, w3, w4, w5⟩ := whr_step (F := ((fO o l).filter (pT t))) hc (fun a ha => (List.mem_filter.1 (List.mem_filter.1 ha).1).1) hk eX
   have hor := orK_le hc (o := o) (t := t) k
   have eo := orK_snoc hk
   rw [← w3] at w4 w5 eo
   refine ⟨⟨by show (0 : Int) ≤ (k : Int); omega, by show (k : Int) < ((atL l o t).length : Int); omega⟩, rfl, rfl, ⟨by show 0 ≤ (l.length : Int); first | omega | assumption, by show (l.length : Int) ≤ (l.length : Int); first | omega | assumption, by show l.length ≤ 1048576; first | omega | assumption⟩, ⟨by show (0 : Int) ≤ findL (l.take (l.length : Int).toNat) ((atL l o t).getD k 0); omega, by show findL (l.take (l.length : Int).toNat) ((atL l o t).getD k 0) < (l.length : Int); omega⟩, rfl, rfl, ⟨by show 0 ≤ ((orK (((fO o l).filter (pT t)).take k) : Nat) : Int); first | omega | assumption | (simp only [List.length_cons, List.length_nil, List.length_append, List.length_take, List.length_drop, List.length_set, List.length_replicate]; omega), by show ((orK (((fO o l).filter (pT t)).take k) : Nat) : Int) ≤ 4095; first | omega | assumption | (simp only [List.length_cons, List.length_nil, List.length_append, List.length_take, List.length_drop, List.length_set, List.length_replicate]; omega), by show 0 ≤ (l.getD ((findL (l.take (l.length : Int).toNat) ((atL l o t).getD k 0)).toNat) d0).2.2.2.2.1; first | omega | assumption | (simp only [List.length_cons, List.length_nil, List.length_append, List.length_take, List.length_drop, List.length_set, List.length_replicate]; omega), by show (l.getD ((findL (l.take (l.length : Int).toNat) ((atL l o t).getD k 0)).toNat) d0).2.2.2.2.1 ≤ 11; first | omega | assumption | (simp only [List.length_cons, List.length_nil, List.length_append, List.length_take, List.length_drop, List.length_set, List.length_replicate]; omega)⟩, ⟨by show (-9223372036854775808 : Int) ≤ ((k : Int) + 1); omega, by show ((k : Int) + 1) ≤ (9223372036854775807 : Int); omega⟩, ?_⟩
   exact ⟨rfl, (atL l o t).length - (k + 1), by omega, k + 1, by omega, rfl, by rw [eo]; rfl, rfl⟩
  ·replace h1 : ¬ ((k : Int) < (((atL l o t).length : Nat) : Int)) := h1
   refine ⟨⟨rfl, rfl, rfl, Nat.le_of_ble_eq_true rfl⟩, ?_⟩
   have e : whL l o t = orK (((fO o l).filter (pT t)).take k) := by unfold whL; rw [if_pos hk0, List.take_of_length_le (by omega)]; rfl
   rw [hk0, e]
   exact ⟨rfl, rfl, rfl, rfl⟩
def CRWh : List (Nat × Con) := (63, pureC [.v (.sl (.cons (.int .i64) (.cons (.int .i64) (.cons (.int .i64) (.cons (.sl (.int .i64)) (.cons (.int .i64) (.cons (.int .i64) (.cons (.int .i64) (.cons (.int .i64) (.cons (.int .i64) (.cons (.int .i64) .nil))))))))))), .v (.int .i64), .v (.int .i64)] sRWh) :: CRHs
theorem kRWh : Known Try.prog (En CRWh tys [] QOfs) := kRHs.add Try.func63 Try.call63 [.k, .k] fun ds p v bs h hp => by
  unfold sRWh at h
  split at h <;> simp only [Option.some.injEq, Prod.mk.injEq, reduceCtorEq] at h
  obtain ⟨rfl, rfl, rfl⟩ := h
  exact bRWh _ _ _ hp.1 hp.2
noncomputable def sRHa : List V → Option (Prop × V × List Blk)
  | [.sl false (.cons (.int .i64) (.cons (.int .i64) (.cons (.int .i64) (.cons (.sl (.int .i64)) (.cons (.int .i64) (.cons (.int .i64) (.cons (.int .i64) (.cons (.int .i64) (.cons (.int .i64) (.cons (.int .i64) .nil)))))))))) l, .agg [.int .i64 bad, .sl false (.cons (.int .i64) (.cons (.int .i64) .nil)) cs]] => some (l.length ≤ 1048576 ∧ (∀ a ∈ l, a.2.2.2.1.length ≤ 1048576) ∧ cs.length ≤ 1048576, .agg [.own (.int .i64) 0, .int .i64 (hasE l bad cs)], [.row true (.int .i64) (hasL l bad cs)])
  | _ => none
set_option maxHeartbeats 1000000 in
theorem bRHa (l : List (Int × (Int × (Int × (List Int × (Int × (Int × (Int × (Int × (Int × (Int × Unit))))))))))) (bad : Int) (cs : List (Int × (Int × Unit))) (hp0 : l.length ≤ 1048576) (hp1 : (∀ a ∈ l, a.2.2.2.1.length ≤ 1048576)) (hp2 : cs.length ≤ 1048576) : bodyP (En CRWh tys [] QOfs) Try.f69 [.o (.int .i64), .k] [.sl false (.cons (.int .i64) (.cons (.int .i64) (.cons (.int .i64) (.cons (.sl (.int .i64)) (.cons (.int .i64) (.cons (.int .i64) (.cons (.int .i64) (.cons (.int .i64) (.cons (.int .i64) (.cons (.int .i64) .nil)))))))))) l, .agg [.int .i64 bad, .sl false (.cons (.int .i64) (.cons (.int .i64) .nil)) cs]] (.agg [.own (.int .i64) 0, .int .i64 (hasE l bad cs)]) [.row true (.int .i64) (hasL l bad cs)] := by
 refine ⟨⟨by show l.length ≤ 1048576; first | omega | assumption, by first | assumption | simp⟩, fun h0 => ?_, fun h0 => ?_⟩
 ·replace h0 : (chkL l) = 0 := h0
  have hc : chkL l = 0 := h0
  have hl4 := (chk_ok hc).1
  refine ⟨rfl, by show cs.length ≤ 1048576; first | omega | assumption, fun h1 => ?_, fun h1 => ?_⟩
  ·replace h1 : (spE bad cs) ≠ 0 := h1
   refine ⟨⟨rfl, rfl, rfl, Nat.le_of_ble_eq_true rfl⟩, ?_⟩
   have e1 : hasE l bad cs = spE bad cs := if_neg (fun g => g h0)
   have e2 : hasL l bad cs = [] := if_neg (by rw [e1]; exact h1)
   rw [e1, e2]
   exact ⟨rfl, rfl, rfl, rfl⟩
  ·replace h1 : ¬ ((spE bad cs) ≠ 0) := h1
   have hE : hasE l bad cs = 0 := by unfold hasE; rw [if_neg (fun g => g h0)]; exact Classical.not_not.1 h1
   obtain ⟨hb0, hb1, _⟩ := spE_ok (Classical.not_not.1 h1)
   refine ⟨2, [(0, .k), (3, .k), (4, .k), (6, .o (.int .i64)), (7, .k)], fun nM vs H => ∃ (k : Nat), k ≤ l.length ∧ nM = l.length - k ∧ vs = [.sl false (.cons (.int .i64) (.cons (.int .i64) (.cons (.int .i64) (.cons (.sl (.int .i64)) (.cons (.int .i64) (.cons (.int .i64) (.cons (.int .i64) (.cons (.int .i64) (.cons (.int .i64) (.cons (.int .i64) .nil)))))))))) l, .ptr 0 1 0 0, .ptr 1 1 0 0, .own (.int .i64) 2, .int .i64 (k : Int)] ∧ H = [.cells [.int .i64 bad, .sl false (.cons (.int .i64) (.cons (.int .i64) .nil)) cs], .cells [.nils, .int .i64 0], .row true (.int .i64) (idsF (seeB bad cs) (l.take k))], ⟨rfl, l.length, 0, by omega, by omega, rfl, rfl⟩, ?_⟩
   rintro nM vs H ⟨k, hc1_0, rfl, rfl, rfl⟩
   refine ⟨fun h2 => ?_, fun h2 => ?_⟩
   ·replace h2 : (k : Int) < (l.length : Int) := h2
    have hk : k < l.length := by omega
    have hfa := fmd_all (chk_fmd hc (getD_mem d0 l k hk))
    have hil := idsF_len (seeB bad cs) (l.take k)
    have htl := tk_len l k
    refine ⟨by kernel_rfl, ⟨by show (0 : Int) ≤ (k : Int); omega, by show (k : Int) < (l.length : Int); omega⟩, rfl, rfl, rfl, rfl, rfl, rfl, rfl, rfl, rfl, rfl, ⟨by show cs.length ≤ 1048576; first | omega | assumption, by show 0 ≤ (l.getD k d0).2.2.2.2.1; first | omega | assumption, by show (l.getD k d0).2.2.2.2.1 ≤ 11; first | omega | assumption, by show 0 ≤ bad; first | omega | assumption⟩, fun h3 => ?_, fun h3 => ?_⟩
    ·replace h3 : seeP bad cs ((l.getD k d0).1, ((l.getD k d0).2.1, ((l.getD k d0).2.2.1, ((l.getD k d0).2.2.2.1, ((l.getD k d0).2.2.2.2.1, ((l.getD k d0).2.2.2.2.2.1, ((l.getD k d0).2.2.2.2.2.2.1, ((l.getD k d0).2.2.2.2.2.2.2.1, ((l.getD k d0).2.2.2.2.2.2.2.2.1, ((l.getD k d0).2.2.2.2.2.2.2.2.2.1, ())))))))))) := h3
     refine ⟨⟨by show (0 : Int) ≤ (k : Int); omega, by show (k : Int) < (l.length : Int); omega⟩, rfl, ⟨rfl, rfl⟩, by show (idsF (seeB bad cs) (l.take k)).length + ([(l.getD k d0).1] : List Int).length ≤ 1000000000; simp only [List.length_cons, List.length_nil]; omega, ⟨by show (-9223372036854775808 : Int) ≤ ((k : Int) + 1); omega, by show ((k : Int) + 1) ≤ (9223372036854775807 : Int); omega⟩, ?_⟩
     exact ⟨rfl, l.length - (k + 1), by omega, k + 1, by omega, rfl, rfl, by rw [idsF_t hk (decide_eq_true (by assumption))]; rfl⟩
    ·replace h3 : ¬ (seeP bad cs ((l.getD k d0).1, ((l.getD k d0).2.1, ((l.getD k d0).2.2.1, ((l.getD k d0).2.2.2.1, ((l.getD k d0).2.2.2.2.1, ((l.getD k d0).2.2.2.2.2.1, ((l.getD k d0).2.2.2.2.2.2.1, ((l.getD k d0).2.2.2.2.2.2.2.1, ((l.getD k d0).2.2.2.2.2.2.2.2.1, ((l.getD k d0).2.2.2.2.2.2.2.2.2.1, ()))))))))))) := h3
     refine ⟨⟨by show (-9223372036854775808 : Int) ≤ ((k : Int) + 1); omega, by show ((k : Int) + 1) ≤ (9223372036854775807 : Int); omega⟩, ?_⟩
     exact ⟨rfl, l.length - (k + 1), by omega, k + 1, by omega, rfl, rfl, by rw [idsF_f hk (decide_eq_false (by assumption))]; rfl⟩
   ·replace h2 : ¬ ((k : Int) < (l.length : Int)) := h2
    refine ⟨⟨rfl, rfl, rfl, Nat.le_of_ble_eq_true rfl⟩, ?_⟩
    have e2 : hasL l bad cs = idsF (seeB bad cs) (l.take k) := by unfold hasL; rw [if_pos hE, List.take_of_length_le (by omega)]
    rw [hE, e2]
    exact ⟨rfl, rfl, rfl, rfl⟩
 ·replace h0 : ¬ ((chkL l) = 0) := h0
  refine ⟨fun h4 => ?_, fun h4 => absurd (show (chkL l) ≠ 0 by first | omega | assumption | simp_all) h4⟩
  refine ⟨⟨rfl, rfl, rfl, Nat.le_of_ble_eq_true rfl⟩, ?_⟩
  have e1 : hasE l bad cs = chkL l := if_pos h0
  have e2 : hasL l bad cs = [] := if_neg (by rw [e1]; exact h0)
  rw [e1, e2]
  exact ⟨rfl, rfl, rfl, rfl⟩
def CRHa : List (Nat × Con) := (69, pureC [.v (.sl (.cons (.int .i64) (.cons (.int .i64) (.cons (.int .i64) (.cons (.sl (.int .i64)) (.cons (.int .i64) (.cons (.int .i64) (.cons (.int .i64) (.cons (.int .i64) (.cons (.int .i64) (.cons (.int .i64) .nil))))))))))), .v (.cons (.int .i64) (.cons (.sl (.cons (.int .i64) (.cons (.int .i64) .nil))) .nil))] sRHa) :: CRWh
theorem kRHa : Known Try.prog (En CRHa tys [] QOfs) := kRWh.add Try.func69 Try.call69 [.o (.int .i64), .k] fun ds p v bs h hp => by
  unfold sRHa at h
  split at h <;> simp only [Option.some.injEq, Prod.mk.injEq, reduceCtorEq] at h
  obtain ⟨rfl, rfl, rfl⟩ := h
  exact bRHa _ _ _ hp.1 hp.2.1 hp.2.2
noncomputable def sRHo : List V → Option (Prop × V × List Blk)
  | [.sl false (.cons (.int .i64) (.cons (.int .i64) (.cons (.int .i64) (.cons (.sl (.int .i64)) (.cons (.int .i64) (.cons (.int .i64) (.cons (.int .i64) (.cons (.int .i64) (.cons (.int .i64) (.cons (.int .i64) .nil)))))))))) l, .int .i64 o, .int .i64 p] => some (l.length ≤ 1048576, .int .i64 (((hdK l o p l.length).length : Nat) : Int), [])
  | _ => none
set_option maxHeartbeats 1000000 in
theorem bRHo (l : List (Int × (Int × (Int × (List Int × (Int × (Int × (Int × (Int × (Int × (Int × Unit))))))))))) (o : Int) (p : Int) (hp0 : l.length ≤ 1048576) : bodyP (En CRHa tys [] QOfs) Try.f120 [.k] [.sl false (.cons (.int .i64) (.cons (.int .i64) (.cons (.int .i64) (.cons (.sl (.int .i64)) (.cons (.int .i64) (.cons (.int .i64) (.cons (.int .i64) (.cons (.int .i64) (.cons (.int .i64) (.cons (.int .i64) .nil)))))))))) l, .int .i64 o, .int .i64 p] (.int .i64 (((hdK l o p l.length).length : Nat) : Int)) [] := by
 refine ⟨0, [(0, .k), (1, .k), (2, .k), (7, .o (.int .i64)), (8, .k)], fun nM vs H => ∃ (k : Nat), k ≤ l.length ∧ nM = l.length - k ∧ vs = [.sl false (.cons (.int .i64) (.cons (.int .i64) (.cons (.int .i64) (.cons (.sl (.int .i64)) (.cons (.int .i64) (.cons (.int .i64) (.cons (.int .i64) (.cons (.int .i64) (.cons (.int .i64) (.cons (.int .i64) .nil)))))))))) l, .int .i64 o, .int .i64 p, .own (.int .i64) 0, .int .i64 (k : Int)] ∧ H = [.row true (.int .i64) (hdK l o p k)], ⟨rfl, l.length, 0, by omega, by omega, rfl, rfl⟩, ?_⟩
 rintro nM vs H ⟨k, hc1_0, rfl, rfl, rfl⟩
 refine ⟨fun h0 => ?_, fun h0 => ?_⟩
 ·replace h0 : (k : Int) < (l.length : Int) := h0
  have hk : k < l.length := by omega
  have hdl := hdK_len l o p k
  refine ⟨⟨by show (0 : Int) ≤ (k : Int); omega, by show (k : Int) < (l.length : Int); omega⟩, rfl, by show (hdK l o p k).length ≤ 1000000000; first | omega | assumption, fun h1 => ?_, fun h1 => ?_⟩
  ·replace h1 : ¬ ((l.getD k d0).2.2.2.2.2.2.2.2.1 ∈ (hdK l o p k)) := h1
   refine ⟨⟨by show (0 : Int) ≤ (k : Int); omega, by show (k : Int) < (l.length : Int); omega⟩, fun h2 => ?_, fun h2 => ?_⟩
   ·replace h2 : (l.getD k d0).2.1 = 3 := h2
    refine ⟨⟨by show (0 : Int) ≤ (k : Int); omega, by show (k : Int) < (l.length : Int); omega⟩, fun h3 => ?_, fun h3 => ?_⟩
    ·replace h3 : (l.getD k d0).2.2.1 = o := h3
     refine ⟨⟨by show (0 : Int) ≤ (k : Int); omega, by show (k : Int) < (l.length : Int); omega⟩, fun h4 => ?_, fun h4 => ?_⟩
     ·replace h4 : (l.getD k d0).2.2.2.2.2.2.2.2.2.1 = p := h4
      refine ⟨⟨by show (0 : Int) ≤ (k : Int); omega, by show (k : Int) < (l.length : Int); omega⟩, rfl, ⟨rfl, rfl⟩, by show (hdK l o p k).length + ([(l.getD k d0).2.2.2.2.2.2.2.2.1] : List Int).length ≤ 1000000000; simp only [List.length_cons, List.length_nil]; omega, ⟨by show (-9223372036854775808 : Int) ≤ ((k : Int) + 1); omega, by show ((k : Int) + 1) ≤ (9223372036854775807 : Int); omega⟩, ?_⟩
      exact ⟨rfl, l.length - (k + 1), by omega, k + 1, by omega, rfl, rfl, by rw [hdK, if_pos ⟨by assumption, by assumption, by assumption, by assumption⟩]; rfl⟩
     ·replace h4 : ¬ ((l.getD k d0).2.2.2.2.2.2.2.2.2.1 = p) := h4
      refine ⟨⟨by show (-9223372036854775808 : Int) ≤ ((k : Int) + 1); omega, by show ((k : Int) + 1) ≤ (9223372036854775807 : Int); omega⟩, ?_⟩
      exact ⟨rfl, l.length - (k + 1), by omega, k + 1, by omega, rfl, rfl, by rw [hdK, if_neg (by rintro ⟨g1, g2, g3, g4⟩; first | exact absurd g1 (by assumption) | exact absurd g2 (by assumption) | exact absurd g3 (by assumption) | exact absurd g4 (by assumption))]; rfl⟩
    ·replace h3 : ¬ ((l.getD k d0).2.2.1 = o) := h3
     refine ⟨⟨by show (-9223372036854775808 : Int) ≤ ((k : Int) + 1); omega, by show ((k : Int) + 1) ≤ (9223372036854775807 : Int); omega⟩, ?_⟩
     exact ⟨rfl, l.length - (k + 1), by omega, k + 1, by omega, rfl, rfl, by rw [hdK, if_neg (by rintro ⟨g1, g2, g3, g4⟩; first | exact absurd g1 (by assumption) | exact absurd g2 (by assumption) | exact absurd g3 (by assumption) | exact absurd g4 (by assumption))]; rfl⟩
   ·replace h2 : ¬ ((l.getD k d0).2.1 = 3) := h2
    refine ⟨⟨by show (-9223372036854775808 : Int) ≤ ((k : Int) + 1); omega, by show ((k : Int) + 1) ≤ (9223372036854775807 : Int); omega⟩, ?_⟩
    exact ⟨rfl, l.length - (k + 1), by omega, k + 1, by omega, rfl, rfl, by rw [hdK, if_neg (by rintro ⟨g1, g2, g3, g4⟩; first | exact absurd g1 (by assumption) | exact absurd g2 (by assumption) | exact absurd g3 (by assumption) | exact absurd g4 (by assumption))]; rfl⟩
  ·replace h1 : ¬ (¬ ((l.getD k d0).2.2.2.2.2.2.2.2.1 ∈ (hdK l o p k))) := h1
   refine ⟨⟨by show (-9223372036854775808 : Int) ≤ ((k : Int) + 1); omega, by show ((k : Int) + 1) ≤ (9223372036854775807 : Int); omega⟩, ?_⟩
   exact ⟨rfl, l.length - (k + 1), by omega, k + 1, by omega, rfl, rfl, by rw [hdK, if_neg (by rintro ⟨g1, g2, g3, g4⟩; first | exact absurd g1 (by assumption) | exact absurd g2 (by assumption) | exact absurd g3 (by assumption) | exact absurd g4 (by assumption))]; rfl⟩
 ·replace h0 : ¬ ((k : Int) < (l.length : Int)) := h0
  rw [show l.length = k by omega]
  exact ⟨rfl, rfl, rfl, rfl⟩
def CRHo : List (Nat × Con) := (120, pureC [.v (.sl (.cons (.int .i64) (.cons (.int .i64) (.cons (.int .i64) (.cons (.sl (.int .i64)) (.cons (.int .i64) (.cons (.int .i64) (.cons (.int .i64) (.cons (.int .i64) (.cons (.int .i64) (.cons (.int .i64) .nil))))))))))), .v (.int .i64), .v (.int .i64)] sRHo) :: CRHa
theorem kRHo : Known Try.prog (En CRHo tys [] QOfs) := kRHa.add Try.func120 Try.call120 [.k] fun ds p v bs h hp => by
  unfold sRHo at h
  split at h <;> simp only [Option.some.injEq, Prod.mk.injEq, reduceCtorEq] at h
  obtain ⟨rfl, rfl, rfl⟩ := h
  exact bRHo _ _ _ hp
noncomputable def sRTo : List V → Option (Prop × V × List Blk)
  | [.sl false (.cons (.int .i64) (.cons (.int .i64) (.cons (.int .i64) (.cons (.sl (.int .i64)) (.cons (.int .i64) (.cons (.int .i64) (.cons (.int .i64) (.cons (.int .i64) (.cons (.int .i64) (.cons (.int .i64) .nil)))))))))) l, .int .i64 o, .int .i64 need, .agg [.int .i64 bad, .sl false (.cons (.int .i64) (.cons (.int .i64) .nil)) cs]] => some (l.length ≤ 1048576 ∧ (∀ a ∈ l, a.2.2.2.1.length ≤ 1048576) ∧ cs.length ≤ 1048576, .agg [.b (tolT l o need bad cs = true), .int .i64 (tolE l o need bad cs)], [])
  | _ => none
set_option maxHeartbeats 4000000 in
theorem bRTo (l : List (Int × (Int × (Int × (List Int × (Int × (Int × (Int × (Int × (Int × (Int × Unit))))))))))) (o : Int) (need : Int) (bad : Int) (cs : List (Int × (Int × Unit))) (hp0 : l.length ≤ 1048576) (hp1 : (∀ a ∈ l, a.2.2.2.1.length ≤ 1048576)) (hp2 : cs.length ≤ 1048576) : bodyP (En CRHo tys [] QOfs) Try.f71 [.k, .k] [.sl false (.cons (.int .i64) (.cons (.int .i64) (.cons (.int .i64) (.cons (.sl (.int .i64)) (.cons (.int .i64) (.cons (.int .i64) (.cons (.int .i64) (.cons (.int .i64) (.cons (.int .i64) (.cons (.int .i64) .nil)))))))))) l, .int .i64 o, .int .i64 need, .agg [.int .i64 bad, .sl false (.cons (.int .i64) (.cons (.int .i64) .nil)) cs]] (.agg [.b (tolT l o need bad cs = true), .int .i64 (tolE l o need bad cs)]) [] := by
 refine ⟨rfl, rfl, rfl, rfl, ⟨by show l.length ≤ 1048576; first | omega | assumption, by first | assumption | simp⟩, fun h0 => ?_, fun h0 => ?_⟩
 ·replace h0 : (askE l o need 1 12) = 0 := h0
  have hk0 : askE l o need 1 12 = 0 := h0
  obtain ⟨hc, ho, ht⟩ := ask_ok hk0
  have hl4 := (chk_ok hc).1
  refine ⟨rfl, by show cs.length ≤ 1048576; first | omega | assumption, fun h1 => ?_, fun h1 => ?_⟩
  ·replace h1 : (spE bad cs) ≠ 0 := h1
   refine ⟨⟨rfl, rfl, rfl, Nat.le_of_ble_eq_true rfl⟩, ?_⟩
   have e1 : tolE l o need bad cs = spE bad cs := if_neg (fun g => g h0)
   have e2 : tolT l o need bad cs = false := tol_err (by rw [e1]; exact h1)
   rw [e1, e2]
   exact ⟨rfl, rfl, congrArg (fun p : Prop => V.agg [.b p, .int .i64 (spE bad cs)]) (propext ⟨fun h => h.elim, fun h => Bool.noConfusion h⟩), rfl⟩
  ·replace h1 : ¬ ((spE bad cs) ≠ 0) := h1
   have hE : tolE l o need bad cs = 0 := by unfold tolE; rw [if_neg (fun g => g h0)]; exact Classical.not_not.1 h1
   obtain ⟨hb0, hb1, _⟩ := spE_ok (Classical.not_not.1 h1)
   have hsl := sn_len bad o cs l
   refine ⟨2, [(0, .k), (1, .k), (2, .k), (7, .k), (8, .k), (10, .w (.cons (.int .i64) (.cons (.int .i64) (.cons (.int .i64) (.cons (.sl (.int .i64)) (.cons (.int .i64) (.cons (.int .i64) (.cons (.int .i64) (.cons (.int .i64) (.cons (.int .i64) (.cons (.int .i64) .nil))))))))))), (11, .k)], fun nM vs H => ∃ (k : Nat), k ≤ l.length ∧ nM = l.length - k ∧ vs = [.sl false (.cons (.int .i64) (.cons (.int .i64) (.cons (.int .i64) (.cons (.sl (.int .i64)) (.cons (.int .i64) (.cons (.int .i64) (.cons (.int .i64) (.cons (.int .i64) (.cons (.int .i64) (.cons (.int .i64) .nil)))))))))) l, .int .i64 o, .int .i64 need, .ptr 0 1 0 0, .ptr 1 1 0 0, .own (.cons (.int .i64) (.cons (.int .i64) (.cons (.int .i64) (.cons (.sl (.int .i64)) (.cons (.int .i64) (.cons (.int .i64) (.cons (.int .i64) (.cons (.int .i64) (.cons (.int .i64) (.cons (.int .i64) .nil)))))))))) 2, .int .i64 (k : Int)] ∧ H = [.cells [.int .i64 bad, .sl false (.cons (.int .i64) (.cons (.int .i64) .nil)) cs], .cells [.b False, .int .i64 0], .row false (.cons (.int .i64) (.cons (.int .i64) (.cons (.int .i64) (.cons (.sl (.int .i64)) (.cons (.int .i64) (.cons (.int .i64) (.cons (.int .i64) (.cons (.int .i64) (.cons (.int .i64) (.cons (.int .i64) .nil)))))))))) (sn bad cs (fO o (l.take k)))], ⟨rfl, l.length, 0, by omega, by omega, rfl, rfl⟩, ?_⟩
   rintro nM vs H ⟨k, hc1_0, rfl, rfl, rfl⟩
   refine ⟨fun h2 => ?_, fun h2 => ?_⟩
   ·replace h2 : (k : Int) < (l.length : Int) := h2
    have hk : k < l.length := by omega
    have hfa := fmd_all (chk_fmd hc (getD_mem d0 l k hk))
    have hsk := sn_len bad o cs (l.take k)
    have htl := tk_len l k
    refine ⟨by kernel_rfl, ⟨by show (0 : Int) ≤ (k : Int); omega, by show (k : Int) < (l.length : Int); omega⟩, rfl, rfl, rfl, rfl, rfl, rfl, rfl, rfl, rfl, rfl, ⟨by show cs.length ≤ 1048576; first | omega | assumption, by show 0 ≤ (l.getD k d0).2.2.2.2.1; first | omega | assumption, by show (l.getD k d0).2.2.2.2.1 ≤ 11; first | omega | assumption, by show 0 ≤ bad; first | omega | assumption⟩, fun h3 => ?_, fun h3 => ?_⟩
    ·replace h3 : seeP bad cs ((l.getD k d0).1, ((l.getD k d0).2.1, ((l.getD k d0).2.2.1, ((l.getD k d0).2.2.2.1, ((l.getD k d0).2.2.2.2.1, ((l.getD k d0).2.2.2.2.2.1, ((l.getD k d0).2.2.2.2.2.2.1, ((l.getD k d0).2.2.2.2.2.2.2.1, ((l.getD k d0).2.2.2.2.2.2.2.2.1, ((l.getD k d0).2.2.2.2.2.2.2.2.2.1, ())))))))))) := h3
     refine ⟨⟨by show (0 : Int) ≤ (k : Int); omega, by show (k : Int) < (l.length : Int); omega⟩, fun h4 => ?_, fun h4 => ?_⟩
     ·replace h4 : (l.getD k d0).2.2.1 = o := h4
      refine ⟨⟨by show (0 : Int) ≤ (k : Int); omega, by show (k : Int) < (l.length : Int); omega⟩, rfl, rfl, rfl, rfl, rfl, rfl, rfl, rfl, rfl, ⟨rfl, rfl⟩, by show (sn bad cs (fO o (l.take k))).length + ([((l.getD k d0).1, (l.getD k d0).2.1, (l.getD k d0).2.2.1, (l.getD k d0).2.2.2.1, (l.getD k d0).2.2.2.2.1, (l.getD k d0).2.2.2.2.2.1, (l.getD k d0).2.2.2.2.2.2.1, (l.getD k d0).2.2.2.2.2.2.2.1, (l.getD k d0).2.2.2.2.2.2.2.2.1, (l.getD k d0).2.2.2.2.2.2.2.2.2.1, ())] : List (Int × (Int × (Int × (List Int × (Int × (Int × (Int × (Int × (Int × (Int × Unit))))))))))).length ≤ 1000000000; simp only [List.length_cons, List.length_nil]; omega, ⟨by show (-9223372036854775808 : Int) ≤ ((k : Int) + 1); omega, by show ((k : Int) + 1) ≤ (9223372036854775807 : Int); omega⟩, ?_⟩
      exact ⟨rfl, l.length - (k + 1), by omega, k + 1, by omega, rfl, rfl, by rw [snO_t hk (by assumption) (by assumption)]; rfl⟩
     ·replace h4 : ¬ ((l.getD k d0).2.2.1 = o) := h4
      refine ⟨⟨by show (-9223372036854775808 : Int) ≤ ((k : Int) + 1); omega, by show ((k : Int) + 1) ≤ (9223372036854775807 : Int); omega⟩, ?_⟩
      exact ⟨rfl, l.length - (k + 1), by omega, k + 1, by omega, rfl, rfl, by rw [snO_f hk (by rintro ⟨g1, g2⟩; first | exact absurd g1 (by assumption) | exact absurd g2 (by assumption))]; rfl⟩
    ·replace h3 : ¬ (seeP bad cs ((l.getD k d0).1, ((l.getD k d0).2.1, ((l.getD k d0).2.2.1, ((l.getD k d0).2.2.2.1, ((l.getD k d0).2.2.2.2.1, ((l.getD k d0).2.2.2.2.2.1, ((l.getD k d0).2.2.2.2.2.2.1, ((l.getD k d0).2.2.2.2.2.2.2.1, ((l.getD k d0).2.2.2.2.2.2.2.2.1, ((l.getD k d0).2.2.2.2.2.2.2.2.2.1, ()))))))))))) := h3
     refine ⟨⟨by show (-9223372036854775808 : Int) ≤ ((k : Int) + 1); omega, by show ((k : Int) + 1) ≤ (9223372036854775807 : Int); omega⟩, ?_⟩
     exact ⟨rfl, l.length - (k + 1), by omega, k + 1, by omega, rfl, rfl, by rw [snO_f hk (by rintro ⟨g1, g2⟩; first | exact absurd g1 (by assumption) | exact absurd g2 (by assumption))]; rfl⟩
   ·replace h2 : ¬ ((k : Int) < (l.length : Int)) := h2
    have hS : (sn bad cs (fO o (l.take k))) = (sn bad cs (fO o l)) := by rw [List.take_of_length_le (by omega)]
    refine ⟨3, [(1, .k), (2, .k), (8, .k), (10, .o (.cons (.int .i64) (.cons (.int .i64) (.cons (.int .i64) (.cons (.sl (.int .i64)) (.cons (.int .i64) (.cons (.int .i64) (.cons (.int .i64) (.cons (.int .i64) (.cons (.int .i64) (.cons (.int .i64) .nil))))))))))), (13, .k), (14, .k), (15, .k)], fun nM vs H => ∃ (j : Nat), j ≤ (sn bad cs (fO o l)).length ∧ srcS ((sn bad cs (fO o l)).take j) = false ∧ nM = (sn bad cs (fO o l)).length - j ∧ vs = [.int .i64 o, .int .i64 need, .ptr 1 1 0 0, .own (.cons (.int .i64) (.cons (.int .i64) (.cons (.int .i64) (.cons (.sl (.int .i64)) (.cons (.int .i64) (.cons (.int .i64) (.cons (.int .i64) (.cons (.int .i64) (.cons (.int .i64) (.cons (.int .i64) .nil)))))))))) 2, .b (covS ((sn bad cs (fO o l)).take j) = true), .b (enR (sn bad cs (fO o l)) o need j = true), .int .i64 (j : Int)] ∧ H = [.cells [.int .i64 bad, .sl false (.cons (.int .i64) (.cons (.int .i64) .nil)) cs], .cells [.b False, .int .i64 0], .row false (.cons (.int .i64) (.cons (.int .i64) (.cons (.int .i64) (.cons (.sl (.int .i64)) (.cons (.int .i64) (.cons (.int .i64) (.cons (.int .i64) (.cons (.int .i64) (.cons (.int .i64) (.cons (.int .i64) .nil)))))))))) (sn bad cs (fO o l))], ⟨rfl, (sn bad cs (fO o l)).length, 0, by omega, rfl, by omega, rfl, by rw [hS]; rfl⟩, ?_⟩
    rintro nM vs H ⟨j, hc2_0, hc2_1, rfl, rfl, rfl⟩
    have hsj : srcS ((sn bad cs (fO o l)).take j) = false := by assumption
    refine ⟨fun h5 => ?_, fun h5 => ?_⟩
    ·replace h5 : (j : Int) < (((sn bad cs (fO o l)).length : Nat) : Int) := h5
     have hj : j < (sn bad cs (fO o l)).length := by omega
     refine ⟨⟨by show (0 : Int) ≤ (j : Int); omega, by show (j : Int) < ((sn bad cs (fO o l)).length : Int); omega⟩, fun h6 => ?_, fun h6 => ?_⟩
     ·replace h6 : ((sn bad cs (fO o l)).getD j d0).2.1 = 1 := h6
      refine ⟨⟨rfl, rfl, rfl, Nat.le_of_ble_eq_true rfl⟩, ?_⟩
      rw [tol_one hE hj (by assumption), hE]
      exact ⟨rfl, rfl, rfl, rfl⟩
     ·replace h6 : ¬ (((sn bad cs (fO o l)).getD j d0).2.1 = 1) := h6
      refine ⟨⟨by show (0 : Int) ≤ (j : Int); omega, by show (j : Int) < ((sn bad cs (fO o l)).length : Int); omega⟩, fun h7 => ?_, fun h7 => ?_⟩
      ·replace h7 : ((sn bad cs (fO o l)).getD j d0).2.1 = 2 := h7
       refine ⟨⟨by show (0 : Int) ≤ (j : Int); omega, by show (j : Int) < ((sn bad cs (fO o l)).length : Int); omega⟩, fun h8 => ?_, fun h8 => ?_⟩
       ·replace h8 : ((sn bad cs (fO o l)).getD j d0).2.1 = 3 := h8
        refine ⟨⟨by show (0 : Int) ≤ (j : Int); omega, by show (j : Int) < ((sn bad cs (fO o l)).length : Int); omega⟩, rfl, rfl, by show (sn bad cs (fO o l)).length ≤ 1048576; first | omega | assumption, fun h9 => ?_, fun h9 => ?_⟩
        ·replace h9 : ¬ (enR (sn bad cs (fO o l)) o need j = true) := h9
         refine ⟨⟨by show (-9223372036854775808 : Int) ≤ ((j : Int) + 1); omega, by show ((j : Int) + 1) ≤ (9223372036854775807 : Int); omega⟩, ?_⟩
         first | (exfalso; omega) | (have ec : covS ((sn bad cs (fO o l)).take (j + 1)) = true := (by rw [covK hj, decide_eq_true (by omega : ((sn bad cs (fO o l)).getD j d0).2.1 = 2), Bool.or_true]); have ee : (enR (sn bad cs (fO o l)) o need (j + 1) = true) = (need ≤ ((((hdK (sn bad cs (fO o l)) o ((sn bad cs (fO o l)).getD j d0).2.2.2.2.2.2.2.2.2.1 (sn bad cs (fO o l)).length).length : Nat) : Int))) := (by rw [enR, decide_eq_true (by assumption : ((sn bad cs (fO o l)).getD j d0).2.1 = 3), bF (by assumption : ¬ enR (sn bad cs (fO o l)) o need j = true), Bool.false_or, Bool.true_and]; exact propext decide_eq_true_iff); exact ⟨rfl, (sn bad cs (fO o l)).length - (j + 1), by omega, j + 1, by omega, srcK_next hj hsj (by assumption), rfl, by rw [ec, ee]; rfl, rfl⟩)
        ·replace h9 : enR (sn bad cs (fO o l)) o need j = true := h9
         refine ⟨⟨by show (-9223372036854775808 : Int) ≤ ((j : Int) + 1); omega, by show ((j : Int) + 1) ≤ (9223372036854775807 : Int); omega⟩, ?_⟩
         first | (exfalso; omega) | (have ec : covS ((sn bad cs (fO o l)).take (j + 1)) = true := (by rw [covK hj, decide_eq_true (by omega : ((sn bad cs (fO o l)).getD j d0).2.1 = 2), Bool.or_true]); have ee : enR (sn bad cs (fO o l)) o need (j + 1) = true := (by rw [enR, (by assumption : enR (sn bad cs (fO o l)) o need j = true)]; rfl); exact ⟨rfl, (sn bad cs (fO o l)).length - (j + 1), by omega, j + 1, by omega, srcK_next hj hsj (by assumption), rfl, by rw [ec, ee]; rfl, rfl⟩)
       ·replace h8 : ¬ (((sn bad cs (fO o l)).getD j d0).2.1 = 3) := h8
        refine ⟨⟨by show (-9223372036854775808 : Int) ≤ ((j : Int) + 1); omega, by show ((j : Int) + 1) ≤ (9223372036854775807 : Int); omega⟩, ?_⟩
        first | (exfalso; omega) | (have ec : covS ((sn bad cs (fO o l)).take (j + 1)) = true := (by rw [covK hj, decide_eq_true (by omega : ((sn bad cs (fO o l)).getD j d0).2.1 = 2), Bool.or_true]); have ee : enR (sn bad cs (fO o l)) o need (j + 1) = enR (sn bad cs (fO o l)) o need j := (by rw [enR, decide_eq_false (by omega : ¬ ((sn bad cs (fO o l)).getD j d0).2.1 = 3), Bool.false_and, Bool.or_false]); exact ⟨rfl, (sn bad cs (fO o l)).length - (j + 1), by omega, j + 1, by omega, srcK_next hj hsj (by assumption), rfl, by rw [ec, ee]; rfl, rfl⟩)
      ·replace h7 : ¬ (((sn bad cs (fO o l)).getD j d0).2.1 = 2) := h7
       refine ⟨⟨by show (0 : Int) ≤ (j : Int); omega, by show (j : Int) < ((sn bad cs (fO o l)).length : Int); omega⟩, fun h10 => ?_, fun h10 => ?_⟩
       ·replace h10 : ((sn bad cs (fO o l)).getD j d0).2.1 = 3 := h10
        refine ⟨⟨by show (0 : Int) ≤ (j : Int); omega, by show (j : Int) < ((sn bad cs (fO o l)).length : Int); omega⟩, rfl, rfl, by show (sn bad cs (fO o l)).length ≤ 1048576; first | omega | assumption, fun h11 => ?_, fun h11 => ?_⟩
        ·replace h11 : ¬ (enR (sn bad cs (fO o l)) o need j = true) := h11
         refine ⟨⟨by show (-9223372036854775808 : Int) ≤ ((j : Int) + 1); omega, by show ((j : Int) + 1) ≤ (9223372036854775807 : Int); omega⟩, ?_⟩
         first | (exfalso; omega) | (have ec : covS ((sn bad cs (fO o l)).take (j + 1)) = covS ((sn bad cs (fO o l)).take j) := (by rw [covK hj, decide_eq_false (by omega : ¬ ((sn bad cs (fO o l)).getD j d0).2.1 = 2), Bool.or_false]); have ee : (enR (sn bad cs (fO o l)) o need (j + 1) = true) = (need ≤ ((((hdK (sn bad cs (fO o l)) o ((sn bad cs (fO o l)).getD j d0).2.2.2.2.2.2.2.2.2.1 (sn bad cs (fO o l)).length).length : Nat) : Int))) := (by rw [enR, decide_eq_true (by assumption : ((sn bad cs (fO o l)).getD j d0).2.1 = 3), bF (by assumption : ¬ enR (sn bad cs (fO o l)) o need j = true), Bool.false_or, Bool.true_and]; exact propext decide_eq_true_iff); exact ⟨rfl, (sn bad cs (fO o l)).length - (j + 1), by omega, j + 1, by omega, srcK_next hj hsj (by assumption), rfl, by rw [ec, ee]; rfl, rfl⟩)
        ·replace h11 : enR (sn bad cs (fO o l)) o need j = true := h11
         refine ⟨⟨by show (-9223372036854775808 : Int) ≤ ((j : Int) + 1); omega, by show ((j : Int) + 1) ≤ (9223372036854775807 : Int); omega⟩, ?_⟩
         first | (exfalso; omega) | (have ec : covS ((sn bad cs (fO o l)).take (j + 1)) = covS ((sn bad cs (fO o l)).take j) := (by rw [covK hj, decide_eq_false (by omega : ¬ ((sn bad cs (fO o l)).getD j d0).2.1 = 2), Bool.or_false]); have ee : enR (sn bad cs (fO o l)) o need (j + 1) = true := (by rw [enR, (by assumption : enR (sn bad cs (fO o l)) o need j = true)]; rfl); exact ⟨rfl, (sn bad cs (fO o l)).length - (j + 1), by omega, j + 1, by omega, srcK_next hj hsj (by assumption), rfl, by rw [ec, ee]; rfl, rfl⟩)
       ·replace h10 : ¬ (((sn bad cs (fO o l)).getD j d0).2.1 = 3) := h10
        refine ⟨⟨by show (-9223372036854775808 : Int) ≤ ((j : Int) + 1); omega, by show ((j : Int) + 1) ≤ (9223372036854775807 : Int); omega⟩, ?_⟩
        first | (exfalso; omega) | (have ec : covS ((sn bad cs (fO o l)).take (j + 1)) = covS ((sn bad cs (fO o l)).take j) := (by rw [covK hj, decide_eq_false (by omega : ¬ ((sn bad cs (fO o l)).getD j d0).2.1 = 2), Bool.or_false]); have ee : enR (sn bad cs (fO o l)) o need (j + 1) = enR (sn bad cs (fO o l)) o need j := (by rw [enR, decide_eq_false (by omega : ¬ ((sn bad cs (fO o l)).getD j d0).2.1 = 3), Bool.false_and, Bool.or_false]); exact ⟨rfl, (sn bad cs (fO o l)).length - (j + 1), by omega, j + 1, by omega, srcK_next hj hsj (by assumption), rfl, by rw [ec, ee]; rfl, rfl⟩)
    ·replace h5 : ¬ ((j : Int) < (((sn bad cs (fO o l)).length : Nat) : Int)) := h5
     have hje : (sn bad cs (fO o l)).length = j := by omega
     have hcf : (sn bad cs (fO o l)).take j = (sn bad cs (fO o l)) := List.take_of_length_le (by omega)
     have hsf := hsj
     rw [hcf] at hsf
     refine ⟨fun h12 => ?_, fun h12 => ?_⟩
     ·replace h12 : covS ((sn bad cs (fO o l)).take j) = true := h12
      rw [hcf] at h12
      refine ⟨⟨rfl, rfl, rfl, Nat.le_of_ble_eq_true rfl⟩, ?_⟩
      rw [tol_all hE hsf, h12, Bool.true_and, hje, hE]
      exact ⟨rfl, rfl, rfl, rfl⟩
     ·replace h12 : ¬ (covS ((sn bad cs (fO o l)).take j) = true) := h12
      rw [hcf] at h12
      refine ⟨⟨rfl, rfl, rfl, Nat.le_of_ble_eq_true rfl⟩, ?_⟩
      rw [tol_all hE hsf, bF h12, Bool.false_and, hE]
      exact ⟨rfl, rfl, rfl, rfl⟩
 ·replace h0 : ¬ ((askE l o need 1 12) = 0) := h0
  refine ⟨fun h13 => ?_, fun h13 => absurd (show (askE l o need 1 12) ≠ 0 by first | omega | assumption | simp_all) h13⟩
  refine ⟨⟨rfl, rfl, rfl, Nat.le_of_ble_eq_true rfl⟩, ?_⟩
  have e1 : tolE l o need bad cs = askE l o need 1 12 := if_pos h0
  have e2 : tolT l o need bad cs = false := tol_err (by rw [e1]; exact h0)
  rw [e1, e2]
  exact ⟨rfl, rfl, congrArg (fun p : Prop => V.agg [.b p, .int .i64 (askE l o need 1 12)]) (propext ⟨fun h => h.elim, fun h => Bool.noConfusion h⟩), rfl⟩
def CRTo : List (Nat × Con) := (71, pureC [.v (.sl (.cons (.int .i64) (.cons (.int .i64) (.cons (.int .i64) (.cons (.sl (.int .i64)) (.cons (.int .i64) (.cons (.int .i64) (.cons (.int .i64) (.cons (.int .i64) (.cons (.int .i64) (.cons (.int .i64) .nil))))))))))), .v (.int .i64), .v (.int .i64), .v (.cons (.int .i64) (.cons (.sl (.cons (.int .i64) (.cons (.int .i64) .nil))) .nil))] sRTo) :: CRHo
theorem kRTo : Known Try.prog (En CRTo tys [] QOfs) := kRHo.add Try.func71 Try.call71 [.k, .k] fun ds p v bs h hp => by
  unfold sRTo at h
  split at h <;> simp only [Option.some.injEq, Prod.mk.injEq, reduceCtorEq] at h
  obtain ⟨rfl, rfl, rfl⟩ := h
  exact bRTo _ _ _ _ _ hp.1 hp.2.1 hp.2.2
end Go.Proofs.Ytgljcfnplkcfhaa.S38

namespace Go.Proofs.Ytgljcfnplkcfhaa.S38
open Go

theorem idsO_len (p : (Int × (Int × (Int × (List Int × (Int × (Int × (Int × (Int × (Int × (Int × Unit)))))))))) → Bool) (o : Int) (l : List (Int × (Int × (Int × (List Int × (Int × (Int × (Int × (Int × (Int × (Int × Unit))))))))))) : (idsF p (fO o l)).length ≤ l.length := Nat.le_trans (idsF_len _ _) (fO_len _ _)
theorem atL_len (l : List (Int × (Int × (Int × (List Int × (Int × (Int × (Int × (Int × (Int × (Int × Unit))))))))))) (o t : Int) : (atL l o t).length ≤ l.length := by
  unfold atL; split
  · exact idsO_len _ _ _
  · exact Nat.zero_le _
theorem laL_len (l : List (Int × (Int × (Int × (List Int × (Int × (Int × (Int × (Int × (Int × (Int × Unit))))))))))) (o t : Int) : (laL l o t).length ≤ l.length := by
  unfold laL; split
  · exact idsO_len _ _ _
  · exact Nat.zero_le _
theorem hasL_len (l : List (Int × (Int × (Int × (List Int × (Int × (Int × (Int × (Int × (Int × (Int × Unit))))))))))) (bad : Int) (cs : List (Int × (Int × Unit))) : (hasL l bad cs).length ≤ l.length := by
  unfold hasL; split
  · exact idsF_len _ _
  · exact Nat.zero_le _
end Go.Proofs.Ytgljcfnplkcfhaa.S38

/- Texts of this claim: S38.R1, S38.Qo. -/
import Derived.Test.YtgljcfnplkcfhaaS3
set_option linter.unusedVariables false
set_option linter.unusedSimpArgs false
namespace Go.Proofs.Ytgljcfnplkcfhaa.S38
open Go Go.Proofs.Ytgljcfnplkcfhaa.Vc Go.Proofs
set_option maxRecDepth 100000
set_option linter.unusedVariables false

noncomputable def sRWi : List V → Option (Prop × V × List Blk)
  | [.int .i64 x, .int .i64 lo, .int .i64 hi] => some (True, .b (lo ≤ x ∧ x ≤ hi), [])
  | _ => none
set_option maxHeartbeats 1000000 in
theorem bRWi (x : Int) (lo : Int) (hi : Int)  : bodyP (En CSan tys [] QOfs) Try.f139 [.k] [.int .i64 x, .int .i64 lo, .int .i64 hi] (.b (lo ≤ x ∧ x ≤ hi)) [] := by
 refine ⟨fun h0 => ?_, fun h0 => ?_⟩
 ·replace h0 : lo ≤ x := h0
  exact ⟨rfl, rfl, congrArg V.b (propext (by constructor <;> intro h <;> first | omega | (exfalso; first | omega | exact Bool.noConfusion h))), rfl⟩
 ·replace h0 : ¬ (lo ≤ x) := h0
  exact ⟨rfl, rfl, congrArg V.b (propext (by constructor <;> intro h <;> first | omega | (exfalso; first | omega | exact Bool.noConfusion h))), rfl⟩
def CRWi : List (Nat × Con) := (139, pureC [.v (.int .i64), .v (.int .i64), .v (.int .i64)] sRWi) :: CSan
theorem kRWi : Known Try.prog (En CRWi tys [] QOfs) := kSan.add Try.func139 Try.call139 [.k] fun ds p v bs h hp => by
  unfold sRWi at h
  split at h <;> simp only [Option.some.injEq, Prod.mk.injEq, reduceCtorEq] at h
  obtain ⟨rfl, rfl, rfl⟩ := h
  exact bRWi _ _ _
noncomputable def sRTh : List V → Option (Prop × V × List Blk)
  | [.agg [.int .i64 id, .int .i64 kd, .int .i64 ob, .sl false (.int .i64) of, .int .i64 ho, .int .i64 di, .int .i64 bo, .int .i64 go, .int .i64 hr, .int .i64 pe], .int .i64 t] => some (True, .b (bo ≤ t ∧ t < go), [])
  | _ => none
set_option maxHeartbeats 1000000 in
theorem bRTh (id : Int) (kd : Int) (ob : Int) (of : List Int) (ho : Int) (di : Int) (bo : Int) (go : Int) (hr : Int) (pe : Int) (t : Int)  : bodyP (En CRWi tys [] QOfs) Try.f108 [.k] [.agg [.int .i64 id, .int .i64 kd, .int .i64 ob, .sl false (.int .i64) of, .int .i64 ho, .int .i64 di, .int .i64 bo, .int .i64 go, .int .i64 hr, .int .i64 pe], .int .i64 t] (.b (bo ≤ t ∧ t < go)) [] := by
 refine ⟨fun h0 => ?_, fun h0 => ?_⟩
 ·replace h0 : bo ≤ t := h0
  exact ⟨rfl, rfl, congrArg V.b (propext (by constructor <;> intro h <;> first | omega | (exfalso; first | omega | exact Bool.noConfusion h))), rfl⟩
 ·replace h0 : ¬ (bo ≤ t) := h0
  exact ⟨rfl, rfl, congrArg V.b (propext (by constructor <;> intro h <;> first | omega | (exfalso; first | omega | exact Bool.noConfusion h))), rfl⟩
def CRTh : List (Nat × Con) := (108, pureC [.v (.cons (.int .i64) (.cons (.int .i64) (.cons (.int .i64) (.cons (.sl (.int .i64)) (.cons (.int .i64) (.cons (.int .i64) (.cons (.int .i64) (.cons (.int .i64) (.cons (.int .i64) (.cons (.int .i64) .nil)))))))))), .v (.int .i64)] sRTh) :: CRWi
theorem kRTh : Known Try.prog (En CRTh tys [] QOfs) := kRWi.add Try.func108 Try.call108 [.k] fun ds p v bs h hp => by
  unfold sRTh at h
  split at h <;> simp only [Option.some.injEq, Prod.mk.injEq, reduceCtorEq] at h
  obtain ⟨rfl, rfl, rfl⟩ := h
  exact bRTh _ _ _ _ _ _ _ _ _ _ _
noncomputable def sRMd : List V → Option (Prop × V × List Blk)
  | [.agg [.int .i64 id, .int .i64 kd, .int .i64 ob, .sl false (.int .i64) of, .int .i64 ho, .int .i64 di, .int .i64 bo, .int .i64 go, .int .i64 hr, .int .i64 pe], .agg [.int .i64 id2, .int .i64 kd2, .int .i64 ob2, .sl false (.int .i64) of2, .int .i64 ho2, .int .i64 di2, .int .i64 bo2, .int .i64 go2, .int .i64 hr2, .int .i64 pe2]] => some (0 ≤ pe2 ∧ pe2 ≤ 499 ∧ 1 ≤ kd2 ∧ kd2 ≤ 4, .b (mad kd ob pe kd2 ob2 pe2), [])
  | _ => none
set_option maxHeartbeats 1000000 in
theorem bRMd (id : Int) (kd : Int) (ob : Int) (of : List Int) (ho : Int) (di : Int) (bo : Int) (go : Int) (hr : Int) (pe : Int) (id2 : Int) (kd2 : Int) (ob2 : Int) (of2 : List Int) (ho2 : Int) (di2 : Int) (bo2 : Int) (go2 : Int) (hr2 : Int) (pe2 : Int) (hp0 : 0 ≤ pe2) (hp1 : pe2 ≤ 499) (hp2 : 1 ≤ kd2) (hp3 : kd2 ≤ 4) : bodyP (En CRTh tys [] QOfs) Try.f131 [.k] [.agg [.int .i64 id, .int .i64 kd, .int .i64 ob, .sl false (.int .i64) of, .int .i64 ho, .int .i64 di, .int .i64 bo, .int .i64 go, .int .i64 hr, .int .i64 pe], .agg [.int .i64 id2, .int .i64 kd2, .int .i64 ob2, .sl false (.int .i64) of2, .int .i64 ho2, .int .i64 di2, .int .i64 bo2, .int .i64 go2, .int .i64 hr2, .int .i64 pe2]] (.b (mad kd ob pe kd2 ob2 pe2)) [] := by
 refine ⟨fun h0 => ?_, fun h0 => ?_⟩
 ·replace h0 : ob ≠ ob2 := h0
  exact ⟨rfl, rfl, congrArg V.b (propext (by unfold mad; constructor <;> intro h <;> (try split at h) <;> (try split) <;> first | rfl | omega | (exfalso; first | omega | exact Bool.noConfusion h))), rfl⟩
 ·replace h0 : ¬ (ob ≠ ob2) := h0
  refine ⟨fun h1 => ?_, fun h1 => ?_⟩
  ·replace h1 : kd = 4 := h1
   exact ⟨rfl, rfl, congrArg V.b (propext (by unfold mad; constructor <;> intro h <;> (try split at h) <;> (try split) <;> first | rfl | omega | (exfalso; first | omega | exact Bool.noConfusion h))), rfl⟩
  ·replace h1 : ¬ (kd = 4) := h1
   refine ⟨fun h2 => ?_, fun h2 => ?_⟩
   ·replace h2 : kd = 3 := h2
    refine ⟨fun h3 => ?_, fun h3 => ?_⟩
    ·replace h3 : kd2 = 3 := h3
     refine ⟨fun h4 => ?_, fun h4 => ?_⟩
     ·replace h4 : ¬ (pe = pe2) := h4
      refine ⟨⟨by show (-9223372036854775808 : Int) ≤ (pe2 + 1); omega, by show (pe2 + 1) ≤ (9223372036854775807 : Int); omega⟩, ?_⟩
      exact ⟨rfl, rfl, congrArg V.b (propext (by unfold mad; constructor <;> intro h <;> (try split at h) <;> (try split) <;> first | rfl | omega | (exfalso; first | omega | exact Bool.noConfusion h))), rfl⟩
     ·replace h4 : pe = pe2 := h4
      exact ⟨rfl, rfl, congrArg V.b (propext (by unfold mad; constructor <;> intro h <;> (try split at h) <;> (try split) <;> first | rfl | omega | (exfalso; first | omega | exact Bool.noConfusion h))), rfl⟩
    ·replace h3 : ¬ (kd2 = 3) := h3
     exact ⟨rfl, rfl, congrArg V.b (propext (by unfold mad; constructor <;> intro h <;> (try split at h) <;> (try split) <;> first | rfl | omega | (exfalso; first | omega | exact Bool.noConfusion h))), rfl⟩
   ·replace h2 : ¬ (kd = 3) := h2
    refine ⟨fun h5 => ?_, fun h5 => ?_⟩
    ·replace h5 : ¬ (kd2 = 1) := h5
     refine ⟨fun h6 => ?_, fun h6 => ?_⟩
     ·replace h6 : ¬ (kd2 = 2) := h6
      exact ⟨rfl, rfl, congrArg V.b (propext (by unfold mad; constructor <;> intro h <;> (try split at h) <;> (try split) <;> first | rfl | omega | (exfalso; first | omega | exact Bool.noConfusion h))), rfl⟩
     ·replace h6 : kd2 = 2 := h6
      exact ⟨rfl, rfl, congrArg V.b (propext (by unfold mad; constructor <;> intro h <;> (try split at h) <;> (try split) <;> first | rfl | omega | (exfalso; first | omega | exact Bool.noConfusion h))), rfl⟩
    ·replace h5 : kd2 = 1 := h5
     exact ⟨rfl, rfl, congrArg V.b (propext (by unfold mad; constructor <;> intro h <;> (try split at h) <;> (try split) <;> first | rfl | omega | (exfalso; first | omega | exact Bool.noConfusion h))), rfl⟩
def CRMd : List (Nat × Con) := (131, pureC [.v (.cons (.int .i64) (.cons (.int .i64) (.cons (.int .i64) (.cons (.sl (.int .i64)) (.cons (.int .i64) (.cons (.int .i64) (.cons (.int .i64) (.cons (.int .i64) (.cons (.int .i64) (.cons (.int .i64) .nil)))))))))), .v (.cons (.int .i64) (.cons (.int .i64) (.cons (.int .i64) (.cons (.sl (.int .i64)) (.cons (.int .i64) (.cons (.int .i64) (.cons (.int .i64) (.cons (.int .i64) (.cons (.int .i64) (.cons (.int .i64) .nil))))))))))] sRMd) :: CRTh
theorem kRMd : Known Try.prog (En CRMd tys [] QOfs) := kRTh.add Try.func131 Try.call131 [.k] fun ds p v bs h hp => by
  unfold sRMd at h
  split at h <;> simp only [Option.some.injEq, Prod.mk.injEq, reduceCtorEq] at h
  obtain ⟨rfl, rfl, rfl⟩ := h
  exact bRMd _ _ _ _ _ _ _ _ _ _ _ _ _ _ _ _ _ _ _ _ hp.1 hp.2.1 hp.2.2.1 hp.2.2.2
noncomputable def sRFm : List V → Option (Prop × V × List Blk)
  | [.agg [.int .i64 id, .int .i64 kd, .int .i64 ob, .sl false (.int .i64) of, .int .i64 ho, .int .i64 di, .int .i64 bo, .int .i64 go, .int .i64 hr, .int .i64 pe]] => some (of.length ≤ 1048576, .b (fmd id kd ob of ho di bo go hr pe), [])
  | _ => none
set_option maxHeartbeats 4000000 in
theorem bRFm (id : Int) (kd : Int) (ob : Int) (of : List Int) (ho : Int) (di : Int) (bo : Int) (go : Int) (hr : Int) (pe : Int) (hp0 : of.length ≤ 1048576) : bodyP (En CRMd tys [] QOfs) Try.f130 [.k] [.agg [.int .i64 id, .int .i64 kd, .int .i64 ob, .sl false (.int .i64) of, .int .i64 ho, .int .i64 di, .int .i64 bo, .int .i64 go, .int .i64 hr, .int .i64 pe]] (.b (fmd id kd ob of ho di bo go hr pe)) [] := by
 refine ⟨rfl, rfl, rfl, trivial, rfl, rfl, rfl, trivial, rfl, rfl, rfl, trivial, rfl, rfl, rfl, trivial, rfl, rfl, rfl, trivial, rfl, rfl, rfl, trivial, rfl, rfl, rfl, trivial, fun h0 => ?_, fun h0 => ?_⟩
 ·replace h0 : ¬ (¬ (1 ≤ id ∧ id ≤ 1099511627776)) := h0
  refine ⟨fun h1 => ?_, fun h1 => ?_⟩
  ·replace h1 : ¬ (¬ (1 ≤ kd ∧ kd ≤ 4)) := h1
   refine ⟨fun h2 => ?_, fun h2 => ?_⟩
   ·replace h2 : ¬ (¬ (0 ≤ ob ∧ ob ≤ 1048576)) := h2
    refine ⟨fun h3 => ?_, fun h3 => ?_⟩
    ·replace h3 : ¬ (¬ (0 ≤ ho ∧ ho ≤ 11)) := h3
     refine ⟨fun h4 => ?_, fun h4 => ?_⟩
     ·replace h4 : ¬ (¬ ((-1) ≤ di ∧ di ≤ 63)) := h4
      refine ⟨fun h5 => ?_, fun h5 => ?_⟩
      ·replace h5 : ¬ (¬ (0 ≤ bo ∧ bo ≤ 1000000)) := h5
       refine ⟨fun h6 => ?_, fun h6 => ?_⟩
       ·replace h6 : ¬ (bo ≤ go ∧ go ≤ 1000001) := h6
        exact ⟨rfl, rfl, congrArg V.b (propext (by unfold fmd; constructor <;> intro h <;> first | rfl | exact Bool.noConfusion h | exact ⟨hall, by omega⟩ | exact (upA_bad (k := j + 1) (by omega) (incB_no h8) h.1).elim | (exfalso; omega) | (have h2 := h.2; omega))), rfl⟩
       ·replace h6 : ¬ (¬ (bo ≤ go ∧ go ≤ 1000001)) := h6
        refine ⟨1, [(1, .k), (10, .k)], fun nM vs H => ∃ (j : Nat), j ≤ of.length ∧ upA (incB of) (j + 1) = true ∧ nM = of.length - j ∧ vs = [.ptr 0 1 0 0, .int .i64 ((j : Int) + 1)] ∧ H = [.cells [.int .i64 id, .int .i64 kd, .int .i64 ob, .sl false (.int .i64) of, .int .i64 ho, .int .i64 di, .int .i64 bo, .int .i64 go, .int .i64 hr, .int .i64 pe]], ⟨rfl, of.length, 0, by omega, upA_one of, by omega, rfl, rfl⟩, ?_⟩
        rintro nM vs H ⟨j, hc1_0, hc1_1, rfl, rfl, rfl⟩
        refine ⟨fun h7 => ?_, fun h7 => ?_⟩
        ·replace h7 : ((j : Int) + 1) < (of.length : Int) := h7
         have hj : j + 1 < of.length := by omega
         have e1 : ((j : Int) + 1).toNat = j + 1 := by omega
         have e2 : (((j : Int) + 1) - 1).toNat = j := by omega
         refine ⟨by kernel_rfl, ⟨by show (0 : Int) ≤ ((j : Int) + 1); omega, by show ((j : Int) + 1) < (of.length : Int); omega⟩, ⟨by show (-9223372036854775808 : Int) ≤ (((j : Int) + 1) - 1); omega, by show (((j : Int) + 1) - 1) ≤ (9223372036854775807 : Int); omega⟩, ⟨by show (0 : Int) ≤ (((j : Int) + 1) - 1); omega, by show (((j : Int) + 1) - 1) < (of.length : Int); omega⟩, fun h8 => ?_, fun h8 => ?_⟩
         ·replace h8 : (of.getD (((j : Int) + 1).toNat) 0) ≤ (of.getD ((((j : Int) + 1) - 1).toNat) 0) := h8
          rw [e1, e2] at h8
          exact ⟨rfl, rfl, congrArg V.b (propext (by unfold fmd; constructor <;> intro h <;> first | rfl | exact Bool.noConfusion h | exact ⟨hall, by omega⟩ | exact (upA_bad (k := j + 1) (by omega) (incB_no h8) h.1).elim | (exfalso; omega) | (have h2 := h.2; omega))), rfl⟩
         ·replace h8 : ¬ ((of.getD (((j : Int) + 1).toNat) 0) ≤ (of.getD ((((j : Int) + 1) - 1).toNat) 0)) := h8
          rw [e1, e2] at h8
          refine ⟨⟨by show (-9223372036854775808 : Int) ≤ (((j : Int) + 1) + 1); omega, by show (((j : Int) + 1) + 1) ≤ (9223372036854775807 : Int); omega⟩, ?_⟩
          exact ⟨rfl, of.length - (j + 1), by omega, j + 1, by omega, upA_next hc1_1 (incB_yes h8), rfl, rfl, rfl⟩
        ·replace h7 : ¬ (((j : Int) + 1) < (of.length : Int)) := h7
         have hall := upA_end hc1_1 (by omega)
         refine ⟨fun h9 => ?_, fun h9 => ?_⟩
         ·replace h9 : kd ≠ 3 := h9
          refine ⟨fun h10 => ?_, fun h10 => ?_⟩
          ·replace h10 : hr = (-1) := h10
           exact ⟨rfl, rfl, congrArg V.b (propext (by unfold fmd; constructor <;> intro h <;> first | rfl | exact Bool.noConfusion h | exact ⟨hall, by omega⟩ | exact (upA_bad (k := j + 1) (by omega) (incB_no h8) h.1).elim | (exfalso; omega) | (have h2 := h.2; omega))), rfl⟩
          ·replace h10 : ¬ (hr = (-1)) := h10
           exact ⟨rfl, rfl, congrArg V.b (propext (by unfold fmd; constructor <;> intro h <;> first | rfl | exact Bool.noConfusion h | exact ⟨hall, by omega⟩ | exact (upA_bad (k := j + 1) (by omega) (incB_no h8) h.1).elim | (exfalso; omega) | (have h2 := h.2; omega))), rfl⟩
         ·replace h9 : ¬ (kd ≠ 3) := h9
          refine ⟨rfl, rfl, rfl, trivial, rfl, rfl, rfl, trivial, fun h11 => ?_, fun h11 => ?_⟩
          ·replace h11 : (0 ≤ hr ∧ hr ≤ 11) := h11
           exact ⟨rfl, rfl, congrArg V.b (propext (by unfold fmd; constructor <;> intro h <;> first | rfl | exact Bool.noConfusion h | exact ⟨hall, by omega⟩ | exact (upA_bad (k := j + 1) (by omega) (incB_no h8) h.1).elim | (exfalso; omega) | (have h2 := h.2; omega))), rfl⟩
          ·replace h11 : ¬ (0 ≤ hr ∧ hr ≤ 11) := h11
           exact ⟨rfl, rfl, congrArg V.b (propext (by unfold fmd; constructor <;> intro h <;> first | rfl | exact Bool.noConfusion h | exact ⟨hall, by omega⟩ | exact (upA_bad (k := j + 1) (by omega) (incB_no h8) h.1).elim | (exfalso; omega) | (have h2 := h.2; omega))), rfl⟩
      ·replace h5 : ¬ (0 ≤ bo ∧ bo ≤ 1000000) := h5
       exact ⟨rfl, rfl, congrArg V.b (propext (by unfold fmd; constructor <;> intro h <;> first | rfl | exact Bool.noConfusion h | exact ⟨hall, by omega⟩ | exact (upA_bad (k := j + 1) (by omega) (incB_no h8) h.1).elim | (exfalso; omega) | (have h2 := h.2; omega))), rfl⟩
     ·replace h4 : ¬ ((-1) ≤ di ∧ di ≤ 63) := h4
      exact ⟨rfl, rfl, congrArg V.b (propext (by unfold fmd; constructor <;> intro h <;> first | rfl | exact Bool.noConfusion h | exact ⟨hall, by omega⟩ | exact (upA_bad (k := j + 1) (by omega) (incB_no h8) h.1).elim | (exfalso; omega) | (have h2 := h.2; omega))), rfl⟩
    ·replace h3 : ¬ (0 ≤ ho ∧ ho ≤ 11) := h3
     exact ⟨rfl, rfl, congrArg V.b (propext (by unfold fmd; constructor <;> intro h <;> first | rfl | exact Bool.noConfusion h | exact ⟨hall, by omega⟩ | exact (upA_bad (k := j + 1) (by omega) (incB_no h8) h.1).elim | (exfalso; omega) | (have h2 := h.2; omega))), rfl⟩
   ·replace h2 : ¬ (0 ≤ ob ∧ ob ≤ 1048576) := h2
    exact ⟨rfl, rfl, congrArg V.b (propext (by unfold fmd; constructor <;> intro h <;> first | rfl | exact Bool.noConfusion h | exact ⟨hall, by omega⟩ | exact (upA_bad (k := j + 1) (by omega) (incB_no h8) h.1).elim | (exfalso; omega) | (have h2 := h.2; omega))), rfl⟩
  ·replace h1 : ¬ (1 ≤ kd ∧ kd ≤ 4) := h1
   exact ⟨rfl, rfl, congrArg V.b (propext (by unfold fmd; constructor <;> intro h <;> first | rfl | exact Bool.noConfusion h | exact ⟨hall, by omega⟩ | exact (upA_bad (k := j + 1) (by omega) (incB_no h8) h.1).elim | (exfalso; omega) | (have h2 := h.2; omega))), rfl⟩
 ·replace h0 : ¬ (1 ≤ id ∧ id ≤ 1099511627776) := h0
  exact ⟨rfl, rfl, congrArg V.b (propext (by unfold fmd; constructor <;> intro h <;> first | rfl | exact Bool.noConfusion h | exact ⟨hall, by omega⟩ | exact (upA_bad (k := j + 1) (by omega) (incB_no h8) h.1).elim | (exfalso; omega) | (have h2 := h.2; omega))), rfl⟩
def CRFm : List (Nat × Con) := (130, pureC [.v (.cons (.int .i64) (.cons (.int .i64) (.cons (.int .i64) (.cons (.sl (.int .i64)) (.cons (.int .i64) (.cons (.int .i64) (.cons (.int .i64) (.cons (.int .i64) (.cons (.int .i64) (.cons (.int .i64) .nil))))))))))] sRFm) :: CRMd
theorem kRFm : Known Try.prog (En CRFm tys [] QOfs) := kRMd.add Try.func130 Try.call130 [.k] fun ds p v bs h hp => by
  unfold sRFm at h
  split at h <;> simp only [Option.some.injEq, Prod.mk.injEq, reduceCtorEq] at h
  obtain ⟨rfl, rfl, rfl⟩ := h
  exact bRFm _ _ _ _ _ _ _ _ _ _ hp
noncomputable def sRFd : List V → Option (Prop × V × List Blk)
  | [.sl false (.cons (.int .i64) (.cons (.int .i64) (.cons (.int .i64) (.cons (.sl (.int .i64)) (.cons (.int .i64) (.cons (.int .i64) (.cons (.int .i64) (.cons (.int .i64) (.cons (.int .i64) (.cons (.int .i64) .nil)))))))))) l, .int .i64 n, .int .i64 i] => some (0 ≤ n ∧ n ≤ (l.length : Int) ∧ l.length ≤ 1048576, .int .i64 (findL (l.take n.toNat) i), [])
  | _ => none
set_option maxHeartbeats 1000000 in
theorem bRFd (l : List (Int × (Int × (Int × (List Int × (Int × (Int × (Int × (Int × (Int × (Int × Unit))))))))))) (n : Int) (i : Int) (hp0 : 0 ≤ n) (hp1 : n ≤ (l.length : Int)) (hp2 : l.length ≤ 1048576) : bodyP (En CRFm tys [] QOfs) Try.f99 [.k] [.sl false (.cons (.int .i64) (.cons (.int .i64) (.cons (.int .i64) (.cons (.sl (.int .i64)) (.cons (.int .i64) (.cons (.int .i64) (.cons (.int .i64) (.cons (.int .i64) (.cons (.int .i64) (.cons (.int .i64) .nil)))))))))) l, .int .i64 n, .int .i64 i] (.int .i64 (findL (l.take n.toNat) i)) [] := by
 have hnl : (l.take n.toNat).length = n.toNat := by rw [List.length_take]; omega
 refine ⟨0, [(0, .k), (1, .k), (2, .k), (7, .k)], fun nM vs H => ∃ (k : Nat), k ≤ n.toNat ∧ ixP (fun a : (Int × (Int × (Int × (List Int × (Int × (Int × (Int × (Int × (Int × (Int × Unit)))))))))) => decide (a.1 = i)) ((l.take n.toNat).drop k) k = ixP (fun a : (Int × (Int × (Int × (List Int × (Int × (Int × (Int × (Int × (Int × (Int × Unit)))))))))) => decide (a.1 = i)) (l.take n.toNat) 0 ∧ nM = n.toNat - k ∧ vs = [.sl false (.cons (.int .i64) (.cons (.int .i64) (.cons (.int .i64) (.cons (.sl (.int .i64)) (.cons (.int .i64) (.cons (.int .i64) (.cons (.int .i64) (.cons (.int .i64) (.cons (.int .i64) (.cons (.int .i64) .nil)))))))))) l, .int .i64 n, .int .i64 i, .int .i64 (k : Int)] ∧ H = [], ⟨rfl, n.toNat, 0, by omega, rfl, by omega, rfl, rfl⟩, ?_⟩
 rintro nM vs H ⟨k, hc1_0, hc1_1, rfl, rfl, rfl⟩
 refine ⟨fun h0 => ?_, fun h0 => ?_⟩
 ·replace h0 : (k : Int) < n := h0
  have hk : k < n.toNat := by omega
  rw [drop_one d0 (l.take n.toNat) k (by omega), ixP, take_get d0 hk] at hc1_1
  refine ⟨⟨by show (0 : Int) ≤ (k : Int); omega, by show (k : Int) < (l.length : Int); omega⟩, fun h1 => ?_, fun h1 => ?_⟩
  ·replace h1 : (l.getD k d0).1 = i := h1
   rw [if_pos (decide_eq_true h1)] at hc1_1
   have e : findL (l.take n.toNat) i = _ := hc1_1.symm
   rw [e]
   exact ⟨rfl, rfl, rfl, rfl⟩
  ·replace h1 : ¬ ((l.getD k d0).1 = i) := h1
   rw [if_neg (by simpa using h1)] at hc1_1
   refine ⟨⟨by show (-9223372036854775808 : Int) ≤ ((k : Int) + 1); omega, by show ((k : Int) + 1) ≤ (9223372036854775807 : Int); omega⟩, ?_⟩
   exact ⟨rfl, n.toNat - (k + 1), by omega, k + 1, by omega, hc1_1, rfl, rfl, rfl⟩
 ·replace h0 : ¬ ((k : Int) < n) := h0
  rw [List.drop_eq_nil_of_le (by omega), ixP] at hc1_1
  have e : findL (l.take n.toNat) i = _ := hc1_1.symm
  rw [e]
  exact ⟨rfl, rfl, rfl, rfl⟩
def CRFd : List (Nat × Con) := (99, pureC [.v (.sl (.cons (.int .i64) (.cons (.int .i64) (.cons (.int .i64) (.cons (.sl (.int .i64)) (.cons (.int .i64) (.cons (.int .i64) (.cons (.int .i64) (.cons (.int .i64) (.cons (.int .i64) (.cons (.int .i64) .nil))))))))))), .v (.int .i64), .v (.int .i64)] sRFd) :: CRFm
theorem kRFd : Known Try.prog (En CRFd tys [] QOfs) := kRFm.add Try.func99 Try.call99 [.k] fun ds p v bs h hp => by
  unfold sRFd at h
  split at h <;> simp only [Option.some.injEq, Prod.mk.injEq, reduceCtorEq] at h
  obtain ⟨rfl, rfl, rfl⟩ := h
  exact bRFd _ _ _ hp.1 hp.2.1 hp.2.2
noncomputable def sROn : List V → Option (Prop × V × List Blk)
  | [.sl false (.cons (.int .i64) (.cons (.int .i64) (.cons (.int .i64) (.cons (.sl (.int .i64)) (.cons (.int .i64) (.cons (.int .i64) (.cons (.int .i64) (.cons (.int .i64) (.cons (.int .i64) (.cons (.int .i64) .nil)))))))))) l, .int .i64 k] => some (0 ≤ k ∧ k < (l.length : Int) ∧ l.length ≤ 1048576 ∧ (∀ a ∈ l, a.2.2.2.1.length ≤ 1048576) ∧ upE l k.toNat = 0, .int .i64 (oneE l k.toNat), [])
  | _ => none
set_option maxHeartbeats 4000000 in
theorem bROn (l : List (Int × (Int × (Int × (List Int × (Int × (Int × (Int × (Int × (Int × (Int × Unit))))))))))) (k : Int) (hp0 : 0 ≤ k) (hp1 : k < (l.length : Int)) (hp2 : l.length ≤ 1048576) (hp3 : (∀ a ∈ l, a.2.2.2.1.length ≤ 1048576)) (hp4 : upE l k.toNat = 0) : bodyP (En CRFd tys [] QOfs) Try.f113 [.k] [.sl false (.cons (.int .i64) (.cons (.int .i64) (.cons (.int .i64) (.cons (.sl (.int .i64)) (.cons (.int .i64) (.cons (.int .i64) (.cons (.int .i64) (.cons (.int .i64) (.cons (.int .i64) (.cons (.int .i64) .nil)))))))))) l, .int .i64 k] (.int .i64 (oneE l k.toNat)) [] := by
 have hof := hp3 _ (getD_mem d0 l k.toNat (by omega))
 have hmx : (max 0 (k - 1)).toNat = k.toNat - 1 := by omega
 refine ⟨⟨by show (0 : Int) ≤ k; omega, by show k < (l.length : Int); omega⟩, ⟨rfl, rfl, rfl, Nat.le_of_ble_eq_true rfl⟩, rfl, rfl, rfl, rfl, rfl, rfl, rfl, rfl, rfl, by show (l.getD k.toNat d0).2.2.2.1.length ≤ 1048576; first | omega | assumption, fun h0 => ?_, fun h0 => ?_⟩
 ·replace h0 : ¬ (fmd (l.getD k.toNat d0).1 (l.getD k.toNat d0).2.1 (l.getD k.toNat d0).2.2.1 (l.getD k.toNat d0).2.2.2.1 (l.getD k.toNat d0).2.2.2.2.1 (l.getD k.toNat d0).2.2.2.2.2.1 (l.getD k.toNat d0).2.2.2.2.2.2.1 (l.getD k.toNat d0).2.2.2.2.2.2.2.1 (l.getD k.toNat d0).2.2.2.2.2.2.2.2.1 (l.getD k.toNat d0).2.2.2.2.2.2.2.2.2.1) := h0
  have e1 : oneE l k.toNat = 3 := by unfold oneE; rw [if_pos (show ¬ fmdA (l.getD k.toNat d0) from h0)]
  rw [e1]
  exact ⟨rfl, rfl, rfl, rfl⟩
 ·replace h0 : ¬ (¬ (fmd (l.getD k.toNat d0).1 (l.getD k.toNat d0).2.1 (l.getD k.toNat d0).2.2.1 (l.getD k.toNat d0).2.2.2.1 (l.getD k.toNat d0).2.2.2.2.1 (l.getD k.toNat d0).2.2.2.2.2.1 (l.getD k.toNat d0).2.2.2.2.2.2.1 (l.getD k.toNat d0).2.2.2.2.2.2.2.1 (l.getD k.toNat d0).2.2.2.2.2.2.2.2.1 (l.getD k.toNat d0).2.2.2.2.2.2.2.2.2.1)) := h0
  have hfm : fmdA (l.getD k.toNat d0) := Classical.not_not.1 h0
  refine ⟨by kernel_rfl, fun h1 => ?_, fun h1 => ?_⟩
  ·replace h1 : 0 < k := h1
   refine ⟨fun h2 => ?_, fun h2 => absurd (show 0 < k by first | omega | assumption | simp_all) h2⟩
   refine ⟨fun h3 => ?_, fun h3 => absurd (show 0 < k by first | omega | assumption | simp_all) h3⟩
   refine ⟨fun h4 => ?_, fun h4 => absurd (show 0 < k by first | omega | assumption | simp_all) h4⟩
   refine ⟨fun h5 => ?_, fun h5 => absurd (show 0 < k by first | omega | assumption | simp_all) h5⟩
   refine ⟨⟨by show (-9223372036854775808 : Int) ≤ (k - 1); omega, by show (k - 1) ≤ (9223372036854775807 : Int); omega⟩, fun h6 => ?_, fun h6 => absurd (show 0 < k by first | omega | assumption | simp_all) h6⟩
   refine ⟨fun h7 => ?_, fun h7 => absurd (show 0 < k by first | omega | assumption | simp_all) h7⟩
   refine ⟨⟨by show (0 : Int) ≤ max 0 (k - 1); omega, by show max 0 (k - 1) < (l.length : Int); omega⟩, fun h8 => ?_, fun h8 => absurd (show 0 < k by first | omega | assumption | simp_all) h8⟩
   refine ⟨fun h9 => ?_, fun h9 => absurd (show 0 < k by first | omega | assumption | simp_all) h9⟩
   refine ⟨fun h10 => ?_, fun h10 => absurd (show 0 < k by first | omega | assumption | simp_all) h10⟩
   refine ⟨fun h11 => ?_, fun h11 => absurd (show 0 < k by first | omega | assumption | simp_all) h11⟩
   refine ⟨fun h12 => ?_, fun h12 => ?_⟩
   ·replace h12 : (l.getD k.toNat d0).1 ≤ (l.getD ((max 0 (k - 1)).toNat) d0).1 := h12
    rw [hmx] at h12
    have e1 : oneE l k.toNat = 9 := by unfold oneE; rw [if_neg (fun g => g hfm), if_pos ⟨by omega, h12⟩]
    rw [e1]
    exact ⟨rfl, rfl, rfl, rfl⟩
   ·replace h12 : ¬ ((l.getD k.toNat d0).1 ≤ (l.getD ((max 0 (k - 1)).toNat) d0).1) := h12
    rw [hmx] at h12
    have hord : ¬ (0 < k.toNat ∧ (l.getD k.toNat d0).1 ≤ (l.getD (k.toNat - 1) d0).1) := fun g => h12 g.2
    refine ⟨1, [(0, .k), (1, .k), (5, .k), (7, .k)], fun nM vs H => ∃ (j : Nat), j ≤ (l.getD k.toNat d0).2.2.2.1.length ∧ (∀ i ∈ (l.getD k.toNat d0).2.2.2.1.take j, ¬ findL (l.take k.toNat) i < 0) ∧ nM = (l.getD k.toNat d0).2.2.2.1.length - j ∧ vs = [.sl false (.cons (.int .i64) (.cons (.int .i64) (.cons (.int .i64) (.cons (.sl (.int .i64)) (.cons (.int .i64) (.cons (.int .i64) (.cons (.int .i64) (.cons (.int .i64) (.cons (.int .i64) (.cons (.int .i64) .nil)))))))))) l, .int .i64 k, .ptr 0 1 0 0, .int .i64 (j : Int)] ∧ H = [.cells [.int .i64 (l.getD k.toNat d0).1, .int .i64 (l.getD k.toNat d0).2.1, .int .i64 (l.getD k.toNat d0).2.2.1, .sl false (.int .i64) (l.getD k.toNat d0).2.2.2.1, .int .i64 (l.getD k.toNat d0).2.2.2.2.1, .int .i64 (l.getD k.toNat d0).2.2.2.2.2.1, .int .i64 (l.getD k.toNat d0).2.2.2.2.2.2.1, .int .i64 (l.getD k.toNat d0).2.2.2.2.2.2.2.1, .int .i64 (l.getD k.toNat d0).2.2.2.2.2.2.2.2.1, .int .i64 (l.getD k.toNat d0).2.2.2.2.2.2.2.2.2.1]], ⟨rfl, (l.getD k.toNat d0).2.2.2.1.length, 0, by omega, by simp, by omega, rfl, rfl⟩, ?_⟩
    rintro nM vs H ⟨j, hc1_0, hc1_1, rfl, rfl, rfl⟩
    refine ⟨fun h13 => ?_, fun h13 => ?_⟩
    ·replace h13 : (j : Int) < (((l.getD k.toNat d0).2.2.2.1.length : Nat) : Int) := h13
     have hj : j < (l.getD k.toNat d0).2.2.2.1.length := by omega
     refine ⟨⟨by show (0 : Int) ≤ (j : Int); omega, by show (j : Int) < ((l.getD k.toNat d0).2.2.2.1.length : Int); omega⟩, rfl, rfl, ⟨by show 0 ≤ k; first | omega | assumption, by show k ≤ (l.length : Int); first | omega | assumption, by show l.length ≤ 1048576; first | omega | assumption⟩, fun h14 => ?_, fun h14 => ?_⟩
     ·replace h14 : (findL (l.take k.toNat) ((l.getD k.toNat d0).2.2.2.1.getD j 0)) < 0 := h14
      have e1 : oneE l k.toNat = 8 := by unfold oneE; rw [if_neg (fun g => g hfm), if_neg hord, if_pos ⟨((l.getD k.toNat d0).2.2.2.1.getD j 0), getD_mem 0 _ j hj, h14⟩]
      rw [e1]
      exact ⟨rfl, rfl, rfl, rfl⟩
     ·replace h14 : ¬ ((findL (l.take k.toNat) ((l.getD k.toNat d0).2.2.2.1.getD j 0)) < 0) := h14
      refine ⟨⟨by show (-9223372036854775808 : Int) ≤ ((j : Int) + 1); omega, by show ((j : Int) + 1) ≤ (9223372036854775807 : Int); omega⟩, ?_⟩
      exact ⟨rfl, (l.getD k.toNat d0).2.2.2.1.length - (j + 1), by omega, j + 1, by omega, all_next (p := fun i => ¬ findL (l.take k.toNat) i < 0) hj (by assumption) (by assumption), rfl, rfl, rfl⟩
    ·replace h13 : ¬ ((j : Int) < (((l.getD k.toNat d0).2.2.2.1.length : Nat) : Int)) := h13
     have hall : ∀ i ∈ (l.getD k.toNat d0).2.2.2.1, ¬ findL (l.take k.toNat) i < 0 := fun i hi => hc1_1 i (by rw [List.take_of_length_le (by omega)]; exact hi)
     refine ⟨1, [(0, .k), (1, .k), (5, .k), (9, .k)], fun nM vs H => ∃ (j : Nat), j ≤ (l.getD k.toNat d0).2.2.2.1.length ∧ ofE l (l.getD k.toNat d0) ((l.getD k.toNat d0).2.2.2.1.drop j) = ofE l (l.getD k.toNat d0) (l.getD k.toNat d0).2.2.2.1 ∧ nM = (l.getD k.toNat d0).2.2.2.1.length - j ∧ vs = [.sl false (.cons (.int .i64) (.cons (.int .i64) (.cons (.int .i64) (.cons (.sl (.int .i64)) (.cons (.int .i64) (.cons (.int .i64) (.cons (.int .i64) (.cons (.int .i64) (.cons (.int .i64) (.cons (.int .i64) .nil)))))))))) l, .int .i64 k, .ptr 0 1 0 0, .int .i64 (j : Int)] ∧ H = [.cells [.int .i64 (l.getD k.toNat d0).1, .int .i64 (l.getD k.toNat d0).2.1, .int .i64 (l.getD k.toNat d0).2.2.1, .sl false (.int .i64) (l.getD k.toNat d0).2.2.2.1, .int .i64 (l.getD k.toNat d0).2.2.2.2.1, .int .i64 (l.getD k.toNat d0).2.2.2.2.2.1, .int .i64 (l.getD k.toNat d0).2.2.2.2.2.2.1, .int .i64 (l.getD k.toNat d0).2.2.2.2.2.2.2.1, .int .i64 (l.getD k.toNat d0).2.2.2.2.2.2.2.2.1, .int .i64 (l.getD k.toNat d0).2.2.2.2.2.2.2.2.2.1]], ⟨rfl, (l.getD k.toNat d0).2.2.2.1.length, 0, by omega, rfl, by omega, rfl, rfl⟩, ?_⟩
     rintro nM vs H ⟨j, hc2_0, hc2_1, rfl, rfl, rfl⟩
     refine ⟨fun h15 => ?_, fun h15 => ?_⟩
     ·replace h15 : (j : Int) < (((l.getD k.toNat d0).2.2.2.1.length : Nat) : Int) := h15
      have hj : j < (l.getD k.toNat d0).2.2.2.1.length := by omega
      obtain ⟨f0, f1, f2⟩ := find_eq (hall _ (getD_mem 0 _ j hj))
      have hfm2 := upE_fmd hp4 (show (findL (l.take k.toNat) ((l.getD k.toNat d0).2.2.2.1.getD j 0)).toNat < k.toNat by omega)
      have hpe2 := fmd_pe hfm2
      rw [drop_one 0 _ j hj, ofE, ← f0] at hc2_1
      refine ⟨⟨by show (0 : Int) ≤ (j : Int); omega, by show (j : Int) < ((l.getD k.toNat d0).2.2.2.1.length : Int); omega⟩, rfl, rfl, ⟨by show 0 ≤ k; first | omega | assumption, by show k ≤ (l.length : Int); first | omega | assumption, by show l.length ≤ 1048576; first | omega | assumption⟩, ⟨by show (0 : Int) ≤ findL (l.take k.toNat) ((l.getD k.toNat d0).2.2.2.1.getD j 0); omega, by show findL (l.take k.toNat) ((l.getD k.toNat d0).2.2.2.1.getD j 0) < (l.length : Int); omega⟩, ⟨rfl, rfl, rfl, Nat.le_of_ble_eq_true rfl⟩, rfl, rfl, rfl, rfl, rfl, rfl, rfl, rfl, rfl, rfl, rfl, rfl, rfl, rfl, rfl, rfl, rfl, rfl, ⟨by show 0 ≤ (l.getD ((findL (l.take k.toNat) ((l.getD k.toNat d0).2.2.2.1.getD j 0)).toNat) d0).2.2.2.2.2.2.2.2.2.1; first | omega | assumption | (simp only [List.length_cons, List.length_nil, List.length_append, List.length_take, List.length_drop, List.length_set, List.length_replicate]; omega), by show (l.getD ((findL (l.take k.toNat) ((l.getD k.toNat d0).2.2.2.1.getD j 0)).toNat) d0).2.2.2.2.2.2.2.2.2.1 ≤ 499; first | omega | assumption | (simp only [List.length_cons, List.length_nil, List.length_append, List.length_take, List.length_drop, List.length_set, List.length_replicate]; omega), by show 1 ≤ (l.getD ((findL (l.take k.toNat) ((l.getD k.toNat d0).2.2.2.1.getD j 0)).toNat) d0).2.1; first | omega | assumption | (simp only [List.length_cons, List.length_nil, List.length_append, List.length_take, List.length_drop, List.length_set, List.length_replicate]; omega), by show (l.getD ((findL (l.take k.toNat) ((l.getD k.toNat d0).2.2.2.1.getD j 0)).toNat) d0).2.1 ≤ 4; first | omega | assumption | (simp only [List.length_cons, List.length_nil, List.length_append, List.length_take, List.length_drop, List.length_set, List.length_replicate]; omega)⟩, rfl, rfl, rfl, rfl, rfl, rfl, rfl, rfl, rfl, rfl, trivial, fun h16 => ?_, fun h16 => ?_⟩
      ·replace h16 : ¬ (mad (l.getD k.toNat d0).2.1 (l.getD k.toNat d0).2.2.1 (l.getD k.toNat d0).2.2.2.2.2.2.2.2.2.1 (l.getD ((findL (l.take k.toNat) ((l.getD k.toNat d0).2.2.2.1.getD j 0)).toNat) d0).2.1 (l.getD ((findL (l.take k.toNat) ((l.getD k.toNat d0).2.2.2.1.getD j 0)).toNat) d0).2.2.1 (l.getD ((findL (l.take k.toNat) ((l.getD k.toNat d0).2.2.2.1.getD j 0)).toNat) d0).2.2.2.2.2.2.2.2.2.1) := h16
       rw [if_pos (show ¬ madA (l.getD k.toNat d0) (l.getD (findL (l.take k.toNat) ((l.getD k.toNat d0).2.2.2.1.getD j 0)).toNat d0) from h16)] at hc2_1
       have e1 : oneE l k.toNat = 7 := by unfold oneE; rw [if_neg (fun g => g hfm), if_neg hord, if_neg (fun ⟨i, hi, g⟩ => hall i hi g)]; rw [← hc2_1]
       rw [e1]
       exact ⟨rfl, rfl, rfl, rfl⟩
      ·replace h16 : ¬ (¬ (mad (l.getD k.toNat d0).2.1 (l.getD k.toNat d0).2.2.1 (l.getD k.toNat d0).2.2.2.2.2.2.2.2.2.1 (l.getD ((findL (l.take k.toNat) ((l.getD k.toNat d0).2.2.2.1.getD j 0)).toNat) d0).2.1 (l.getD ((findL (l.take k.toNat) ((l.getD k.toNat d0).2.2.2.1.getD j 0)).toNat) d0).2.2.1 (l.getD ((findL (l.take k.toNat) ((l.getD k.toNat d0).2.2.2.1.getD j 0)).toNat) d0).2.2.2.2.2.2.2.2.2.1)) := h16
       rw [if_neg (show ¬ ¬ madA (l.getD k.toNat d0) (l.getD (findL (l.take k.toNat) ((l.getD k.toNat d0).2.2.2.1.getD j 0)).toNat d0) from h16)] at hc2_1
       refine ⟨fun h17 => ?_, fun h17 => ?_⟩
       ·replace h17 : ¬ ((l.getD ((findL (l.take k.toNat) ((l.getD k.toNat d0).2.2.2.1.getD j 0)).toNat) d0).2.2.2.2.2.2.1 ≤ (l.getD k.toNat d0).2.2.2.2.2.2.1 ∧ (l.getD k.toNat d0).2.2.2.2.2.2.1 < (l.getD ((findL (l.take k.toNat) ((l.getD k.toNat d0).2.2.2.1.getD j 0)).toNat) d0).2.2.2.2.2.2.2.1) := h17
        rw [if_pos (show ¬ thr (l.getD (findL (l.take k.toNat) ((l.getD k.toNat d0).2.2.2.1.getD j 0)).toNat d0) (l.getD k.toNat d0).2.2.2.2.2.2.1 from h17)] at hc2_1
        have e1 : oneE l k.toNat = 4 := by unfold oneE; rw [if_neg (fun g => g hfm), if_neg hord, if_neg (fun ⟨i, hi, g⟩ => hall i hi g)]; rw [← hc2_1]
        rw [e1]
        exact ⟨rfl, rfl, rfl, rfl⟩
       ·replace h17 : ¬ (¬ ((l.getD ((findL (l.take k.toNat) ((l.getD k.toNat d0).2.2.2.1.getD j 0)).toNat) d0).2.2.2.2.2.2.1 ≤ (l.getD k.toNat d0).2.2.2.2.2.2.1 ∧ (l.getD k.toNat d0).2.2.2.2.2.2.1 < (l.getD ((findL (l.take k.toNat) ((l.getD k.toNat d0).2.2.2.1.getD j 0)).toNat) d0).2.2.2.2.2.2.2.1)) := h17
        rw [if_neg (show ¬ ¬ thr (l.getD (findL (l.take k.toNat) ((l.getD k.toNat d0).2.2.2.1.getD j 0)).toNat d0) (l.getD k.toNat d0).2.2.2.2.2.2.1 from h17)] at hc2_1
        refine ⟨⟨by show (-9223372036854775808 : Int) ≤ ((j : Int) + 1); omega, by show ((j : Int) + 1) ≤ (9223372036854775807 : Int); omega⟩, ?_⟩
        exact ⟨rfl, (l.getD k.toNat d0).2.2.2.1.length - (j + 1), by omega, j + 1, by omega, by assumption, rfl, rfl, rfl⟩
     ·replace h15 : ¬ ((j : Int) < (((l.getD k.toNat d0).2.2.2.1.length : Nat) : Int)) := h15
      have e1 : oneE l k.toNat = 0 := by unfold oneE; rw [if_neg (fun g => g hfm), if_neg hord, if_neg (fun ⟨i, hi, g⟩ => hall i hi g)]; rw [← hc2_1, List.drop_eq_nil_of_le (by omega), ofE]
      rw [e1]
      exact ⟨rfl, rfl, rfl, rfl⟩
  ·replace h1 : ¬ (0 < k) := h1
   have hord : ¬ (0 < k.toNat ∧ (l.getD k.toNat d0).1 ≤ (l.getD (k.toNat - 1) d0).1) := fun g => by omega
   refine ⟨fun h18 => absurd h18 (show ¬ (0 < k) by first | omega | assumption | simp_all), fun h18 => ?_⟩
   refine ⟨fun h19 => absurd h19 (show ¬ (0 < k) by first | omega | assumption | simp_all), fun h19 => ?_⟩
   refine ⟨fun h20 => absurd h20 (show ¬ (0 < k) by first | omega | assumption | simp_all), fun h20 => ?_⟩
   refine ⟨fun h21 => absurd h21 (show ¬ (0 < k) by first | omega | assumption | simp_all), fun h21 => ?_⟩
   refine ⟨fun h22 => absurd h22 (show ¬ (0 < k) by first | omega | assumption | simp_all), fun h22 => ?_⟩
   refine ⟨fun h23 => absurd h23 (show ¬ (0 < k) by first | omega | assumption | simp_all), fun h23 => ?_⟩
   refine ⟨fun h24 => absurd h24 (show ¬ (0 < k) by first | omega | assumption | simp_all), fun h24 => ?_⟩
   refine ⟨fun h25 => absurd h25 (show ¬ (0 < k) by first | omega | assumption | simp_all), fun h25 => ?_⟩
   refine ⟨fun h26 => absurd h26 (show ¬ (0 < k) by first | omega | assumption | simp_all), fun h26 => ?_⟩
   refine ⟨fun h27 => absurd h27 (show ¬ (0 < k) by first | omega | assumption | simp_all), fun h27 => ?_⟩
   refine ⟨1, [(0, .k), (1, .k), (5, .k), (7, .k)], fun nM vs H => ∃ (j : Nat), j ≤ (l.getD k.toNat d0).2.2.2.1.length ∧ (∀ i ∈ (l.getD k.toNat d0).2.2.2.1.take j, ¬ findL (l.take k.toNat) i < 0) ∧ nM = (l.getD k.toNat d0).2.2.2.1.length - j ∧ vs = [.sl false (.cons (.int .i64) (.cons (.int .i64) (.cons (.int .i64) (.cons (.sl (.int .i64)) (.cons (.int .i64) (.cons (.int .i64) (.cons (.int .i64) (.cons (.int .i64) (.cons (.int .i64) (.cons (.int .i64) .nil)))))))))) l, .int .i64 k, .ptr 0 1 0 0, .int .i64 (j : Int)] ∧ H = [.cells [.int .i64 (l.getD k.toNat d0).1, .int .i64 (l.getD k.toNat d0).2.1, .int .i64 (l.getD k.toNat d0).2.2.1, .sl false (.int .i64) (l.getD k.toNat d0).2.2.2.1, .int .i64 (l.getD k.toNat d0).2.2.2.2.1, .int .i64 (l.getD k.toNat d0).2.2.2.2.2.1, .int .i64 (l.getD k.toNat d0).2.2.2.2.2.2.1, .int .i64 (l.getD k.toNat d0).2.2.2.2.2.2.2.1, .int .i64 (l.getD k.toNat d0).2.2.2.2.2.2.2.2.1, .int .i64 (l.getD k.toNat d0).2.2.2.2.2.2.2.2.2.1]], ⟨rfl, (l.getD k.toNat d0).2.2.2.1.length, 0, by omega, by simp, by omega, rfl, rfl⟩, ?_⟩
   rintro nM vs H ⟨j, hc3_0, hc3_1, rfl, rfl, rfl⟩
   refine ⟨fun h28 => ?_, fun h28 => ?_⟩
   ·replace h28 : (j : Int) < (((l.getD k.toNat d0).2.2.2.1.length : Nat) : Int) := h28
    have hj : j < (l.getD k.toNat d0).2.2.2.1.length := by omega
    refine ⟨⟨by show (0 : Int) ≤ (j : Int); omega, by show (j : Int) < ((l.getD k.toNat d0).2.2.2.1.length : Int); omega⟩, rfl, rfl, ⟨by show 0 ≤ k; first | omega | assumption, by show k ≤ (l.length : Int); first | omega | assumption, by show l.length ≤ 1048576; first | omega | assumption⟩, fun h29 => ?_, fun h29 => ?_⟩
    ·replace h29 : (findL (l.take k.toNat) ((l.getD k.toNat d0).2.2.2.1.getD j 0)) < 0 := h29
     have e1 : oneE l k.toNat = 8 := by unfold oneE; rw [if_neg (fun g => g hfm), if_neg hord, if_pos ⟨((l.getD k.toNat d0).2.2.2.1.getD j 0), getD_mem 0 _ j hj, h29⟩]
     rw [e1]
     exact ⟨rfl, rfl, rfl, rfl⟩
    ·replace h29 : ¬ ((findL (l.take k.toNat) ((l.getD k.toNat d0).2.2.2.1.getD j 0)) < 0) := h29
     refine ⟨⟨by show (-9223372036854775808 : Int) ≤ ((j : Int) + 1); omega, by show ((j : Int) + 1) ≤ (9223372036854775807 : Int); omega⟩, ?_⟩
     exact ⟨rfl, (l.getD k.toNat d0).2.2.2.1.length - (j + 1), by omega, j + 1, by omega, all_next (p := fun i => ¬ findL (l.take k.toNat) i < 0) hj (by assumption) (by assumption), rfl, rfl, rfl⟩
   ·replace h28 : ¬ ((j : Int) < (((l.getD k.toNat d0).2.2.2.1.length : Nat) : Int)) := h28
    have hall : ∀ i ∈ (l.getD k.toNat d0).2.2.2.1, ¬ findL (l.take k.toNat) i < 0 := fun i hi => hc3_1 i (by rw [List.take_of_length_le (by omega)]; exact hi)
    refine ⟨1, [(0, .k), (1, .k), (5, .k), (9, .k)], fun nM vs H => ∃ (j : Nat), j ≤ (l.getD k.toNat d0).2.2.2.1.length ∧ ofE l (l.getD k.toNat d0) ((l.getD k.toNat d0).2.2.2.1.drop j) = ofE l (l.getD k.toNat d0) (l.getD k.toNat d0).2.2.2.1 ∧ nM = (l.getD k.toNat d0).2.2.2.1.length - j ∧ vs = [.sl false (.cons (.int .i64) (.cons (.int .i64) (.cons (.int .i64) (.cons (.sl (.int .i64)) (.cons (.int .i64) (.cons (.int .i64) (.cons (.int .i64) (.cons (.int .i64) (.cons (.int .i64) (.cons (.int .i64) .nil)))))))))) l, .int .i64 k, .ptr 0 1 0 0, .int .i64 (j : Int)] ∧ H = [.cells [.int .i64 (l.getD k.toNat d0).1, .int .i64 (l.getD k.toNat d0).2.1, .int .i64 (l.getD k.toNat d0).2.2.1, .sl false (.int .i64) (l.getD k.toNat d0).2.2.2.1, .int .i64 (l.getD k.toNat d0).2.2.2.2.1, .int .i64 (l.getD k.toNat d0).2.2.2.2.2.1, .int .i64 (l.getD k.toNat d0).2.2.2.2.2.2.1, .int .i64 (l.getD k.toNat d0).2.2.2.2.2.2.2.1, .int .i64 (l.getD k.toNat d0).2.2.2.2.2.2.2.2.1, .int .i64 (l.getD k.toNat d0).2.2.2.2.2.2.2.2.2.1]], ⟨rfl, (l.getD k.toNat d0).2.2.2.1.length, 0, by omega, rfl, by omega, rfl, rfl⟩, ?_⟩
    rintro nM vs H ⟨j, hc4_0, hc4_1, rfl, rfl, rfl⟩
    refine ⟨fun h30 => ?_, fun h30 => ?_⟩
    ·replace h30 : (j : Int) < (((l.getD k.toNat d0).2.2.2.1.length : Nat) : Int) := h30
     have hj : j < (l.getD k.toNat d0).2.2.2.1.length := by omega
     obtain ⟨f0, f1, f2⟩ := find_eq (hall _ (getD_mem 0 _ j hj))
     have hfm2 := upE_fmd hp4 (show (findL (l.take k.toNat) ((l.getD k.toNat d0).2.2.2.1.getD j 0)).toNat < k.toNat by omega)
     have hpe2 := fmd_pe hfm2
     rw [drop_one 0 _ j hj, ofE, ← f0] at hc4_1
     refine ⟨⟨by show (0 : Int) ≤ (j : Int); omega, by show (j : Int) < ((l.getD k.toNat d0).2.2.2.1.length : Int); omega⟩, rfl, rfl, ⟨by show 0 ≤ k; first | omega | assumption, by show k ≤ (l.length : Int); first | omega | assumption, by show l.length ≤ 1048576; first | omega | assumption⟩, ⟨by show (0 : Int) ≤ findL (l.take k.toNat) ((l.getD k.toNat d0).2.2.2.1.getD j 0); omega, by show findL (l.take k.toNat) ((l.getD k.toNat d0).2.2.2.1.getD j 0) < (l.length : Int); omega⟩, ⟨rfl, rfl, rfl, Nat.le_of_ble_eq_true rfl⟩, rfl, rfl, rfl, rfl, rfl, rfl, rfl, rfl, rfl, rfl, rfl, rfl, rfl, rfl, rfl, rfl, rfl, rfl, ⟨by show 0 ≤ (l.getD ((findL (l.take k.toNat) ((l.getD k.toNat d0).2.2.2.1.getD j 0)).toNat) d0).2.2.2.2.2.2.2.2.2.1; first | omega | assumption | (simp only [List.length_cons, List.length_nil, List.length_append, List.length_take, List.length_drop, List.length_set, List.length_replicate]; omega), by show (l.getD ((findL (l.take k.toNat) ((l.getD k.toNat d0).2.2.2.1.getD j 0)).toNat) d0).2.2.2.2.2.2.2.2.2.1 ≤ 499; first | omega | assumption | (simp only [List.length_cons, List.length_nil, List.length_append, List.length_take, List.length_drop, List.length_set, List.length_replicate]; omega), by show 1 ≤ (l.getD ((findL (l.take k.toNat) ((l.getD k.toNat d0).2.2.2.1.getD j 0)).toNat) d0).2.1; first | omega | assumption | (simp only [List.length_cons, List.length_nil, List.length_append, List.length_take, List.length_drop, List.length_set, List.length_replicate]; omega), by show (l.getD ((findL (l.take k.toNat) ((l.getD k.toNat d0).2.2.2.1.getD j 0)).toNat) d0).2.1 ≤ 4; first | omega | assumption | (simp only [List.length_cons, List.length_nil, List.length_append, List.length_take, List.length_drop, List.length_set, List.length_replicate]; omega)⟩, rfl, rfl, rfl, rfl, rfl, rfl, rfl, rfl, rfl, rfl, trivial, fun h31 => ?_, fun h31 => ?_⟩
     ·replace h31 : ¬ (mad (l.getD k.toNat d0).2.1 (l.getD k.toNat d0).2.2.1 (l.getD k.toNat d0).2.2.2.2.2.2.2.2.2.1 (l.getD ((findL (l.take k.toNat) ((l.getD k.toNat d0).2.2.2.1.getD j 0)).toNat) d0).2.1 (l.getD ((findL (l.take k.toNat) ((l.getD k.toNat d0).2.2.2.1.getD j 0)).toNat) d0).2.2.1 (l.getD ((findL (l.take k.toNat) ((l.getD k.toNat d0).2.2.2.1.getD j 0)).toNat) d0).2.2.2.2.2.2.2.2.2.1) := h31
      rw [if_pos (show ¬ madA (l.getD k.toNat d0) (l.getD (findL (l.take k.toNat) ((l.getD k.toNat d0).2.2.2.1.getD j 0)).toNat d0) from h31)] at hc4_1
      have e1 : oneE l k.toNat = 7 := by unfold oneE; rw [if_neg (fun g => g hfm), if_neg hord, if_neg (fun ⟨i, hi, g⟩ => hall i hi g)]; rw [← hc4_1]
      rw [e1]
      exact ⟨rfl, rfl, rfl, rfl⟩
     ·replace h31 : ¬ (¬ (mad (l.getD k.toNat d0).2.1 (l.getD k.toNat d0).2.2.1 (l.getD k.toNat d0).2.2.2.2.2.2.2.2.2.1 (l.getD ((findL (l.take k.toNat) ((l.getD k.toNat d0).2.2.2.1.getD j 0)).toNat) d0).2.1 (l.getD ((findL (l.take k.toNat) ((l.getD k.toNat d0).2.2.2.1.getD j 0)).toNat) d0).2.2.1 (l.getD ((findL (l.take k.toNat) ((l.getD k.toNat d0).2.2.2.1.getD j 0)).toNat) d0).2.2.2.2.2.2.2.2.2.1)) := h31
      rw [if_neg (show ¬ ¬ madA (l.getD k.toNat d0) (l.getD (findL (l.take k.toNat) ((l.getD k.toNat d0).2.2.2.1.getD j 0)).toNat d0) from h31)] at hc4_1
      refine ⟨fun h32 => ?_, fun h32 => ?_⟩
      ·replace h32 : ¬ ((l.getD ((findL (l.take k.toNat) ((l.getD k.toNat d0).2.2.2.1.getD j 0)).toNat) d0).2.2.2.2.2.2.1 ≤ (l.getD k.toNat d0).2.2.2.2.2.2.1 ∧ (l.getD k.toNat d0).2.2.2.2.2.2.1 < (l.getD ((findL (l.take k.toNat) ((l.getD k.toNat d0).2.2.2.1.getD j 0)).toNat) d0).2.2.2.2.2.2.2.1) := h32
       rw [if_pos (show ¬ thr (l.getD (findL (l.take k.toNat) ((l.getD k.toNat d0).2.2.2.1.getD j 0)).toNat d0) (l.getD k.toNat d0).2.2.2.2.2.2.1 from h32)] at hc4_1
       have e1 : oneE l k.toNat = 4 := by unfold oneE; rw [if_neg (fun g => g hfm), if_neg hord, if_neg (fun ⟨i, hi, g⟩ => hall i hi g)]; rw [← hc4_1]
       rw [e1]
       exact ⟨rfl, rfl, rfl, rfl⟩
      ·replace h32 : ¬ (¬ ((l.getD ((findL (l.take k.toNat) ((l.getD k.toNat d0).2.2.2.1.getD j 0)).toNat) d0).2.2.2.2.2.2.1 ≤ (l.getD k.toNat d0).2.2.2.2.2.2.1 ∧ (l.getD k.toNat d0).2.2.2.2.2.2.1 < (l.getD ((findL (l.take k.toNat) ((l.getD k.toNat d0).2.2.2.1.getD j 0)).toNat) d0).2.2.2.2.2.2.2.1)) := h32
       rw [if_neg (show ¬ ¬ thr (l.getD (findL (l.take k.toNat) ((l.getD k.toNat d0).2.2.2.1.getD j 0)).toNat d0) (l.getD k.toNat d0).2.2.2.2.2.2.1 from h32)] at hc4_1
       refine ⟨⟨by show (-9223372036854775808 : Int) ≤ ((j : Int) + 1); omega, by show ((j : Int) + 1) ≤ (9223372036854775807 : Int); omega⟩, ?_⟩
       exact ⟨rfl, (l.getD k.toNat d0).2.2.2.1.length - (j + 1), by omega, j + 1, by omega, by assumption, rfl, rfl, rfl⟩
    ·replace h30 : ¬ ((j : Int) < (((l.getD k.toNat d0).2.2.2.1.length : Nat) : Int)) := h30
     have e1 : oneE l k.toNat = 0 := by unfold oneE; rw [if_neg (fun g => g hfm), if_neg hord, if_neg (fun ⟨i, hi, g⟩ => hall i hi g)]; rw [← hc4_1, List.drop_eq_nil_of_le (by omega), ofE]
     rw [e1]
     exact ⟨rfl, rfl, rfl, rfl⟩
def CROn : List (Nat × Con) := (113, pureC [.v (.sl (.cons (.int .i64) (.cons (.int .i64) (.cons (.int .i64) (.cons (.sl (.int .i64)) (.cons (.int .i64) (.cons (.int .i64) (.cons (.int .i64) (.cons (.int .i64) (.cons (.int .i64) (.cons (.int .i64) .nil))))))))))), .v (.int .i64)] sROn) :: CRFd
theorem kROn : Known Try.prog (En CROn tys [] QOfs) := kRFd.add Try.func113 Try.call113 [.k] fun ds p v bs h hp => by
  unfold sROn at h
  split at h <;> simp only [Option.some.injEq, Prod.mk.injEq, reduceCtorEq] at h
  obtain ⟨rfl, rfl, rfl⟩ := h
  exact bROn _ _ hp.1 hp.2.1 hp.2.2.1 hp.2.2.2.1 hp.2.2.2.2
noncomputable def sRCk : List V → Option (Prop × V × List Blk)
  | [.sl false (.cons (.int .i64) (.cons (.int .i64) (.cons (.int .i64) (.cons (.sl (.int .i64)) (.cons (.int .i64) (.cons (.int .i64) (.cons (.int .i64) (.cons (.int .i64) (.cons (.int .i64) (.cons (.int .i64) .nil)))))))))) l] => some (l.length ≤ 1048576 ∧ (∀ a ∈ l, a.2.2.2.1.length ≤ 1048576), .int .i64 (chkL l), [])
  | _ => none
set_option maxHeartbeats 1000000 in
theorem bRCk (l : List (Int × (Int × (Int × (List Int × (Int × (Int × (Int × (Int × (Int × (Int × Unit))))))))))) (hp0 : l.length ≤ 1048576) (hp1 : (∀ a ∈ l, a.2.2.2.1.length ≤ 1048576)) : bodyP (En CROn tys [] QOfs) Try.f57 [.k] [.sl false (.cons (.int .i64) (.cons (.int .i64) (.cons (.int .i64) (.cons (.sl (.int .i64)) (.cons (.int .i64) (.cons (.int .i64) (.cons (.int .i64) (.cons (.int .i64) (.cons (.int .i64) (.cons (.int .i64) .nil)))))))))) l] (.int .i64 (chkL l)) [] := by
 refine ⟨fun h0 => ?_, fun h0 => ?_⟩
 ·replace h0 : 400 < (l.length : Int) := h0
  have e : chkL l = 2 := if_pos (by omega)
  rw [e]
  exact ⟨rfl, rfl, rfl, rfl⟩
 ·replace h0 : ¬ (400 < (l.length : Int)) := h0
  refine ⟨0, [(0, .k), (3, .k)], fun nM vs H => ∃ (k : Nat), k ≤ l.length ∧ upE l k = 0 ∧ nM = l.length - k ∧ vs = [.sl false (.cons (.int .i64) (.cons (.int .i64) (.cons (.int .i64) (.cons (.sl (.int .i64)) (.cons (.int .i64) (.cons (.int .i64) (.cons (.int .i64) (.cons (.int .i64) (.cons (.int .i64) (.cons (.int .i64) .nil)))))))))) l, .int .i64 (k : Int)] ∧ H = [], ⟨rfl, l.length, 0, by omega, rfl, by omega, rfl, rfl⟩, ?_⟩
  rintro nM vs H ⟨k, hc1_0, hc1_1, rfl, rfl, rfl⟩
  refine ⟨fun h1 => ?_, fun h1 => ?_⟩
  ·replace h1 : (k : Int) < (l.length : Int) := h1
   have hk : k < l.length := by omega
   refine ⟨rfl, ⟨by show 0 ≤ (k : Int); first | omega | assumption, by show (k : Int) < (l.length : Int); first | omega | assumption, by show l.length ≤ 1048576; first | omega | assumption, by first | assumption | simp, by show upE l (k : Int).toNat = 0; first | omega | assumption⟩, fun h2 => ?_, fun h2 => ?_⟩
   ·replace h2 : (oneE l (k : Int).toNat) ≠ 0 := h2
    have e : chkL l = oneE l k := by unfold chkL; rw [if_neg (by omega), upE_bad hk hc1_1 h2]
    rw [e]
    exact ⟨rfl, rfl, rfl, rfl⟩
   ·replace h2 : ¬ ((oneE l (k : Int).toNat) ≠ 0) := h2
    refine ⟨⟨by show (-9223372036854775808 : Int) ≤ ((k : Int) + 1); omega, by show ((k : Int) + 1) ≤ (9223372036854775807 : Int); omega⟩, ?_⟩
    exact ⟨rfl, l.length - (k + 1), by omega, k + 1, by omega, by rw [upE, if_pos hc1_1]; exact Classical.not_not.1 h2, rfl, rfl, rfl⟩
  ·replace h1 : ¬ ((k : Int) < (l.length : Int)) := h1
   have e : chkL l = 0 := by unfold chkL; rw [if_neg (by omega), show l.length = k by omega]; exact hc1_1
   rw [e]
   exact ⟨rfl, rfl, rfl, rfl⟩
def CRCk : List (Nat × Con) := (57, pureC [.v (.sl (.cons (.int .i64) (.cons (.int .i64) (.cons (.int .i64) (.cons (.sl (.int .i64)) (.cons (.int .i64) (.cons (.int .i64) (.cons (.int .i64) (.cons (.int .i64) (.cons (.int .i64) (.cons (.int .i64) .nil)))))))))))] sRCk) :: CROn
theorem kRCk : Known Try.prog (En CRCk tys [] QOfs) := kROn.add Try.func57 Try.call57 [.k] fun ds p v bs h hp => by
  unfold sRCk at h
  split at h <;> simp only [Option.some.injEq, Prod.mk.injEq, reduceCtorEq] at h
  obtain ⟨rfl, rfl, rfl⟩ := h
  exact bRCk _ hp.1 hp.2
end Go.Proofs.Ytgljcfnplkcfhaa.S38

namespace Go.Proofs.Ytgljcfnplkcfhaa.S38
open Go

theorem inO_t {l : List (Int × (Int × (Int × (List Int × (Int × (Int × (Int × (Int × (Int × (Int × Unit))))))))))} {ids : List Int} {k : Nat} (hk : k < l.length) (h : (l.getD k d0).1 ∈ ids) : inO (l.take (k + 1)) ids = inO (l.take k) ids ++ [(l.getD k d0).1] := by
  unfold inO; rw [take_snoc d0 l k hk, List.filter_append, List.filter_cons, if_pos (decide_eq_true h), List.filter_nil, List.map_append]; rfl
theorem inO_f {l : List (Int × (Int × (Int × (List Int × (Int × (Int × (Int × (Int × (Int × (Int × Unit))))))))))} {ids : List Int} {k : Nat} (hk : k < l.length) (h : ¬ (l.getD k d0).1 ∈ ids) : inO (l.take (k + 1)) ids = inO (l.take k) ids := by
  unfold inO; rw [take_snoc d0 l k hk, List.filter_append, List.filter_cons, if_neg (by rw [decide_eq_false h]; decide), List.filter_nil, List.append_nil]
theorem inO_len (l : List (Int × (Int × (Int × (List Int × (Int × (Int × (Int × (Int × (Int × (Int × Unit))))))))))) (ids : List Int) : (inO l ids).length ≤ l.length := by unfold inO; rw [List.length_map]; exact List.length_filter_le _ _
theorem abv_step {l : List (Int × (Int × (Int × (List Int × (Int × (Int × (Int × (Int × (Int × (Int × Unit))))))))))} {k : Nat} {rs : List Int} (hk : 0 < k) : abvR l k rs = abvR l (k - 1) (if (l.getD (k - 1) d0).1 ∈ rs then rs ++ (l.getD (k - 1) d0).2.2.2.1 else rs) := by
  obtain ⟨q, rfl⟩ : ∃ q, k = q + 1 := ⟨k - 1, by omega⟩
  rfl
theorem blw_start {l : List (Int × (Int × (Int × (List Int × (Int × (Int × (Int × (Int × (Int × (Int × Unit))))))))))} {m : Nat} {i : Int} : ∀ {n : Nat}, n ≤ m + 1 → blwR l m i n = []
  | 0, _ => rfl
  | n + 1, h => by rw [blwR, if_neg (by omega), blw_start (by omega)]
theorem blw_len (l : List (Int × (Int × (Int × (List Int × (Int × (Int × (Int × (Int × (Int × (Int × Unit))))))))))) (m : Nat) (i : Int) : ∀ n : Nat, (blwR l m i n).length ≤ n
  | 0 => Nat.le_refl _
  | n + 1 => by
    have := blw_len l m i n
    unfold blwR
    split
    · rw [List.length_append]; exact Nat.add_le_add this (Nat.le_refl _)
    · omega
def inB (of rs : List Int) (j : Nat) : Bool := (of.take j).any fun x => decide (x ∈ rs)
theorem inB_next {of rs : List Int} {j : Nat} (hj : j < of.length) : inB of rs (j + 1) = (inB of rs j || decide (of.getD j 0 ∈ rs)) := by
  unfold inB; rw [take_snoc 0 of j hj, List.any_append]; simp
theorem inB_end {of rs : List Int} {j : Nat} (hj : of.length ≤ j) : inB of rs j = true ↔ ∃ x ∈ of, x ∈ rs := by
  unfold inB; rw [List.take_of_length_le hj, List.any_eq_true]; simp
theorem blw_t {l : List (Int × (Int × (Int × (List Int × (Int × (Int × (Int × (Int × (Int × (Int × Unit))))))))))} {m n j : Nat} {i : Int} (h : m < n) (hj : (l.getD n d0).2.2.2.1.length ≤ j) (hb : inB (l.getD n d0).2.2.2.1 (i :: blwR l m i n) j = true) : blwR l m i (n + 1) = blwR l m i n ++ [(l.getD n d0).1] := by
  obtain ⟨x, h1, h2⟩ := (inB_end hj).1 hb
  rw [blwR, if_pos ⟨h, x, h1, List.mem_cons.1 h2⟩]
theorem blw_f {l : List (Int × (Int × (Int × (List Int × (Int × (Int × (Int × (Int × (Int × (Int × Unit))))))))))} {m n j : Nat} {i : Int} (hj : (l.getD n d0).2.2.2.1.length ≤ j) (hb : ¬ inB (l.getD n d0).2.2.2.1 (i :: blwR l m i n) j = true) : blwR l m i (n + 1) = blwR l m i n := by
  rw [blwR, if_neg]
  rintro ⟨_, x, h1, h2⟩
  exact hb ((inB_end hj).2 ⟨x, h1, List.mem_cons.2 h2⟩)
theorem cut_one (x : Int) (l : List Int) : ((x :: l).drop 1).take ((x :: l).length - 1) = l := by simp
theorem bad_next {l : List (Int × (Int × (Int × (List Int × (Int × (Int × (Int × (Int × (Int × (Int × Unit))))))))))} {o t : Int} {k : Nat} (h : ∀ q, q < k → pgC o t (l.getD q d0) → ∀ m, m < l.length → (l.getD q d0).1 ∈ (l.getD m d0).2.2.2.1 → ¬ t ≤ (l.getD m d0).2.2.2.2.2.2.1)
    (g : pgC o t (l.getD k d0) → ∀ m, m < l.length → (l.getD k d0).1 ∈ (l.getD m d0).2.2.2.1 → ¬ t ≤ (l.getD m d0).2.2.2.2.2.2.1) :
    ∀ q, q < k + 1 → pgC o t (l.getD q d0) → ∀ m, m < l.length → (l.getD q d0).1 ∈ (l.getD m d0).2.2.2.1 → ¬ t ≤ (l.getD m d0).2.2.2.2.2.2.1 := fun q hq => by
  rcases Nat.lt_or_ge q k with g1 | g1
  · exact h q g1
  · have : q = k := by omega
    subst this; exact g
theorem lt_next {p : Nat → Prop} {k : Nat} (h : ∀ m, m < k → p m) (g : p k) : ∀ m, m < k + 1 → p m := fun m hm => by
  rcases Nat.lt_or_ge m k with g1 | g1
  · exact h m g1
  · have : m = k := by omega
    subst this; exact g
end Go.Proofs.Ytgljcfnplkcfhaa.S38

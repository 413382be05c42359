/- Texts of this claim: S38.R1, S38.Qv, S38.Qw. -/
import Derived.Test.YtgljcfnplkcfhaaS3
import Derived.Test.YtgljcfnplkcfhaaS2
import Derived.Test.YtgljcfnplkcfhaaVc0
set_option linter.unusedVariables false
set_option linter.unusedSimpArgs false
namespace Go.Proofs.Ytgljcfnplkcfhaa.S38
open Go Go.Proofs.Ytgljcfnplkcfhaa.Vc Go.Proofs
set_option maxRecDepth 100000
set_option linter.unusedVariables false

noncomputable def sRWi : List V → Option (Prop × V × List Blk)
  | [.int .i64 x, .int .i64 lo, .int .i64 hi] => some (True, .b (lo ≤ x ∧ x ≤ hi), [])
  | _ => none
set_option maxHeartbeats 1000000 in
theorem bRWi (x : Int) (lo : Int) (hi : Int)  : bodyP (En CSan tys [] QOfs) Try.f139 [.k] [.int .i64 x, .int .i64 lo, .int .i64 hi] (.b (lo ≤ x ∧ x ≤ hi)) [] := by
 refine ⟨fun h0 => ?_, fun h0 => ?_⟩
 ·replace h0 : lo ≤ x := h0
  exact ⟨rfl, rfl, congrArg V.b (propext (by constructor <;> intro h <;> first | omega | (exfalso; first | omega | exact Bool.noConfusion h))), rfl⟩
 ·replace h0 : ¬ (lo ≤ x) := h0
  exact ⟨rfl, rfl, congrArg V.b (propext (by constructor <;> intro h <;> first | omega | (exfalso; first | omega | exact Bool.noConfusion h))), rfl⟩
def CRWi : List (Nat × Con) := (139, pureC [.v (.int .i64), .v (.int .i64), .v (.int .i64)] sRWi) :: CSan
theorem kRWi : Known Try.prog (En CRWi tys [] QOfs) := kSan.add Try.func139 Try.call139 [.k] fun ds p v bs h hp => by
  unfold sRWi at h
  split at h <;> simp only [Option.some.injEq, Prod.mk.injEq, reduceCtorEq] at h
  obtain ⟨rfl, rfl, rfl⟩ := h
  exact bRWi _ _ _
noncomputable def sRTh : List V → Option (Prop × V × List Blk)
  | [.agg [.int .i64 id, .int .i64 kd, .int .i64 ob, .sl false (.int .i64) of, .int .i64 ho, .int .i64 di, .int .i64 bo, .int .i64 go, .int .i64 hr, .int .i64 pe], .int .i64 t] => some (True, .b (bo ≤ t ∧ t < go), [])
  | _ => none
set_option maxHeartbeats 1000000 in
theorem bRTh (id : Int) (kd : Int) (ob : Int) (of : List Int) (ho : Int) (di : Int) (bo : Int) (go : Int) (hr : Int) (pe : Int) (t : Int)  : bodyP (En CRWi tys [] QOfs) Try.f108 [.k] [.agg [.int .i64 id, .int .i64 kd, .int .i64 ob, .sl false (.int .i64) of, .int .i64 ho, .int .i64 di, .int .i64 bo, .int .i64 go, .int .i64 hr, .int .i64 pe], .int .i64 t] (.b (bo ≤ t ∧ t < go)) [] := by
 refine ⟨fun h0 => ?_, fun h0 => ?_⟩
 ·replace h0 : bo ≤ t := h0
  exact ⟨rfl, rfl, congrArg V.b (propext (by constructor <;> intro h <;> first | omega | (exfalso; first | omega | exact Bool.noConfusion h))), rfl⟩
 ·replace h0 : ¬ (bo ≤ t) := h0
  exact ⟨rfl, rfl, congrArg V.b (propext (by constructor <;> intro h <;> first | omega | (exfalso; first | omega | exact Bool.noConfusion h))), rfl⟩
def CRTh : List (Nat × Con) := (108, pureC [.v (.cons (.int .i64) (.cons (.int .i64) (.cons (.int .i64) (.cons (.sl (.int .i64)) (.cons (.int .i64) (.cons (.int .i64) (.cons (.int .i64) (.cons (.int .i64) (.cons (.int .i64) (.cons (.int .i64) .nil)))))))))), .v (.int .i64)] sRTh) :: CRWi
theorem kRTh : Known Try.prog (En CRTh tys [] QOfs) := kRWi.add Try.func108 Try.call108 [.k] fun ds p v bs h hp => by
  unfold sRTh at h
  split at h <;> simp only [Option.some.injEq, Prod.mk.injEq, reduceCtorEq] at h
  obtain ⟨rfl, rfl, rfl⟩ := h
  exact bRTh _ _ _ _ _ _ _ _ _ _ _
noncomputable def sRMd : List V → Option (Prop × V × List Blk)
  | [.agg [.int .i64 id, .int .i64 kd, .int .i64 ob, .sl false (.int .i64) of, .int .i64 ho, .int .i64 di, .int .i64 bo, .int .i64 go, .int .i64 hr, .int .i64 pe], .agg [.int .i64 id2, .int .i64 kd2, .int .i64 ob2, .sl false (.int .i64) of2, .int .i64 ho2, .int .i64 di2, .int .i64 bo2, .int .i64 go2, .int .i64 hr2, .int .i64 pe2]] => some (0 ≤ pe2 ∧ pe2 ≤ 499 ∧ 1 ≤ kd2 ∧ kd2 ≤ 4, .b (mad kd ob pe kd2 ob2 pe2), [])
  | _ => none
set_option maxHeartbeats 1000000 in
theorem bRMd (id : Int) (kd : Int) (ob : Int) (of : List Int) (ho : Int) (di : Int) (bo : Int) (go : Int) (hr : Int) (pe : Int) (id2 : Int) (kd2 : Int) (ob2 : Int) (of2 : List Int) (ho2 : Int) (di2 : Int) (bo2 : Int) (go2 : Int) (hr2 : Int) (pe2 : Int) (hp0 : 0 ≤ pe2) (hp1 : pe2 ≤ 499) (hp2 : 1 ≤ kd2) (hp3 : kd2 ≤ 4) : bodyP (En CRTh tys [] QOfs) Try.f131 [.k] [.agg [.int .i64 id, .int .i64 kd, .int .i64 ob, .sl false (.int .i64) of, .int .i64 ho, .int .i64 di, .int .i64 bo, .int .i64 go, .int .i64 hr, .int .i64 pe], .agg [.int .i64 id2, .int .i64 kd2, .int .i64 ob2, .sl false (.int .i64) of2, .int .i64 ho2, .int .i64 di2, .int .i64 bo2, .int .i64 go2, .int .i64 hr2, .int .i64 pe2]] (.b (mad kd ob pe kd2 ob2 pe2)) [] := by
 refine ⟨fun h0 => ?_, fun h0 => ?_⟩
 ·replace h0 : ob ≠ ob2 := h0
  exact ⟨rfl, rfl, congrArg V.b (propext (by unfold mad; constructor <;> intro h <;> (try split at h) <;> (try split) <;> first | rfl | omega | (exfalso; first | omega | exact Bool.noConfusion h))), rfl⟩
 ·replace h0 : ¬ (ob ≠ ob2) := h0
  refine ⟨fun h1 => ?_, fun h1 => ?_⟩
  ·replace h1 : kd = 4 := h1
   exact ⟨rfl, rfl, congrArg V.b (propext (by unfold mad; constructor <;> intro h <;> (try split at h) <;> (try split) <;> first | rfl | omega | (exfalso; first | omega | exact Bool.noConfusion h))), rfl⟩
  ·replace h1 : ¬ (kd = 4) := h1
   refine ⟨fun h2 => ?_, fun h2 => ?_⟩
   ·replace h2 : kd = 3 := h2
    refine ⟨fun h3 => ?_, fun h3 => ?_⟩
    ·replace h3 : kd2 = 3 := h3
     refine ⟨fun h4 => ?_, fun h4 => ?_⟩
     ·replace h4 : ¬ (pe = pe2) := h4
      refine ⟨⟨by show (-9223372036854775808 : Int) ≤ (pe2 + 1); omega, by show (pe2 + 1) ≤ (9223372036854775807 : Int); omega⟩, ?_⟩
      exact ⟨rfl, rfl, congrArg V.b (propext (by unfold mad; constructor <;> intro h <;> (try split at h) <;> (try split) <;> first | rfl | omega | (exfalso; first | omega | exact Bool.noConfusion h))), rfl⟩
     ·replace h4 : pe = pe2 := h4
      exact ⟨rfl, rfl, congrArg V.b (propext (by unfold mad; constructor <;> intro h <;> (try split at h) <;> (try split) <;> first | rfl | omega | (exfalso; first | omega | exact Bool.noConfusion h))), rfl⟩
    ·replace h3 : ¬ (kd2 = 3) := h3
     exact ⟨rfl, rfl, congrArg V.b (propext (by unfold mad; constructor <;> intro h <;> (try split at h) <;> (try split) <;> first | rfl | omega | (exfalso; first | omega | exact Bool.noConfusion h))), rfl⟩
   ·replace h2 : ¬ (kd = 3) := h2
    refine ⟨fun h5 => ?_, fun h5 => ?_⟩
    ·replace h5 : ¬ (kd2 = 1) := h5
     refine ⟨fun h6 => ?_, fun h6 => ?_⟩
     ·replace h6 : ¬ (kd2 = 2) := h6
      exact ⟨rfl, rfl, congrArg V.b (propext (by unfold mad; constructor <;> intro h <;> (try split at h) <;> (try split) <;> first | rfl | omega | (exfalso; first | omega | exact Bool.noConfusion h))), rfl⟩
     ·replace h6 : kd2 = 2 := h6
      exact ⟨rfl, rfl, congrArg V.b (propext (by unfold mad; constructor <;> intro h <;> (try split at h) <;> (try split) <;> first | rfl | omega | (exfalso; first | omega | exact Bool.noConfusion h))), rfl⟩
    ·replace h5 : kd2 = 1 := h5
     exact ⟨rfl, rfl, congrArg V.b (propext (by unfold mad; constructor <;> intro h <;> (try split at h) <;> (try split) <;> first | rfl | omega | (exfalso; first | omega | exact Bool.noConfusion h))), rfl⟩
def CRMd : List (Nat × Con) := (131, pureC [.v (.cons (.int .i64) (.cons (.int .i64) (.cons (.int .i64) (.cons (.sl (.int .i64)) (.cons (.int .i64) (.cons (.int .i64) (.cons (.int .i64) (.cons (.int .i64) (.cons (.int .i64) (.cons (.int .i64) .nil)))))))))), .v (.cons (.int .i64) (.cons (.int .i64) (.cons (.int .i64) (.cons (.sl (.int .i64)) (.cons (.int .i64) (.cons (.int .i64) (.cons (.int .i64) (.cons (.int .i64) (.cons (.int .i64) (.cons (.int .i64) .nil))))))))))] sRMd) :: CRTh
theorem kRMd : Known Try.prog (En CRMd tys [] QOfs) := kRTh.add Try.func131 Try.call131 [.k] fun ds p v bs h hp => by
  unfold sRMd at h
  split at h <;> simp only [Option.some.injEq, Prod.mk.injEq, reduceCtorEq] at h
  obtain ⟨rfl, rfl, rfl⟩ := h
  exact bRMd _ _ _ _ _ _ _ _ _ _ _ _ _ _ _ _ _ _ _ _ hp.1 hp.2.1 hp.2.2.1 hp.2.2.2
noncomputable def sRFm : List V → Option (Prop × V × List Blk)
  | [.agg [.int .i64 id, .int .i64 kd, .int .i64 ob, .sl false (.int .i64) of, .int .i64 ho, .int .i64 di, .int .i64 bo, .int .i64 go, .int .i64 hr, .int .i64 pe]] => some (of.length ≤ 1048576, .b (fmd id kd ob of ho di bo go hr pe), [])
  | _ => none
set_option maxHeartbeats 4000000 in
theorem bRFm (id : Int) (kd : Int) (ob : Int) (of : List Int) (ho : Int) (di : Int) (bo : Int) (go : Int) (hr : Int) (pe : Int) (hp0 : of.length ≤ 1048576) : bodyP (En CRMd tys [] QOfs) Try.f130 [.k] [.agg [.int .i64 id, .int .i64 kd, .int .i64 ob, .sl false (.int .i64) of, .int .i64 ho, .int .i64 di, .int .i64 bo, .int .i64 go, .int .i64 hr, .int .i64 pe]] (.b (fmd id kd ob of ho di bo go hr pe)) [] := by
 refine ⟨rfl, rfl, rfl, trivial, rfl, rfl, rfl, trivial, rfl, rfl, rfl, trivial, rfl, rfl, rfl, trivial, rfl, rfl, rfl, trivial, rfl, rfl, rfl, trivial, rfl, rfl, rfl, trivial, fun h0 => ?_, fun h0 => ?_⟩
 ·replace h0 : ¬ (¬ (1 ≤ id ∧ id ≤ 1099511627776)) := h0
  refine ⟨fun h1 => ?_, fun h1 => ?_⟩
  ·replace h1 : ¬ (¬ (1 ≤ kd ∧ kd ≤ 4)) := h1
   refine ⟨fun h2 => ?_, fun h2 => ?_⟩
   ·replace h2 : ¬ (¬ (0 ≤ ob ∧ ob ≤ 1048576)) := h2
    refine ⟨fun h3 => ?_, fun h3 => ?_⟩
    ·replace h3 : ¬ (¬ (0 ≤ ho ∧ ho ≤ 11)) := h3
     refine ⟨fun h4 => ?_, fun h4 => ?_⟩
     ·replace h4 : ¬ (¬ ((-1) ≤ di ∧ di ≤ 63)) := h4
      refine ⟨fun h5 => ?_, fun h5 => ?_⟩
      ·replace h5 : ¬ (¬ (0 ≤ bo ∧ bo ≤ 1000000)) := h5
       refine ⟨fun h6 => ?_, fun h6 => ?_⟩
       ·replace h6 : ¬ (bo ≤ go ∧ go ≤ 1000001) := h6
        exact ⟨rfl, rfl, congrArg V.b (propext (by unfold fmd; constructor <;> intro h <;> first | rfl | exact Bool.noConfusion h | exact ⟨hall, by omega⟩ | exact (upA_bad (k := j + 1) (by omega) (incB_no h8) h.1).elim | (exfalso; omega) | (have h2 := h.2; omega))), rfl⟩
       ·replace h6 : ¬ (¬ (bo ≤ go ∧ go ≤ 1000001)) := h6
        refine ⟨1, [(1, .k), (10, .k)], fun nM vs H => ∃ (j : Nat), j ≤ of.length ∧ upA (incB of) (j + 1) = true ∧ nM = of.length - j ∧ vs = [.ptr 0 1 0 0, .int .i64 ((j : Int) + 1)] ∧ H = [.cells [.int .i64 id, .int .i64 kd, .int .i64 ob, .sl false (.int .i64) of, .int .i64 ho, .int .i64 di, .int .i64 bo, .int .i64 go, .int .i64 hr, .int .i64 pe]], ⟨rfl, of.length, 0, by omega, upA_one of, by omega, rfl, rfl⟩, ?_⟩
        rintro nM vs H ⟨j, hc1_0, hc1_1, rfl, rfl, rfl⟩
        refine ⟨fun h7 => ?_, fun h7 => ?_⟩
        ·replace h7 : ((j : Int) + 1) < (of.length : Int) := h7
         have hj : j + 1 < of.length := by omega
         have e1 : ((j : Int) + 1).toNat = j + 1 := by omega
         have e2 : (((j : Int) + 1) - 1).toNat = j := by omega
         refine ⟨by kernel_rfl, ⟨by show (0 : Int) ≤ ((j : Int) + 1); omega, by show ((j : Int) + 1) < (of.length : Int); omega⟩, ⟨by show (-9223372036854775808 : Int) ≤ (((j : Int) + 1) - 1); omega, by show (((j : Int) + 1) - 1) ≤ (9223372036854775807 : Int); omega⟩, ⟨by show (0 : Int) ≤ (((j : Int) + 1) - 1); omega, by show (((j : Int) + 1) - 1) < (of.length : Int); omega⟩, fun h8 => ?_, fun h8 => ?_⟩
         ·replace h8 : (of.getD (((j : Int) + 1).toNat) 0) ≤ (of.getD ((((j : Int) + 1) - 1).toNat) 0) := h8
          rw [e1, e2] at h8
          exact ⟨rfl, rfl, congrArg V.b (propext (by unfold fmd; constructor <;> intro h <;> first | rfl | exact Bool.noConfusion h | exact ⟨hall, by omega⟩ | exact (upA_bad (k := j + 1) (by omega) (incB_no h8) h.1).elim | (exfalso; omega) | (have h2 := h.2; omega))), rfl⟩
         ·replace h8 : ¬ ((of.getD (((j : Int) + 1).toNat) 0) ≤ (of.getD ((((j : Int) + 1) - 1).toNat) 0)) := h8
          rw [e1, e2] at h8
          refine ⟨⟨by show (-9223372036854775808 : Int) ≤ (((j : Int) + 1) + 1); omega, by show (((j : Int) + 1) + 1) ≤ (9223372036854775807 : Int); omega⟩, ?_⟩
          exact ⟨rfl, of.length - (j + 1), by omega, j + 1, by omega, upA_next hc1_1 (incB_yes h8), rfl, rfl, rfl⟩
        ·replace h7 : ¬ (((j : Int) + 1) < (of.length : Int)) := h7
         have hall := upA_end hc1_1 (by omega)
         refine ⟨fun h9 => ?_, fun h9 => ?_⟩
         ·replace h9 : kd ≠ 3 := h9
          refine ⟨fun h10 => ?_, fun h10 => ?_⟩
          ·replace h10 : hr = (-1) := h10
           exact ⟨rfl, rfl, congrArg V.b (propext (by unfold fmd; constructor <;> intro h <;> first | rfl | exact Bool.noConfusion h | exact ⟨hall, by omega⟩ | exact (upA_bad (k := j + 1) (by omega) (incB_no h8) h.1).elim | (exfalso; omega) | (have h2 := h.2; omega))), rfl⟩
          ·replace h10 : ¬ (hr = (-1)) := h10
           exact ⟨rfl, rfl, congrArg V.b (propext (by unfold fmd; constructor <;> intro h <;> first | rfl | exact Bool.noConfusion h | exact ⟨hall, by omega⟩ | exact (upA_bad (k := j + 1) (by omega) (incB_no h8) h.1).elim | (exfalso; omega) | (have h2 := h.2; omega))), rfl⟩
         ·replace h9 : ¬ (kd ≠ 3) := h9
          refine ⟨rfl, rfl, rfl, trivial, rfl, rfl, rfl, trivial, fun h11 => ?_, fun h11 => ?_⟩
          ·replace h11 : (0 ≤ hr ∧ hr ≤ 11) := h11
           exact ⟨rfl, rfl, congrArg V.b (propext (by unfold fmd; constructor <;> intro h <;> first | rfl | exact Bool.noConfusion h | exact ⟨hall, by omega⟩ | exact (upA_bad (k := j + 1) (by omega) (incB_no h8) h.1).elim | (exfalso; omega) | (have h2 := h.2; omega))), rfl⟩
          ·replace h11 : ¬ (0 ≤ hr ∧ hr ≤ 11) := h11
           exact ⟨rfl, rfl, congrArg V.b (propext (by unfold fmd; constructor <;> intro h <;> first | rfl | exact Bool.noConfusion h | exact ⟨hall, by omega⟩ | exact (upA_bad (k := j + 1) (by omega) (incB_no h8) h.1).elim | (exfalso; omega) | (have h2 := h.2; omega))), rfl⟩
      ·replace h5 : ¬ (0 ≤ bo ∧ bo ≤ 1000000) := h5
       exact ⟨rfl, rfl, congrArg V.b (propext (by unfold fmd; constructor <;> intro h <;> first | rfl | exact Bool.noConfusion h | exact ⟨hall, by omega⟩ | exact (upA_bad (k := j + 1) (by omega) (incB_no h8) h.1).elim | (exfalso; omega) | (have h2 := h.2; omega))), rfl⟩
     ·replace h4 : ¬ ((-1) ≤ di ∧ di ≤ 63) := h4
      exact ⟨rfl, rfl, congrArg V.b (propext (by unfold fmd; constructor <;> intro h <;> first | rfl | exact Bool.noConfusion h | exact ⟨hall, by omega⟩ | exact (upA_bad (k := j + 1) (by omega) (incB_no h8) h.1).elim | (exfalso; omega) | (have h2 := h.2; omega))), rfl⟩
    ·replace h3 : ¬ (0 ≤ ho ∧ ho ≤ 11) := h3
     exact ⟨rfl, rfl, congrArg V.b (propext (by unfold fmd; constructor <;> intro h <;> first | rfl | exact Bool.noConfusion h | exact ⟨hall, by omega⟩ | exact (upA_bad (k := j + 1) (by omega) (incB_no h8) h.1).elim | (exfalso; omega) | (have h2 := h.2; omega))), rfl⟩
   ·replace h2 : ¬ (0 ≤ ob ∧ ob ≤ 1048576) := h2
    exact ⟨rfl, rfl, congrArg V.b (propext (by unfold fmd; constructor <;> intro h <;> first | rfl | exact Bool.noConfusion h | exact ⟨hall, by omega⟩ | exact (upA_bad (k := j + 1) (by omega) (incB_no h8) h.1).elim | (exfalso; omega) | (have h2 := h.2; omega))), rfl⟩
  ·replace h1 : ¬ (1 ≤ kd ∧ kd ≤ 4) := h1
   exact ⟨rfl, rfl, congrArg V.b (propext (by unfold fmd; constructor <;> intro h <;> first | rfl | exact Bool.noConfusion h | exact ⟨hall, by omega⟩ | exact (upA_bad (k := j + 1) (by omega) (incB_no h8) h.1).elim | (exfalso; omega) | (have h2 := h.2; omega))), rfl⟩
 ·replace h0 : ¬ (1 ≤ id ∧ id ≤ 1099511627776) := h0
  exact ⟨rfl, rfl, congrArg V.b (propext (by unfold fmd; constructor <;> intro h <;> first | rfl | exact Bool.noConfusion h | exact ⟨hall, by omega⟩ | exact (upA_bad (k := j + 1) (by omega) (incB_no h8) h.1).elim | (exfalso; omega) | (have h2 := h.2; omega))), rfl⟩
def CRFm : List (Nat × Con) := (130, pureC [.v (.cons (.int .i64) (.cons (.int .i64) (.cons (.int .i64) (.cons (.sl (.int .i64)) (.cons (.int .i64) (.cons (.int .i64) (.cons (.int .i64) (.cons (.int .i64) (.cons (.int .i64) (.cons (.int .i64) .nil))))))))))] sRFm) :: CRMd
theorem kRFm : Known Try.prog (En CRFm tys [] QOfs) := kRMd.add Try.func130 Try.call130 [.k] fun ds p v bs h hp => by
  unfold sRFm at h
  split at h <;> simp only [Option.some.injEq, Prod.mk.injEq, reduceCtorEq] at h
  obtain ⟨rfl, rfl, rfl⟩ := h
  exact bRFm _ _ _ _ _ _ _ _ _ _ hp
noncomputable def sRFd : List V → Option (Prop × V × List Blk)
  | [.sl false (.cons (.int .i64) (.cons (.int .i64) (.cons (.int .i64) (.cons (.sl (.int .i64)) (.cons (.int .i64) (.cons (.int .i64) (.cons (.int .i64) (.cons (.int .i64) (.cons (.int .i64) (.cons (.int .i64) .nil)))))))))) l, .int .i64 n, .int .i64 i] => some (0 ≤ n ∧ n ≤ (l.length : Int) ∧ l.length ≤ 1048576, .int .i64 (findL (l.take n.toNat) i), [])
  | _ => none
set_option maxHeartbeats 1000000 in
theorem bRFd (l : List (Int × (Int × (Int × (List Int × (Int × (Int × (Int × (Int × (Int × (Int × Unit))))))))))) (n : Int) (i : Int) (hp0 : 0 ≤ n) (hp1 : n ≤ (l.length : Int)) (hp2 : l.length ≤ 1048576) : bodyP (En CRFm tys [] QOfs) Try.f99 [.k] [.sl false (.cons (.int .i64) (.cons (.int .i64) (.cons (.int .i64) (.cons (.sl (.int .i64)) (.cons (.int .i64) (.cons (.int .i64) (.cons (.int .i64) (.cons (.int .i64) (.cons (.int .i64) (.cons (.int .i64) .nil)))))))))) l, .int .i64 n, .int .i64 i] (.int .i64 (findL (l.take n.toNat) i)) [] := by
 have hnl : (l.take n.toNat).length = n.toNat := by rw [List.length_take]; omega
 refine ⟨0, [(0, .k), (1, .k), (2, .k), (7, .k)], fun nM vs H => ∃ (k : Nat), k ≤ n.toNat ∧ ixP (fun a : (Int × (Int × (Int × (List Int × (Int × (Int × (Int × (Int × (Int × (Int × Unit)))))))))) => decide (a.1 = i)) ((l.take n.toNat).drop k) k = ixP (fun a : (Int × (Int × (Int × (List Int × (Int × (Int × (Int × (Int × (Int × (Int × Unit)))))))))) => decide (a.1 = i)) (l.take n.toNat) 0 ∧ nM = n.toNat - k ∧ vs = [.sl false (.cons (.int .i64) (.cons (.int .i64) (.cons (.int .i64) (.cons (.sl (.int .i64)) (.cons (.int .i64) (.cons (.int .i64) (.cons (.int .i64) (.cons (.int .i64) (.cons (.int .i64) (.cons (.int .i64) .nil)))))))))) l, .int .i64 n, .int .i64 i, .int .i64 (k : Int)] ∧ H = [], ⟨rfl, n.toNat, 0, by omega, rfl, by omega, rfl, rfl⟩, ?_⟩
 rintro nM vs H ⟨k, hc1_0, hc1_1, rfl, rfl, rfl⟩
 refine ⟨fun h0 => ?_, fun h0 => ?_⟩
 ·replace h0 : (k : Int) < n := h0
  have hk : k < n.toNat := by omega
  rw [drop_one d0 (l.take n.toNat) k (by omega), ixP, take_get d0 hk] at hc1_1
  refine ⟨⟨by show (0 : Int) ≤ (k : Int); omega, by show (k : Int) < (l.length : Int); omega⟩, fun h1 => ?_, fun h1 => ?_⟩
  ·replace h1 : (l.getD k d0).1 = i := h1
   rw [if_pos (decide_eq_true h1)] at hc1_1
   have e : findL (l.take n.toNat) i = _ := hc1_1.symm
   rw [e]
   exact ⟨rfl, rfl, rfl, rfl⟩
  ·replace h1 : ¬ ((l.getD k d0).1 = i) := h1
   rw [if_neg (by simpa using h1)] at hc1_1
   refine ⟨⟨by show (-9223372036854775808 : Int) ≤ ((k : Int) + 1); omega, by show ((k : Int) + 1) ≤ (9223372036854775807 : Int); omega⟩, ?_⟩
   exact ⟨rfl, n.toNat - (k + 1), by omega, k + 1, by omega, hc1_1, rfl, rfl, rfl⟩
 ·replace h0 : ¬ ((k : Int) < n) := h0
  rw [List.drop_eq_nil_of_le (by omega), ixP] at hc1_1
  have e : findL (l.take n.toNat) i = _ := hc1_1.symm
  rw [e]
  exact ⟨rfl, rfl, rfl, rfl⟩
def CRFd : List (Nat × Con) := (99, pureC [.v (.sl (.cons (.int .i64) (.cons (.int .i64) (.cons (.int .i64) (.cons (.sl (.int .i64)) (.cons (.int .i64) (.cons (.int .i64) (.cons (.int .i64) (.cons (.int .i64) (.cons (.int .i64) (.cons (.int .i64) .nil))))))))))), .v (.int .i64), .v (.int .i64)] sRFd) :: CRFm
theorem kRFd : Known Try.prog (En CRFd tys [] QOfs) := kRFm.add Try.func99 Try.call99 [.k] fun ds p v bs h hp => by
  unfold sRFd at h
  split at h <;> simp only [Option.some.injEq, Prod.mk.injEq, reduceCtorEq] at h
  obtain ⟨rfl, rfl, rfl⟩ := h
  exact bRFd _ _ _ hp.1 hp.2.1 hp.2.2
noncomputable def sROn : List V → Option (Prop × V × List Blk)
  | [.sl false (.cons (.int .i64) (.cons (.int .i64) (.cons (.int .i64) (.cons (.sl (.int .i64)) (.cons (.int .i64) (.cons (.int .i64) (.cons (.int .i64) (.cons (.int .i64) (.cons (.int .i64) (.cons (.int .i64) .nil)))))))))) l, .int .i64 k] => some (0 ≤ k ∧ k < (l.length : Int) ∧ l.length ≤ 1048576 ∧ (∀ a ∈ l, a.2.2.2.1.length ≤ 1048576) ∧ upE l k.toNat = 0, .int .i64 (oneE l k.toNat), [])
  | _ => none
set_option maxHeartbeats 4000000 in
theorem bROn (l : List (Int × (Int × (Int × (List Int × (Int × (Int × (Int × (Int × (Int × (Int × Unit))))))))))) (k : Int) (hp0 : 0 ≤ k) (hp1 : k < (l.length : Int)) (hp2 : l.length ≤ 1048576) (hp3 : (∀ a ∈ l, a.2.2.2.1.length ≤ 1048576)) (hp4 : upE l k.toNat = 0) : bodyP (En CRFd tys [] QOfs) Try.f113 [.k] [.sl false (.cons (.int .i64) (.cons (.int .i64) (.cons (.int .i64) (.cons (.sl (.int .i64)) (.cons (.int .i64) (.cons (.int .i64) (.cons (.int .i64) (.cons (.int .i64) (.cons (.int .i64) (.cons (.int .i64) .nil)))))))))) l, .int .i64 k] (.int .i64 (oneE l k.toNat)) [] := by
 have hof := hp3 _ (getD_mem d0 l k.toNat (by omega))
 have hmx : (max 0 (k - 1)).toNat = k.toNat - 1 := by omega
 refine ⟨⟨by show (0 : Int) ≤ k; omega, by show k < (l.length : Int); omega⟩, ⟨rfl, rfl, rfl, Nat.le_of_ble_eq_true rfl⟩, rfl, rfl, rfl, rfl, rfl, rfl, rfl, rfl, rfl, by show (l.getD k.toNat d0).2.2.2.1.length ≤ 1048576; first | omega | assumption, fun h0 => ?_, fun h0 => ?_⟩
 ·replace h0 : ¬ (fmd (l.getD k.toNat d0).1 (l.getD k.toNat d0).2.1 (l.getD k.toNat d0).2.2.1 (l.getD k.toNat d0).2.2.2.1 (l.getD k.toNat d0).2.2.2.2.1 (l.getD k.toNat d0).2.2.2.2.2.1 (l.getD k.toNat d0).2.2.2.2.2.2.1 (l.getD k.toNat d0).2.2.2.2.2.2.2.1 (l.getD k.toNat d0).2.2.2.2.2.2.2.2.1 (l.getD k.toNat d0).2.2.2.2.2.2.2.2.2.1) := h0
  have e1 : oneE l k.toNat = 3 := by unfold oneE; rw [if_pos (show ¬ fmdA (l.getD k.toNat d0) from h0)]
  rw [e1]
  exact ⟨rfl, rfl, rfl, rfl⟩
 ·replace h0 : ¬ (¬ (fmd (l.getD k.toNat d0).1 (l.getD k.toNat d0).2.1 (l.getD k.toNat d0).2.2.1 (l.getD k.toNat d0).2.2.2.1 (l.getD k.toNat d0).2.2.2.2.1 (l.getD k.toNat d0).2.2.2.2.2.1 (l.getD k.toNat d0).2.2.2.2.2.2.1 (l.getD k.toNat d0).2.2.2.2.2.2.2.1 (l.getD k.toNat d0).2.2.2.2.2.2.2.2.1 (l.getD k.toNat d0).2.2.2.2.2.2.2.2.2.1)) := h0
  have hfm : fmdA (l.getD k.toNat d0) := Classical.not_not.1 h0
  refine ⟨by kernel_rfl, fun h1 => ?_, fun h1 => ?_⟩
  ·replace h1 : 0 < k := h1
   refine ⟨fun h2 => ?_, fun h2 => absurd (show 0 < k by first | omega | assumption | simp_all) h2⟩
   refine ⟨fun h3 => ?_, fun h3 => absurd (show 0 < k by first | omega | assumption | simp_all) h3⟩
   refine ⟨fun h4 => ?_, fun h4 => absurd (show 0 < k by first | omega | assumption | simp_all) h4⟩
   refine ⟨fun h5 => ?_, fun h5 => absurd (show 0 < k by first | omega | assumption | simp_all) h5⟩
   refine ⟨⟨by show (-9223372036854775808 : Int) ≤ (k - 1); omega, by show (k - 1) ≤ (9223372036854775807 : Int); omega⟩, fun h6 => ?_, fun h6 => absurd (show 0 < k by first | omega | assumption | simp_all) h6⟩
   refine ⟨fun h7 => ?_, fun h7 => absurd (show 0 < k by first | omega | assumption | simp_all) h7⟩
   refine ⟨⟨by show (0 : Int) ≤ max 0 (k - 1); omega, by show max 0 (k - 1) < (l.length : Int); omega⟩, fun h8 => ?_, fun h8 => absurd (show 0 < k by first | omega | assumption | simp_all) h8⟩
   refine ⟨fun h9 => ?_, fun h9 => absurd (show 0 < k by first | omega | assumption | simp_all) h9⟩
   refine ⟨fun h10 => ?_, fun h10 => absurd (show 0 < k by first | omega | assumption | simp_all) h10⟩
   refine ⟨fun h11 => ?_, fun h11 => absurd (show 0 < k by first | omega | assumption | simp_all) h11⟩
   refine ⟨fun h12 => ?_, fun h12 => ?_⟩
   ·replace h12 : (l.getD k.toNat d0).1 ≤ (l.getD ((max 0 (k - 1)).toNat) d0).1 := h12
    rw [hmx] at h12
    have e1 : oneE l k.toNat = 9 := by unfold oneE; rw [if_neg (fun g => g hfm), if_pos ⟨by omega, h12⟩]
    rw [e1]
    exact ⟨rfl, rfl, rfl, rfl⟩
   ·replace h12 : ¬ ((l.getD k.toNat d0).1 ≤ (l.getD ((max 0 (k - 1)).toNat) d0).1) := h12
    rw [hmx] at h12
    have hord : ¬ (0 < k.toNat ∧ (l.getD k.toNat d0).1 ≤ (l.getD (k.toNat - 1) d0).1) := fun g => h12 g.2
    refine ⟨1, [(0, .k), (1, .k), (5, .k), (7, .k)], fun nM vs H => ∃ (j : Nat), j ≤ (l.getD k.toNat d0).2.2.2.1.length ∧ (∀ i ∈ (l.getD k.toNat d0).2.2.2.1.take j, ¬ findL (l.take k.toNat) i < 0) ∧ nM = (l.getD k.toNat d0).2.2.2.1.length - j ∧ vs = [.sl false (.cons (.int .i64) (.cons (.int .i64) (.cons (.int .i64) (.cons (.sl (.int .i64)) (.cons (.int .i64) (.cons (.int .i64) (.cons (.int .i64) (.cons (.int .i64) (.cons (.int .i64) (.cons (.int .i64) .nil)))))))))) l, .int .i64 k, .ptr 0 1 0 0, .int .i64 (j : Int)] ∧ H = [.cells [.int .i64 (l.getD k.toNat d0).1, .int .i64 (l.getD k.toNat d0).2.1, .int .i64 (l.getD k.toNat d0).2.2.1, .sl false (.int .i64) (l.getD k.toNat d0).2.2.2.1, .int .i64 (l.getD k.toNat d0).2.2.2.2.1, .int .i64 (l.getD k.toNat d0).2.2.2.2.2.1, .int .i64 (l.getD k.toNat d0).2.2.2.2.2.2.1, .int .i64 (l.getD k.toNat d0).2.2.2.2.2.2.2.1, .int .i64 (l.getD k.toNat d0).2.2.2.2.2.2.2.2.1, .int .i64 (l.getD k.toNat d0).2.2.2.2.2.2.2.2.2.1]], ⟨rfl, (l.getD k.toNat d0).2.2.2.1.length, 0, by omega, by simp, by omega, rfl, rfl⟩, ?_⟩
    rintro nM vs H ⟨j, hc1_0, hc1_1, rfl, rfl, rfl⟩
    refine ⟨fun h13 => ?_, fun h13 => ?_⟩
    ·replace h13 : (j : Int) < (((l.getD k.toNat d0).2.2.2.1.length : Nat) : Int) := h13
     have hj : j < (l.getD k.toNat d0).2.2.2.1.length := by omega
     refine ⟨⟨by show (0 : Int) ≤ (j : Int); omega, by show (j : Int) < ((l.getD k.toNat d0).2.2.2.1.length : Int); omega⟩, rfl, rfl, ⟨by show 0 ≤ k; first | omega | assumption, by show k ≤ (l.length : Int); first | omega | assumption, by show l.length ≤ 1048576; first | omega | assumption⟩, fun h14 => ?_, fun h14 => ?_⟩
     ·replace h14 : (findL (l.take k.toNat) ((l.getD k.toNat d0).2.2.2.1.getD j 0)) < 0 := h14
      have e1 : oneE l k.toNat = 8 := by unfold oneE; rw [if_neg (fun g => g hfm), if_neg hord, if_pos ⟨((l.getD k.toNat d0).2.2.2.1.getD j 0), getD_mem 0 _ j hj, h14⟩]
      rw [e1]
      exact ⟨rfl, rfl, rfl, rfl⟩
     ·replace h14 : ¬ ((findL (l.take k.toNat) ((l.getD k.toNat d0).2.2.2.1.getD j 0)) < 0) := h14
      refine ⟨⟨by show (-9223372036854775808 : Int) ≤ ((j : Int) + 1); omega, by show ((j : Int) + 1) ≤ (9223372036854775807 : Int); omega⟩, ?_⟩
      exact ⟨rfl, (l.getD k.toNat d0).2.2.2.1.length - (j + 1), by omega, j + 1, by omega, all_next (p := fun i => ¬ findL (l.take k.toNat) i < 0) hj (by assumption) (by assumption), rfl, rfl, rfl⟩
    ·replace h13 : ¬ ((j : Int) < (((l.getD k.toNat d0).2.2.2.1.length : Nat) : Int)) := h13
     have hall : ∀ i ∈ (l.getD k.toNat d0).2.2.2.1, ¬ findL (l.take k.toNat) i < 0 := fun i hi => hc1_1 i (by rw [List.take_of_length_le (by omega)]; exact hi)
     refine ⟨1, [(0, .k), (1, .k), (5, .k), (9, .k)], fun nM vs H => ∃ (j : Nat), j ≤ (l.getD k.toNat d0).2.2.2.1.length ∧ ofE l (l.getD k.toNat d0) ((l.getD k.toNat d0).2.2.2.1.drop j) = ofE l (l.getD k.toNat d0) (l.getD k.toNat d0).2.2.2.1 ∧ nM = (l.getD k.toNat d0).2.2.2.1.length - j ∧ vs = [.sl false (.cons (.int .i64) (.cons (.int .i64) (.cons (.int .i64) (.cons (.sl (.int .i64)) (.cons (.int .i64) (.cons (.int .i64) (.cons (.int .i64) (.cons (.int .i64) (.cons (.int .i64) (.cons (.int .i64) .nil)))))))))) l, .int .i64 k, .ptr 0 1 0 0, .int .i64 (j : Int)] ∧ H = [.cells [.int .i64 (l.getD k.toNat d0).1, .int .i64 (l.getD k.toNat d0).2.1, .int .i64 (l.getD k.toNat d0).2.2.1, .sl false (.int .i64) (l.getD k.toNat d0).2.2.2.1, .int .i64 (l.getD k.toNat d0).2.2.2.2.1, .int .i64 (l.getD k.toNat d0).2.2.2.2.2.1, .int .i64 (l.getD k.toNat d0).2.2.2.2.2.2.1, .int .i64 (l.getD k.toNat d0).2.2.2.2.2.2.2.1, .int .i64 (l.getD k.toNat d0).2.2.2.2.2.2.2.2.1, .int .i64 (l.getD k.toNat d0).2.2.2.2.2.2.2.2.2.1]], ⟨rfl, (l.getD k.toNat d0).2.2.2.1.length, 0, by omega, rfl, by omega, rfl, rfl⟩, ?_⟩
     rintro nM vs H ⟨j, hc2_0, hc2_1, rfl, rfl, rfl⟩
     refine ⟨fun h15 => ?_, fun h15 => ?_⟩
     ·replace h15 : (j : Int) < (((l.getD k.toNat d0).2.2.2.1.length : Nat) : Int) := h15
      have hj : j < (l.getD k.toNat d0).2.2.2.1.length := by omega
      obtain ⟨f0, f1, f2⟩ := find_eq (hall _ (getD_mem 0 _ j hj))
      have hfm2 := upE_fmd hp4 (show (findL (l.take k.toNat) ((l.getD k.toNat d0).2.2.2.1.getD j 0)).toNat < k.toNat by omega)
      have hpe2 := fmd_pe hfm2
      rw [drop_one 0 _ j hj, ofE, ← f0] at hc2_1
      refine ⟨⟨by show (0 : Int) ≤ (j : Int); omega, by show (j : Int) < ((l.getD k.toNat d0).2.2.2.1.length : Int); omega⟩, rfl, rfl, ⟨by show 0 ≤ k; first | omega | assumption, by show k ≤ (l.length : Int); first | omega | assumption, by show l.length ≤ 1048576; first | omega | assumption⟩, ⟨by show (0 : Int) ≤ findL (l.take k.toNat) ((l.getD k.toNat d0).2.2.2.1.getD j 0); omega, by show findL (l.take k.toNat) ((l.getD k.toNat d0).2.2.2.1.getD j 0) < (l.length : Int); omega⟩, ⟨rfl, rfl, rfl, Nat.le_of_ble_eq_true rfl⟩, rfl, rfl, rfl, rfl, rfl, rfl, rfl, rfl, rfl, rfl, rfl, rfl, rfl, rfl, rfl, rfl, rfl, rfl, ⟨by show 0 ≤ (l.getD ((findL (l.take k.toNat) ((l.getD k.toNat d0).2.2.2.1.getD j 0)).toNat) d0).2.2.2.2.2.2.2.2.2.1; first | omega | assumption | (simp only [List.length_cons, List.length_nil, List.length_append, List.length_take, List.length_drop, List.length_set, List.length_replicate]; omega), by show (l.getD ((findL (l.take k.toNat) ((l.getD k.toNat d0).2.2.2.1.getD j 0)).toNat) d0).2.2.2.2.2.2.2.2.2.1 ≤ 499; first | omega | assumption | (simp only [List.length_cons, List.length_nil, List.length_append, List.length_take, List.length_drop, List.length_set, List.length_replicate]; omega), by show 1 ≤ (l.getD ((findL (l.take k.toNat) ((l.getD k.toNat d0).2.2.2.1.getD j 0)).toNat) d0).2.1; first | omega | assumption | (simp only [List.length_cons, List.length_nil, List.length_append, List.length_take, List.length_drop, List.length_set, List.length_replicate]; omega), by show (l.getD ((findL (l.take k.toNat) ((l.getD k.toNat d0).2.2.2.1.getD j 0)).toNat) d0).2.1 ≤ 4; first | omega | assumption | (simp only [List.length_cons, List.length_nil, List.length_append, List.length_take, List.length_drop, List.length_set, List.length_replicate]; omega)⟩, rfl, rfl, rfl, rfl, rfl, rfl, rfl, rfl, rfl, rfl, trivial, fun h16 => ?_, fun h16 => ?_⟩
      ·replace h16 : ¬ (mad (l.getD k.toNat d0).2.1 (l.getD k.toNat d0).2.2.1 (l.getD k.toNat d0).2.2.2.2.2.2.2.2.2.1 (l.getD ((findL (l.take k.toNat) ((l.getD k.toNat d0).2.2.2.1.getD j 0)).toNat) d0).2.1 (l.getD ((findL (l.take k.toNat) ((l.getD k.toNat d0).2.2.2.1.getD j 0)).toNat) d0).2.2.1 (l.getD ((findL (l.take k.toNat) ((l.getD k.toNat d0).2.2.2.1.getD j 0)).toNat) d0).2.2.2.2.2.2.2.2.2.1) := h16
       rw [if_pos (show ¬ madA (l.getD k.toNat d0) (l.getD (findL (l.take k.toNat) ((l.getD k.toNat d0).2.2.2.1.getD j 0)).toNat d0) from h16)] at hc2_1
       have e1 : oneE l k.toNat = 7 := by unfold oneE; rw [if_neg (fun g => g hfm), if_neg hord, if_neg (fun ⟨i, hi, g⟩ => hall i hi g)]; rw [← hc2_1]
       rw [e1]
       exact ⟨rfl, rfl, rfl, rfl⟩
      ·replace h16 : ¬ (¬ (mad (l.getD k.toNat d0).2.1 (l.getD k.toNat d0).2.2.1 (l.getD k.toNat d0).2.2.2.2.2.2.2.2.2.1 (l.getD ((findL (l.take k.toNat) ((l.getD k.toNat d0).2.2.2.1.getD j 0)).toNat) d0).2.1 (l.getD ((findL (l.take k.toNat) ((l.getD k.toNat d0).2.2.2.1.getD j 0)).toNat) d0).2.2.1 (l.getD ((findL (l.take k.toNat) ((l.getD k.toNat d0).2.2.2.1.getD j 0)).toNat) d0).2.2.2.2.2.2.2.2.2.1)) := h16
       rw [if_neg (show ¬ ¬ madA (l.getD k.toNat d0) (l.getD (findL (l.take k.toNat) ((l.getD k.toNat d0).2.2.2.1.getD j 0)).toNat d0) from h16)] at hc2_1
       refine ⟨fun h17 => ?_, fun h17 => ?_⟩
       ·replace h17 : ¬ ((l.getD ((findL (l.take k.toNat) ((l.getD k.toNat d0).2.2.2.1.getD j 0)).toNat) d0).2.2.2.2.2.2.1 ≤ (l.getD k.toNat d0).2.2.2.2.2.2.1 ∧ (l.getD k.toNat d0).2.2.2.2.2.2.1 < (l.getD ((findL (l.take k.toNat) ((l.getD k.toNat d0).2.2.2.1.getD j 0)).toNat) d0).2.2.2.2.2.2.2.1) := h17
        rw [if_pos (show ¬ thr (l.getD (findL (l.take k.toNat) ((l.getD k.toNat d0).2.2.2.1.getD j 0)).toNat d0) (l.getD k.toNat d0).2.2.2.2.2.2.1 from h17)] at hc2_1
        have e1 : oneE l k.toNat = 4 := by unfold oneE; rw [if_neg (fun g => g hfm), if_neg hord, if_neg (fun ⟨i, hi, g⟩ => hall i hi g)]; rw [← hc2_1]
        rw [e1]
        exact ⟨rfl, rfl, rfl, rfl⟩
       ·replace h17 : ¬ (¬ ((l.getD ((findL (l.take k.toNat) ((l.getD k.toNat d0).2.2.2.1.getD j 0)).toNat) d0).2.2.2.2.2.2.1 ≤ (l.getD k.toNat d0).2.2.2.2.2.2.1 ∧ (l.getD k.toNat d0).2.2.2.2.2.2.1 < (l.getD ((findL (l.take k.toNat) ((l.getD k.toNat d0).2.2.2.1.getD j 0)).toNat) d0).2.2.2.2.2.2.2.1)) := h17
        rw [if_neg (show ¬ ¬ thr (l.getD (findL (l.take k.toNat) ((l.getD k.toNat d0).2.2.2.1.getD j 0)).toNat d0) (l.getD k.toNat d0).2.2.2.2.2.2.1 from h17)] at hc2_1
        refine ⟨⟨by show (-9223372036854775808 : Int) ≤ ((j : Int) + 1); omega, by show ((j : Int) + 1) ≤ (9223372036854775807 : Int); omega⟩, ?_⟩
        exact ⟨rfl, (l.getD k.toNat d0).2.2.2.1.length - (j + 1), by omega, j + 1, by omega, by assumption, rfl, rfl, rfl⟩
     ·replace h15 : ¬ ((j : Int) < (((l.getD k.toNat d0).2.2.2.1.length : Nat) : Int)) := h15
      have e1 : oneE l k.toNat = 0 := by unfold oneE; rw [if_neg (fun g => g hfm), if_neg hord, if_neg (fun ⟨i, hi, g⟩ => hall i hi g)]; rw [← hc2_1, List.drop_eq_nil_of_le (by omega), ofE]
      rw [e1]
      exact ⟨rfl, rfl, rfl, rfl⟩
  ·replace h1 : ¬ (0 < k) := h1
   have hord : ¬ (0 < k.toNat ∧ (l.getD k.toNat d0).1 ≤ (l.getD (k.toNat - 1) d0).1) := fun g => by omega
   refine ⟨fun h18 => absurd h18 (show ¬ (0 < k) by first | omega | assumption | simp_all), fun h18 => ?_⟩
   refine ⟨fun h19 => absurd h19 (show ¬ (0 < k) by first | omega | assumption | simp_all), fun h19 => ?_⟩
   refine ⟨fun h20 => absurd h20 (show ¬ (0 < k) by first | omega | assumption | simp_all), fun h20 => ?_⟩
   refine ⟨fun h21 => absurd h21 (show ¬ (0 < k) by first | omega | assumption | simp_all), fun h21 => ?_⟩
   refine ⟨fun h22 => absurd h22 (show ¬ (0 < k) by first | omega | assumption | simp_all), fun h22 => ?_⟩
   refine ⟨fun h23 => absurd h23 (show ¬ (0 < k) by first | omega | assumption | simp_all), fun h23 => ?_⟩
   refine ⟨fun h24 => absurd h24 (show ¬ (0 < k) by first | omega | assumption | simp_all), fun h24 => ?_⟩
   refine ⟨fun h25 => absurd h25 (show ¬ (0 < k) by first | omega | assumption | simp_all), fun h25 => ?_⟩
   refine ⟨fun h26 => absurd h26 (show ¬ (0 < k) by first | omega | assumption | simp_all), fun h26 => ?_⟩
   refine ⟨fun h27 => absurd h27 (show ¬ (0 < k) by first | omega | assumption | simp_all), fun h27 => ?_⟩
   refine ⟨1, [(0, .k), (1, .k), (5, .k), (7, .k)], fun nM vs H => ∃ (j : Nat), j ≤ (l.getD k.toNat d0).2.2.2.1.length ∧ (∀ i ∈ (l.getD k.toNat d0).2.2.2.1.take j, ¬ findL (l.take k.toNat) i < 0) ∧ nM = (l.getD k.toNat d0).2.2.2.1.length - j ∧ vs = [.sl false (.cons (.int .i64) (.cons (.int .i64) (.cons (.int .i64) (.cons (.sl (.int .i64)) (.cons (.int .i64) (.cons (.int .i64) (.cons (.int .i64) (.cons (.int .i64) (.cons (.int .i64) (.cons (.int .i64) .nil)))))))))) l, .int .i64 k, .ptr 0 1 0 0, .int .i64 (j : Int)] ∧ H = [.cells [.int .i64 (l.getD k.toNat d0).1, .int .i64 (l.getD k.toNat d0).2.1, .int .i64 (l.getD k.toNat d0).2.2.1, .sl false (.int .i64) (l.getD k.toNat d0).2.2.2.1, .int .i64 (l.getD k.toNat d0).2.2.2.2.1, .int .i64 (l.getD k.toNat d0).2.2.2.2.2.1, .int .i64 (l.getD k.toNat d0).2.2.2.2.2.2.1, .int .i64 (l.getD k.toNat d0).2.2.2.2.2.2.2.1, .int .i64 (l.getD k.toNat d0).2.2.2.2.2.2.2.2.1, .int .i64 (l.getD k.toNat d0).2.2.2.2.2.2.2.2.2.1]], ⟨rfl, (l.getD k.toNat d0).2.2.2.1.length, 0, by omega, by simp, by omega, rfl, rfl⟩, ?_⟩
   rintro nM vs H ⟨j, hc3_0, hc3_1, rfl, rfl, rfl⟩
   refine ⟨fun h28 => ?_, fun h28 => ?_⟩
   ·replace h28 : (j : Int) < (((l.getD k.toNat d0).2.2.2.1.length : Nat) : Int) := h28
    have hj : j < (l.getD k.toNat d0).2.2.2.1.length := by omega
    refine ⟨⟨by show (0 : Int) ≤ (j : Int); omega, by show (j : Int) < ((l.getD k.toNat d0).2.2.2.1.length : Int); omega⟩, rfl, rfl, ⟨by show 0 ≤ k; first | omega | assumption, by show k ≤ (l.length : Int); first | omega | assumption, by show l.length ≤ 1048576; first | omega | assumption⟩, fun h29 => ?_, fun h29 => ?_⟩
    ·replace h29 : (findL (l.take k.toNat) ((l.getD k.toNat d0).2.2.2.1.getD j 0)) < 0 := h29
     have e1 : oneE l k.toNat = 8 := by unfold oneE; rw [if_neg (fun g => g hfm), if_neg hord, if_pos ⟨((l.getD k.toNat d0).2.2.2.1.getD j 0), getD_mem 0 _ j hj, h29⟩]
     rw [e1]
     exact ⟨rfl, rfl, rfl, rfl⟩
    ·replace h29 : ¬ ((findL (l.take k.toNat) ((l.getD k.toNat d0).2.2.2.1.getD j 0)) < 0) := h29
     refine ⟨⟨by show (-9223372036854775808 : Int) ≤ ((j : Int) + 1); omega, by show ((j : Int) + 1) ≤ (9223372036854775807 : Int); omega⟩, ?_⟩
     exact ⟨rfl, (l.getD k.toNat d0).2.2.2.1.length - (j + 1), by omega, j + 1, by omega, all_next (p := fun i => ¬ findL (l.take k.toNat) i < 0) hj (by assumption) (by assumption), rfl, rfl, rfl⟩
   ·replace h28 : ¬ ((j : Int) < (((l.getD k.toNat d0).2.2.2.1.length : Nat) : Int)) := h28
    have hall : ∀ i ∈ (l.getD k.toNat d0).2.2.2.1, ¬ findL (l.take k.toNat) i < 0 := fun i hi => hc3_1 i (by rw [List.take_of_length_le (by omega)]; exact hi)
    refine ⟨1, [(0, .k), (1, .k), (5, .k), (9, .k)], fun nM vs H => ∃ (j : Nat), j ≤ (l.getD k.toNat d0).2.2.2.1.length ∧ ofE l (l.getD k.toNat d0) ((l.getD k.toNat d0).2.2.2.1.drop j) = ofE l (l.getD k.toNat d0) (l.getD k.toNat d0).2.2.2.1 ∧ nM = (l.getD k.toNat d0).2.2.2.1.length - j ∧ vs = [.sl false (.cons (.int .i64) (.cons (.int .i64) (.cons (.int .i64) (.cons (.sl (.int .i64)) (.cons (.int .i64) (.cons (.int .i64) (.cons (.int .i64) (.cons (.int .i64) (.cons (.int .i64) (.cons (.int .i64) .nil)))))))))) l, .int .i64 k, .ptr 0 1 0 0, .int .i64 (j : Int)] ∧ H = [.cells [.int .i64 (l.getD k.toNat d0).1, .int .i64 (l.getD k.toNat d0).2.1, .int .i64 (l.getD k.toNat d0).2.2.1, .sl false (.int .i64) (l.getD k.toNat d0).2.2.2.1, .int .i64 (l.getD k.toNat d0).2.2.2.2.1, .int .i64 (l.getD k.toNat d0).2.2.2.2.2.1, .int .i64 (l.getD k.toNat d0).2.2.2.2.2.2.1, .int .i64 (l.getD k.toNat d0).2.2.2.2.2.2.2.1, .int .i64 (l.getD k.toNat d0).2.2.2.2.2.2.2.2.1, .int .i64 (l.getD k.toNat d0).2.2.2.2.2.2.2.2.2.1]], ⟨rfl, (l.getD k.toNat d0).2.2.2.1.length, 0, by omega, rfl, by omega, rfl, rfl⟩, ?_⟩
    rintro nM vs H ⟨j, hc4_0, hc4_1, rfl, rfl, rfl⟩
    refine ⟨fun h30 => ?_, fun h30 => ?_⟩
    ·replace h30 : (j : Int) < (((l.getD k.toNat d0).2.2.2.1.length : Nat) : Int) := h30
     have hj : j < (l.getD k.toNat d0).2.2.2.1.length := by omega
     obtain ⟨f0, f1, f2⟩ := find_eq (hall _ (getD_mem 0 _ j hj))
     have hfm2 := upE_fmd hp4 (show (findL (l.take k.toNat) ((l.getD k.toNat d0).2.2.2.1.getD j 0)).toNat < k.toNat by omega)
     have hpe2 := fmd_pe hfm2
     rw [drop_one 0 _ j hj, ofE, ← f0] at hc4_1
     refine ⟨⟨by show (0 : Int) ≤ (j : Int); omega, by show (j : Int) < ((l.getD k.toNat d0).2.2.2.1.length : Int); omega⟩, rfl, rfl, ⟨by show 0 ≤ k; first | omega | assumption, by show k ≤ (l.length : Int); first | omega | assumption, by show l.length ≤ 1048576; first | omega | assumption⟩, ⟨by show (0 : Int) ≤ findL (l.take k.toNat) ((l.getD k.toNat d0).2.2.2.1.getD j 0); omega, by show findL (l.take k.toNat) ((l.getD k.toNat d0).2.2.2.1.getD j 0) < (l.length : Int); omega⟩, ⟨rfl, rfl, rfl, Nat.le_of_ble_eq_true rfl⟩, rfl, rfl, rfl, rfl, rfl, rfl, rfl, rfl, rfl, rfl, rfl, rfl, rfl, rfl, rfl, rfl, rfl, rfl, ⟨by show 0 ≤ (l.getD ((findL (l.take k.toNat) ((l.getD k.toNat d0).2.2.2.1.getD j 0)).toNat) d0).2.2.2.2.2.2.2.2.2.1; first | omega | assumption | (simp only [List.length_cons, List.length_nil, List.length_append, List.length_take, List.length_drop, List.length_set, List.length_replicate]; omega), by show (l.getD ((findL (l.take k.toNat) ((l.getD k.toNat d0).2.2.2.1.getD j 0)).toNat) d0).2.2.2.2.2.2.2.2.2.1 ≤ 499; first | omega | assumption | (simp only [List.length_cons, List.length_nil, List.length_append, List.length_take, List.length_drop, List.length_set, List.length_replicate]; omega), by show 1 ≤ (l.getD ((findL (l.take k.toNat) ((l.getD k.toNat d0).2.2.2.1.getD j 0)).toNat) d0).2.1; first | omega | assumption | (simp only [List.length_cons, List.length_nil, List.length_append, List.length_take, List.length_drop, List.length_set, List.length_replicate]; omega), by show (l.getD ((findL (l.take k.toNat) ((l.getD k.toNat d0).2.2.2.1.getD j 0)).toNat) d0).2.1 ≤ 4; first | omega | assumption | (simp only [List.length_cons, List.length_nil, List.length_append, List.length_take, List.length_drop, List.length_set, List.length_replicate]; omega)⟩, rfl, rfl, rfl, rfl, rfl, rfl, rfl, rfl, rfl, rfl, trivial, fun h31 => ?_, fun h31 => ?_⟩
     ·replace h31 : ¬ (mad (l.getD k.toNat d0).2.1 (l.getD k.toNat d0).2.2.1 (l.getD k.toNat d0).2.2.2.2.2.2.2.2.2.1 (l.getD ((findL (l.take k.toNat) ((l.getD k.toNat d0).2.2.2.1.getD j 0)).toNat) d0).2.1 (l.getD ((findL (l.take k.toNat) ((l.getD k.toNat d0).2.2.2.1.getD j 0)).toNat) d0).2.2.1 (l.getD ((findL (l.take k.toNat) ((l.getD k.toNat d0).2.2.2.1.getD j 0)).toNat) d0).2.2.2.2.2.2.2.2.2.1) := h31
      rw [if_pos (show ¬ madA (l.getD k.toNat d0) (l.getD (findL (l.take k.toNat) ((l.getD k.toNat d0).2.2.2.1.getD j 0)).toNat d0) from h31)] at hc4_1
      have e1 : oneE l k.toNat = 7 := by unfold oneE; rw [if_neg (fun g => g hfm), if_neg hord, if_neg (fun ⟨i, hi, g⟩ => hall i hi g)]; rw [← hc4_1]
      rw [e1]
      exact ⟨rfl, rfl, rfl, rfl⟩
     ·replace h31 : ¬ (¬ (mad (l.getD k.toNat d0).2.1 (l.getD k.toNat d0).2.2.1 (l.getD k.toNat d0).2.2.2.2.2.2.2.2.2.1 (l.getD ((findL (l.take k.toNat) ((l.getD k.toNat d0).2.2.2.1.getD j 0)).toNat) d0).2.1 (l.getD ((findL (l.take k.toNat) ((l.getD k.toNat d0).2.2.2.1.getD j 0)).toNat) d0).2.2.1 (l.getD ((findL (l.take k.toNat) ((l.getD k.toNat d0).2.2.2.1.getD j 0)).toNat) d0).2.2.2.2.2.2.2.2.2.1)) := h31
      rw [if_neg (show ¬ ¬ madA (l.getD k.toNat d0) (l.getD (findL (l.take k.toNat) ((l.getD k.toNat d0).2.2.2.1.getD j 0)).toNat d0) from h31)] at hc4_1
      refine ⟨fun h32 => ?_, fun h32 => ?_⟩
      ·replace h32 : ¬ ((l.getD ((findL (l.take k.toNat) ((l.getD k.toNat d0).2.2.2.1.getD j 0)).toNat) d0).2.2.2.2.2.2.1 ≤ (l.getD k.toNat d0).2.2.2.2.2.2.1 ∧ (l.getD k.toNat d0).2.2.2.2.2.2.1 < (l.getD ((findL (l.take k.toNat) ((l.getD k.toNat d0).2.2.2.1.getD j 0)).toNat) d0).2.2.2.2.2.2.2.1) := h32
       rw [if_pos (show ¬ thr (l.getD (findL (l.take k.toNat) ((l.getD k.toNat d0).2.2.2.1.getD j 0)).toNat d0) (l.getD k.toNat d0).2.2.2.2.2.2.1 from h32)] at hc4_1
       have e1 : oneE l k.toNat = 4 := by unfold oneE; rw [if_neg (fun g => g hfm), if_neg hord, if_neg (fun ⟨i, hi, g⟩ => hall i hi g)]; rw [← hc4_1]
       rw [e1]
       exact ⟨rfl, rfl, rfl, rfl⟩
      ·replace h32 : ¬ (¬ ((l.getD ((findL (l.take k.toNat) ((l.getD k.toNat d0).2.2.2.1.getD j 0)).toNat) d0).2.2.2.2.2.2.1 ≤ (l.getD k.toNat d0).2.2.2.2.2.2.1 ∧ (l.getD k.toNat d0).2.2.2.2.2.2.1 < (l.getD ((findL (l.take k.toNat) ((l.getD k.toNat d0).2.2.2.1.getD j 0)).toNat) d0).2.2.2.2.2.2.2.1)) := h32
       rw [if_neg (show ¬ ¬ thr (l.getD (findL (l.take k.toNat) ((l.getD k.toNat d0).2.2.2.1.getD j 0)).toNat d0) (l.getD k.toNat d0).2.2.2.2.2.2.1 from h32)] at hc4_1
       refine ⟨⟨by show (-9223372036854775808 : Int) ≤ ((j : Int) + 1); omega, by show ((j : Int) + 1) ≤ (9223372036854775807 : Int); omega⟩, ?_⟩
       exact ⟨rfl, (l.getD k.toNat d0).2.2.2.1.length - (j + 1), by omega, j + 1, by omega, by assumption, rfl, rfl, rfl⟩
    ·replace h30 : ¬ ((j : Int) < (((l.getD k.toNat d0).2.2.2.1.length : Nat) : Int)) := h30
     have e1 : oneE l k.toNat = 0 := by unfold oneE; rw [if_neg (fun g => g hfm), if_neg hord, if_neg (fun ⟨i, hi, g⟩ => hall i hi g)]; rw [← hc4_1, List.drop_eq_nil_of_le (by omega), ofE]
     rw [e1]
     exact ⟨rfl, rfl, rfl, rfl⟩
def CROn : List (Nat × Con) := (113, pureC [.v (.sl (.cons (.int .i64) (.cons (.int .i64) (.cons (.int .i64) (.cons (.sl (.int .i64)) (.cons (.int .i64) (.cons (.int .i64) (.cons (.int .i64) (.cons (.int .i64) (.cons (.int .i64) (.cons (.int .i64) .nil))))))))))), .v (.int .i64)] sROn) :: CRFd
theorem kROn : Known Try.prog (En CROn tys [] QOfs) := kRFd.add Try.func113 Try.call113 [.k] fun ds p v bs h hp => by
  unfold sROn at h
  split at h <;> simp only [Option.some.injEq, Prod.mk.injEq, reduceCtorEq] at h
  obtain ⟨rfl, rfl, rfl⟩ := h
  exact bROn _ _ hp.1 hp.2.1 hp.2.2.1 hp.2.2.2.1 hp.2.2.2.2
noncomputable def sRCk : List V → Option (Prop × V × List Blk)
  | [.sl false (.cons (.int .i64) (.cons (.int .i64) (.cons (.int .i64) (.cons (.sl (.int .i64)) (.cons (.int .i64) (.cons (.int .i64) (.cons (.int .i64) (.cons (.int .i64) (.cons (.int .i64) (.cons (.int .i64) .nil)))))))))) l] => some (l.length ≤ 1048576 ∧ (∀ a ∈ l, a.2.2.2.1.length ≤ 1048576), .int .i64 (chkL l), [])
  | _ => none
set_option maxHeartbeats 1000000 in
theorem bRCk (l : List (Int × (Int × (Int × (List Int × (Int × (Int × (Int × (Int × (Int × (Int × Unit))))))))))) (hp0 : l.length ≤ 1048576) (hp1 : (∀ a ∈ l, a.2.2.2.1.length ≤ 1048576)) : bodyP (En CROn tys [] QOfs) Try.f57 [.k] [.sl false (.cons (.int .i64) (.cons (.int .i64) (.cons (.int .i64) (.cons (.sl (.int .i64)) (.cons (.int .i64) (.cons (.int .i64) (.cons (.int .i64) (.cons (.int .i64) (.cons (.int .i64) (.cons (.int .i64) .nil)))))))))) l] (.int .i64 (chkL l)) [] := by
 refine ⟨fun h0 => ?_, fun h0 => ?_⟩
 ·replace h0 : 400 < (l.length : Int) := h0
  have e : chkL l = 2 := if_pos (by omega)
  rw [e]
  exact ⟨rfl, rfl, rfl, rfl⟩
 ·replace h0 : ¬ (400 < (l.length : Int)) := h0
  refine ⟨0, [(0, .k), (3, .k)], fun nM vs H => ∃ (k : Nat), k ≤ l.length ∧ upE l k = 0 ∧ nM = l.length - k ∧ vs = [.sl false (.cons (.int .i64) (.cons (.int .i64) (.cons (.int .i64) (.cons (.sl (.int .i64)) (.cons (.int .i64) (.cons (.int .i64) (.cons (.int .i64) (.cons (.int .i64) (.cons (.int .i64) (.cons (.int .i64) .nil)))))))))) l, .int .i64 (k : Int)] ∧ H = [], ⟨rfl, l.length, 0, by omega, rfl, by omega, rfl, rfl⟩, ?_⟩
  rintro nM vs H ⟨k, hc1_0, hc1_1, rfl, rfl, rfl⟩
  refine ⟨fun h1 => ?_, fun h1 => ?_⟩
  ·replace h1 : (k : Int) < (l.length : Int) := h1
   have hk : k < l.length := by omega
   refine ⟨rfl, ⟨by show 0 ≤ (k : Int); first | omega | assumption, by show (k : Int) < (l.length : Int); first | omega | assumption, by show l.length ≤ 1048576; first | omega | assumption, by first | assumption | simp, by show upE l (k : Int).toNat = 0; first | omega | assumption⟩, fun h2 => ?_, fun h2 => ?_⟩
   ·replace h2 : (oneE l (k : Int).toNat) ≠ 0 := h2
    have e : chkL l = oneE l k := by unfold chkL; rw [if_neg (by omega), upE_bad hk hc1_1 h2]
    rw [e]
    exact ⟨rfl, rfl, rfl, rfl⟩
   ·replace h2 : ¬ ((oneE l (k : Int).toNat) ≠ 0) := h2
    refine ⟨⟨by show (-9223372036854775808 : Int) ≤ ((k : Int) + 1); omega, by show ((k : Int) + 1) ≤ (9223372036854775807 : Int); omega⟩, ?_⟩
    exact ⟨rfl, l.length - (k + 1), by omega, k + 1, by omega, by rw [upE, if_pos hc1_1]; exact Classical.not_not.1 h2, rfl, rfl, rfl⟩
  ·replace h1 : ¬ ((k : Int) < (l.length : Int)) := h1
   have e : chkL l = 0 := by unfold chkL; rw [if_neg (by omega), show l.length = k by omega]; exact hc1_1
   rw [e]
   exact ⟨rfl, rfl, rfl, rfl⟩
def CRCk : List (Nat × Con) := (57, pureC [.v (.sl (.cons (.int .i64) (.cons (.int .i64) (.cons (.int .i64) (.cons (.sl (.int .i64)) (.cons (.int .i64) (.cons (.int .i64) (.cons (.int .i64) (.cons (.int .i64) (.cons (.int .i64) (.cons (.int .i64) .nil)))))))))))] sRCk) :: CROn
theorem kRCk : Known Try.prog (En CRCk tys [] QOfs) := kROn.add Try.func57 Try.call57 [.k] fun ds p v bs h hp => by
  unfold sRCk at h
  split at h <;> simp only [Option.some.injEq, Prod.mk.injEq, reduceCtorEq] at h
  obtain ⟨rfl, rfl, rfl⟩ := h
  exact bRCk _ hp.1 hp.2
end Go.Proofs.Ytgljcfnplkcfhaa.S38

namespace Go.Proofs.Ytgljcfnplkcfhaa.S38
open Go

/-- A share's numbers. -/
def vdS (S : List (Int × (Int × (Int × (List Int × (Int × (Int × (Int × (Int × (Int × (Int × Unit))))))))))) : Prop := ∀ a ∈ S, a.2.1 = 3 → 0 ≤ a.2.2.2.2.2.2.2.2.1 ∧ a.2.2.2.2.2.2.2.2.1 ≤ 11 ∧ 0 ≤ a.2.2.2.2.2.2.2.2.2.1 ∧ a.2.2.2.2.2.2.2.2.2.1 ≤ 499
theorem get_set {α : Type} {d : α} {l : List α} {i j : Nat} {x : α} (hi : i < l.length) : (l.set i x).getD j d = if i = j then x else l.getD j d := by
  rw [List.getD_eq_getElem?_getD, List.getD_eq_getElem?_getD, List.getElem?_set]
  split
  · rename_i h; subst h; simp [hi]
  · rfl
theorem tab_iff {S : List (Int × (Int × (Int × (List Int × (Int × (Int × (Int × (Int × (Int × (Int × Unit))))))))))} (hv : vdS S) {r i : Nat} (hr : r < 500) (hi : i < 12) : ∀ n, n ≤ S.length → (((tabS (S.take n)).getD r (List.replicate 12 false)).getD i false = true ↔ ∃ k, k < n ∧ (S.getD k d0).2.1 = 3 ∧ (S.getD k d0).2.2.2.2.2.2.2.2.2.1 = r ∧ (S.getD k d0).2.2.2.2.2.2.2.2.1 = i)
  | 0, _ => by
    have : (tabS (S.take 0)).getD r (List.replicate 12 false) = List.replicate 12 false := by
      show (List.replicate 500 (List.replicate 12 false)).getD r _ = _
      rw [List.getD_eq_getElem?_getD, List.getElem?_replicate]; split <;> rfl
    rw [this, rep_false]
    simp
  | n + 1, hn => by
    have ih := tab_iff hv hr hi n (by omega)
    rw [take_snoc d0 S n (by omega), tabS_snoc]
    unfold tab1
    have hl := tabS_len (S.take n)
    by_cases hk : (S.getD n d0).2.1 = 3
    · obtain ⟨v1, v2, v3, v4⟩ := hv _ (getD_mem d0 S n (by omega)) hk
      rw [if_pos hk, get_set (by omega)]
      by_cases hp : (S.getD n d0).2.2.2.2.2.2.2.2.2.1.toNat = r
      · rw [if_pos hp, hp, get_set (by rw [tabS_row (S.take n) _ (getD_mem _ _ r (by omega))]; omega)]
        by_cases hx : (S.getD n d0).2.2.2.2.2.2.2.2.1.toNat = i
        · rw [if_pos hx]
          exact ⟨fun _ => ⟨n, by omega, hk, by omega, by omega⟩, fun _ => rfl⟩
        · rw [if_neg hx, ih]
          constructor
          · rintro ⟨k, h1, h2⟩; exact ⟨k, by omega, h2⟩
          · rintro ⟨k, h1, h2, h3, h4⟩
            refine ⟨k, ?_, h2, h3, h4⟩
            rcases Nat.lt_or_ge k n with g | g
            · exact g
            · have : k = n := by omega
              subst this; omega
      · rw [if_neg hp, ih]
        constructor
        · rintro ⟨k, h1, h2⟩; exact ⟨k, by omega, h2⟩
        · rintro ⟨k, h1, h2, h3, h4⟩
          refine ⟨k, ?_, h2, h3, h4⟩
          rcases Nat.lt_or_ge k n with g | g
          · exact g
          · have : k = n := by omega
            subst this; omega
    · rw [if_neg hk, ih]
      constructor
      · rintro ⟨k, h1, h2⟩; exact ⟨k, by omega, h2⟩
      · rintro ⟨k, h1, h2, h3⟩
        refine ⟨k, ?_, h2, h3⟩
        rcases Nat.lt_or_ge k n with g | g
        · exact g
        · have : k = n := by omega
          subst this; exact absurd h2 hk
end Go.Proofs.Ytgljcfnplkcfhaa.S38

namespace Go.Proofs.Ytgljcfnplkcfhaa.S38
open Go Go.Proofs.Ytgljcfnplkcfhaa.Vc

/-! A larger group of spies sees no less, and is told no less. -/
theorem bit_nat {n h : Nat} : ((n : Int) / 2 ^ h % 2 = 1) ↔ n.testBit h = true := by
  rw [Nat.testBit_eq_decide_div_mod_eq, decide_eq_true_eq]
  have e : ((n : Int) / 2 ^ h % 2) = ((n / 2 ^ h % 2 : Nat) : Int) := by push_cast; rfl
  rw [e]; omega
theorem or_bit {a b : Int} (ha : 0 ≤ a ∧ a ≤ 4095) (ho : 0 ≤ iOr .i64 a b ∧ iOr .i64 a b ≤ 4095) {h : Nat} (hb : a / 2 ^ h % 2 = 1) : iOr .i64 a b / 2 ^ h % 2 = 1 := by
  have hn := (BitVec.ofInt 64 a ||| BitVec.ofInt 64 b).isLt
  have e : iOr .i64 a b = (((BitVec.ofInt 64 a ||| BitVec.ofInt 64 b).toNat : Nat) : Int) := by
    have e0 : iOr .i64 a b = IntKind.i64.wrap (((BitVec.ofInt 64 a ||| BitVec.ofInt 64 b).toNat : Nat) : Int) := rfl
    rw [e0] at ho ⊢
    generalize (BitVec.ofInt 64 a ||| BitVec.ofInt 64 b).toNat = n at ho hn ⊢
    simp [IntKind.wrap, IntKind.signed, IntKind.bits] at ho ⊢
    omega
  have ea : (BitVec.ofInt 64 a).toNat = a.toNat := by rw [BitVec.toNat_ofInt]; omega
  rw [e, bit_nat, BitVec.toNat_or, Nat.testBit_or, ea]
  rw [show a = ((a.toNat : Nat) : Int) by omega, bit_nat] at hb
  rw [hb]; rfl
theorem sp_bad {bad : Int} {cs : List (Int × (Int × Unit))} (h : spE bad cs = 0) : 0 ≤ bad ∧ bad ≤ 4095 := by
  unfold spE at h
  split at h
  · cases h
  · rename_i g; exact Classical.not_not.1 g
theorem sp_cs {bad : Int} {cs : List (Int × (Int × Unit))} (h : spE bad cs = 0) : ∀ c ∈ cs, 0 ≤ c.2.1 ∧ c.2.1 ≤ 1000000 := fun c hc1 => by
  unfold spE at h
  split at h
  · cases h
  · split at h
    · cases h
    · split at h
      · cases h
      · rename_i q
        refine Classical.byContradiction fun g => q ⟨c, hc1, ?_⟩
        omega
theorem see_more {a b : Int} {ca cb : List (Int × (Int × Unit))} {x : (Int × (Int × (Int × (List Int × (Int × (Int × (Int × (Int × (Int × (Int × Unit))))))))))} (ha : spE a ca = 0) (ho : spE (iOr .i64 a b) ((([] : List (Int × (Int × Unit))) ++ ca) ++ cb) = 0) (h : seeP a ca x) : seeP (iOr .i64 a b) ((([] : List (Int × (Int × Unit))) ++ ca) ++ cb) x := by
  rcases h with ⟨h1, h2⟩ | ⟨c, c1, c2⟩
  · exact .inl ⟨or_bit (sp_bad ha) (sp_bad ho) h1, h2⟩
  · exact .inr ⟨c, List.mem_append.2 (.inl (List.mem_append.2 (.inr c1))), c2⟩
theorem has_sp {l : List (Int × (Int × (Int × (List Int × (Int × (Int × (Int × (Int × (Int × (Int × Unit))))))))))} {bad : Int} {cs : List (Int × (Int × Unit))} (h : hasE l bad cs = 0) : spE bad cs = 0 := by
  unfold hasE at h
  split at h
  · rename_i g; exact absurd h g
  · exact h
theorem tol_sp {l : List (Int × (Int × (Int × (List Int × (Int × (Int × (Int × (Int × (Int × (Int × Unit))))))))))} {o n bad : Int} {cs : List (Int × (Int × Unit))} (h : tolE l o n bad cs = 0) : askE l o n 1 12 = 0 ∧ spE bad cs = 0 := by
  unfold tolE at h
  split at h
  · rename_i g; exact absurd h g
  · rename_i g; exact ⟨Classical.not_not.1 g, h⟩
theorem has_more {l : List (Int × (Int × (Int × (List Int × (Int × (Int × (Int × (Int × (Int × (Int × Unit))))))))))} {a b id : Int} {ca cb : List (Int × (Int × Unit))} (h4 : hasE l a ca = 0) (h5 : hasE l (iOr .i64 a b) ((([] : List (Int × (Int × Unit))) ++ ca) ++ cb) = 0) (h : id ∈ hasL l a ca) : id ∈ hasL l (iOr .i64 a b) ((([] : List (Int × (Int × Unit))) ++ ca) ++ cb) := by
  unfold hasL at h ⊢
  rw [if_pos h4] at h
  rw [if_pos h5]
  unfold idsF at h ⊢
  obtain ⟨x, hx, e⟩ := List.mem_map.1 h
  obtain ⟨x1, x2⟩ := List.mem_filter.1 hx
  exact List.mem_map.2 ⟨x, List.mem_filter.2 ⟨x1, decide_eq_true (see_more (has_sp h4) (has_sp h5) (of_decide_eq_true x2))⟩, e⟩
theorem hasL_le (l : List (Int × (Int × (Int × (List Int × (Int × (Int × (Int × (Int × (Int × (Int × Unit))))))))))) (bad : Int) (cs : List (Int × (Int × Unit))) : (hasL l bad cs).length ≤ l.length := by
  unfold hasL
  split
  · unfold idsF
    rw [List.length_map]
    exact List.length_filter_le _ _
  · exact Nat.zero_le _
theorem any_sub {α : Type} {p : α → Bool} {S S' : List α} (hs : ∀ x ∈ S, x ∈ S') (h : S.any p = true) : S'.any p = true := by
  obtain ⟨x, hx, g⟩ := List.any_eq_true.1 h
  exact List.any_eq_true.2 ⟨x, hs x hx, g⟩
theorem cntT_sub : ∀ {a b : List Bool}, a.length = b.length → (∀ i, i < a.length → a.getD i false = true → b.getD i false = true) → cntT a ≤ cntT b
  | [], [], _, _ => Nat.le_refl _
  | [], _ :: _, hl, _ => by simp at hl
  | _ :: _, [], hl, _ => by simp at hl
  | x :: a, y :: b, hl, h => by
    have ih := cntT_sub (a := a) (b := b) (by simpa using hl) fun i hi g => h (i + 1) (by simp only [List.length_cons]; omega) g
    have h0 : x = true → y = true := h 0 (by simp only [List.length_cons]; omega)
    have e : ∀ (z : Bool) (c : List Bool), cntT (z :: c) = cntT c + (if z = true then 1 else 0) := fun z c => by cases z <;> simp [cntT]
    rw [e, e]
    cases x
    · simp only [Bool.false_eq_true, if_false]; omega
    · rw [h0 rfl]; omega
theorem en_sub {S S' : List (Int × (Int × (Int × (List Int × (Int × (Int × (Int × (Int × (Int × (Int × Unit))))))))))} {need need' : Int} (hv : vdS S) (hv' : vdS S') (hs : ∀ x ∈ S, x ∈ S') (hn : need' ≤ need) (h : enS need (tabS S) = true) : enS need' (tabS S') = true := by
  obtain ⟨row, hr, g⟩ := List.any_eq_true.1 h
  obtain ⟨r, hr1, e⟩ := List.mem_iff_getElem.1 hr
  have hr5 : r < 500 := by rw [← tabS_len S]; exact hr1
  have e : (tabS S).getD r (List.replicate 12 false) = row := by rw [List.getD_eq_getElem?_getD, List.getElem?_eq_getElem hr1]; exact e
  have hm' := getD_mem (List.replicate 12 false) (tabS S') r (by rw [tabS_len]; exact hr5)
  have hl := tabS_row S _ (getD_mem (List.replicate 12 false) (tabS S) r hr1)
  have hl' := tabS_row S' _ hm'
  refine List.any_eq_true.2 ⟨_, hm', decide_eq_true ?_⟩
  have g := of_decide_eq_true g
  have hc := cntT_sub (hl.trans hl'.symm) fun i hi hb => by
    rw [hl] at hi
    have t1 := tab_iff hv hr5 hi _ (Nat.le_refl _)
    have t2 := tab_iff hv' hr5 hi _ (Nat.le_refl _)
    rw [List.take_length] at t1 t2
    obtain ⟨k, q1, q2, q3, q4⟩ := t1.1 hb
    obtain ⟨j, j1, j2⟩ := List.mem_iff_getElem.1 (hs _ (getD_mem d0 S k q1))
    have j3 : S'.getD j d0 = S.getD k d0 := by rw [List.getD_eq_getElem?_getD, List.getElem?_eq_getElem j1]; exact j2
    exact t2.2 ⟨j, j1, by rw [j3]; exact q2, by rw [j3]; exact q3, by rw [j3]; exact q4⟩
  rw [e] at hc
  omega
theorem sn_vd {l : List (Int × (Int × (Int × (List Int × (Int × (Int × (Int × (Int × (Int × (Int × Unit))))))))))} (hc : chkL l = 0) (o bad : Int) (cs : List (Int × (Int × Unit))) : vdS (sn bad cs (fO o l)) := fun a ha h3 => by
  have g := fmd_all (chk_fmd hc (List.mem_filter.1 (List.mem_filter.1 ha).1).1)
  omega
theorem tol_more {l : List (Int × (Int × (Int × (List Int × (Int × (Int × (Int × (Int × (Int × (Int × Unit))))))))))} {o n n' a b : Int} {ca cb : List (Int × (Int × Unit))} (h1 : tolE l o n a ca = 0) (h2 : tolE l o (min n n') (iOr .i64 a b) ((([] : List (Int × (Int × Unit))) ++ ca) ++ cb) = 0) (h3 : tolT l o n a ca = true) :
    tolT l o (min n n') (iOr .i64 a b) ((([] : List (Int × (Int × Unit))) ++ ca) ++ cb) = true := by
  unfold tolT at h3 ⊢
  rw [decide_eq_true h1, Bool.true_and] at h3
  rw [decide_eq_true h2, Bool.true_and]
  obtain ⟨k1, s1⟩ := tol_sp h1
  obtain ⟨k2, s2⟩ := tol_sp h2
  have hs : ∀ x ∈ sn a ca (fO o l), x ∈ sn (iOr .i64 a b) ((([] : List (Int × (Int × Unit))) ++ ca) ++ cb) (fO o l) := fun x hx => by
    obtain ⟨x1, x2⟩ := List.mem_filter.1 hx
    exact List.mem_filter.2 ⟨x1, decide_eq_true (see_more s1 s2 (of_decide_eq_true x2))⟩
  have hc := (ask_ok k1).1
  unfold tolB at h3 ⊢
  rw [Bool.or_eq_true, Bool.and_eq_true] at h3 ⊢
  rcases h3 with h3 | ⟨h3, h4⟩
  · exact .inl (any_sub hs h3)
  · exact .inr ⟨any_sub hs h3, en_sub (sn_vd hc _ _ _) (sn_vd hc _ _ _) hs (Int.min_le_left _ _) h4⟩
theorem tel_some {l : List (Int × (Int × (Int × (List Int × (Int × (Int × (Int × (Int × (Int × (Int × Unit))))))))))} {o n bad : Int} {cs : List (Int × (Int × Unit))} {k : Nat} (h1 : ¬ tolE l o n bad cs ≠ 0) (h2 : ¬ ¬ (tolT l o n bad cs = true)) (h3 : ¬ bad ≠ 0)
    (h4 : ∀ x ∈ cs.take k, ¬ (askE l o x.2.1 0 1000000 = 0 ∧ 0 < (((atL l o x.2.1).length : Nat) : Int))) (hk : cs.length ≤ k) : False := by
  have h1 := Classical.not_not.1 h1
  have h2 := Classical.not_not.1 h2
  have h3 := Classical.not_not.1 h3
  rw [List.take_of_length_le hk] at h4
  obtain ⟨k1, s1⟩ := tol_sp h1
  unfold tolT at h2
  rw [decide_eq_true h1, Bool.true_and] at h2
  obtain ⟨x, hx⟩ : ∃ x, x ∈ sn bad cs (fO o l) := by
    unfold tolB at h2
    rw [Bool.or_eq_true, Bool.and_eq_true] at h2
    rcases h2 with h | ⟨h, _⟩
    · obtain ⟨x, hx, _⟩ := List.any_eq_true.1 h; exact ⟨x, hx⟩
    · obtain ⟨x, hx, _⟩ := List.any_eq_true.1 h; exact ⟨x, hx⟩
  obtain ⟨x1, x2⟩ := List.mem_filter.1 hx
  obtain ⟨a1, a2, a3, a4⟩ := ask_ok k1
  rcases of_decide_eq_true x2 with ⟨g, _⟩ | ⟨c, c1, c2, c3, c4⟩
  · rw [h3, Int.zero_ediv] at g
    cases g
  · have ha : askE l o c.2.1 0 1000000 = 0 := by
      unfold askE
      have := sp_cs s1 c c1
      rw [if_neg (fun g => g a1), if_neg (by omega)]
    refine h4 c c1 ⟨ha, ?_⟩
    have e : atL l o c.2.1 = idsF (pT c.2.1) (fO o l) := if_pos ha
    have hm : x.1 ∈ atL l o c.2.1 := by rw [e]; exact List.mem_map.2 ⟨x, List.mem_filter.2 ⟨x1, decide_eq_true ⟨c3, c4⟩⟩, rfl⟩
    have := List.length_pos_of_mem hm
    omega
end Go.Proofs.Ytgljcfnplkcfhaa.S38

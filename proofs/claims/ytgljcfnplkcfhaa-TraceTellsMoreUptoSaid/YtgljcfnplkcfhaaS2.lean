/- Texts of this claim: S38.A6, S38.A7, S38.Qg, S38.A8, S38.Qh. -/
import Derived.Test.YtgljcfnplkcfhaaS1
set_option linter.unusedVariables false
set_option linter.unusedSimpArgs false
namespace Go.Proofs.Ytgljcfnplkcfhaa.S38
open Go Go.Proofs.Ytgljcfnplkcfhaa.Vc Go.Proofs
set_option maxRecDepth 100000
set_option linter.unusedVariables false

noncomputable def sAsk : List V → Option (Prop × V × List Blk)
  | [.sl false (.cons (.int .i64) (.cons (.int .i64) (.cons (.int .i64) (.cons (.sl (.int .i64)) (.cons (.int .i64) (.cons (.int .i64) (.cons (.int .i64) (.cons (.int .i64) (.cons (.int .i64) (.cons (.int .i64) .nil)))))))))) l, .int .i64 o, .int .i64 n, .int .i64 lo, .int .i64 hi] => some (l.length ≤ 1048576 ∧ (∀ a ∈ l, a.2.2.2.1.length ≤ 1048576), .int .i64 (askE l o n lo hi), [])
  | _ => none
set_option maxHeartbeats 1000000 in
theorem bAsk (l : List (Int × (Int × (Int × (List Int × (Int × (Int × (Int × (Int × (Int × (Int × Unit))))))))))) (o : Int) (n : Int) (lo : Int) (hi : Int) (hp0 : l.length ≤ 1048576) (hp1 : (∀ a ∈ l, a.2.2.2.1.length ≤ 1048576)) : bodyP (En CBel tys [] []) Try.f105 [.k] [.sl false (.cons (.int .i64) (.cons (.int .i64) (.cons (.int .i64) (.cons (.sl (.int .i64)) (.cons (.int .i64) (.cons (.int .i64) (.cons (.int .i64) (.cons (.int .i64) (.cons (.int .i64) (.cons (.int .i64) .nil)))))))))) l, .int .i64 o, .int .i64 n, .int .i64 lo, .int .i64 hi] (.int .i64 (askE l o n lo hi)) [] := by
 refine ⟨⟨by show l.length ≤ 1048576; first | omega | assumption, by first | assumption | simp⟩, fun h0 => ?_, fun h0 => ?_⟩
 ·replace h0 : (chkL l) ≠ 0 := h0
  first
  | exact ⟨rfl, rfl, congrArg _ (show _ = askE l o n lo hi from (if_pos h0).symm), rfl⟩
  | exact ⟨rfl, rfl, congrArg _ (show _ = askE l o n lo hi by unfold askE; rw [if_neg h0]; split <;> first | rfl | (exfalso; omega)), rfl⟩
 ·replace h0 : ¬ ((chkL l) ≠ 0) := h0
  refine ⟨rfl, rfl, rfl, trivial, fun h1 => ?_, fun h1 => ?_⟩
  ·replace h1 : ¬ (¬ (0 ≤ o ∧ o ≤ 1048576)) := h1
   refine ⟨rfl, rfl, rfl, trivial, fun h2 => ?_, fun h2 => ?_⟩
   ·replace h2 : ¬ (lo ≤ n ∧ n ≤ hi) := h2
    first
    | exact ⟨rfl, rfl, congrArg _ (show _ = askE l o n lo hi from (if_pos h0).symm), rfl⟩
    | exact ⟨rfl, rfl, congrArg _ (show _ = askE l o n lo hi by unfold askE; rw [if_neg h0]; split <;> first | rfl | (exfalso; omega)), rfl⟩
   ·replace h2 : ¬ (¬ (lo ≤ n ∧ n ≤ hi)) := h2
    first
    | exact ⟨rfl, rfl, congrArg _ (show _ = askE l o n lo hi from (if_pos h0).symm), rfl⟩
    | exact ⟨rfl, rfl, congrArg _ (show _ = askE l o n lo hi by unfold askE; rw [if_neg h0]; split <;> first | rfl | (exfalso; omega)), rfl⟩
  ·replace h1 : ¬ (0 ≤ o ∧ o ≤ 1048576) := h1
   first
   | exact ⟨rfl, rfl, congrArg _ (show _ = askE l o n lo hi from (if_pos h0).symm), rfl⟩
   | exact ⟨rfl, rfl, congrArg _ (show _ = askE l o n lo hi by unfold askE; rw [if_neg h0]; split <;> first | rfl | (exfalso; omega)), rfl⟩
def CAsk : List (Nat × Con) := (105, pureC [.v (.sl (.cons (.int .i64) (.cons (.int .i64) (.cons (.int .i64) (.cons (.sl (.int .i64)) (.cons (.int .i64) (.cons (.int .i64) (.cons (.int .i64) (.cons (.int .i64) (.cons (.int .i64) (.cons (.int .i64) .nil))))))))))), .v (.int .i64), .v (.int .i64), .v (.int .i64), .v (.int .i64)] sAsk) :: CBel
theorem kAsk : Known Try.prog (En CAsk tys [] []) := kBel.add Try.func105 Try.call105 [.k] fun ds p v bs h hp => by
  unfold sAsk at h
  split at h <;> simp only [Option.some.injEq, Prod.mk.injEq, reduceCtorEq] at h
  obtain ⟨rfl, rfl, rfl⟩ := h
  exact bAsk _ _ _ _ _ hp.1 hp.2
def sOfs : List V → Option (Prop × Nat × (Nat → List V))
  | [.rp false (.sl (.cons (.int .i64) (.cons (.int .i64) (.cons (.int .i64) (.cons (.sl (.int .i64)) (.cons (.int .i64) (.cons (.int .i64) (.cons (.int .i64) (.cons (.int .i64) (.cons (.int .i64) (.cons (.int .i64) .nil))))))))))) l 0, .rp false (.int .i64) o 0] => some (l.length ≤ 1048576, ((fO o l).length, fun n => [.agg [.int .i64 ((fO o l).getD n d0).1, .int .i64 ((fO o l).getD n d0).2.1, .int .i64 ((fO o l).getD n d0).2.2.1, .sl false (.int .i64) ((fO o l).getD n d0).2.2.2.1, .int .i64 ((fO o l).getD n d0).2.2.2.2.1, .int .i64 ((fO o l).getD n d0).2.2.2.2.2.1, .int .i64 ((fO o l).getD n d0).2.2.2.2.2.2.1, .int .i64 ((fO o l).getD n d0).2.2.2.2.2.2.2.1, .int .i64 ((fO o l).getD n d0).2.2.2.2.2.2.2.2.1, .int .i64 ((fO o l).getD n d0).2.2.2.2.2.2.2.2.2.1]]))
  | _ => none
set_option maxHeartbeats 1000000 in
theorem bOfs (l : List (Int × (Int × (Int × (List Int × (Int × (Int × (Int × (Int × (Int × (Int × Unit))))))))))) (o : Int) (hp0 : l.length ≤ 1048576) : bodyS (En CAsk tys [] []).inR Try.f132 [.rp false (.sl (.cons (.int .i64) (.cons (.int .i64) (.cons (.int .i64) (.cons (.sl (.int .i64)) (.cons (.int .i64) (.cons (.int .i64) (.cons (.int .i64) (.cons (.int .i64) (.cons (.int .i64) (.cons (.int .i64) .nil))))))))))) l 0, .rp false (.int .i64) o 0] [.v (.cons (.int .i64) (.cons (.int .i64) (.cons (.int .i64) (.cons (.sl (.int .i64)) (.cons (.int .i64) (.cons (.int .i64) (.cons (.int .i64) (.cons (.int .i64) (.cons (.int .i64) (.cons (.int .i64) .nil))))))))))] ((fO o l).length, fun n => [.agg [.int .i64 ((fO o l).getD n d0).1, .int .i64 ((fO o l).getD n d0).2.1, .int .i64 ((fO o l).getD n d0).2.2.1, .sl false (.int .i64) ((fO o l).getD n d0).2.2.2.1, .int .i64 ((fO o l).getD n d0).2.2.2.2.1, .int .i64 ((fO o l).getD n d0).2.2.2.2.2.1, .int .i64 ((fO o l).getD n d0).2.2.2.2.2.2.1, .int .i64 ((fO o l).getD n d0).2.2.2.2.2.2.2.1, .int .i64 ((fO o l).getD n d0).2.2.2.2.2.2.2.2.1, .int .i64 ((fO o l).getD n d0).2.2.2.2.2.2.2.2.2.1]]) := by
 refine ⟨rfl, 0, [(0, .k), (2, .k), (6, .k), (7, .k), (8, .k)], fun nM vs H => ∃ (k q : Nat), k ≤ (fO o l).length ∧ (fO o l).drop k = (l.drop q).filter (fun a : (Int × (Int × (Int × (List Int × (Int × (Int × (Int × (Int × (Int × (Int × Unit)))))))))) => decide (a.2.2.1 = o)) ∧ nM = l.length - q ∧ vs = [.yld (some k), .rp false (.int .i64) o 0, .sl false (.cons (.int .i64) (.cons (.int .i64) (.cons (.int .i64) (.cons (.sl (.int .i64)) (.cons (.int .i64) (.cons (.int .i64) (.cons (.int .i64) (.cons (.int .i64) (.cons (.int .i64) (.cons (.int .i64) .nil)))))))))) l, .int .i64 (l.length : Int), .int .i64 (q : Int)] ∧ H = [], ⟨rfl, l.length, 0, 0, by omega, rfl, by omega, rfl, rfl⟩, ?_⟩
 rintro nM vs H ⟨k, q, hc1_0, hc1_1, rfl, rfl, rfl⟩
 refine ⟨fun h0 => ?_, fun h0 => ?_⟩
 ·replace h0 : (q : Int) < (l.length : Int) := h0
  have hq : q < l.length := by omega
  refine ⟨⟨by show (0 : Int) ≤ (q : Int); omega, by show (q : Int) < (l.length : Int); omega⟩, ⟨rfl, rfl, rfl, Nat.le_of_ble_eq_true rfl⟩, fun h1 => ?_, fun h1 => ?_⟩
  ·replace h1 : (l.getD q d0).2.2.1 = o := h1
   have hx : (fun a : (Int × (Int × (Int × (List Int × (Int × (Int × (Int × (Int × (Int × (Int × Unit)))))))))) => decide (a.2.2.1 = o)) (l.getD q d0) = true := decide_eq_true h1
   obtain ⟨y1, y2, y3⟩ := drop_fil hc1_1 hq hx
   refine ⟨rfl, rfl, rfl, rfl, rfl, rfl, rfl, rfl, rfl, ⟨y1, congrArg (fun a : (Int × (Int × (Int × (List Int × (Int × (Int × (Int × (Int × (Int × (Int × Unit)))))))))) => ([.agg [.int .i64 a.1, .int .i64 a.2.1, .int .i64 a.2.2.1, .sl false (.int .i64) a.2.2.2.1, .int .i64 a.2.2.2.2.1, .int .i64 a.2.2.2.2.2.1, .int .i64 a.2.2.2.2.2.2.1, .int .i64 a.2.2.2.2.2.2.2.1, .int .i64 a.2.2.2.2.2.2.2.2.1, .int .i64 a.2.2.2.2.2.2.2.2.2.1]] : List V)) y2.symm⟩, ?_, ?_⟩
   ·refine ⟨⟨by show (-9223372036854775808 : Int) ≤ ((q : Int) + 1); omega, by show ((q : Int) + 1) ≤ (9223372036854775807 : Int); omega⟩, ?_⟩
    exact ⟨rfl, l.length - (q + 1), by omega, k + 1, q + 1, by omega, y3, rfl, rfl, rfl⟩
   ·trivial
  ·replace h1 : ¬ ((l.getD q d0).2.2.1 = o) := h1
   have hx : (fun a : (Int × (Int × (Int × (List Int × (Int × (Int × (Int × (Int × (Int × (Int × Unit)))))))))) => decide (a.2.2.1 = o)) (l.getD q d0) = false := decide_eq_false h1
   have y3 := drop_nofil hc1_1 hq hx
   refine ⟨⟨by show (-9223372036854775808 : Int) ≤ ((q : Int) + 1); omega, by show ((q : Int) + 1) ≤ (9223372036854775807 : Int); omega⟩, ?_⟩
   exact ⟨rfl, l.length - (q + 1), by omega, k, q + 1, by omega, y3, rfl, rfl, rfl⟩
 ·replace h0 : ¬ ((q : Int) < (l.length : Int)) := h0
  have hz := drop_end hc1_0 hc1_1 (by omega)
  show (k : Nat) = (fO o l).length
  omega
def QOfs : List (Nat × SeqC) := (132, [.ref (.sl (.cons (.int .i64) (.cons (.int .i64) (.cons (.int .i64) (.cons (.sl (.int .i64)) (.cons (.int .i64) (.cons (.int .i64) (.cons (.int .i64) (.cons (.int .i64) (.cons (.int .i64) (.cons (.int .i64) .nil))))))))))), .ref (.int .i64)], sOfs) :: []
def COfs : List (Nat × Con) := CAsk
theorem kOfs : Known Try.prog (En COfs tys [] QOfs) := kAsk.addSeq Try.func132 Try.call132 [.v (.cons (.int .i64) (.cons (.int .i64) (.cons (.int .i64) (.cons (.sl (.int .i64)) (.cons (.int .i64) (.cons (.int .i64) (.cons (.int .i64) (.cons (.int .i64) (.cons (.int .i64) (.cons (.int .i64) .nil))))))))))] fun ds p L h hp => by
  unfold sOfs at h
  split at h <;> simp only [Option.some.injEq, Prod.mk.injEq, reduceCtorEq] at h
  obtain ⟨rfl, rfl⟩ := h
  exact bOfs _ _ hp
noncomputable def sOff : List V → Option (Prop × V × List Blk)
  | [.sl false (.cons (.int .i64) (.cons (.int .i64) (.cons (.int .i64) (.cons (.sl (.int .i64)) (.cons (.int .i64) (.cons (.int .i64) (.cons (.int .i64) (.cons (.int .i64) (.cons (.int .i64) (.cons (.int .i64) .nil)))))))))) l, .int .i64 o] => some (True, .fn 132 [.ptr 0 1 0 0, .ptr 1 1 0 0], [.cells [.sl false (.cons (.int .i64) (.cons (.int .i64) (.cons (.int .i64) (.cons (.sl (.int .i64)) (.cons (.int .i64) (.cons (.int .i64) (.cons (.int .i64) (.cons (.int .i64) (.cons (.int .i64) (.cons (.int .i64) .nil)))))))))) (l)], .cells [.int .i64 (o)]])
  | _ => none
set_option maxHeartbeats 1000000 in
theorem bOff (l : List (Int × (Int × (Int × (List Int × (Int × (Int × (Int × (Int × (Int × (Int × Unit))))))))))) (o : Int)  : bodyI (En COfs tys [] QOfs) Try.f114 [.c []] [.sl false (.cons (.int .i64) (.cons (.int .i64) (.cons (.int .i64) (.cons (.sl (.int .i64)) (.cons (.int .i64) (.cons (.int .i64) (.cons (.int .i64) (.cons (.int .i64) (.cons (.int .i64) (.cons (.int .i64) .nil)))))))))) l, .int .i64 o] (.fn 132 [.ptr 0 1 0 0, .ptr 1 1 0 0]) [.cells [.sl false (.cons (.int .i64) (.cons (.int .i64) (.cons (.int .i64) (.cons (.sl (.int .i64)) (.cons (.int .i64) (.cons (.int .i64) (.cons (.int .i64) (.cons (.int .i64) (.cons (.int .i64) (.cons (.int .i64) .nil)))))))))) (l)], .cells [.int .i64 (o)]] := by
 exact ⟨rfl, rfl, rfl, rfl⟩
def COff : List (Nat × Con) := (114, immC [.v (.sl (.cons (.int .i64) (.cons (.int .i64) (.cons (.int .i64) (.cons (.sl (.int .i64)) (.cons (.int .i64) (.cons (.int .i64) (.cons (.int .i64) (.cons (.int .i64) (.cons (.int .i64) (.cons (.int .i64) .nil))))))))))), .v (.int .i64)] sOff) :: COfs
theorem kOff : Known Try.prog (En COff tys [] QOfs) := kOfs.addI Try.func114 Try.call114 [.c []] fun ds p v bs h hp => by
  unfold sOff at h
  split at h <;> simp only [Option.some.injEq, Prod.mk.injEq, reduceCtorEq] at h
  obtain ⟨rfl, rfl, rfl⟩ := h
  exact bOff _ _
noncomputable def sAtt : List V → Option (Prop × V × List Blk)
  | [.sl false (.cons (.int .i64) (.cons (.int .i64) (.cons (.int .i64) (.cons (.sl (.int .i64)) (.cons (.int .i64) (.cons (.int .i64) (.cons (.int .i64) (.cons (.int .i64) (.cons (.int .i64) (.cons (.int .i64) .nil)))))))))) l, .int .i64 o, .int .i64 t] => some (l.length ≤ 1048576 ∧ (∀ a ∈ l, a.2.2.2.1.length ≤ 1048576), .tup [.own (.int .i64) 0, .int .i64 (askE l o t 0 1000000)], [.row true (.int .i64) (atL l o t)])
  | _ => none
set_option maxHeartbeats 1000000 in
theorem bAtt (l : List (Int × (Int × (Int × (List Int × (Int × (Int × (Int × (Int × (Int × (Int × Unit))))))))))) (o : Int) (t : Int) (hp0 : l.length ≤ 1048576) (hp1 : (∀ a ∈ l, a.2.2.2.1.length ≤ 1048576)) : bodyP (En COff tys [] QOfs) Try.f60 [.o (.int .i64), .k] [.sl false (.cons (.int .i64) (.cons (.int .i64) (.cons (.int .i64) (.cons (.sl (.int .i64)) (.cons (.int .i64) (.cons (.int .i64) (.cons (.int .i64) (.cons (.int .i64) (.cons (.int .i64) (.cons (.int .i64) .nil)))))))))) l, .int .i64 o, .int .i64 t] (.tup [.own (.int .i64) 0, .int .i64 (askE l o t 0 1000000)]) [.row true (.int .i64) (atL l o t)] := by
 refine ⟨rfl, rfl, rfl, rfl, ⟨by show l.length ≤ 1048576; first | omega | assumption, by first | assumption | simp⟩, fun h0 => ?_, fun h0 => ?_⟩
 ·replace h0 : (askE l o t 0 1000000) ≠ 0 := h0
  have e : atL l o t = [] := if_neg h0
  rw [e]
  exact ⟨rfl, rfl, rfl, rfl⟩
 ·replace h0 : ¬ ((askE l o t 0 1000000) ≠ 0) := h0
  have hk0 : askE l o t 0 1000000 = 0 := Classical.not_not.1 h0
  obtain ⟨hc, ho, ht⟩ := ask_ok hk0
  have hl4 := (chk_ok hc).1
  have hFl := fO_len o l
  refine ⟨rfl, trivial, rfl, rfl, ⟨by show l.length ≤ 1048576; first | omega | assumption, fun _ _ => rfl⟩, 5, [(5, .k), (9, .c [(0, (.int .i64))])], fun n vs H => vs = [.ptr 0 1 0 0, .ptr 1 1 0 0] ∧ H = [.cells [.int .i64 t], .cells [.own (.int .i64) 4], .dead, .dead, .row true (.int .i64) (idsF (pT t) ((fO o l).take n))], ⟨rfl, rfl, rfl⟩, ?_, ?_⟩
  ·rintro n vs H ⟨rfl, rfl⟩ hn1
   replace hn1 : n < (fO o l).length := hn1
   have hn : n < (fO o l).length := hn1
   have hfa := fmd_all (chk_fmd hc (List.mem_filter.1 (getD_mem d0 (fO o l) n hn)).1)
   have hil := idsF_len (pT t) ((fO o l).take n)
   have htl := tk_len (fO o l) n
   refine ⟨⟨rfl, rfl, rfl, Nat.le_of_ble_eq_true rfl⟩, rfl, rfl, rfl, rfl, rfl, rfl, rfl, rfl, rfl, rfl, trivial, fun h1 => ?_, fun h1 => ?_⟩
   ·replace h1 : (((fO o l).getD n d0).2.2.2.2.2.2.1 ≤ t ∧ t < ((fO o l).getD n d0).2.2.2.2.2.2.2.1) := h1
    refine ⟨rfl, ⟨rfl, rfl⟩, by show (idsF (pT t) ((fO o l).take n)).length + ([((fO o l).getD n d0).1] : List Int).length ≤ 1000000000; simp only [List.length_cons, List.length_nil]; omega, ⟨rfl, rfl, rfl⟩, ?_⟩
    exact ⟨rfl, rfl, rfl, by rw [idsF_t hn (decide_eq_true (by omega))]; rfl⟩
   ·replace h1 : ¬ (((fO o l).getD n d0).2.2.2.2.2.2.1 ≤ t ∧ t < ((fO o l).getD n d0).2.2.2.2.2.2.2.1) := h1
    exact ⟨rfl, rfl, rfl, by rw [idsF_f hn (decide_eq_false (by omega))]; rfl⟩
  ·rintro vs H ⟨rfl, rfl⟩
   have e : atL l o t = idsF (pT t) ((fO o l).take (fO o l).length) := by unfold atL; rw [if_pos hk0, List.take_length]
   rw [hk0, e]
   exact ⟨rfl, rfl, rfl, rfl⟩
def CAtt : List (Nat × Con) := (60, pureC [.v (.sl (.cons (.int .i64) (.cons (.int .i64) (.cons (.int .i64) (.cons (.sl (.int .i64)) (.cons (.int .i64) (.cons (.int .i64) (.cons (.int .i64) (.cons (.int .i64) (.cons (.int .i64) (.cons (.int .i64) .nil))))))))))), .v (.int .i64), .v (.int .i64)] sAtt) :: COff
theorem kAtt : Known Try.prog (En CAtt tys [] QOfs) := kOff.add Try.func60 Try.call60 [.o (.int .i64), .k] fun ds p v bs h hp => by
  unfold sAtt at h
  split at h <;> simp only [Option.some.injEq, Prod.mk.injEq, reduceCtorEq] at h
  obtain ⟨rfl, rfl, rfl⟩ := h
  exact bAtt _ _ _ hp.1 hp.2
noncomputable def sWhr : List V → Option (Prop × V × List Blk)
  | [.sl false (.cons (.int .i64) (.cons (.int .i64) (.cons (.int .i64) (.cons (.sl (.int .i64)) (.cons (.int .i64) (.cons (.int .i64) (.cons (.int .i64) (.cons (.int .i64) (.cons (.int .i64) (.cons (.int .i64) .nil)))))))))) l, .int .i64 o, .int .i64 t] => some (l.length ≤ 1048576 ∧ (∀ a ∈ l, a.2.2.2.1.length ≤ 1048576), .tup [.int .i64 (whL l o t), .int .i64 (askE l o t 0 1000000)], [])
  | _ => none
set_option maxHeartbeats 1000000 in
theorem bWhr (l : List (Int × (Int × (Int × (List Int × (Int × (Int × (Int × (Int × (Int × (Int × Unit))))))))))) (o : Int) (t : Int) (hp0 : l.length ≤ 1048576) (hp1 : (∀ a ∈ l, a.2.2.2.1.length ≤ 1048576)) : bodyP (En CAtt tys [] QOfs) Try.f62 [.k, .k] [.sl false (.cons (.int .i64) (.cons (.int .i64) (.cons (.int .i64) (.cons (.sl (.int .i64)) (.cons (.int .i64) (.cons (.int .i64) (.cons (.int .i64) (.cons (.int .i64) (.cons (.int .i64) (.cons (.int .i64) .nil)))))))))) l, .int .i64 o, .int .i64 t] (.tup [.int .i64 (whL l o t), .int .i64 (askE l o t 0 1000000)]) [] := by
 refine ⟨rfl, rfl, rfl, rfl, ⟨by show l.length ≤ 1048576; first | omega | assumption, by first | assumption | simp⟩, fun h0 => ?_, fun h0 => ?_⟩
 ·replace h0 : (askE l o t 0 1000000) ≠ 0 := h0
  have e : whL l o t = 0 := if_neg h0
  rw [e]
  exact ⟨rfl, rfl, rfl, rfl⟩
 ·replace h0 : ¬ ((askE l o t 0 1000000) ≠ 0) := h0
  have hk0 : askE l o t 0 1000000 = 0 := Classical.not_not.1 h0
  obtain ⟨hc, ho, ht⟩ := ask_ok hk0
  have hl4 := (chk_ok hc).1
  have hFl := fO_len o l
  refine ⟨⟨rfl, rfl, rfl⟩, rfl, trivial, rfl, rfl, ⟨by show l.length ≤ 1048576; first | omega | assumption, fun _ _ => rfl⟩, 4, [(5, .k), (9, .k)], fun n vs H => vs = [.ptr 0 1 0 0, .ptr 1 1 0 0] ∧ H = [.cells [.int .i64 t], .cells [.int .i64 ((orF (pT t) ((fO o l).take n) : Nat) : Int)], .dead, .dead], ⟨rfl, rfl, rfl⟩, ?_, ?_⟩
  ·rintro n vs H ⟨rfl, rfl⟩ hn1
   replace hn1 : n < (fO o l).length := hn1
   have hn : n < (fO o l).length := hn1
   have hfa := fmd_all (chk_fmd hc (List.mem_filter.1 (getD_mem d0 (fO o l) n hn)).1)
   obtain ⟨hw1, hw2⟩ := pow_small hfa.2.2.2.2.2.2.1 hfa.2.2.2.2.2.2.2.1
   refine ⟨⟨rfl, rfl, rfl, Nat.le_of_ble_eq_true rfl⟩, rfl, rfl, rfl, rfl, rfl, rfl, rfl, rfl, rfl, rfl, trivial, fun h1 => ?_, fun h1 => ?_⟩
   ·replace h1 : (((fO o l).getD n d0).2.2.2.2.2.2.1 ≤ t ∧ t < ((fO o l).getD n d0).2.2.2.2.2.2.2.1) := h1
    refine ⟨by kernel_rfl, ⟨by show (0 : Int) ≤ ((fO o l).getD n d0).2.2.2.2.1; omega, by show ((fO o l).getD n d0).2.2.2.2.1 ≤ (64 : Int); omega⟩, ⟨by show (-9223372036854775808 : Int) ≤ 1 * 2 ^ (((fO o l).getD n d0).2.2.2.2.1.toNat); omega, by show 1 * 2 ^ (((fO o l).getD n d0).2.2.2.2.1.toNat) ≤ (9223372036854775807 : Int); omega⟩, .inl ⟨⟨by show (0 : Int) ≤ ((orF (pT t) ((fO o l).take n) : Nat) : Int); omega, by show (0 : Int) ≤ (1 * 2 ^ (((fO o l).getD n d0).2.2.2.2.1.toNat)); omega⟩, ?_⟩⟩
    refine ⟨⟨rfl, rfl, rfl⟩, ?_⟩
    exact ⟨rfl, rfl, rfl, by rw [orF_t hn (decide_eq_true (by omega))]; rfl⟩
   ·replace h1 : ¬ (((fO o l).getD n d0).2.2.2.2.2.2.1 ≤ t ∧ t < ((fO o l).getD n d0).2.2.2.2.2.2.2.1) := h1
    exact ⟨rfl, rfl, rfl, by rw [orF_f hn (decide_eq_false (by omega))]; rfl⟩
  ·rintro vs H ⟨rfl, rfl⟩
   have e : whL l o t = orF (pT t) ((fO o l).take (fO o l).length) := by unfold whL; rw [if_pos hk0, List.take_length]
   rw [hk0, e]
   exact ⟨rfl, rfl, rfl, rfl⟩
def CWhr : List (Nat × Con) := (62, pureC [.v (.sl (.cons (.int .i64) (.cons (.int .i64) (.cons (.int .i64) (.cons (.sl (.int .i64)) (.cons (.int .i64) (.cons (.int .i64) (.cons (.int .i64) (.cons (.int .i64) (.cons (.int .i64) (.cons (.int .i64) .nil))))))))))), .v (.int .i64), .v (.int .i64)] sWhr) :: CAtt
theorem kWhr : Known Try.prog (En CWhr tys [] QOfs) := kAtt.add Try.func62 Try.call62 [.k, .k] fun ds p v bs h hp => by
  unfold sWhr at h
  split at h <;> simp only [Option.some.injEq, Prod.mk.injEq, reduceCtorEq] at h
  obtain ⟨rfl, rfl, rfl⟩ := h
  exact bWhr _ _ _ hp.1 hp.2
noncomputable def sTrl : List V → Option (Prop × V × List Blk)
  | [.sl false (.cons (.int .i64) (.cons (.int .i64) (.cons (.int .i64) (.cons (.sl (.int .i64)) (.cons (.int .i64) (.cons (.int .i64) (.cons (.int .i64) (.cons (.int .i64) (.cons (.int .i64) (.cons (.int .i64) .nil)))))))))) l, .int .i64 o] => some (l.length ≤ 1048576 ∧ (∀ a ∈ l, a.2.2.2.1.length ≤ 1048576), .tup [.int .i64 (trL l o), .int .i64 (askE l o 0 0 0)], [])
  | _ => none
set_option maxHeartbeats 1000000 in
theorem bTrl (l : List (Int × (Int × (Int × (List Int × (Int × (Int × (Int × (Int × (Int × (Int × Unit))))))))))) (o : Int) (hp0 : l.length ≤ 1048576) (hp1 : (∀ a ∈ l, a.2.2.2.1.length ≤ 1048576)) : bodyP (En CWhr tys [] QOfs) Try.f64 [.k, .k] [.sl false (.cons (.int .i64) (.cons (.int .i64) (.cons (.int .i64) (.cons (.sl (.int .i64)) (.cons (.int .i64) (.cons (.int .i64) (.cons (.int .i64) (.cons (.int .i64) (.cons (.int .i64) (.cons (.int .i64) .nil)))))))))) l, .int .i64 o] (.tup [.int .i64 (trL l o), .int .i64 (askE l o 0 0 0)]) [] := by
 refine ⟨rfl, rfl, rfl, rfl, ⟨by show l.length ≤ 1048576; first | omega | assumption, by first | assumption | simp⟩, fun h0 => ?_, fun h0 => ?_⟩
 ·replace h0 : (askE l o 0 0 0) ≠ 0 := h0
  have e : trL l o = 0 := if_neg h0
  rw [e]
  exact ⟨rfl, rfl, rfl, rfl⟩
 ·replace h0 : ¬ ((askE l o 0 0 0) ≠ 0) := h0
  have hk0 : askE l o 0 0 0 = 0 := Classical.not_not.1 h0
  obtain ⟨hc, ho, ht⟩ := ask_ok hk0
  have hl4 := (chk_ok hc).1
  have hFl := fO_len o l
  refine ⟨⟨rfl, rfl, rfl⟩, rfl, trivial, rfl, rfl, ⟨by show l.length ≤ 1048576; first | omega | assumption, fun _ _ => rfl⟩, 3, [(7, .k)], fun n vs H => vs = [.ptr 0 1 0 0] ∧ H = [.cells [.int .i64 ((orF pE ((fO o l).take n) : Nat) : Int)], .dead, .dead], ⟨rfl, rfl, rfl⟩, ?_, ?_⟩
  ·rintro n vs H ⟨rfl, rfl⟩ hn1
   replace hn1 : n < (fO o l).length := hn1
   have hn : n < (fO o l).length := hn1
   have hfa := fmd_all (chk_fmd hc (List.mem_filter.1 (getD_mem d0 (fO o l) n hn)).1)
   obtain ⟨hw1, hw2⟩ := pow_small hfa.2.2.2.2.2.2.1 hfa.2.2.2.2.2.2.2.1
   refine ⟨⟨rfl, rfl, rfl, Nat.le_of_ble_eq_true rfl⟩, fun h1 => ?_, fun h1 => ?_⟩
   ·replace h1 : ((fO o l).getD n d0).2.2.2.2.2.2.1 < ((fO o l).getD n d0).2.2.2.2.2.2.2.1 := h1
    refine ⟨by kernel_rfl, ⟨by show (0 : Int) ≤ ((fO o l).getD n d0).2.2.2.2.1; omega, by show ((fO o l).getD n d0).2.2.2.2.1 ≤ (64 : Int); omega⟩, ⟨by show (-9223372036854775808 : Int) ≤ 1 * 2 ^ (((fO o l).getD n d0).2.2.2.2.1.toNat); omega, by show 1 * 2 ^ (((fO o l).getD n d0).2.2.2.2.1.toNat) ≤ (9223372036854775807 : Int); omega⟩, .inl ⟨⟨by show (0 : Int) ≤ ((orF pE ((fO o l).take n) : Nat) : Int); omega, by show (0 : Int) ≤ (1 * 2 ^ (((fO o l).getD n d0).2.2.2.2.1.toNat)); omega⟩, ?_⟩⟩
    refine ⟨⟨rfl, rfl, rfl⟩, ?_⟩
    exact ⟨rfl, rfl, rfl, by rw [orF_t hn (decide_eq_true (by omega))]; rfl⟩
   ·replace h1 : ¬ (((fO o l).getD n d0).2.2.2.2.2.2.1 < ((fO o l).getD n d0).2.2.2.2.2.2.2.1) := h1
    exact ⟨rfl, rfl, rfl, by rw [orF_f hn (decide_eq_false (by omega))]; rfl⟩
  ·rintro vs H ⟨rfl, rfl⟩
   have e : trL l o = orF pE ((fO o l).take (fO o l).length) := by unfold trL; rw [if_pos hk0, List.take_length]
   rw [hk0, e]
   exact ⟨rfl, rfl, rfl, rfl⟩
def CTrl : List (Nat × Con) := (64, pureC [.v (.sl (.cons (.int .i64) (.cons (.int .i64) (.cons (.int .i64) (.cons (.sl (.int .i64)) (.cons (.int .i64) (.cons (.int .i64) (.cons (.int .i64) (.cons (.int .i64) (.cons (.int .i64) (.cons (.int .i64) .nil))))))))))), .v (.int .i64)] sTrl) :: CWhr
theorem kTrl : Known Try.prog (En CTrl tys [] QOfs) := kWhr.add Try.func64 Try.call64 [.k, .k] fun ds p v bs h hp => by
  unfold sTrl at h
  split at h <;> simp only [Option.some.injEq, Prod.mk.injEq, reduceCtorEq] at h
  obtain ⟨rfl, rfl, rfl⟩ := h
  exact bTrl _ _ hp.1 hp.2
noncomputable def sLat : List V → Option (Prop × V × List Blk)
  | [.sl false (.cons (.int .i64) (.cons (.int .i64) (.cons (.int .i64) (.cons (.sl (.int .i64)) (.cons (.int .i64) (.cons (.int .i64) (.cons (.int .i64) (.cons (.int .i64) (.cons (.int .i64) (.cons (.int .i64) .nil)))))))))) l, .int .i64 o, .int .i64 t] => some (l.length ≤ 1048576 ∧ (∀ a ∈ l, a.2.2.2.1.length ≤ 1048576), .tup [.own (.int .i64) 0, .int .i64 (askE l o t 0 1000000)], [.row true (.int .i64) (laL l o t)])
  | _ => none
set_option maxHeartbeats 1000000 in
theorem bLat (l : List (Int × (Int × (Int × (List Int × (Int × (Int × (Int × (Int × (Int × (Int × Unit))))))))))) (o : Int) (t : Int) (hp0 : l.length ≤ 1048576) (hp1 : (∀ a ∈ l, a.2.2.2.1.length ≤ 1048576)) : bodyP (En CTrl tys [] QOfs) Try.f66 [.o (.int .i64), .k] [.sl false (.cons (.int .i64) (.cons (.int .i64) (.cons (.int .i64) (.cons (.sl (.int .i64)) (.cons (.int .i64) (.cons (.int .i64) (.cons (.int .i64) (.cons (.int .i64) (.cons (.int .i64) (.cons (.int .i64) .nil)))))))))) l, .int .i64 o, .int .i64 t] (.tup [.own (.int .i64) 0, .int .i64 (askE l o t 0 1000000)]) [.row true (.int .i64) (laL l o t)] := by
 refine ⟨rfl, rfl, rfl, rfl, ⟨by show l.length ≤ 1048576; first | omega | assumption, by first | assumption | simp⟩, fun h0 => ?_, fun h0 => ?_⟩
 ·replace h0 : (askE l o t 0 1000000) ≠ 0 := h0
  have e : laL l o t = [] := if_neg h0
  rw [e]
  exact ⟨rfl, rfl, rfl, rfl⟩
 ·replace h0 : ¬ ((askE l o t 0 1000000) ≠ 0) := h0
  have hk0 : askE l o t 0 1000000 = 0 := Classical.not_not.1 h0
  obtain ⟨hc, ho, ht⟩ := ask_ok hk0
  have hl4 := (chk_ok hc).1
  have hFl := fO_len o l
  refine ⟨rfl, trivial, rfl, rfl, ⟨by show l.length ≤ 1048576; first | omega | assumption, fun _ _ => rfl⟩, 5, [(5, .k), (9, .c [(0, (.int .i64))])], fun n vs H => vs = [.ptr 0 1 0 0, .ptr 1 1 0 0] ∧ H = [.cells [.int .i64 t], .cells [.own (.int .i64) 4], .dead, .dead, .row true (.int .i64) (idsF (pL t) ((fO o l).take n))], ⟨rfl, rfl, rfl⟩, ?_, ?_⟩
  ·rintro n vs H ⟨rfl, rfl⟩ hn1
   replace hn1 : n < (fO o l).length := hn1
   have hn : n < (fO o l).length := hn1
   have hfa := fmd_all (chk_fmd hc (List.mem_filter.1 (getD_mem d0 (fO o l) n hn)).1)
   have hil := idsF_len (pL t) ((fO o l).take n)
   have htl := tk_len (fO o l) n
   refine ⟨⟨rfl, rfl, rfl, Nat.le_of_ble_eq_true rfl⟩, fun h1 => ?_, fun h1 => ?_⟩
   ·replace h1 : ((fO o l).getD n d0).2.1 ≠ 4 := h1
    refine ⟨fun h2 => ?_, fun h2 => ?_⟩
    ·replace h2 : ((fO o l).getD n d0).2.2.2.2.2.2.1 < ((fO o l).getD n d0).2.2.2.2.2.2.2.1 := h2
     refine ⟨⟨by show (-9223372036854775808 : Int) ≤ (((fO o l).getD n d0).2.2.2.2.2.2.2.1 - 1); omega, by show (((fO o l).getD n d0).2.2.2.2.2.2.2.1 - 1) ≤ (9223372036854775807 : Int); omega⟩, ⟨by show (-9223372036854775808 : Int) ≤ (t + 2); omega, by show (t + 2) ≤ (9223372036854775807 : Int); omega⟩, fun h3 => ?_, fun h3 => ?_⟩
     ·replace h3 : (t + 2) < (((fO o l).getD n d0).2.2.2.2.2.2.2.1 - 1) := h3
      refine ⟨rfl, ⟨rfl, rfl⟩, by show (idsF (pL t) ((fO o l).take n)).length + ([((fO o l).getD n d0).1] : List Int).length ≤ 1000000000; simp only [List.length_cons, List.length_nil]; omega, ⟨rfl, rfl, rfl⟩, ?_⟩
      exact ⟨rfl, rfl, rfl, by rw [idsF_t hn (decide_eq_true (by omega))]; rfl⟩
     ·replace h3 : ¬ ((t + 2) < (((fO o l).getD n d0).2.2.2.2.2.2.2.1 - 1)) := h3
      exact ⟨rfl, rfl, rfl, by rw [idsF_f hn (decide_eq_false (by omega))]; rfl⟩
    ·replace h2 : ¬ (((fO o l).getD n d0).2.2.2.2.2.2.1 < ((fO o l).getD n d0).2.2.2.2.2.2.2.1) := h2
     exact ⟨rfl, rfl, rfl, by rw [idsF_f hn (decide_eq_false (by omega))]; rfl⟩
   ·replace h1 : ¬ (((fO o l).getD n d0).2.1 ≠ 4) := h1
    exact ⟨rfl, rfl, rfl, by rw [idsF_f hn (decide_eq_false (by omega))]; rfl⟩
  ·rintro vs H ⟨rfl, rfl⟩
   have e : laL l o t = idsF (pL t) ((fO o l).take (fO o l).length) := by unfold laL; rw [if_pos hk0, List.take_length]
   rw [hk0, e]
   exact ⟨rfl, rfl, rfl, rfl⟩
def CLat : List (Nat × Con) := (66, pureC [.v (.sl (.cons (.int .i64) (.cons (.int .i64) (.cons (.int .i64) (.cons (.sl (.int .i64)) (.cons (.int .i64) (.cons (.int .i64) (.cons (.int .i64) (.cons (.int .i64) (.cons (.int .i64) (.cons (.int .i64) .nil))))))))))), .v (.int .i64), .v (.int .i64)] sLat) :: CTrl
theorem kLat : Known Try.prog (En CLat tys [] QOfs) := kTrl.add Try.func66 Try.call66 [.o (.int .i64), .k] fun ds p v bs h hp => by
  unfold sLat at h
  split at h <;> simp only [Option.some.injEq, Prod.mk.injEq, reduceCtorEq] at h
  obtain ⟨rfl, rfl, rfl⟩ := h
  exact bLat _ _ _ hp.1 hp.2
end Go.Proofs.Ytgljcfnplkcfhaa.S38

namespace Go.Proofs.Ytgljcfnplkcfhaa.S38
open Go Go.Proofs.Ytgljcfnplkcfhaa.Vc Go.Proofs
set_option maxRecDepth 100000
set_option linter.unusedVariables false

noncomputable def sSp1 : List V → Option (Prop × V × List Blk)
  | [.agg [.int .i64 h, .int .i64 t]] => some (True, .b (¬ (0 ≤ h ∧ h ≤ 11) ∨ ¬ (0 ≤ t ∧ t ≤ 1000000)), [])
  | _ => none
set_option maxHeartbeats 1000000 in
theorem bSp1 (h : Int) (t : Int)  : bodyP (En CLat tys [] QOfs) Try.f135 [.k] [.agg [.int .i64 h, .int .i64 t]] (.b (¬ (0 ≤ h ∧ h ≤ 11) ∨ ¬ (0 ≤ t ∧ t ≤ 1000000))) [] := by
 refine ⟨rfl, rfl, rfl, trivial, fun h0 => ?_, fun h0 => ?_⟩
 ·replace h0 : ¬ (¬ (0 ≤ h ∧ h ≤ 11)) := h0
  refine ⟨rfl, rfl, rfl, trivial, ?_⟩
  exact ⟨rfl, rfl, congrArg V.b (propext (by constructor <;> intro h <;> first | rfl | exact .inl (by assumption) | exact .inr h | exact h.resolve_left (by assumption))), rfl⟩
 ·replace h0 : ¬ (0 ≤ h ∧ h ≤ 11) := h0
  exact ⟨rfl, rfl, congrArg V.b (propext (by constructor <;> intro h <;> first | rfl | exact .inl (by assumption) | exact .inr h | exact h.resolve_left (by assumption))), rfl⟩
def CSp1 : List (Nat × Con) := (135, pureC [.v (.cons (.int .i64) (.cons (.int .i64) .nil))] sSp1) :: CLat
theorem kSp1 : Known Try.prog (En CSp1 tys [] QOfs) := kLat.add Try.func135 Try.call135 [.k] fun ds p v bs h hp => by
  unfold sSp1 at h
  split at h <;> simp only [Option.some.injEq, Prod.mk.injEq, reduceCtorEq] at h
  obtain ⟨rfl, rfl, rfl⟩ := h
  exact bSp1 _ _
noncomputable def sSe1 : List V → Option (Prop × V × List Blk)
  | [.agg [.int .i64 h, .int .i64 t], .rp false (.cons (.int .i64) (.cons (.int .i64) (.cons (.int .i64) (.cons (.sl (.int .i64)) (.cons (.int .i64) (.cons (.int .i64) (.cons (.int .i64) (.cons (.int .i64) (.cons (.int .i64) (.cons (.int .i64) .nil)))))))))) a 0] => some (True, .b (h = a.2.2.2.2.1 ∧ a.2.2.2.2.2.2.1 ≤ t ∧ t < a.2.2.2.2.2.2.2.1), [])
  | _ => none
set_option maxHeartbeats 1000000 in
theorem bSe1 (h : Int) (t : Int) (a : (Int × (Int × (Int × (List Int × (Int × (Int × (Int × (Int × (Int × (Int × Unit)))))))))))  : bodyP (En CSp1 tys [] QOfs) Try.f136 [.k] [.agg [.int .i64 h, .int .i64 t], .rp false (.cons (.int .i64) (.cons (.int .i64) (.cons (.int .i64) (.cons (.sl (.int .i64)) (.cons (.int .i64) (.cons (.int .i64) (.cons (.int .i64) (.cons (.int .i64) (.cons (.int .i64) (.cons (.int .i64) .nil)))))))))) a 0] (.b (h = a.2.2.2.2.1 ∧ a.2.2.2.2.2.2.1 ≤ t ∧ t < a.2.2.2.2.2.2.2.1)) [] := by
 refine ⟨fun h0 => ?_, fun h0 => ?_⟩
 ·replace h0 : h = a.2.2.2.2.1 := h0
  refine ⟨rfl, rfl, rfl, rfl, rfl, rfl, rfl, rfl, rfl, rfl, trivial, ?_⟩
  exact ⟨rfl, rfl, congrArg V.b (propext (by constructor <;> intro h <;> first | exact ⟨by assumption, h⟩ | exact h.2 | exact Bool.noConfusion h | exact absurd h.1 (by assumption))), rfl⟩
 ·replace h0 : ¬ (h = a.2.2.2.2.1) := h0
  exact ⟨rfl, rfl, congrArg V.b (propext (by constructor <;> intro h <;> first | exact ⟨by assumption, h⟩ | exact h.2 | exact Bool.noConfusion h | exact absurd h.1 (by assumption))), rfl⟩
def CSe1 : List (Nat × Con) := (136, pureC [.v (.cons (.int .i64) (.cons (.int .i64) .nil)), .ref (.cons (.int .i64) (.cons (.int .i64) (.cons (.int .i64) (.cons (.sl (.int .i64)) (.cons (.int .i64) (.cons (.int .i64) (.cons (.int .i64) (.cons (.int .i64) (.cons (.int .i64) (.cons (.int .i64) .nil))))))))))] sSe1) :: CSp1
theorem kSe1 : Known Try.prog (En CSe1 tys [] QOfs) := kSp1.add Try.func136 Try.call136 [.k] fun ds p v bs h hp => by
  unfold sSe1 at h
  split at h <;> simp only [Option.some.injEq, Prod.mk.injEq, reduceCtorEq] at h
  obtain ⟨rfl, rfl, rfl⟩ := h
  exact bSe1 _ _ _
set_option maxHeartbeats 1000000 in
theorem bIxC0 (s : List (Int × (Int × Unit))) (hp0 : s.length ≤ 1048576) : bodyP (En CSe1 tys [] QOfs) Try.f140 [.k] [.sl false (.cons (.int .i64) (.cons (.int .i64) .nil)) s, .fn 135 []] (.int .i64 (ixP (fun c : (Int × (Int × Unit)) => decide (¬ (0 ≤ c.1 ∧ c.1 ≤ 11) ∨ ¬ (0 ≤ c.2.1 ∧ c.2.1 ≤ 1000000))) s 0)) [] := by
 refine ⟨0, [(0, .k), (1, .k), (7, .k), (8, .k)], fun nM vs H => ∃ (j : Nat), j ≤ s.length ∧ (ixP (fun c : (Int × (Int × Unit)) => decide (¬ (0 ≤ c.1 ∧ c.1 ≤ 11) ∨ ¬ (0 ≤ c.2.1 ∧ c.2.1 ≤ 1000000))) (s.drop j) j = ixP (fun c : (Int × (Int × Unit)) => decide (¬ (0 ≤ c.1 ∧ c.1 ≤ 11) ∨ ¬ (0 ≤ c.2.1 ∧ c.2.1 ≤ 1000000))) s 0) ∧ nM = s.length - j ∧ vs = [.sl false (.cons (.int .i64) (.cons (.int .i64) .nil)) s, .fn 135 [], .int .i64 (s.length : Int), .int .i64 (j : Int)] ∧ H = [], ⟨rfl, s.length, 0, by omega, rfl, by omega, rfl, rfl⟩, ?_⟩
 rintro nM vs H ⟨j, hc1_0, hc1_1, rfl, rfl, rfl⟩
 refine ⟨fun h0 => ?_, fun h0 => ?_⟩
 ·replace h0 : (j : Int) < (s.length : Int) := h0
  have hj : j < s.length := by omega
  rw [drop_one (0, (0, ())) s j hj, ixP] at hc1_1
  refine ⟨⟨by show (0 : Int) ≤ (j : Int); omega, by show (j : Int) < (s.length : Int); omega⟩, rfl, rfl, trivial, fun h1 => ?_, fun h1 => ?_⟩
  ·replace h1 : (¬ (0 ≤ (s.getD j (0, (0, ()))).1 ∧ (s.getD j (0, (0, ()))).1 ≤ 11) ∨ ¬ (0 ≤ (s.getD j (0, (0, ()))).2.1 ∧ (s.getD j (0, (0, ()))).2.1 ≤ 1000000)) := h1
   rw [if_pos (decide_eq_true h1)] at hc1_1
   rw [← hc1_1]
   exact ⟨rfl, rfl, rfl, rfl⟩
  ·replace h1 : ¬ (¬ (0 ≤ (s.getD j (0, (0, ()))).1 ∧ (s.getD j (0, (0, ()))).1 ≤ 11) ∨ ¬ (0 ≤ (s.getD j (0, (0, ()))).2.1 ∧ (s.getD j (0, (0, ()))).2.1 ≤ 1000000)) := h1
   rw [if_neg (by simpa using h1)] at hc1_1
   refine ⟨⟨by show (-9223372036854775808 : Int) ≤ ((j : Int) + 1); omega, by show ((j : Int) + 1) ≤ (9223372036854775807 : Int); omega⟩, ?_⟩
   exact ⟨rfl, s.length - (j + 1), by omega, j + 1, by omega, hc1_1, rfl, rfl, rfl⟩
 ·replace h0 : ¬ ((j : Int) < (s.length : Int)) := h0
  rw [List.drop_eq_nil_of_le (by omega), ixP] at hc1_1
  rw [← hc1_1]
  exact ⟨rfl, rfl, rfl, rfl⟩
set_option maxHeartbeats 1000000 in
theorem bIxC1 (s : List (Int × (Int × Unit))) (a : (Int × (Int × (Int × (List Int × (Int × (Int × (Int × (Int × (Int × (Int × Unit))))))))))) (hp0 : s.length ≤ 1048576) : bodyP (En CSe1 tys [] QOfs) Try.f140 [.k] [.sl false (.cons (.int .i64) (.cons (.int .i64) .nil)) s, .fn 136 [.rp false (.cons (.int .i64) (.cons (.int .i64) (.cons (.int .i64) (.cons (.sl (.int .i64)) (.cons (.int .i64) (.cons (.int .i64) (.cons (.int .i64) (.cons (.int .i64) (.cons (.int .i64) (.cons (.int .i64) .nil)))))))))) a 0]] (.int .i64 (ixP (fun c : (Int × (Int × Unit)) => decide (c.1 = a.2.2.2.2.1 ∧ a.2.2.2.2.2.2.1 ≤ c.2.1 ∧ c.2.1 < a.2.2.2.2.2.2.2.1)) s 0)) [] := by
 refine ⟨0, [(0, .k), (1, .k), (7, .k), (8, .k)], fun nM vs H => ∃ (j : Nat), j ≤ s.length ∧ (ixP (fun c : (Int × (Int × Unit)) => decide (c.1 = a.2.2.2.2.1 ∧ a.2.2.2.2.2.2.1 ≤ c.2.1 ∧ c.2.1 < a.2.2.2.2.2.2.2.1)) (s.drop j) j = ixP (fun c : (Int × (Int × Unit)) => decide (c.1 = a.2.2.2.2.1 ∧ a.2.2.2.2.2.2.1 ≤ c.2.1 ∧ c.2.1 < a.2.2.2.2.2.2.2.1)) s 0) ∧ nM = s.length - j ∧ vs = [.sl false (.cons (.int .i64) (.cons (.int .i64) .nil)) s, .fn 136 [.rp false (.cons (.int .i64) (.cons (.int .i64) (.cons (.int .i64) (.cons (.sl (.int .i64)) (.cons (.int .i64) (.cons (.int .i64) (.cons (.int .i64) (.cons (.int .i64) (.cons (.int .i64) (.cons (.int .i64) .nil)))))))))) a 0], .int .i64 (s.length : Int), .int .i64 (j : Int)] ∧ H = [], ⟨rfl, s.length, 0, by omega, rfl, by omega, rfl, rfl⟩, ?_⟩
 rintro nM vs H ⟨j, hc1_0, hc1_1, rfl, rfl, rfl⟩
 refine ⟨fun h0 => ?_, fun h0 => ?_⟩
 ·replace h0 : (j : Int) < (s.length : Int) := h0
  have hj : j < s.length := by omega
  rw [drop_one (0, (0, ())) s j hj, ixP] at hc1_1
  refine ⟨⟨by show (0 : Int) ≤ (j : Int); omega, by show (j : Int) < (s.length : Int); omega⟩, rfl, rfl, trivial, fun h1 => ?_, fun h1 => ?_⟩
  ·replace h1 : ((s.getD j (0, (0, ()))).1 = a.2.2.2.2.1 ∧ a.2.2.2.2.2.2.1 ≤ (s.getD j (0, (0, ()))).2.1 ∧ (s.getD j (0, (0, ()))).2.1 < a.2.2.2.2.2.2.2.1) := h1
   rw [if_pos (decide_eq_true h1)] at hc1_1
   rw [← hc1_1]
   exact ⟨rfl, rfl, rfl, rfl⟩
  ·replace h1 : ¬ ((s.getD j (0, (0, ()))).1 = a.2.2.2.2.1 ∧ a.2.2.2.2.2.2.1 ≤ (s.getD j (0, (0, ()))).2.1 ∧ (s.getD j (0, (0, ()))).2.1 < a.2.2.2.2.2.2.2.1) := h1
   rw [if_neg (by simpa using h1)] at hc1_1
   refine ⟨⟨by show (-9223372036854775808 : Int) ≤ ((j : Int) + 1); omega, by show ((j : Int) + 1) ≤ (9223372036854775807 : Int); omega⟩, ?_⟩
   exact ⟨rfl, s.length - (j + 1), by omega, j + 1, by omega, hc1_1, rfl, rfl, rfl⟩
 ·replace h0 : ¬ ((j : Int) < (s.length : Int)) := h0
  rw [List.drop_eq_nil_of_le (by omega), ixP] at hc1_1
  rw [← hc1_1]
  exact ⟨rfl, rfl, rfl, rfl⟩
noncomputable def sIxC : List V → Option (Prop × V × List Blk)
  | [.sl false (.cons (.int .i64) (.cons (.int .i64) .nil)) s, .fn 135 []] => some (s.length ≤ 1048576, .int .i64 (ixP (fun c : (Int × (Int × Unit)) => decide (¬ (0 ≤ c.1 ∧ c.1 ≤ 11) ∨ ¬ (0 ≤ c.2.1 ∧ c.2.1 ≤ 1000000))) s 0), [])
  | [.sl false (.cons (.int .i64) (.cons (.int .i64) .nil)) s, .fn 136 [.rp false (.cons (.int .i64) (.cons (.int .i64) (.cons (.int .i64) (.cons (.sl (.int .i64)) (.cons (.int .i64) (.cons (.int .i64) (.cons (.int .i64) (.cons (.int .i64) (.cons (.int .i64) (.cons (.int .i64) .nil)))))))))) a 0]] => some (s.length ≤ 1048576, .int .i64 (ixP (fun c : (Int × (Int × Unit)) => decide (c.1 = a.2.2.2.2.1 ∧ a.2.2.2.2.2.2.1 ≤ c.2.1 ∧ c.2.1 < a.2.2.2.2.2.2.2.1)) s 0), [])
  | _ => none
def CIxC : List (Nat × Con) := (140, pureC [.v (.sl (.cons (.int .i64) (.cons (.int .i64) .nil))), .fn [(135, []), (136, [.ref (.cons (.int .i64) (.cons (.int .i64) (.cons (.int .i64) (.cons (.sl (.int .i64)) (.cons (.int .i64) (.cons (.int .i64) (.cons (.int .i64) (.cons (.int .i64) (.cons (.int .i64) (.cons (.int .i64) .nil))))))))))])]] sIxC) :: CSe1
theorem kIxC : Known Try.prog (En CIxC tys [] QOfs) := kSe1.add Try.func140 Try.call140 [.k] fun ds p v bs h hp => by
  unfold sIxC at h
  split at h <;> simp only [Option.some.injEq, Prod.mk.injEq, reduceCtorEq] at h
  · obtain ⟨rfl, rfl, rfl⟩ := h
    exact bIxC0 _ hp
  · obtain ⟨rfl, rfl, rfl⟩ := h
    exact bIxC1 _ _ hp
set_option maxHeartbeats 1000000 in
theorem bCfC0 (s : List (Int × (Int × Unit))) (hp0 : s.length ≤ 1048576) : bodyP (En CIxC tys [] QOfs) Try.f134 [.k] [.sl false (.cons (.int .i64) (.cons (.int .i64) .nil)) s, .fn 135 []] (.b (∃ c ∈ s, (¬ (0 ≤ c.1 ∧ c.1 ≤ 11) ∨ ¬ (0 ≤ c.2.1 ∧ c.2.1 ≤ 1000000)))) [] := by
 refine ⟨by show s.length ≤ 1048576; first | omega | assumption, ?_⟩
 exact ⟨rfl, rfl, congrArg V.b (propext (ixP_isC (fun c : (Int × (Int × Unit)) => decide (¬ (0 ≤ c.1 ∧ c.1 ≤ 11) ∨ ¬ (0 ≤ c.2.1 ∧ c.2.1 ≤ 1000000))) s fun i => decide_eq_true_iff)), rfl⟩
set_option maxHeartbeats 1000000 in
theorem bCfC1 (s : List (Int × (Int × Unit))) (a : (Int × (Int × (Int × (List Int × (Int × (Int × (Int × (Int × (Int × (Int × Unit))))))))))) (hp0 : s.length ≤ 1048576) : bodyP (En CIxC tys [] QOfs) Try.f134 [.k] [.sl false (.cons (.int .i64) (.cons (.int .i64) .nil)) s, .fn 136 [.rp false (.cons (.int .i64) (.cons (.int .i64) (.cons (.int .i64) (.cons (.sl (.int .i64)) (.cons (.int .i64) (.cons (.int .i64) (.cons (.int .i64) (.cons (.int .i64) (.cons (.int .i64) (.cons (.int .i64) .nil)))))))))) a 0]] (.b (∃ c ∈ s, (c.1 = a.2.2.2.2.1 ∧ a.2.2.2.2.2.2.1 ≤ c.2.1 ∧ c.2.1 < a.2.2.2.2.2.2.2.1))) [] := by
 refine ⟨by show s.length ≤ 1048576; first | omega | assumption, ?_⟩
 exact ⟨rfl, rfl, congrArg V.b (propext (ixP_isC (fun c : (Int × (Int × Unit)) => decide (c.1 = a.2.2.2.2.1 ∧ a.2.2.2.2.2.2.1 ≤ c.2.1 ∧ c.2.1 < a.2.2.2.2.2.2.2.1)) s fun i => decide_eq_true_iff)), rfl⟩
noncomputable def sCfC : List V → Option (Prop × V × List Blk)
  | [.sl false (.cons (.int .i64) (.cons (.int .i64) .nil)) s, .fn 135 []] => some (s.length ≤ 1048576, .b (∃ c ∈ s, (¬ (0 ≤ c.1 ∧ c.1 ≤ 11) ∨ ¬ (0 ≤ c.2.1 ∧ c.2.1 ≤ 1000000))), [])
  | [.sl false (.cons (.int .i64) (.cons (.int .i64) .nil)) s, .fn 136 [.rp false (.cons (.int .i64) (.cons (.int .i64) (.cons (.int .i64) (.cons (.sl (.int .i64)) (.cons (.int .i64) (.cons (.int .i64) (.cons (.int .i64) (.cons (.int .i64) (.cons (.int .i64) (.cons (.int .i64) .nil)))))))))) a 0]] => some (s.length ≤ 1048576, .b (∃ c ∈ s, (c.1 = a.2.2.2.2.1 ∧ a.2.2.2.2.2.2.1 ≤ c.2.1 ∧ c.2.1 < a.2.2.2.2.2.2.2.1)), [])
  | _ => none
def CCfC : List (Nat × Con) := (134, pureC [.v (.sl (.cons (.int .i64) (.cons (.int .i64) .nil))), .fn [(135, []), (136, [.ref (.cons (.int .i64) (.cons (.int .i64) (.cons (.int .i64) (.cons (.sl (.int .i64)) (.cons (.int .i64) (.cons (.int .i64) (.cons (.int .i64) (.cons (.int .i64) (.cons (.int .i64) (.cons (.int .i64) .nil))))))))))])]] sCfC) :: CIxC
theorem kCfC : Known Try.prog (En CCfC tys [] QOfs) := kIxC.add Try.func134 Try.call134 [.k] fun ds p v bs h hp => by
  unfold sCfC at h
  split at h <;> simp only [Option.some.injEq, Prod.mk.injEq, reduceCtorEq] at h
  · obtain ⟨rfl, rfl, rfl⟩ := h
    exact bCfC0 _ hp
  · obtain ⟨rfl, rfl, rfl⟩ := h
    exact bCfC1 _ _ hp
noncomputable def sSpd : List V → Option (Prop × V × List Blk)
  | [.agg [.int .i64 bad, .sl false (.cons (.int .i64) (.cons (.int .i64) .nil)) cs]] => some (cs.length ≤ 1048576, .int .i64 (spE bad cs), [])
  | _ => none
set_option maxHeartbeats 1000000 in
theorem bSpd (bad : Int) (cs : List (Int × (Int × Unit))) (hp0 : cs.length ≤ 1048576) : bodyP (En CCfC tys [] QOfs) Try.f116 [.k] [.agg [.int .i64 bad, .sl false (.cons (.int .i64) (.cons (.int .i64) .nil)) cs]] (.int .i64 (spE bad cs)) [] := by
 refine ⟨rfl, rfl, rfl, trivial, fun h0 => ?_, fun h0 => ?_⟩
 ·replace h0 : ¬ (0 ≤ bad ∧ bad ≤ 4095) := h0
  rw [show spE bad cs = 1 from if_pos h0]
  exact ⟨rfl, rfl, rfl, rfl⟩
 ·replace h0 : ¬ (¬ (0 ≤ bad ∧ bad ≤ 4095)) := h0
  refine ⟨fun h1 => ?_, fun h1 => ?_⟩
  ·replace h1 : 500 < (cs.length : Int) := h1
   rw [show spE bad cs = 2 by unfold spE; rw [if_neg h0, if_pos (by omega)]]
   exact ⟨rfl, rfl, rfl, rfl⟩
  ·replace h1 : ¬ (500 < (cs.length : Int)) := h1
   refine ⟨by show cs.length ≤ 1048576; first | omega | assumption, fun h2 => ?_, fun h2 => ?_⟩
   ·replace h2 : ∃ c ∈ cs, (¬ (0 ≤ c.1 ∧ c.1 ≤ 11) ∨ ¬ (0 ≤ c.2.1 ∧ c.2.1 ≤ 1000000)) := h2
    rw [show spE bad cs = 3 by unfold spE; rw [if_neg h0, if_neg (by omega), if_pos h2]]
    exact ⟨rfl, rfl, rfl, rfl⟩
   ·replace h2 : ¬ (∃ c ∈ cs, (¬ (0 ≤ c.1 ∧ c.1 ≤ 11) ∨ ¬ (0 ≤ c.2.1 ∧ c.2.1 ≤ 1000000))) := h2
    rw [show spE bad cs = 0 by unfold spE; rw [if_neg h0, if_neg (by omega), if_neg h2]]
    exact ⟨rfl, rfl, rfl, rfl⟩
def CSpd : List (Nat × Con) := (116, pureC [.v (.cons (.int .i64) (.cons (.sl (.cons (.int .i64) (.cons (.int .i64) .nil))) .nil))] sSpd) :: CCfC
theorem kSpd : Known Try.prog (En CSpd tys [] QOfs) := kCfC.add Try.func116 Try.call116 [.k] fun ds p v bs h hp => by
  unfold sSpd at h
  split at h <;> simp only [Option.some.injEq, Prod.mk.injEq, reduceCtorEq] at h
  obtain ⟨rfl, rfl, rfl⟩ := h
  exact bSpd _ _ hp
noncomputable def sSee : List V → Option (Prop × V × List Blk)
  | [.agg [.int .i64 bad, .sl false (.cons (.int .i64) (.cons (.int .i64) .nil)) cs], .agg [.int .i64 id, .int .i64 kd, .int .i64 ob, .sl false (.int .i64) of, .int .i64 ho, .int .i64 di, .int .i64 bo, .int .i64 go, .int .i64 hr, .int .i64 pe]] => some (cs.length ≤ 1048576 ∧ 0 ≤ ho ∧ ho ≤ 11, .b (seeP bad cs (id, (kd, (ob, (of, (ho, (di, (bo, (go, (hr, (pe, ()))))))))))), [])
  | _ => none
set_option maxHeartbeats 1000000 in
theorem bSee (bad : Int) (cs : List (Int × (Int × Unit))) (id : Int) (kd : Int) (ob : Int) (of : List Int) (ho : Int) (di : Int) (bo : Int) (go : Int) (hr : Int) (pe : Int) (hp0 : cs.length ≤ 1048576) (hp1 : 0 ≤ ho) (hp2 : ho ≤ 11) : bodyP (En CSpd tys [] QOfs) Try.f117 [.k] [.agg [.int .i64 bad, .sl false (.cons (.int .i64) (.cons (.int .i64) .nil)) cs], .agg [.int .i64 id, .int .i64 kd, .int .i64 ob, .sl false (.int .i64) of, .int .i64 ho, .int .i64 di, .int .i64 bo, .int .i64 go, .int .i64 hr, .int .i64 pe]] (.b (seeP bad cs (id, (kd, (ob, (of, (ho, (di, (bo, (go, (hr, (pe, ())))))))))))) [] := by
 refine ⟨⟨by show (0 : Int) ≤ ho; omega, by show ho ≤ (64 : Int); omega⟩, .inr ⟨rfl, ?_⟩⟩
 refine ⟨fun h0 => ?_, fun h0 => ?_⟩
 ·replace h0 : ((bad / 2 ^ ho.toNat) % 2) = 1 := h0
  refine ⟨fun h1 => ?_, fun h1 => ?_⟩
  ·replace h1 : bo < go := h1
   exact ⟨rfl, rfl, congrArg V.b (propext (by unfold seeP; constructor <;> intro h <;> first | exact .inl ⟨by assumption, by assumption⟩ | exact trivial | rfl | exact .inr h | exact h.resolve_left (fun g => absurd g.1 (by assumption)) | exact h.resolve_left (fun g => absurd g.2 (by omega)))), rfl⟩
  ·replace h1 : ¬ (bo < go) := h1
   refine ⟨rfl, rfl, rfl, rfl, rfl, rfl, rfl, rfl, rfl, by show cs.length ≤ 1048576; first | omega | assumption, ?_⟩
   exact ⟨rfl, rfl, congrArg V.b (propext (by unfold seeP; constructor <;> intro h <;> first | exact .inl ⟨by assumption, by assumption⟩ | exact trivial | rfl | exact .inr h | exact h.resolve_left (fun g => absurd g.1 (by assumption)) | exact h.resolve_left (fun g => absurd g.2 (by omega)))), rfl⟩
 ·replace h0 : ¬ (((bad / 2 ^ ho.toNat) % 2) = 1) := h0
  refine ⟨rfl, rfl, rfl, rfl, rfl, rfl, rfl, rfl, rfl, by show cs.length ≤ 1048576; first | omega | assumption, ?_⟩
  exact ⟨rfl, rfl, congrArg V.b (propext (by unfold seeP; constructor <;> intro h <;> first | exact .inl ⟨by assumption, by assumption⟩ | exact trivial | rfl | exact .inr h | exact h.resolve_left (fun g => absurd g.1 (by assumption)) | exact h.resolve_left (fun g => absurd g.2 (by omega)))), rfl⟩
def CSee : List (Nat × Con) := (117, pureC [.v (.cons (.int .i64) (.cons (.sl (.cons (.int .i64) (.cons (.int .i64) .nil))) .nil)), .v (.cons (.int .i64) (.cons (.int .i64) (.cons (.int .i64) (.cons (.sl (.int .i64)) (.cons (.int .i64) (.cons (.int .i64) (.cons (.int .i64) (.cons (.int .i64) (.cons (.int .i64) (.cons (.int .i64) .nil))))))))))] sSee) :: CSpd
theorem kSee : Known Try.prog (En CSee tys [] QOfs) := kSpd.add Try.func117 Try.call117 [.k] fun ds p v bs h hp => by
  unfold sSee at h
  split at h <;> simp only [Option.some.injEq, Prod.mk.injEq, reduceCtorEq] at h
  obtain ⟨rfl, rfl, rfl⟩ := h
  exact bSee _ _ _ _ _ _ _ _ _ _ _ _ hp.1 hp.2.1 hp.2.2
noncomputable def sHas : List V → Option (Prop × V × List Blk)
  | [.sl false (.cons (.int .i64) (.cons (.int .i64) (.cons (.int .i64) (.cons (.sl (.int .i64)) (.cons (.int .i64) (.cons (.int .i64) (.cons (.int .i64) (.cons (.int .i64) (.cons (.int .i64) (.cons (.int .i64) .nil)))))))))) l, .agg [.int .i64 bad, .sl false (.cons (.int .i64) (.cons (.int .i64) .nil)) cs]] => some (l.length ≤ 1048576 ∧ (∀ a ∈ l, a.2.2.2.1.length ≤ 1048576) ∧ cs.length ≤ 1048576, .tup [.own (.int .i64) 0, .int .i64 (hasE l bad cs)], [.row true (.int .i64) (hasL l bad cs)])
  | _ => none
set_option maxHeartbeats 1000000 in
theorem bHas (l : List (Int × (Int × (Int × (List Int × (Int × (Int × (Int × (Int × (Int × (Int × Unit))))))))))) (bad : Int) (cs : List (Int × (Int × Unit))) (hp0 : l.length ≤ 1048576) (hp1 : (∀ a ∈ l, a.2.2.2.1.length ≤ 1048576)) (hp2 : cs.length ≤ 1048576) : bodyP (En CSee tys [] QOfs) Try.f68 [.o (.int .i64), .k] [.sl false (.cons (.int .i64) (.cons (.int .i64) (.cons (.int .i64) (.cons (.sl (.int .i64)) (.cons (.int .i64) (.cons (.int .i64) (.cons (.int .i64) (.cons (.int .i64) (.cons (.int .i64) (.cons (.int .i64) .nil)))))))))) l, .agg [.int .i64 bad, .sl false (.cons (.int .i64) (.cons (.int .i64) .nil)) cs]] (.tup [.own (.int .i64) 0, .int .i64 (hasE l bad cs)]) [.row true (.int .i64) (hasL l bad cs)] := by
 refine ⟨⟨by show l.length ≤ 1048576; first | omega | assumption, by first | assumption | simp⟩, fun h0 => ?_, fun h0 => ?_⟩
 ·replace h0 : (chkL l) ≠ 0 := h0
  have e1 : hasE l bad cs = chkL l := if_pos h0
  have e2 : hasL l bad cs = [] := if_neg (by rw [e1]; exact h0)
  rw [e1, e2]
  exact ⟨rfl, rfl, rfl, rfl⟩
 ·replace h0 : ¬ ((chkL l) ≠ 0) := h0
  have hc : chkL l = 0 := Classical.not_not.1 h0
  have hl4 := (chk_ok hc).1
  refine ⟨rfl, by show cs.length ≤ 1048576; first | omega | assumption, fun h1 => ?_, fun h1 => ?_⟩
  ·replace h1 : (spE bad cs) ≠ 0 := h1
   have e1 : hasE l bad cs = spE bad cs := if_neg h0
   have e2 : hasL l bad cs = [] := if_neg (by rw [e1]; exact h1)
   rw [e1, e2]
   exact ⟨rfl, rfl, rfl, rfl⟩
  ·replace h1 : ¬ ((spE bad cs) ≠ 0) := h1
   have hE : hasE l bad cs = 0 := by unfold hasE; rw [if_neg h0]; exact Classical.not_not.1 h1
   refine ⟨1, [(3, .k), (8, .o (.int .i64)), (21, .k), (22, .k), (23, .k)], fun nM vs H => ∃ (k : Nat), k ≤ l.length ∧ nM = l.length - k ∧ vs = [.ptr 0 1 0 0, .own (.int .i64) 1, .sl false (.cons (.int .i64) (.cons (.int .i64) (.cons (.int .i64) (.cons (.sl (.int .i64)) (.cons (.int .i64) (.cons (.int .i64) (.cons (.int .i64) (.cons (.int .i64) (.cons (.int .i64) (.cons (.int .i64) .nil)))))))))) l, .int .i64 (l.length : Int), .int .i64 (k : Int)] ∧ H = [.cells [.int .i64 bad, .sl false (.cons (.int .i64) (.cons (.int .i64) .nil)) cs], .row true (.int .i64) (idsF (seeB bad cs) (l.take k))], ⟨rfl, l.length, 0, by omega, by omega, rfl, rfl⟩, ?_⟩
   rintro nM vs H ⟨k, hc1_0, rfl, rfl, rfl⟩
   refine ⟨fun h2 => ?_, fun h2 => ?_⟩
   ·replace h2 : (k : Int) < (l.length : Int) := h2
    have hk : k < l.length := by omega
    have hfa := fmd_all (chk_fmd hc (getD_mem d0 l k hk))
    have hil := idsF_len (seeB bad cs) (l.take k)
    have htl := tk_len l k
    refine ⟨⟨by show (0 : Int) ≤ (k : Int); omega, by show (k : Int) < (l.length : Int); omega⟩, ⟨rfl, rfl, rfl, Nat.le_of_ble_eq_true rfl⟩, rfl, rfl, rfl, rfl, rfl, rfl, rfl, rfl, rfl, rfl, ⟨by show cs.length ≤ 1048576; first | omega | assumption, by show 0 ≤ (l.getD k d0).2.2.2.2.1; first | omega | assumption, by show (l.getD k d0).2.2.2.2.1 ≤ 11; first | omega | assumption⟩, fun h3 => ?_, fun h3 => ?_⟩
    ·replace h3 : seeP bad cs ((l.getD k d0).1, ((l.getD k d0).2.1, ((l.getD k d0).2.2.1, ((l.getD k d0).2.2.2.1, ((l.getD k d0).2.2.2.2.1, ((l.getD k d0).2.2.2.2.2.1, ((l.getD k d0).2.2.2.2.2.2.1, ((l.getD k d0).2.2.2.2.2.2.2.1, ((l.getD k d0).2.2.2.2.2.2.2.2.1, ((l.getD k d0).2.2.2.2.2.2.2.2.2.1, ())))))))))) := h3
     refine ⟨rfl, ⟨rfl, rfl⟩, by show (idsF (seeB bad cs) (l.take k)).length + ([(l.getD k d0).1] : List Int).length ≤ 1000000000; simp only [List.length_cons, List.length_nil]; omega, ⟨by show (-9223372036854775808 : Int) ≤ ((k : Int) + 1); omega, by show ((k : Int) + 1) ≤ (9223372036854775807 : Int); omega⟩, ?_⟩
     exact ⟨rfl, l.length - (k + 1), by omega, k + 1, by omega, rfl, rfl, by rw [idsF_t hk (decide_eq_true h3)]; rfl⟩
    ·replace h3 : ¬ (seeP bad cs ((l.getD k d0).1, ((l.getD k d0).2.1, ((l.getD k d0).2.2.1, ((l.getD k d0).2.2.2.1, ((l.getD k d0).2.2.2.2.1, ((l.getD k d0).2.2.2.2.2.1, ((l.getD k d0).2.2.2.2.2.2.1, ((l.getD k d0).2.2.2.2.2.2.2.1, ((l.getD k d0).2.2.2.2.2.2.2.2.1, ((l.getD k d0).2.2.2.2.2.2.2.2.2.1, ()))))))))))) := h3
     refine ⟨⟨by show (-9223372036854775808 : Int) ≤ ((k : Int) + 1); omega, by show ((k : Int) + 1) ≤ (9223372036854775807 : Int); omega⟩, ?_⟩
     exact ⟨rfl, l.length - (k + 1), by omega, k + 1, by omega, rfl, rfl, by rw [idsF_f hk (decide_eq_false h3)]; rfl⟩
   ·replace h2 : ¬ ((k : Int) < (l.length : Int)) := h2
    have e2 : hasL l bad cs = idsF (seeB bad cs) (l.take k) := by unfold hasL; rw [if_pos hE, List.take_of_length_le (by omega)]
    rw [hE, e2]
    exact ⟨rfl, rfl, rfl, rfl⟩
def CHas : List (Nat × Con) := (68, pureC [.v (.sl (.cons (.int .i64) (.cons (.int .i64) (.cons (.int .i64) (.cons (.sl (.int .i64)) (.cons (.int .i64) (.cons (.int .i64) (.cons (.int .i64) (.cons (.int .i64) (.cons (.int .i64) (.cons (.int .i64) .nil))))))))))), .v (.cons (.int .i64) (.cons (.sl (.cons (.int .i64) (.cons (.int .i64) .nil))) .nil))] sHas) :: CSee
theorem kHas : Known Try.prog (En CHas tys [] QOfs) := kSee.add Try.func68 Try.call68 [.o (.int .i64), .k] fun ds p v bs h hp => by
  unfold sHas at h
  split at h <;> simp only [Option.some.injEq, Prod.mk.injEq, reduceCtorEq] at h
  obtain ⟨rfl, rfl, rfl⟩ := h
  exact bHas _ _ _ hp.1 hp.2.1 hp.2.2
end Go.Proofs.Ytgljcfnplkcfhaa.S38

namespace Go.Proofs.Ytgljcfnplkcfhaa.S38
open Go

/-- What spies see. -/
def sn (bad : Int) (cs : List (Int × (Int × Unit))) (l : List (Int × (Int × (Int × (List Int × (Int × (Int × (Int × (Int × (Int × (Int × Unit))))))))))) : List (Int × (Int × (Int × (List Int × (Int × (Int × (Int × (Int × (Int × (Int × Unit)))))))))) := l.filter (seeB bad cs)
def srcS (S : List (Int × (Int × (Int × (List Int × (Int × (Int × (Int × (Int × (Int × (Int × Unit))))))))))) : Bool := S.any fun a => decide (a.2.1 = 1)
def covS (S : List (Int × (Int × (Int × (List Int × (Int × (Int × (Int × (Int × (Int × (Int × Unit))))))))))) : Bool := S.any fun a => decide (a.2.1 = 2)
def tab1 (t : List (List Bool)) (a : (Int × (Int × (Int × (List Int × (Int × (Int × (Int × (Int × (Int × (Int × Unit))))))))))) : List (List Bool) := if a.2.1 = 3 then t.set a.2.2.2.2.2.2.2.2.2.1.toNat ((t.getD a.2.2.2.2.2.2.2.2.2.1.toNat (List.replicate 12 false)).set a.2.2.2.2.2.2.2.2.1.toNat true) else t
def tabS (S : List (Int × (Int × (Int × (List Int × (Int × (Int × (Int × (Int × (Int × (Int × Unit))))))))))) : List (List Bool) := S.foldl tab1 (List.replicate 500 (List.replicate 12 false))
def cntT (h : List Bool) : Nat := (h.filter fun b => b).length
def enS (need : Int) (t : List (List Bool)) : Bool := t.any fun h => decide (need ≤ (cntT h : Int))
def tolB (S : List (Int × (Int × (Int × (List Int × (Int × (Int × (Int × (Int × (Int × (Int × Unit))))))))))) (need : Int) : Bool := srcS S || (covS S && enS need (tabS S))
def tolE (l : List (Int × (Int × (Int × (List Int × (Int × (Int × (Int × (Int × (Int × (Int × Unit))))))))))) (o need bad : Int) (cs : List (Int × (Int × Unit))) : Int := if askE l o need 1 12 ≠ 0 then askE l o need 1 12 else spE bad cs
def tolT (l : List (Int × (Int × (Int × (List Int × (Int × (Int × (Int × (Int × (Int × (Int × Unit))))))))))) (o need bad : Int) (cs : List (Int × (Int × Unit))) : Bool := decide (tolE l o need bad cs = 0) && tolB (sn bad cs (fO o l)) need
theorem srcS_snoc (S : List (Int × (Int × (Int × (List Int × (Int × (Int × (Int × (Int × (Int × (Int × Unit))))))))))) (a : (Int × (Int × (Int × (List Int × (Int × (Int × (Int × (Int × (Int × (Int × Unit))))))))))) : srcS (S ++ [a]) = (srcS S || decide (a.2.1 = 1)) := by simp [srcS, List.any_append]
theorem covS_snoc (S : List (Int × (Int × (Int × (List Int × (Int × (Int × (Int × (Int × (Int × (Int × Unit))))))))))) (a : (Int × (Int × (Int × (List Int × (Int × (Int × (Int × (Int × (Int × (Int × Unit))))))))))) : covS (S ++ [a]) = (covS S || decide (a.2.1 = 2)) := by simp [covS, List.any_append]
theorem tabS_snoc (S : List (Int × (Int × (Int × (List Int × (Int × (Int × (Int × (Int × (Int × (Int × Unit))))))))))) (a : (Int × (Int × (Int × (List Int × (Int × (Int × (Int × (Int × (Int × (Int × Unit))))))))))) : tabS (S ++ [a]) = tab1 (tabS S) a := by unfold tabS; rw [List.foldl_append]; rfl
theorem tab1_len (t : List (List Bool)) (a : (Int × (Int × (Int × (List Int × (Int × (Int × (Int × (Int × (Int × (Int × Unit))))))))))) : (tab1 t a).length = t.length := by unfold tab1; split <;> simp
theorem tabS_len (S : List (Int × (Int × (Int × (List Int × (Int × (Int × (Int × (Int × (Int × (Int × Unit))))))))))) : (tabS S).length = 500 := by
  unfold tabS
  have : ∀ (S : List (Int × (Int × (Int × (List Int × (Int × (Int × (Int × (Int × (Int × (Int × Unit))))))))))) (t : List (List Bool)), t.length = 500 → (S.foldl tab1 t).length = 500 := fun S => by
    induction S with
    | nil => exact fun t h => h
    | cons a S ih => exact fun t h => ih _ (by rw [tab1_len]; exact h)
  exact this S _ List.length_replicate
theorem tab1_row (t : List (List Bool)) (a : (Int × (Int × (Int × (List Int × (Int × (Int × (Int × (Int × (Int × (Int × Unit))))))))))) (h : ∀ r ∈ t, r.length = 12) : ∀ r ∈ tab1 t a, r.length = 12 := fun r hr => by
  unfold tab1 at hr
  split at hr
  · rcases List.mem_or_eq_of_mem_set hr with h1 | h1
    · exact h r h1
    · rw [h1, List.length_set]
      rw [List.getD_eq_getElem?_getD]
      cases g : t[a.2.2.2.2.2.2.2.2.2.1.toNat]? with
      | none => simp
      | some x => exact h x (List.mem_of_getElem? g)
  · exact h r hr
theorem tabS_row (S : List (Int × (Int × (Int × (List Int × (Int × (Int × (Int × (Int × (Int × (Int × Unit))))))))))) : ∀ r ∈ tabS S, r.length = 12 := by
  unfold tabS
  have : ∀ (S : List (Int × (Int × (Int × (List Int × (Int × (Int × (Int × (Int × (Int × (Int × Unit))))))))))) (t : List (List Bool)), (∀ r ∈ t, r.length = 12) → ∀ r ∈ S.foldl tab1 t, r.length = 12 := fun S => by
    induction S with
    | nil => exact fun t h => h
    | cons a S ih => exact fun t h => ih _ (tab1_row t a h)
  exact this S _ fun r hr => by rw [List.eq_of_mem_replicate hr]; exact List.length_replicate
theorem sn_t {bad : Int} {cs : List (Int × (Int × Unit))} {F : List (Int × (Int × (Int × (List Int × (Int × (Int × (Int × (Int × (Int × (Int × Unit))))))))))} {n : Nat} (hn : n < F.length) (h : seeP bad cs (F.getD n d0)) : sn bad cs (F.take (n + 1)) = sn bad cs (F.take n) ++ [F.getD n d0] := fil_t hn (decide_eq_true h)
theorem sn_f {bad : Int} {cs : List (Int × (Int × Unit))} {F : List (Int × (Int × (Int × (List Int × (Int × (Int × (Int × (Int × (Int × (Int × Unit))))))))))} {n : Nat} (hn : n < F.length) (h : ¬ seeP bad cs (F.getD n d0)) : sn bad cs (F.take (n + 1)) = sn bad cs (F.take n) := fil_f hn (decide_eq_false h)
theorem tl_no {bad : Int} {cs : List (Int × (Int × Unit))} {F : List (Int × (Int × (Int × (List Int × (Int × (Int × (Int × (Int × (Int × (Int × Unit))))))))))} {n : Nat} (hn : n < F.length) (h : ¬ seeP bad cs (F.getD n d0) ∨ ((F.getD n d0).2.1 ≠ 1 ∧ (F.getD n d0).2.1 ≠ 2 ∧ (F.getD n d0).2.1 ≠ 3)) :
    srcS (sn bad cs (F.take (n + 1))) = srcS (sn bad cs (F.take n)) ∧ covS (sn bad cs (F.take (n + 1))) = covS (sn bad cs (F.take n)) ∧ tabS (sn bad cs (F.take (n + 1))) = tabS (sn bad cs (F.take n)) := by
  by_cases hs : seeP bad cs (F.getD n d0)
  · obtain ⟨h1, h2, h3⟩ := h.resolve_left fun g => g hs
    rw [sn_t hn hs, srcS_snoc, covS_snoc, tabS_snoc, decide_eq_false h1, decide_eq_false h2, Bool.or_false, Bool.or_false]
    unfold tab1
    rw [if_neg h3]
    exact ⟨rfl, rfl, rfl⟩
  · rw [sn_f hn hs]; exact ⟨rfl, rfl, rfl⟩
theorem tl_2 {bad : Int} {cs : List (Int × (Int × Unit))} {F : List (Int × (Int × (Int × (List Int × (Int × (Int × (Int × (Int × (Int × (Int × Unit))))))))))} {n : Nat} (hn : n < F.length) (hs : seeP bad cs (F.getD n d0)) (h : (F.getD n d0).2.1 = 2) :
    srcS (sn bad cs (F.take (n + 1))) = srcS (sn bad cs (F.take n)) ∧ covS (sn bad cs (F.take (n + 1))) = true ∧ tabS (sn bad cs (F.take (n + 1))) = tabS (sn bad cs (F.take n)) := by
  rw [sn_t hn hs, srcS_snoc, covS_snoc, tabS_snoc, decide_eq_false (by omega : ¬ (F.getD n d0).2.1 = 1), decide_eq_true h, Bool.or_false, Bool.or_true]
  unfold tab1
  rw [if_neg (by omega)]
  exact ⟨rfl, rfl, rfl⟩
theorem tl_3 {bad : Int} {cs : List (Int × (Int × Unit))} {F : List (Int × (Int × (Int × (List Int × (Int × (Int × (Int × (Int × (Int × (Int × Unit))))))))))} {n : Nat} (hn : n < F.length) (hs : seeP bad cs (F.getD n d0)) (h : (F.getD n d0).2.1 = 3) :
    srcS (sn bad cs (F.take (n + 1))) = srcS (sn bad cs (F.take n)) ∧ covS (sn bad cs (F.take (n + 1))) = covS (sn bad cs (F.take n)) ∧ tabS (sn bad cs (F.take (n + 1))) =
      (tabS (sn bad cs (F.take n))).set (F.getD n d0).2.2.2.2.2.2.2.2.2.1.toNat (((tabS (sn bad cs (F.take n))).getD (F.getD n d0).2.2.2.2.2.2.2.2.2.1.toNat (List.replicate 12 false)).set ((F.getD n d0).2.2.2.2.2.2.2.2.1.toNat * 1) (@decide (true = true) (Classical.propDecidable _))) := by
  rw [sn_t hn hs, srcS_snoc, covS_snoc, tabS_snoc, decide_eq_false (by omega : ¬ (F.getD n d0).2.1 = 1), decide_eq_false (by omega : ¬ (F.getD n d0).2.1 = 2), Bool.or_false, Bool.or_false, dset, Nat.mul_one]
  unfold tab1
  rw [if_pos h]
  exact ⟨rfl, rfl, rfl⟩
theorem tol_err {l : List (Int × (Int × (Int × (List Int × (Int × (Int × (Int × (Int × (Int × (Int × Unit))))))))))} {o need bad : Int} {cs : List (Int × (Int × Unit))} (h : tolE l o need bad cs ≠ 0) : tolT l o need bad cs = false := by unfold tolT; rw [decide_eq_false h]; rfl
theorem tol_src {l : List (Int × (Int × (Int × (List Int × (Int × (Int × (Int × (Int × (Int × (Int × Unit))))))))))} {o need bad : Int} {cs : List (Int × (Int × Unit))} {n : Nat} (hE : tolE l o need bad cs = 0) (hn : n < (fO o l).length) (hs : seeP bad cs ((fO o l).getD n d0)) (hk : ((fO o l).getD n d0).2.1 = 1) : tolT l o need bad cs = true := by
  have : srcS (sn bad cs (fO o l)) = true := List.any_eq_true.2 ⟨_, List.mem_filter.2 ⟨getD_mem d0 _ n hn, decide_eq_true hs⟩, decide_eq_true hk⟩
  unfold tolT tolB; rw [decide_eq_true hE, this]; rfl
theorem tol_c {l : List (Int × (Int × (Int × (List Int × (Int × (Int × (Int × (Int × (Int × (Int × Unit))))))))))} {o need bad : Int} {cs : List (Int × (Int × Unit))} (hE : tolE l o need bad cs = 0) (hs : srcS (sn bad cs ((fO o l).take (fO o l).length)) = false) (hk : covS (sn bad cs ((fO o l).take (fO o l).length)) = true) : tolT l o need bad cs = enS need (tabS (sn bad cs ((fO o l).take (fO o l).length))) := by
  rw [List.take_length] at hs hk ⊢
  unfold tolT tolB; rw [decide_eq_true hE, hs, hk]; rfl
theorem tol_n {l : List (Int × (Int × (Int × (List Int × (Int × (Int × (Int × (Int × (Int × (Int × Unit))))))))))} {o need bad : Int} {cs : List (Int × (Int × Unit))} (hE : tolE l o need bad cs = 0) (hs : srcS (sn bad cs ((fO o l).take (fO o l).length)) = false) (hk : covS (sn bad cs ((fO o l).take (fO o l).length)) = false) : tolT l o need bad cs = false := by
  rw [List.take_length] at hs hk
  unfold tolT tolB; rw [decide_eq_true hE, hs, hk]; rfl
theorem cntT_snoc (h : List Bool) (b : Bool) : cntT (h ++ [b]) = cntT h + (if b = true then 1 else 0) := by
  unfold cntT; rw [List.filter_append, List.length_append]; cases b <;> rfl
theorem cntT_le (h : List Bool) : cntT h ≤ h.length := List.length_filter_le _ _
theorem enS_snoc (need : Int) (t : List (List Bool)) (h : List Bool) : enS need (t ++ [h]) = (enS need t || decide (need ≤ (cntT h : Int))) := by simp [enS, List.any_append]

theorem ofE_zero {l : List (Int × (Int × (Int × (List Int × (Int × (Int × (Int × (Int × (Int × (Int × Unit))))))))))} {a : (Int × (Int × (Int × (List Int × (Int × (Int × (Int × (Int × (Int × (Int × Unit))))))))))} : ∀ {is : List Int}, ofE l a is = 0 ↔ ∀ i ∈ is, madA a (l.getD (findL l i).toNat d0) ∧ thr (l.getD (findL l i).toNat d0) a.2.2.2.2.2.2.1
  | [] => by simp [ofE]
  | i :: is => by
    rw [ofE]
    constructor
    · intro h
      split at h
      · cases h
      · rename_i h1
        split at h
        · cases h
        · rename_i h2
          intro j hj
          rcases List.mem_cons.1 hj with rfl | hj
          · exact ⟨Classical.not_not.1 h1, Classical.not_not.1 h2⟩
          · exact ofE_zero.1 h j hj
    · intro h
      rw [if_neg fun g => g (h i (by simp)).1, if_neg fun g => g (h i (by simp)).2]
      exact ofE_zero.2 fun j hj => h j (by simp [hj])
theorem oneE_zero {l : List (Int × (Int × (Int × (List Int × (Int × (Int × (Int × (Int × (Int × (Int × Unit))))))))))} {k : Nat} : oneE l k = 0 ↔ fmdA (l.getD k d0) ∧ ¬ (0 < k ∧ (l.getD k d0).1 ≤ (l.getD (k - 1) d0).1) ∧ (∀ i ∈ (l.getD k d0).2.2.2.1, ¬ findL (l.take k) i < 0) ∧
    ∀ i ∈ (l.getD k d0).2.2.2.1, madA (l.getD k d0) (l.getD (findL l i).toNat d0) ∧ thr (l.getD (findL l i).toNat d0) (l.getD k d0).2.2.2.2.2.2.1 := by
  constructor
  · intro h
    have hf := one_fmd h
    unfold oneE at h
    rw [if_neg (fun g => g hf)] at h
    split at h
    · cases h
    rename_i h1
    split at h
    · cases h
    rename_i h2
    exact ⟨hf, h1, fun i hi g => h2 ⟨i, hi, g⟩, ofE_zero.1 h⟩
  · rintro ⟨h1, h2, h3, h4⟩
    unfold oneE
    rw [if_neg fun g => g h1, if_neg h2, if_neg fun ⟨i, hi, g⟩ => h3 i hi g]
    exact ofE_zero.2 h4
theorem chk_zero {l : List (Int × (Int × (Int × (List Int × (Int × (Int × (Int × (Int × (Int × (Int × Unit))))))))))} : chkL l = 0 ↔ l.length ≤ 400 ∧ ∀ k, k < l.length → oneE l k = 0 := by
  constructor
  · exact chk_ok
  · rintro ⟨h1, h2⟩
    unfold chkL
    rw [if_neg (by omega)]
    exact upE_zero.2 h2

/-- Gone at this tick. -/
def setgo (x : (Int × (Int × (Int × (List Int × (Int × (Int × (Int × (Int × (Int × (Int × Unit))))))))))) (t : Int) : (Int × (Int × (Int × (List Int × (Int × (Int × (Int × (Int × (Int × (Int × Unit)))))))))) := (x.1, (x.2.1, (x.2.2.1, (x.2.2.2.1, (x.2.2.2.2.1, (x.2.2.2.2.2.1, (x.2.2.2.2.2.2.1, (t, x.2.2.2.2.2.2.2.2))))))))
def pgC (o t : Int) (a : (Int × (Int × (Int × (List Int × (Int × (Int × (Int × (Int × (Int × (Int × Unit))))))))))) : Prop := a.2.2.1 = o ∧ a.2.1 ≠ 4 ∧ thr a t
instance {o t a} : Decidable (pgC o t a) := by unfold pgC; infer_instance
def pg1 (o t : Int) (a : (Int × (Int × (Int × (List Int × (Int × (Int × (Int × (Int × (Int × (Int × Unit))))))))))) : (Int × (Int × (Int × (List Int × (Int × (Int × (Int × (Int × (Int × (Int × Unit)))))))))) := if pgC o t a then setgo a t else a
def purF (o t : Int) (l : List (Int × (Int × (Int × (List Int × (Int × (Int × (Int × (Int × (Int × (Int × Unit))))))))))) : List (Int × (Int × (Int × (List Int × (Int × (Int × (Int × (Int × (Int × (Int × Unit)))))))))) := l.map (pg1 o t)
def purK (o t : Int) (l : List (Int × (Int × (Int × (List Int × (Int × (Int × (Int × (Int × (Int × (Int × Unit))))))))))) (k : Nat) : List (Int × (Int × (Int × (List Int × (Int × (Int × (Int × (Int × (Int × (Int × Unit)))))))))) := (l.take k).map (pg1 o t) ++ l.drop k
def futB (o t : Int) (a : (Int × (Int × (Int × (List Int × (Int × (Int × (Int × (Int × (Int × (Int × Unit))))))))))) : Bool := decide (a.2.2.1 = o ∧ a.2.1 ≠ 4 ∧ t < a.2.2.2.2.2.2.1)
def purE (l : List (Int × (Int × (Int × (List Int × (Int × (Int × (Int × (Int × (Int × (Int × Unit))))))))))) (o t : Int) : Int := if askE l o t 0 1000000 ≠ 0 then askE l o t 0 1000000 else if l.any (futB o t) = true then 4 else if chkL (purF o t l) ≠ 0 then 4 else 0
def purL (l : List (Int × (Int × (Int × (List Int × (Int × (Int × (Int × (Int × (Int × (Int × Unit))))))))))) (o t : Int) : List (Int × (Int × (Int × (List Int × (Int × (Int × (Int × (Int × (Int × (Int × Unit)))))))))) := if purE l o t = 0 then purF o t l else []
theorem pg1_id (o t : Int) (a : (Int × (Int × (Int × (List Int × (Int × (Int × (Int × (Int × (Int × (Int × Unit))))))))))) : (pg1 o t a).1 = a.1 := by unfold pg1; split <;> rfl
theorem pg1_kd (o t : Int) (a : (Int × (Int × (Int × (List Int × (Int × (Int × (Int × (Int × (Int × (Int × Unit))))))))))) : (pg1 o t a).2.1 = a.2.1 := by unfold pg1; split <;> rfl
theorem pg1_ob (o t : Int) (a : (Int × (Int × (Int × (List Int × (Int × (Int × (Int × (Int × (Int × (Int × Unit))))))))))) : (pg1 o t a).2.2.1 = a.2.2.1 := by unfold pg1; split <;> rfl
theorem pg1_of (o t : Int) (a : (Int × (Int × (Int × (List Int × (Int × (Int × (Int × (Int × (Int × (Int × Unit))))))))))) : (pg1 o t a).2.2.2.1 = a.2.2.2.1 := by unfold pg1; split <;> rfl
theorem pg1_bo (o t : Int) (a : (Int × (Int × (Int × (List Int × (Int × (Int × (Int × (Int × (Int × (Int × Unit))))))))))) : (pg1 o t a).2.2.2.2.2.2.1 = a.2.2.2.2.2.2.1 := by unfold pg1; split <;> rfl
theorem pg1_go (o t : Int) (a : (Int × (Int × (Int × (List Int × (Int × (Int × (Int × (Int × (Int × (Int × Unit))))))))))) : (pg1 o t a).2.2.2.2.2.2.2.1 = if pgC o t a then t else a.2.2.2.2.2.2.2.1 := by unfold pg1; split <;> rfl
theorem pg1_pe (o t : Int) (a : (Int × (Int × (Int × (List Int × (Int × (Int × (Int × (Int × (Int × (Int × Unit))))))))))) : (pg1 o t a).2.2.2.2.2.2.2.2 = a.2.2.2.2.2.2.2.2 := by unfold pg1; split <;> rfl
theorem pg1_fmd {o t : Int} {a : (Int × (Int × (Int × (List Int × (Int × (Int × (Int × (Int × (Int × (Int × Unit))))))))))} (ht : t ≤ 1000000) (h : fmdA a) : fmdA (pg1 o t a) := by
  unfold pg1
  split
  · rename_i g
    have g := g.2.2
    unfold thr at g
    unfold fmdA fmd at h ⊢
    simp only [setgo]
    refine ⟨h.1, ?_⟩
    obtain ⟨_, h⟩ := h
    omega
  · exact h
theorem purF_len (o t : Int) (l : List (Int × (Int × (Int × (List Int × (Int × (Int × (Int × (Int × (Int × (Int × Unit))))))))))) : (purF o t l).length = l.length := List.length_map _
theorem purF_get {o t : Int} {l : List (Int × (Int × (Int × (List Int × (Int × (Int × (Int × (Int × (Int × (Int × Unit))))))))))} {k : Nat} (hk : k < l.length) : (purF o t l).getD k d0 = pg1 o t (l.getD k d0) := by
  unfold purF
  rw [List.getD_eq_getElem?_getD, List.getD_eq_getElem?_getD, List.getElem?_map, List.getElem?_eq_getElem hk]; rfl
theorem ixP_map {α : Type} (p : α → Bool) (f : α → α) (h : ∀ a, p (f a) = p a) : ∀ (l : List α) (k : Nat), ixP p (l.map f) k = ixP p l k
  | [], _ => rfl
  | a :: l, k => by rw [List.map_cons, ixP, ixP, h, ixP_map p f h l]
theorem find_pur (o t : Int) (l : List (Int × (Int × (Int × (List Int × (Int × (Int × (Int × (Int × (Int × (Int × Unit))))))))))) (i : Int) : findL (purF o t l) i = findL l i := ixP_map _ _ (fun a => by simp only [pg1_id]) l 0
theorem find_pur_take (o t : Int) (l : List (Int × (Int × (Int × (List Int × (Int × (Int × (Int × (Int × (Int × (Int × Unit))))))))))) (k : Nat) (i : Int) : findL ((purF o t l).take k) i = findL (l.take k) i := by
  unfold purF
  rw [← List.map_take]
  exact find_pur o t _ i
theorem pur_chk {l : List (Int × (Int × (Int × (List Int × (Int × (Int × (Int × (Int × (Int × (Int × Unit))))))))))} {o t : Int} (hc : chkL l = 0) (ht : t ≤ 1000000) : chkL (purF o t l) = 0 ↔ ∀ k, k < l.length → pgC o t (l.getD k d0) → ∀ i, i < l.length → (l.getD k d0).1 ∈ (l.getD i d0).2.2.2.1 → ¬ t ≤ (l.getD i d0).2.2.2.2.2.2.1 := by
  obtain ⟨h4, ho⟩ := chk_ok hc
  rw [chk_zero, purF_len]
  constructor
  · rintro ⟨_, h⟩ k hk hp i hi hm hle
    have := (oneE_zero.1 (h i hi)).2.2.2
    rw [purF_get hi, pg1_of] at this
    obtain ⟨_, g⟩ := this _ hm
    rw [find_pur, find_self hc hk, Int.toNat_natCast, purF_get hk, pg1_bo] at g
    have g := g.2
    rw [pg1_go, if_pos hp] at g
    omega
  · intro h
    refine ⟨h4, fun k hk => ?_⟩
    obtain ⟨q1, q2, q3, q4⟩ := oneE_zero.1 (ho k hk)
    refine oneE_zero.2 ⟨?_, ?_, ?_, ?_⟩
    · rw [purF_get hk]; exact pg1_fmd ht q1
    · rw [purF_get hk, purF_get (by omega), pg1_id, pg1_id]; exact q2
    · rw [purF_get hk, pg1_of]
      intro i hi
      rw [find_pur_take]; exact q3 i hi
    · rw [purF_get hk, pg1_of]
      intro i hi
      obtain ⟨g1, g2⟩ := one_find (ho k hk) hi
      obtain ⟨z1, z2⟩ := q4 i hi
      rw [find_pur, purF_get (by omega), pg1_bo]
      refine ⟨?_, ?_⟩
      · unfold madA at z1 ⊢
        rw [pg1_kd, pg1_kd, pg1_ob, pg1_ob, pg1_pe, pg1_pe]; exact z1
      · unfold thr at z2 ⊢
        rw [pg1_bo, pg1_go]
        refine ⟨z2.1, ?_⟩
        split
        · rename_i hp
          have := h _ (show (findL l i).toNat < l.length by omega) hp k hk (by rw [find_id g1]; exact hi)
          omega
        · exact z2.2
theorem pur_zero {l : List (Int × (Int × (Int × (List Int × (Int × (Int × (Int × (Int × (Int × (Int × Unit))))))))))} {o t : Int} (h : purE l o t = 0) : askE l o t 0 1000000 = 0 ∧ (∀ a ∈ l, ¬ (a.2.2.1 = o ∧ a.2.1 ≠ 4 ∧ t < a.2.2.2.2.2.2.1)) ∧ chkL (purF o t l) = 0 := by
  unfold purE at h
  split at h
  · contradiction
  · rename_i h1
    split at h
    · cases h
    · rename_i h2
      split at h
      · cases h
      · rename_i h3
        refine ⟨Classical.not_not.1 h1, fun a ha g => h2 (List.any_eq_true.2 ⟨a, ha, decide_eq_true g⟩), Classical.not_not.1 h3⟩

theorem purK_zero (o t : Int) (l : List (Int × (Int × (Int × (List Int × (Int × (Int × (Int × (Int × (Int × (Int × Unit))))))))))) : purK o t l 0 = l := rfl
theorem purK_end {o t : Int} {l : List (Int × (Int × (Int × (List Int × (Int × (Int × (Int × (Int × (Int × (Int × Unit))))))))))} {k : Nat} (h : l.length ≤ k) : purK o t l k = purF o t l := by
  unfold purK purF; rw [List.take_of_length_le h, List.drop_eq_nil_of_le h, List.append_nil]
theorem purK_len {o t : Int} {l : List (Int × (Int × (Int × (List Int × (Int × (Int × (Int × (Int × (Int × (Int × Unit))))))))))} {k : Nat} : (purK o t l k).length = l.length := by
  unfold purK; rw [List.length_append, List.length_map, ← List.length_append, List.take_append_drop]
theorem purK_get {o t : Int} {l : List (Int × (Int × (Int × (List Int × (Int × (Int × (Int × (Int × (Int × (Int × Unit))))))))))} {k : Nat} (hk : k < l.length) : (purK o t l k).getD k d0 = l.getD k d0 := by
  unfold purK
  rw [List.getD_eq_getElem?_getD, List.getElem?_append_right (by rw [List.length_map, List.length_take]; omega), List.length_map, List.length_take, show k - min k l.length = 0 by omega, List.getElem?_drop, Nat.add_zero, List.getD_eq_getElem?_getD]
theorem purK_step {o t : Int} {l : List (Int × (Int × (Int × (List Int × (Int × (Int × (Int × (Int × (Int × (Int × Unit))))))))))} {k : Nat} (hk : k < l.length) : purK o t l (k + 1) = (l.take k).map (pg1 o t) ++ (pg1 o t (l.getD k d0) :: l.drop (k + 1)) := by
  unfold purK
  rw [take_snoc d0 l k hk, List.map_append, List.append_assoc]; rfl
theorem purK_f {o t : Int} {l : List (Int × (Int × (Int × (List Int × (Int × (Int × (Int × (Int × (Int × (Int × Unit))))))))))} {k : Nat} (hk : k < l.length) (h : ¬ pgC o t (l.getD k d0)) : purK o t l (k + 1) = purK o t l k := by
  rw [purK_step hk]
  unfold purK pg1
  rw [if_neg h, drop_one d0 l k hk]
theorem purK_t {o t : Int} {l : List (Int × (Int × (Int × (List Int × (Int × (Int × (Int × (Int × (Int × (Int × Unit))))))))))} {k : Nat} (hk : k < l.length) (h : pgC o t (l.getD k d0)) : purK o t l (k + 1) = (purK o t l k).set k (setgo ((purK o t l k).getD k d0) t) := by
  rw [purK_step hk, purK_get hk]
  unfold purK
  have e : ((l.take k).map (pg1 o t)).length = k := by rw [List.length_map, List.length_take]; omega
  rw [drop_one d0 l k hk, List.set_append_right _ _ (by omega), e, Nat.sub_self, List.set_cons_zero]
  unfold pg1
  rw [if_pos h]

def addE (l : List (Int × (Int × (Int × (List Int × (Int × (Int × (Int × (Int × (Int × (Int × Unit))))))))))) (a : (Int × (Int × (Int × (List Int × (Int × (Int × (Int × (Int × (Int × (Int × Unit))))))))))) : Int := if chkL l ≠ 0 then chkL l else chkL (l ++ [a])
def addL (l : List (Int × (Int × (Int × (List Int × (Int × (Int × (Int × (Int × (Int × (Int × Unit))))))))))) (a : (Int × (Int × (Int × (List Int × (Int × (Int × (Int × (Int × (Int × (Int × Unit))))))))))) : List (Int × (Int × (Int × (List Int × (Int × (Int × (Int × (Int × (Int × (Int × Unit)))))))))) := if addE l a = 0 then l ++ [a] else []
def endE (l : List (Int × (Int × (Int × (List Int × (Int × (Int × (Int × (Int × (Int × (Int × Unit))))))))))) (i t : Int) : Int := if chkL l ≠ 0 then chkL l else if findL l i < 0 then 8 else if (l.getD (findL l i).toNat d0).2.2.2.2.2.2.2.1 ≠ 1000001 then 4 else
  if ¬ ((l.getD (findL l i).toNat d0).2.2.2.2.2.2.1 ≤ t ∧ t ≤ 1000000) ∨ ∃ a ∈ l, t ≤ a.2.2.2.2.2.2.1 ∧ i ∈ a.2.2.2.1 then 1 else 0
def endL (l : List (Int × (Int × (Int × (List Int × (Int × (Int × (Int × (Int × (Int × (Int × Unit))))))))))) (i t : Int) : List (Int × (Int × (Int × (List Int × (Int × (Int × (Int × (Int × (Int × (Int × Unit)))))))))) := if endE l i t = 0 then l.set (findL l i).toNat (setgo (l.getD (findL l i).toNat d0) t) else []
end Go.Proofs.Ytgljcfnplkcfhaa.S38

namespace Go.Proofs.Ytgljcfnplkcfhaa.S38
open Go Go.Proofs.Ytgljcfnplkcfhaa.Vc Go.Proofs
set_option maxRecDepth 100000
set_option linter.unusedVariables false

noncomputable def sClI : List V → Option (Prop × V × List Blk)
  | [.sl false (.int .i64) s] => some (s.length ≤ 1048576, .sl true (.int .i64) (s), [])
  | _ => none
set_option maxHeartbeats 1000000 in
theorem bClI (s : List Int) (hp0 : s.length ≤ 1048576) : bodyP (En CHas tys [] QOfs) Try.f77 [.d (.int .i64)] [.sl false (.int .i64) s] (.sl true (.int .i64) (s)) [] := by
 refine fun p0 hq0 => ?_
 refine ⟨fun h1 => ?_, fun h1 => ?_⟩
 ·replace h1 : p0 := h1
  have e : s = [] := hq0 h1
  subst e
  exact ⟨rfl, rfl, rfl, rfl⟩
 ·replace h1 : ¬ p0 := h1
  refine ⟨⟨rfl, rfl⟩, by show ([] : List Int).length + s.length ≤ 1000000000; simp only [List.length_cons, List.length_nil]; omega, ?_⟩
  exact ⟨rfl, rfl, rfl, rfl⟩
def CClI : List (Nat × Con) := (77, pureC [.v (.sl (.int .i64))] sClI) :: CHas
theorem kClI : Known Try.prog (En CClI tys [] QOfs) := kHas.add Try.func77 Try.call77 [.d (.int .i64)] fun ds p v bs h hp => by
  unfold sClI at h
  split at h <;> simp only [Option.some.injEq, Prod.mk.injEq, reduceCtorEq] at h
  obtain ⟨rfl, rfl, rfl⟩ := h
  exact bClI _ hp
noncomputable def sClA : List V → Option (Prop × V × List Blk)
  | [.sl false (.cons (.int .i64) (.cons (.int .i64) (.cons (.int .i64) (.cons (.sl (.int .i64)) (.cons (.int .i64) (.cons (.int .i64) (.cons (.int .i64) (.cons (.int .i64) (.cons (.int .i64) (.cons (.int .i64) .nil)))))))))) s] => some (s.length ≤ 1048576, .own (.cons (.int .i64) (.cons (.int .i64) (.cons (.int .i64) (.cons (.sl (.int .i64)) (.cons (.int .i64) (.cons (.int .i64) (.cons (.int .i64) (.cons (.int .i64) (.cons (.int .i64) (.cons (.int .i64) .nil)))))))))) 0, [.row false (.cons (.int .i64) (.cons (.int .i64) (.cons (.int .i64) (.cons (.sl (.int .i64)) (.cons (.int .i64) (.cons (.int .i64) (.cons (.int .i64) (.cons (.int .i64) (.cons (.int .i64) (.cons (.int .i64) .nil)))))))))) (s)])
  | _ => none
set_option maxHeartbeats 1000000 in
theorem bClA (s : List (Int × (Int × (Int × (List Int × (Int × (Int × (Int × (Int × (Int × (Int × Unit))))))))))) (hp0 : s.length ≤ 1048576) : bodyI (En CClI tys [] QOfs) Try.f94 [.w (.cons (.int .i64) (.cons (.int .i64) (.cons (.int .i64) (.cons (.sl (.int .i64)) (.cons (.int .i64) (.cons (.int .i64) (.cons (.int .i64) (.cons (.int .i64) (.cons (.int .i64) (.cons (.int .i64) .nil))))))))))] [.sl false (.cons (.int .i64) (.cons (.int .i64) (.cons (.int .i64) (.cons (.sl (.int .i64)) (.cons (.int .i64) (.cons (.int .i64) (.cons (.int .i64) (.cons (.int .i64) (.cons (.int .i64) (.cons (.int .i64) .nil)))))))))) s] (.own (.cons (.int .i64) (.cons (.int .i64) (.cons (.int .i64) (.cons (.sl (.int .i64)) (.cons (.int .i64) (.cons (.int .i64) (.cons (.int .i64) (.cons (.int .i64) (.cons (.int .i64) (.cons (.int .i64) .nil)))))))))) 0) [.row false (.cons (.int .i64) (.cons (.int .i64) (.cons (.int .i64) (.cons (.sl (.int .i64)) (.cons (.int .i64) (.cons (.int .i64) (.cons (.int .i64) (.cons (.int .i64) (.cons (.int .i64) (.cons (.int .i64) .nil)))))))))) (s)] := by
 refine fun p0 hq0 => ?_
 refine ⟨fun h1 => ?_, fun h1 => ?_⟩
 ·replace h1 : p0 := h1
  have e : s = [] := hq0 h1
  subst e
  exact ⟨rfl, rfl, rfl, rfl⟩
 ·replace h1 : ¬ p0 := h1
  refine ⟨⟨rfl, rfl⟩, by show ([] : List (Int × (Int × (Int × (List Int × (Int × (Int × (Int × (Int × (Int × (Int × Unit))))))))))).length + s.length ≤ 1000000000; simp only [List.length_cons, List.length_nil]; omega, ?_⟩
  exact ⟨rfl, rfl, rfl, rfl⟩
def CClA : List (Nat × Con) := (94, immC [.v (.sl (.cons (.int .i64) (.cons (.int .i64) (.cons (.int .i64) (.cons (.sl (.int .i64)) (.cons (.int .i64) (.cons (.int .i64) (.cons (.int .i64) (.cons (.int .i64) (.cons (.int .i64) (.cons (.int .i64) .nil)))))))))))] sClA) :: CClI
theorem kClA : Known Try.prog (En CClA tys [] QOfs) := kClI.addI Try.func94 Try.call94 [.w (.cons (.int .i64) (.cons (.int .i64) (.cons (.int .i64) (.cons (.sl (.int .i64)) (.cons (.int .i64) (.cons (.int .i64) (.cons (.int .i64) (.cons (.int .i64) (.cons (.int .i64) (.cons (.int .i64) .nil))))))))))] fun ds p v bs h hp => by
  unfold sClA at h
  split at h <;> simp only [Option.some.injEq, Prod.mk.injEq, reduceCtorEq] at h
  obtain ⟨rfl, rfl, rfl⟩ := h
  exact bClA _ hp
noncomputable def sTol : List V → Option (Prop × V × List Blk)
  | [.sl false (.cons (.int .i64) (.cons (.int .i64) (.cons (.int .i64) (.cons (.sl (.int .i64)) (.cons (.int .i64) (.cons (.int .i64) (.cons (.int .i64) (.cons (.int .i64) (.cons (.int .i64) (.cons (.int .i64) .nil)))))))))) l, .int .i64 o, .int .i64 need, .agg [.int .i64 bad, .sl false (.cons (.int .i64) (.cons (.int .i64) .nil)) cs]] => some (l.length ≤ 1048576 ∧ (∀ a ∈ l, a.2.2.2.1.length ≤ 1048576) ∧ cs.length ≤ 1048576, .tup [.b (tolT l o need bad cs = true), .int .i64 (tolE l o need bad cs)], [])
  | _ => none
set_option maxHeartbeats 4000000 in
theorem bTol (l : List (Int × (Int × (Int × (List Int × (Int × (Int × (Int × (Int × (Int × (Int × Unit))))))))))) (o : Int) (need : Int) (bad : Int) (cs : List (Int × (Int × Unit))) (hp0 : l.length ≤ 1048576) (hp1 : (∀ a ∈ l, a.2.2.2.1.length ≤ 1048576)) (hp2 : cs.length ≤ 1048576) : bodyP (En CClA tys [] QOfs) Try.f70 [.k, .k] [.sl false (.cons (.int .i64) (.cons (.int .i64) (.cons (.int .i64) (.cons (.sl (.int .i64)) (.cons (.int .i64) (.cons (.int .i64) (.cons (.int .i64) (.cons (.int .i64) (.cons (.int .i64) (.cons (.int .i64) .nil)))))))))) l, .int .i64 o, .int .i64 need, .agg [.int .i64 bad, .sl false (.cons (.int .i64) (.cons (.int .i64) .nil)) cs]] (.tup [.b (tolT l o need bad cs = true), .int .i64 (tolE l o need bad cs)]) [] := by
 refine ⟨rfl, rfl, rfl, rfl, ⟨by show l.length ≤ 1048576; first | omega | assumption, by first | assumption | simp⟩, fun h0 => ?_, fun h0 => ?_⟩
 ·replace h0 : (askE l o need 1 12) ≠ 0 := h0
  refine ⟨⟨rfl, rfl, rfl⟩, ⟨rfl, rfl, rfl⟩, ?_⟩
  have e1 : tolE l o need bad cs = askE l o need 1 12 := if_pos h0
  have e2 : tolT l o need bad cs = false := tol_err (by rw [e1]; exact h0)
  rw [e1, e2]
  exact ⟨rfl, rfl, rfl, rfl⟩
 ·replace h0 : ¬ ((askE l o need 1 12) ≠ 0) := h0
  have hk0 : askE l o need 1 12 = 0 := Classical.not_not.1 h0
  obtain ⟨hc, ho, ht⟩ := ask_ok hk0
  have hl4 := (chk_ok hc).1
  have hFl := fO_len o l
  refine ⟨rfl, by show cs.length ≤ 1048576; first | omega | assumption, fun h1 => ?_, fun h1 => ?_⟩
  ·replace h1 : (spE bad cs) ≠ 0 := h1
   refine ⟨⟨rfl, rfl, rfl⟩, ⟨rfl, rfl, rfl⟩, ?_⟩
   have e1 : tolE l o need bad cs = spE bad cs := if_neg h0
   have e2 : tolT l o need bad cs = false := tol_err (by rw [e1]; exact h1)
   rw [e1, e2]
   exact ⟨rfl, rfl, rfl, rfl⟩
  ·replace h1 : ¬ ((spE bad cs) ≠ 0) := h1
   have hE : tolE l o need bad cs = 0 := by unfold tolE; rw [if_neg h0]; exact Classical.not_not.1 h1
   refine ⟨⟨rfl, rfl, rfl⟩, rfl, trivial, rfl, rfl, ⟨by show l.length ≤ 1048576; first | omega | assumption, fun _ _ => rfl⟩, 5, [(2, .k), (7, .k), (8, .k), (9, .k), (12, .k), (13, .k), (14, .k)], fun n vs H => srcS (sn bad cs ((fO o l).take n)) = false ∧ vs = [.int .i64 need, .ptr 0 1 0 0, .ptr 1 1 0 0, .ptr 2 1 0 0, .ptr 3 1 0 0, .b (false = true), .ptr 4 12 0 0] ∧ H = [.cells [.int .i64 bad, .sl false (.cons (.int .i64) (.cons (.int .i64) .nil)) cs], .cells [.b False], .cells [.int .i64 0], .cells [.b (covS (sn bad cs ((fO o l).take n)) = true)], .row true (.arr 12 .bool) (tabS (sn bad cs ((fO o l).take n)))], ⟨rfl, rfl, rfl, rfl⟩, ?_, ?_⟩
   ·rintro n vs H ⟨hc1_0, rfl, rfl⟩ hn1
    replace hn1 : n < (fO o l).length := hn1
    have hn : n < (fO o l).length := hn1
    have hfa := fmd_all (chk_fmd hc (List.mem_filter.1 (getD_mem d0 (fO o l) n hn)).1)
    have hTl := tabS_len (sn bad cs ((fO o l).take n))
    refine ⟨⟨rfl, rfl, rfl, Nat.le_of_ble_eq_true rfl⟩, rfl, rfl, rfl, rfl, rfl, rfl, rfl, rfl, rfl, rfl, ⟨by show cs.length ≤ 1048576; first | omega | assumption, by show 0 ≤ ((fO o l).getD n d0).2.2.2.2.1; first | omega | assumption, by show ((fO o l).getD n d0).2.2.2.2.1 ≤ 11; first | omega | assumption⟩, fun h2 => ?_, fun h2 => ?_⟩
    ·replace h2 : ¬ (seeP bad cs (((fO o l).getD n d0).1, (((fO o l).getD n d0).2.1, (((fO o l).getD n d0).2.2.1, (((fO o l).getD n d0).2.2.2.1, (((fO o l).getD n d0).2.2.2.2.1, (((fO o l).getD n d0).2.2.2.2.2.1, (((fO o l).getD n d0).2.2.2.2.2.2.1, (((fO o l).getD n d0).2.2.2.2.2.2.2.1, (((fO o l).getD n d0).2.2.2.2.2.2.2.2.1, (((fO o l).getD n d0).2.2.2.2.2.2.2.2.2.1, ()))))))))))) := h2
     obtain ⟨e1, e2, e3⟩ := tl_no hn (by first | exact .inl (by assumption) | exact .inr ⟨by assumption, by assumption, by assumption⟩)
     exact ⟨rfl, rfl, e1.trans hc1_0, rfl, by rw [e2, e3]; rfl⟩
    ·replace h2 : ¬ (¬ (seeP bad cs (((fO o l).getD n d0).1, (((fO o l).getD n d0).2.1, (((fO o l).getD n d0).2.2.1, (((fO o l).getD n d0).2.2.2.1, (((fO o l).getD n d0).2.2.2.2.1, (((fO o l).getD n d0).2.2.2.2.2.1, (((fO o l).getD n d0).2.2.2.2.2.2.1, (((fO o l).getD n d0).2.2.2.2.2.2.2.1, (((fO o l).getD n d0).2.2.2.2.2.2.2.2.1, (((fO o l).getD n d0).2.2.2.2.2.2.2.2.2.1, ())))))))))))) := h2
     have hsee : seeP bad cs ((fO o l).getD n d0) := Classical.not_not.1 h2
     refine ⟨fun h3 => ?_, fun h3 => ?_⟩
     ·replace h3 : ((fO o l).getD n d0).2.1 = 1 := h3
      refine ⟨⟨rfl, rfl, rfl⟩, ⟨rfl, rfl, rfl⟩, rfl, rfl, ?_⟩
      rw [tol_src hE hn hsee h3, hE]
      exact ⟨rfl, rfl, rfl, rfl⟩
     ·replace h3 : ¬ (((fO o l).getD n d0).2.1 = 1) := h3
      refine ⟨fun h4 => ?_, fun h4 => ?_⟩
      ·replace h4 : ((fO o l).getD n d0).2.1 = 2 := h4
       refine ⟨⟨rfl, rfl, rfl⟩, ?_⟩
       obtain ⟨e1, e2, e3⟩ := tl_2 hn hsee (by assumption)
       exact ⟨rfl, rfl, e1.trans hc1_0, rfl, by rw [e2, e3]; rfl⟩
      ·replace h4 : ¬ (((fO o l).getD n d0).2.1 = 2) := h4
       refine ⟨fun h5 => ?_, fun h5 => ?_⟩
       ·replace h5 : ((fO o l).getD n d0).2.1 = 3 := h5
        refine ⟨by kernel_rfl, ⟨by show (0 : Int) ≤ ((fO o l).getD n d0).2.2.2.2.2.2.2.2.2.1; omega, by show ((fO o l).getD n d0).2.2.2.2.2.2.2.2.2.1 < (500 : Int); omega, by first | assumption | rfl | simp⟩, ⟨by show (0 : Int) ≤ ((fO o l).getD n d0).2.2.2.2.2.2.2.2.1; omega, by show ((fO o l).getD n d0).2.2.2.2.2.2.2.2.1 < (12 : Int); omega⟩, ⟨rfl, rfl⟩, ?_⟩
        obtain ⟨e1, e2, e3⟩ := tl_3 hn hsee (by assumption)
        exact ⟨rfl, rfl, e1.trans hc1_0, rfl, by rw [e2, e3]; rfl⟩
       ·replace h5 : ¬ (((fO o l).getD n d0).2.1 = 3) := h5
        obtain ⟨e1, e2, e3⟩ := tl_no hn (by first | exact .inl (by assumption) | exact .inr ⟨by assumption, by assumption, by assumption⟩)
        exact ⟨rfl, rfl, e1.trans hc1_0, rfl, by rw [e2, e3]; rfl⟩
   ·rintro vs H ⟨hc1_0, rfl, rfl⟩
    have hTl := tabS_len (sn bad cs ((fO o l).take ((fO o l).length)))
    refine ⟨by first | assumption | rfl | simp, 5, [(2, .k), (8, .k), (9, .k), (12, .k), (13, .k), (55, .k), (56, .k)], fun nM vs H => ∃ (k : Nat), k ≤ 500 ∧ nM = 500 - k ∧ vs = [.int .i64 need, .ptr 1 1 0 0, .ptr 2 1 0 0, .ptr 3 1 0 0, .b (enS need ((tabS (sn bad cs ((fO o l).take ((fO o l).length)))).take k) = true), .dat true (.arr 500 (.arr 12 .bool)) (tabS (sn bad cs ((fO o l).take ((fO o l).length)))), .int .i64 (k : Int)] ∧ H = [.cells [.int .i64 bad, .sl false (.cons (.int .i64) (.cons (.int .i64) .nil)) cs], .cells [.b False], .cells [.int .i64 0], .cells [.b (covS (sn bad cs ((fO o l).take ((fO o l).length))) = true)], .row true (.arr 12 .bool) (tabS (sn bad cs ((fO o l).take ((fO o l).length))))], ⟨rfl, 500, 0, by omega, by omega, rfl, rfl⟩, ?_⟩
    rintro nM vs H ⟨k, hc2_0, rfl, rfl, rfl⟩
    refine ⟨fun h6 => ?_, fun h6 => ?_⟩
    ·replace h6 : (k : Int) < 500 := h6
     have hRl : ((tabS (sn bad cs ((fO o l).take ((fO o l).length)))).getD k (List.replicate 12 false)).length = 12 := tabS_row _ _ (getD_mem _ _ k (by omega))
     refine ⟨⟨by show (0 : Int) ≤ (k : Int); omega, by show (k : Int) < (500 : Int); omega⟩, ⟨rfl, rfl, rfl, by first | assumption | rfl | simp, rfl⟩, by first | assumption | rfl | simp, 6, [(2, .k), (8, .k), (9, .k), (12, .k), (13, .k), (18, .k), (55, .k), (56, .k), (59, .k), (60, .k)], fun nM vs H => ∃ (j : Nat), j ≤ 12 ∧ nM = 12 - j ∧ vs = [.int .i64 need, .ptr 1 1 0 0, .ptr 2 1 0 0, .ptr 3 1 0 0, .b (enS need ((tabS (sn bad cs ((fO o l).take ((fO o l).length)))).take k) = true), .int .i64 ((cntT (((tabS (sn bad cs ((fO o l).take ((fO o l).length)))).getD k (List.replicate 12 false)).take j) : Nat) : Int), .dat true (.arr 500 (.arr 12 .bool)) (tabS (sn bad cs ((fO o l).take ((fO o l).length)))), .int .i64 (k : Int), .dat true (.arr 12 .bool) ((tabS (sn bad cs ((fO o l).take ((fO o l).length)))).getD k (List.replicate 12 false)), .int .i64 (j : Int)] ∧ H = [.cells [.int .i64 bad, .sl false (.cons (.int .i64) (.cons (.int .i64) .nil)) cs], .cells [.b False], .cells [.int .i64 0], .cells [.b (covS (sn bad cs ((fO o l).take ((fO o l).length))) = true)], .row true (.arr 12 .bool) (tabS (sn bad cs ((fO o l).take ((fO o l).length)))), .row true .bool ((tabS (sn bad cs ((fO o l).take ((fO o l).length)))).getD k (List.replicate 12 false))], ⟨rfl, 12, 0, by omega, by omega, rfl, rfl⟩, ?_⟩
     rintro nM vs H ⟨j, hc3_0, rfl, rfl, rfl⟩
     have hct := cntT_le (((tabS (sn bad cs ((fO o l).take ((fO o l).length)))).getD k (List.replicate 12 false)).take j)
     have htk := tk_len ((tabS (sn bad cs ((fO o l).take ((fO o l).length)))).getD k (List.replicate 12 false)) j
     refine ⟨fun h7 => ?_, fun h7 => ?_⟩
     ·replace h7 : (j : Int) < 12 := h7
      refine ⟨⟨by show (0 : Int) ≤ (j : Int); omega, by show (j : Int) < (12 : Int); omega⟩, fun h8 => ?_, fun h8 => ?_⟩
      ·replace h8 : (((tabS (sn bad cs ((fO o l).take ((fO o l).length)))).getD k (List.replicate 12 false)).getD j false) = true := h8
       refine ⟨⟨by show (-9223372036854775808 : Int) ≤ (((cntT (((tabS (sn bad cs ((fO o l).take ((fO o l).length)))).getD k (List.replicate 12 false)).take j) : Nat) : Int) + 1); omega, by show (((cntT (((tabS (sn bad cs ((fO o l).take ((fO o l).length)))).getD k (List.replicate 12 false)).take j) : Nat) : Int) + 1) ≤ (9223372036854775807 : Int); omega⟩, ⟨by show (-9223372036854775808 : Int) ≤ ((j : Int) + 1); omega, by show ((j : Int) + 1) ≤ (9223372036854775807 : Int); omega⟩, ?_⟩
       have e : cntT (((tabS (sn bad cs ((fO o l).take ((fO o l).length)))).getD k (List.replicate 12 false)).take (j + 1)) = cntT (((tabS (sn bad cs ((fO o l).take ((fO o l).length)))).getD k (List.replicate 12 false)).take j) + 1 := by rw [take_snoc false _ j (by omega), cntT_snoc, if_pos h8]
       exact ⟨rfl, 12 - (j + 1), by omega, j + 1, by omega, rfl, by rw [e]; rfl, rfl⟩
      ·replace h8 : ¬ ((((tabS (sn bad cs ((fO o l).take ((fO o l).length)))).getD k (List.replicate 12 false)).getD j false) = true) := h8
       refine ⟨⟨by show (-9223372036854775808 : Int) ≤ ((j : Int) + 1); omega, by show ((j : Int) + 1) ≤ (9223372036854775807 : Int); omega⟩, ?_⟩
       have e : cntT (((tabS (sn bad cs ((fO o l).take ((fO o l).length)))).getD k (List.replicate 12 false)).take (j + 1)) = cntT (((tabS (sn bad cs ((fO o l).take ((fO o l).length)))).getD k (List.replicate 12 false)).take j) := by rw [take_snoc false _ j (by omega), cntT_snoc, if_neg h8, Nat.add_zero]
       exact ⟨rfl, 12 - (j + 1), by omega, j + 1, by omega, rfl, by rw [e]; rfl, rfl⟩
     ·replace h7 : ¬ ((j : Int) < 12) := h7
      refine ⟨fun h9 => ?_, fun h9 => ?_⟩
      ·replace h9 : ¬ (enS need ((tabS (sn bad cs ((fO o l).take ((fO o l).length)))).take k) = true) := h9
       refine ⟨⟨by show (-9223372036854775808 : Int) ≤ ((k : Int) + 1); omega, by show ((k : Int) + 1) ≤ (9223372036854775807 : Int); omega⟩, ?_⟩
       have e : (enS need ((tabS (sn bad cs ((fO o l).take ((fO o l).length)))).take (k + 1)) = true) = (need ≤ ((cntT (((tabS (sn bad cs ((fO o l).take ((fO o l).length)))).getD k (List.replicate 12 false)).take j) : Nat) : Int)) := by rw [take_snoc (List.replicate 12 false) _ k (by omega), enS_snoc, bF h9, Bool.false_or, show ((tabS (sn bad cs ((fO o l).take ((fO o l).length)))).getD k (List.replicate 12 false)).take j = ((tabS (sn bad cs ((fO o l).take ((fO o l).length)))).getD k (List.replicate 12 false)) from List.take_of_length_le (by omega)]; exact propext decide_eq_true_iff
       exact ⟨rfl, 500 - (k + 1), by omega, k + 1, by omega, rfl, by rw [e]; rfl, rfl⟩
      ·replace h9 : enS need ((tabS (sn bad cs ((fO o l).take ((fO o l).length)))).take k) = true := h9
       refine ⟨⟨by show (-9223372036854775808 : Int) ≤ ((k : Int) + 1); omega, by show ((k : Int) + 1) ≤ (9223372036854775807 : Int); omega⟩, ?_⟩
       have e : enS need ((tabS (sn bad cs ((fO o l).take ((fO o l).length)))).take (k + 1)) = true := by rw [take_snoc (List.replicate 12 false) _ k (by omega), enS_snoc, h9]; rfl
       exact ⟨rfl, 500 - (k + 1), by omega, k + 1, by omega, rfl, by rw [e]; rfl, rfl⟩
    ·replace h6 : ¬ ((k : Int) < 500) := h6
     refine ⟨fun h10 => ?_, fun h10 => ?_⟩
     ·replace h10 : covS (sn bad cs ((fO o l).take ((fO o l).length))) = true := h10
      refine ⟨⟨rfl, rfl, rfl⟩, ⟨rfl, rfl, rfl⟩, ?_⟩
      have e := tol_c hE hc1_0 h10
      rw [← show (tabS (sn bad cs ((fO o l).take ((fO o l).length)))).take k = (tabS (sn bad cs ((fO o l).take ((fO o l).length)))) from List.take_of_length_le (by omega)] at e
      rw [e, hE]
      exact ⟨rfl, rfl, rfl, rfl⟩
     ·replace h10 : ¬ (covS (sn bad cs ((fO o l).take ((fO o l).length))) = true) := h10
      refine ⟨⟨rfl, rfl, rfl⟩, ⟨rfl, rfl, rfl⟩, ?_⟩
      rw [tol_n hE hc1_0 (bF h10), hE]
      exact ⟨rfl, rfl, rfl, rfl⟩
def CTol : List (Nat × Con) := (70, pureC [.v (.sl (.cons (.int .i64) (.cons (.int .i64) (.cons (.int .i64) (.cons (.sl (.int .i64)) (.cons (.int .i64) (.cons (.int .i64) (.cons (.int .i64) (.cons (.int .i64) (.cons (.int .i64) (.cons (.int .i64) .nil))))))))))), .v (.int .i64), .v (.int .i64), .v (.cons (.int .i64) (.cons (.sl (.cons (.int .i64) (.cons (.int .i64) .nil))) .nil))] sTol) :: CClA
theorem kTol : Known Try.prog (En CTol tys [] QOfs) := kClA.add Try.func70 Try.call70 [.k, .k] fun ds p v bs h hp => by
  unfold sTol at h
  split at h <;> simp only [Option.some.injEq, Prod.mk.injEq, reduceCtorEq] at h
  obtain ⟨rfl, rfl, rfl⟩ := h
  exact bTol _ _ _ _ _ hp.1 hp.2.1 hp.2.2
end Go.Proofs.Ytgljcfnplkcfhaa.S38

namespace Go.Proofs.Ytgljcfnplkcfhaa.S38
open Go

theorem ixP_isG {α : Type} (p : α → Bool) {q : α → Prop} (l : List α) (h : ∀ i, p i = true ↔ q i) : 0 ≤ ixP p l 0 ↔ ∃ i ∈ l, q i := by
  constructor
  · intro g
    refine Classical.byContradiction fun hn => ?_
    have := (ixP_none (p := p) (l := l) (k := 0)).2 fun a ha => by
      cases hp : p a with
      | false => rfl
      | true => exact absurd ⟨a, ha, (h a).1 hp⟩ hn
    omega
  · rintro ⟨i, hi, hq⟩
    refine Classical.byContradiction fun hn => ?_
    have := (ixP_none (p := p) (l := l) (k := 0)).1 (by omega) i hi
    rw [(h i).2 hq] at this; cases this
theorem pur_err {l : List (Int × (Int × (Int × (List Int × (Int × (Int × (Int × (Int × (Int × (Int × Unit))))))))))} {o t : Int} (h : purE l o t ≠ 0) : purL l o t = [] := if_neg h
theorem pur_yes {l : List (Int × (Int × (Int × (List Int × (Int × (Int × (Int × (Int × (Int × (Int × Unit))))))))))} {o t : Int} (h : purE l o t = 0) : purL l o t = purF o t l := if_pos h
theorem purF_of {l : List (Int × (Int × (Int × (List Int × (Int × (Int × (Int × (Int × (Int × (Int × Unit))))))))))} {o t : Int} (h : ∀ a ∈ l, a.2.2.2.1.length ≤ 1048576) : ∀ a ∈ purF o t l, a.2.2.2.1.length ≤ 1048576 := fun a ha => by
  obtain ⟨b, hb, rfl⟩ := List.mem_map.1 ha
  rw [pg1_of]; exact h b hb
theorem fut_next {l : List (Int × (Int × (Int × (List Int × (Int × (Int × (Int × (Int × (Int × (Int × Unit))))))))))} {o t : Int} {k : Nat} (hk : k < l.length) (h : (l.take k).any (futB o t) = false) (g : ¬ ((l.getD k d0).2.2.1 = o ∧ (l.getD k d0).2.1 ≠ 4 ∧ t < (l.getD k d0).2.2.2.2.2.2.1)) : (l.take (k + 1)).any (futB o t) = false := by
  rw [take_snoc d0 l k hk, List.any_append, h]
  simp only [List.any_cons, List.any_nil, Bool.or_false, Bool.false_or]
  exact decide_eq_false g
theorem pur_fut {l : List (Int × (Int × (Int × (List Int × (Int × (Int × (Int × (Int × (Int × (Int × Unit))))))))))} {o t : Int} {k : Nat} (h0 : askE l o t 0 1000000 = 0) (hk : k < l.length) (h1 : ¬ ((l.getD k d0).2.2.1 ≠ o)) (h2 : ¬ (l.getD k d0).2.1 = 4) (h3 : t < (l.getD k d0).2.2.2.2.2.2.1) : purE l o t = 4 := by
  unfold purE
  rw [if_neg (fun g => g h0), if_pos (List.any_eq_true.2 ⟨_, getD_mem d0 l k hk, decide_eq_true ⟨Classical.not_not.1 h1, h2, h3⟩⟩)]
theorem pur_bad {l : List (Int × (Int × (Int × (List Int × (Int × (Int × (Int × (Int × (Int × (Int × Unit))))))))))} {o t : Int} (h0 : askE l o t 0 1000000 = 0) (h : chkL (purF o t l) ≠ 0) : purE l o t = 4 := by
  unfold purE
  rw [if_neg (fun g => g h0)]
  by_cases g : l.any (futB o t) = true
  · rw [if_pos g]
  · rw [if_neg g, if_pos h]
theorem pur_ok {l : List (Int × (Int × (Int × (List Int × (Int × (Int × (Int × (Int × (Int × (Int × Unit))))))))))} {o t : Int} (h0 : askE l o t 0 1000000 = 0) (h1 : l.any (futB o t) = false) (h : chkL (purF o t l) = 0) : purE l o t = 0 := by
  unfold purE
  rw [if_neg (fun g => g h0), if_neg (by rw [h1]; decide), if_neg fun g => g h]
theorem add_err {l : List (Int × (Int × (Int × (List Int × (Int × (Int × (Int × (Int × (Int × (Int × Unit))))))))))} {a : (Int × (Int × (Int × (List Int × (Int × (Int × (Int × (Int × (Int × (Int × Unit))))))))))} (h : addE l a ≠ 0) : addL l a = [] := if_neg h
theorem add_yes {l : List (Int × (Int × (Int × (List Int × (Int × (Int × (Int × (Int × (Int × (Int × Unit))))))))))} {a : (Int × (Int × (Int × (List Int × (Int × (Int × (Int × (Int × (Int × (Int × Unit))))))))))} (h : addE l a = 0) : addL l a = l ++ [a] := if_pos h
theorem end_err {l : List (Int × (Int × (Int × (List Int × (Int × (Int × (Int × (Int × (Int × (Int × Unit))))))))))} {i t : Int} (h : endE l i t ≠ 0) : endL l i t = [] := if_neg h
theorem end_yes {l : List (Int × (Int × (Int × (List Int × (Int × (Int × (Int × (Int × (Int × (Int × Unit))))))))))} {i t : Int} (h : endE l i t = 0) : endL l i t = l.set (findL l i).toNat (setgo (l.getD (findL l i).toNat d0) t) := if_pos h
end Go.Proofs.Ytgljcfnplkcfhaa.S38

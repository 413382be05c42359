/- Texts of this claim: S41.CA3, S41.CPd, S41.CA4, S41.CPe. -/
import Derived.Test.YtogipicegdbhdaaDoorS4
set_option linter.unusedVariables false
set_option linter.unusedSimpArgs false
namespace Go.Proofs.YtogipicegdbhdaaDoor.S41c
open Go Go.Proofs.YtogipicegdbhdaaDoor.Vc Go.Proofs
set_option maxRecDepth 100000
set_option linter.unusedVariables false
open Go.Proofs.YtogipicegdbhdaaDoor.S41
def sExt : List V → Option (Prop × V × List Blk)
 | [.agg [.int .i64 b, .int .i64 l, .int .i64 d, .int .i64 m, .sl false (.int .i64) hs], .int .i64 x] => some (hs.length ≤ 2000000, .tup [.agg [.int .i64 (ext0 b l d m hs x b), .int .i64 (ext0 b l d m hs x x), .int .i64 (ext0 b l d m hs x d), .int .i64 (ext0 b l d m hs x m), .own (.int .i64) 0], .int .i64 (extE b l d m hs x)], [.row true (.int .i64) (extH b l d m hs x)])
 | _ => none
set_option maxHeartbeats 1000000 in
theorem bExt (b : Int) (l : Int) (d : Int) (m : Int) (hs : List Int) (x : Int) (hp0 : hs.length ≤ 2000000) : bodyP (En CTel tys G6 QAt) Tryd.f62 [.c [(4, (.int .i64))], .k] [.agg [.int .i64 b, .int .i64 l, .int .i64 d, .int .i64 m, .sl false (.int .i64) hs], .int .i64 x] (.tup [.agg [.int .i64 (ext0 b l d m hs x b), .int .i64 (ext0 b l d m hs x x), .int .i64 (ext0 b l d m hs x d), .int .i64 (ext0 b l d m hs x m), .own (.int .i64) 0], .int .i64 (extE b l d m hs x)]) [.row true (.int .i64) (extH b l d m hs x)] := by
 refine ⟨rfl, rfl, rfl, rfl, by show hs.length ≤ 2000000; first | omega | assumption, fun h0 => ?_, fun h0 => ?_⟩
 ·replace h0 : (chkL b l d m hs) ≠ 0 := h0
  refine ⟨⟨rfl, rfl, rfl, Nat.le_of_ble_eq_true rfl⟩, ?_⟩
  have hE : extE b l d m hs x = chkL b l d m hs := if_neg h0
  have hz : ∀ y, ext0 b l d m hs x y = 0 := fun y => if_neg (by rw [hE]; first | exact h0 | exact h2 | omega)
  have hh : extH b l d m hs x = [] := if_neg (by rw [hE]; first | exact h0 | exact h2 | omega)
  rw [hz, hz, hz, hz, hh, hE]
  exact ⟨rfl, rfl, rfl, rfl⟩
 ·replace h0 : ¬ ((chkL b l d m hs) ≠ 0) := h0
  refine ⟨fun h1 => ?_, fun h1 => ?_⟩
  ·replace h1 : x ≤ l := h1
   refine ⟨⟨rfl, rfl, rfl, Nat.le_of_ble_eq_true rfl⟩, ?_⟩
   have hE : extE b l d m hs x = 4 := by unfold extE; rw [if_pos (Classical.not_not.1 h0), if_pos h1]
   have hz : ∀ y, ext0 b l d m hs x y = 0 := fun y => if_neg (by rw [hE]; first | exact h0 | exact h2 | omega)
   have hh : extH b l d m hs x = [] := if_neg (by rw [hE]; first | exact h0 | exact h2 | omega)
   rw [hz, hz, hz, hz, hh, hE]
   exact ⟨rfl, rfl, rfl, rfl⟩
  ·replace h1 : ¬ (x ≤ l) := h1
   refine ⟨by show hs.length ≤ 2000000; first | omega | assumption, ⟨rfl, rfl, rfl⟩, ⟨rfl, rfl, rfl⟩, rfl, rfl, rfl, rfl, by show hs.length ≤ 2000000; first | omega | assumption, fun h2 => ?_, fun h2 => ?_⟩
   ·replace h2 : (chkL b x d m hs) ≠ 0 := h2
    refine ⟨⟨rfl, rfl, rfl, Nat.le_of_ble_eq_true rfl⟩, ?_⟩
    have hE : extE b l d m hs x = chkL b x d m hs := by unfold extE; rw [if_pos (Classical.not_not.1 h0), if_neg h1]
    have hz : ∀ y, ext0 b l d m hs x y = 0 := fun y => if_neg (by rw [hE]; first | exact h0 | exact h2 | omega)
    have hh : extH b l d m hs x = [] := if_neg (by rw [hE]; first | exact h0 | exact h2 | omega)
    rw [hz, hz, hz, hz, hh, hE]
    exact ⟨rfl, rfl, rfl, rfl⟩
   ·replace h2 : ¬ ((chkL b x d m hs) ≠ 0) := h2
    refine ⟨⟨rfl, rfl, rfl, Nat.le_of_ble_eq_true rfl⟩, ?_⟩
    have hE : extE b l d m hs x = 0 := by unfold extE; rw [if_pos (Classical.not_not.1 h0), if_neg h1]; exact (Classical.not_not.1 h2)
    have hz : ∀ y, ext0 b l d m hs x y = y := fun y => if_pos hE
    have hh : extH b l d m hs x = hs := if_pos hE
    rw [hz, hz, hz, hz, hh, hE]
    exact ⟨rfl, rfl, rfl, rfl⟩
def CExt : List (Nat × Con) := (62, pureC [.v (.cons (.int .i64) (.cons (.int .i64) (.cons (.int .i64) (.cons (.int .i64) (.cons (.sl (.int .i64)) .nil))))), .v (.int .i64)] sExt) :: CTel
theorem kExt : Known Tryd.prog (En CExt tys G6 QAt) := kTel.add Tryd.func62 Tryd.call62 [.c [(4, (.int .i64))], .k] fun ds p v bs h hp => by
 unfold sExt at h
 split at h <;> simp only [Option.some.injEq, Prod.mk.injEq, reduceCtorEq] at h
 obtain ⟨rfl, rfl, rfl⟩ := h
 exact bExt _ _ _ _ _ _ hp
def sSaf : List V → Option (Prop × V × List Blk)
 | [.agg [.int .i64 b, .int .i64 l, .int .i64 d, .int .i64 m, .sl false (.int .i64) hs], .int .i64 bad, .int .i64 w, .int .i64 mo] => some (hs.length ≤ 2000000, .tup [.b (safL b l d m hs bad w mo = true), .int .i64 (safE b l d m hs bad w mo)], [])
 | _ => none
set_option maxHeartbeats 1000000 in
theorem bSaf (b : Int) (l : Int) (d : Int) (m : Int) (hs : List Int) (bad : Int) (w : Int) (mo : Int) (hp0 : hs.length ≤ 2000000) : bodyP (En CExt tys G6 QAt) Tryd.f61 [.k, .k] [.agg [.int .i64 b, .int .i64 l, .int .i64 d, .int .i64 m, .sl false (.int .i64) hs], .int .i64 bad, .int .i64 w, .int .i64 mo] (.tup [.b (safL b l d m hs bad w mo = true), .int .i64 (safE b l d m hs bad w mo)]) [] := by
 refine ⟨rfl, rfl, rfl, rfl, rfl, ⟨by show hs.length ≤ 2000000; first | omega | assumption, by show ([]).length ≤ 2000000; first | omega | assumption | (simp only [List.length_cons, List.length_nil, List.length_append, List.length_take, List.length_drop, List.length_set, List.length_replicate]; omega)⟩, fun h0 => ?_, fun h0 => ?_⟩
 ·replace h0 : (redL b l d m hs bad ([])) ≠ 0 := h0
  have e : safE b l d m hs bad w mo = redL b l d m hs bad [] := if_neg h0
  have e2 : safL b l d m hs bad w mo = false := by unfold safL; rw [decide_eq_false (by rw [e]; exact h0), Bool.false_and]
  rw [e, e2]
  exact ⟨rfl, rfl, rfl, rfl⟩
 ·replace h0 : ¬ ((redL b l d m hs bad ([])) ≠ 0) := h0
  obtain ⟨hc, hb0, hb1, _, _⟩ := red0 (Classical.not_not.1 h0)
  obtain ⟨q1, q2, q3, q4, q5, q6, q7, q8, q9, q10, q11⟩ := id hc
  have hml := mk_len (cntL b l d).toNat (seenC b l d hs bad [])
  have hkn : cntF (fun i => ((mk (cntL b l d).toNat (seenC b l d hs bad [])).getD 0 (List.replicate 12 false)).getD i false) 12 = knwL b l d hs bad := mk_row_cnt (by omega) _
  have hk12 := cntF_le (fun i => ((mk (cntL b l d).toNat (seenC b l d hs bad [])).getD 0 (List.replicate 12 false)).getD i false) 12
  refine ⟨rfl, rfl, rfl, trivial, fun h1 => ?_, fun h1 => ?_⟩
  ·replace h1 : ¬ (¬ (1 ≤ w ∧ w ≤ 1000000)) := h1
   refine ⟨rfl, rfl, rfl, trivial, fun h2 => ?_, fun h2 => ?_⟩
   ·replace h2 : ¬ (0 ≤ mo ∧ mo ≤ 12) := h2
    have e : safE b l d m hs bad w mo = 3 := by unfold safE; rw [if_pos (Classical.not_not.1 h0), if_neg (by omega)]
    have e2 : safL b l d m hs bad w mo = false := by unfold safL; rw [decide_eq_false (by rw [e]; decide), Bool.false_and]
    rw [e, e2]
    exact ⟨rfl, rfl, rfl, rfl⟩
   ·replace h2 : ¬ (¬ (0 ≤ mo ∧ mo ≤ 12)) := h2
    have e : safE b l d m hs bad w mo = 0 := by unfold safE; rw [if_pos (Classical.not_not.1 h0), if_pos (by omega)]
    refine ⟨rfl, rfl, rfl, rfl, rfl, ⟨by assumption, by show 0 ≤ bad; first | omega | assumption, by show ([]).length ≤ 500; first | omega | assumption | (simp only [List.length_cons, List.length_nil, List.length_append, List.length_take, List.length_drop, List.length_set, List.length_replicate]; omega), by first | assumption | simp⟩, (i0 0 ((mk (cntL b l d).toNat (seenC b l d hs bad ([]))).length : Int)), by exact mk_row_len (N := (cntL b l d).toNat) (by omega) _, rfl, rfl, rfl, rfl, ⟨by show 0 ≤ b; first | omega | assumption, by show b ≤ l; first | omega | assumption, by show l ≤ 1000000; first | omega | assumption, by show 1 ≤ d; first | omega | assumption⟩, 2, [(2, .k), (3, .k), (4, .k), (11, .k), (37, .k), (38, .k)], fun nM vs H => ∃ (k : Nat), (k : Int) ≤ cntL b l d ∧ (List.range k).all (safQ b l d m hs bad w mo) = true ∧ nM = (cntL b l d).toNat - k ∧ vs = [.int .i64 w, .int .i64 mo, .ptr 0 1 0 0, .int .i64 (cntF (fun i => ((mk (cntL b l d).toNat (seenC b l d hs bad ([]))).getD 0 (List.replicate 12 false)).getD i false) 12 : Int), .int .i64 (cntL b l d), .int .i64 (k : Int)] ∧ H = [.cells [.int .i64 b, .int .i64 l, .int .i64 d, .int .i64 m, .sl false (.int .i64) hs], .row true (.arr 12 .bool) (mk (cntL b l d).toNat (seenC b l d hs bad ([])))], ⟨rfl, (cntL b l d).toNat, 0, by omega, rfl, by omega, rfl, rfl⟩, ?_⟩
    rintro nM vs H ⟨k, hc1_0, hc1_1, rfl, rfl, rfl⟩
    refine ⟨fun h3 => ?_, fun h3 => ?_⟩
    ·replace h3 : (k : Int) < (cntL b l d) := h3
     obtain ⟨w1, w2, w3, w4, w5, w6, w7⟩ := win_ok (w := w) (mo := mo) hc (by omega) (by omega) (by omega) h3
     refine ⟨rfl, rfl, rfl, rfl, rfl, ⟨by show 0 ≤ b; first | omega | assumption, by show b ≤ l; first | omega | assumption, by show l ≤ 1000000; first | omega | assumption, by show 1 ≤ d; first | omega | assumption, by show d ≤ 1000000; first | omega | assumption, by show 0 ≤ (k : Int); first | omega | assumption, by show (k : Int) < cntL b l d; first | omega | assumption⟩, (r64 ((min (expT b l d (k : Int)) 1000000) - (expF b d (k : Int)))), .inl ⟨⟨by show (0 : Int) ≤ ((min (expT b l d (k : Int)) 1000000) - (expF b d (k : Int))); omega, by show (0 : Int) < w; omega⟩, ?_⟩⟩
     refine ⟨(r64 ((((min (expT b l d (k : Int)) 1000000) - (expF b d (k : Int))) / w) + 1)), (r64 ((hs.length : Int) - (cntF (fun i => ((mk (cntL b l d).toNat (seenC b l d hs bad ([]))).getD 0 (List.replicate 12 false)).getD i false) 12 : Int))), (r64 (mo * ((((min (expT b l d (k : Int)) 1000000) - (expF b d (k : Int))) / w) + 1))), (r64 ((cntF (fun i => ((mk (cntL b l d).toNat (seenC b l d hs bad ([]))).getD 0 (List.replicate 12 false)).getD i false) 12 : Int) + (min ((hs.length : Int) - (cntF (fun i => ((mk (cntL b l d).toNat (seenC b l d hs bad ([]))).getD 0 (List.replicate 12 false)).getD i false) 12 : Int)) (mo * ((((min (expT b l d (k : Int)) 1000000) - (expF b d (k : Int))) / w) + 1))))), fun h4 => ?_, fun h4 => ?_⟩
     ·replace h4 : m ≤ ((cntF (fun i => ((mk (cntL b l d).toNat (seenC b l d hs bad ([]))).getD 0 (List.replicate 12 false)).getD i false) 12 : Int) + (min ((hs.length : Int) - (cntF (fun i => ((mk (cntL b l d).toNat (seenC b l d hs bad ([]))).getD 0 (List.replicate 12 false)).getD i false) 12 : Int)) (mo * ((((min (expT b l d (k : Int)) 1000000) - (expF b d (k : Int))) / w) + 1)))) := h4
      have e2 : safL b l d m hs bad w mo = false := by
       rw [hkn] at h4
       rw [safL, range_all_bad (k := k) (by omega) (decide_eq_false (by unfold winL; omega)), Bool.and_false]
      rw [e, e2]
      exact ⟨rfl, rfl, rfl, rfl⟩
     ·replace h4 : ¬ (m ≤ ((cntF (fun i => ((mk (cntL b l d).toNat (seenC b l d hs bad ([]))).getD 0 (List.replicate 12 false)).getD i false) 12 : Int) + (min ((hs.length : Int) - (cntF (fun i => ((mk (cntL b l d).toNat (seenC b l d hs bad ([]))).getD 0 (List.replicate 12 false)).getD i false) 12 : Int)) (mo * ((((min (expT b l d (k : Int)) 1000000) - (expF b d (k : Int))) / w) + 1))))) := h4
      have e2 : safQ b l d m hs bad w mo k = true := by
       rw [hkn] at h4
       exact decide_eq_true (by unfold winL; omega)
      refine ⟨(r64 ((k : Int) + 1)), ?_⟩
      exact ⟨rfl, (cntL b l d).toNat - (k + 1), by omega, k + 1, by omega, by rw [range_all_succ, hc1_1, e2]; rfl, rfl, rfl, rfl⟩
    ·replace h3 : ¬ ((k : Int) < (cntL b l d)) := h3
     have e2 : safL b l d m hs bad w mo = true := by rw [safL, decide_eq_true e, Bool.true_and, show (cntL b l d).toNat = k by omega]; exact hc1_1
     rw [e, e2]
     exact ⟨rfl, rfl, rfl, rfl⟩
  ·replace h1 : ¬ (1 ≤ w ∧ w ≤ 1000000) := h1
   have e : safE b l d m hs bad w mo = 3 := by unfold safE; rw [if_pos (Classical.not_not.1 h0), if_neg (by omega)]
   have e2 : safL b l d m hs bad w mo = false := by unfold safL; rw [decide_eq_false (by rw [e]; decide), Bool.false_and]
   rw [e, e2]
   exact ⟨rfl, rfl, rfl, rfl⟩
def CSaf : List (Nat × Con) := (61, pureC [.v (.cons (.int .i64) (.cons (.int .i64) (.cons (.int .i64) (.cons (.int .i64) (.cons (.sl (.int .i64)) .nil))))), .v (.int .i64), .v (.int .i64), .v (.int .i64)] sSaf) :: CExt
theorem kSaf : Known Tryd.prog (En CSaf tys G6 QAt) := kExt.add Tryd.func61 Tryd.call61 [.k, .k] fun ds p v bs h hp => by
 unfold sSaf at h
 split at h <;> simp only [Option.some.injEq, Prod.mk.injEq, reduceCtorEq] at h
 obtain ⟨rfl, rfl, rfl⟩ := h
 exact bSaf _ _ _ _ _ _ _ _ hp
def sLok : List V → Option (Prop × V × List Blk)
 | [.agg [.int .i64 b, .int .i64 l, .int .i64 d, .int .i64 m, .sl false (.int .i64) hs], .sl false (.int .i64) z, .int .i64 t] => some (hs.length ≤ 2000000 ∧ z.length ≤ 2000000, .tup [.agg [.int .i64 (lokM b l d m hs z t), .int .i64 (lokY b l d m hs z t), .b (lokL b l d m hs z t), .own (.int .i64) 0, .own (.int .i64) 1, .own (.int .i64) 2], .int .i64 (lokE b l d m hs z t)], [.row true (.int .i64) (lokW b l d m hs z t), .row true (.int .i64) (lokT b l d m hs z t), .row true (.int .i64) (lokR b l d m hs z t)])
 | _ => none
set_option maxHeartbeats 2000000 in
theorem bLok (b : Int) (l : Int) (d : Int) (m : Int) (hs : List Int) (z : List Int) (t : Int) (hp0 : hs.length ≤ 2000000) (hp1 : z.length ≤ 2000000) : bodyP (En CSaf tys G6 QAt) Tryd.f59 [.c [(3, (.int .i64)), (4, (.int .i64)), (5, (.int .i64))], .k] [.agg [.int .i64 b, .int .i64 l, .int .i64 d, .int .i64 m, .sl false (.int .i64) hs], .sl false (.int .i64) z, .int .i64 t] (.tup [.agg [.int .i64 (lokM b l d m hs z t), .int .i64 (lokY b l d m hs z t), .b (lokL b l d m hs z t), .own (.int .i64) 0, .own (.int .i64) 1, .own (.int .i64) 2], .int .i64 (lokE b l d m hs z t)]) [.row true (.int .i64) (lokW b l d m hs z t), .row true (.int .i64) (lokT b l d m hs z t), .row true (.int .i64) (lokR b l d m hs z t)] := by
 refine ⟨rfl, rfl, rfl, rfl, by show hs.length ≤ 2000000; first | omega | assumption, fun h0 => ?_, fun h0 => ?_⟩
 ·replace h0 : (chkL b l d m hs) ≠ 0 := h0
  refine ⟨⟨rfl, rfl, rfl, Nat.le_of_ble_eq_true rfl⟩, ?_⟩
  have e0 : lokE b l d m hs z t = chkL b l d m hs := if_neg h0
  have en : ¬ lokE b l d m hs z t = 0 := by rw [e0]; exact h0
  rw [e0, show lokM b l d m hs z t = 0 from if_neg en, show lokY b l d m hs z t = 0 from if_neg en, show lokW b l d m hs z t = [] from if_neg en, show lokT b l d m hs z t = [] from if_neg en, show lokR b l d m hs z t = [] from if_neg en, show lokL b l d m hs z t = False from propext ⟨fun h => en h.1, fun h => h.elim⟩]
  exact ⟨rfl, rfl, rfl, rfl⟩
 ·replace h0 : ¬ ((chkL b l d m hs) ≠ 0) := h0
  have hc := chk0 (Classical.not_not.1 h0)
  obtain ⟨q1, q2, q3, q4, q5, q6, q7, q8, q9, q10, q11⟩ := id hc
  refine ⟨2, [(1, .k), (2, .k), (3, .k), (6, .k), (24, .k), (25, .k), (26, .k)], fun nM vs H => ∃ (k : Nat), k ≤ z.length ∧ hgF (cntL b l d - 1) (prv z k) (z.drop k) = hgF (cntL b l d - 1) (-1) z ∧ nM = z.length - k ∧ vs = [.sl false (.int .i64) z, .int .i64 t, .ptr 0 1 0 0, .ptr 1 1 0 0, .sl false (.int .i64) z, .int .i64 (z.length : Int), .int .i64 (k : Int)] ∧ H = [.cells [.int .i64 b, .int .i64 l, .int .i64 d, .int .i64 m, .sl false (.int .i64) hs], .cells [.int .i64 0, .int .i64 0, .b False, .nils, .nils, .nils]], ⟨rfl, z.length, 0, by omega, rfl, by omega, rfl, rfl⟩, ?_⟩
  rintro nM vs H ⟨k, hc1_0, hc1_1, rfl, rfl, rfl⟩
  refine ⟨fun h1 => ?_, fun h1 => ?_⟩
  ·replace h1 : (k : Int) < (z.length : Int) := h1
   have hkl : k < z.length := by omega
   have hk1 : ((k : Int) - 1).toNat = k - 1 := by omega
   refine ⟨(i0 (k : Int) (z.length : Int)), rfl, rfl, rfl, rfl, ⟨by show 0 ≤ b; first | omega | assumption, by show b ≤ l; first | omega | assumption, by show l ≤ 1000000; first | omega | assumption, by show 1 ≤ d; first | omega | assumption⟩, (r64 ((cntL b l d) - 1)), rfl, rfl, rfl, trivial, fun h2 => ?_, fun h2 => ?_⟩
   ·replace h2 : ¬ (¬ (0 ≤ (z.getD k 0) ∧ (z.getD k 0) ≤ ((cntL b l d) - 1))) := h2
    refine ⟨fun h3 => ?_, fun h3 => ?_⟩
    ·replace h3 : 0 < (k : Int) := h3
     refine ⟨(r64 ((k : Int) - 1)), (i0 ((k : Int) - 1) (z.length : Int)), fun h4 => ?_, fun h4 => ?_⟩
     ·replace h4 : (z.getD k 0) ≤ (z.getD (((k : Int) - 1).toNat) 0) := h4
      rw [hk1] at h4
      refine ⟨⟨rfl, rfl, rfl, Nat.le_of_ble_eq_true rfl⟩, ?_⟩
      have e0 : lokE b l d m hs z t = 1 := by unfold lokE; rw [if_pos (Classical.not_not.1 h0), hg_bad hkl hc1_1 (by rw [prv_pos z (by omega)]; omega)]; rfl
      have en : ¬ lokE b l d m hs z t = 0 := by rw [e0]; decide
      rw [e0, show lokM b l d m hs z t = 0 from if_neg en, show lokY b l d m hs z t = 0 from if_neg en, show lokW b l d m hs z t = [] from if_neg en, show lokT b l d m hs z t = [] from if_neg en, show lokR b l d m hs z t = [] from if_neg en, show lokL b l d m hs z t = False from propext ⟨fun h => en h.1, fun h => h.elim⟩]
      exact ⟨rfl, rfl, rfl, rfl⟩
     ·replace h4 : ¬ ((z.getD k 0) ≤ (z.getD (((k : Int) - 1).toNat) 0)) := h4
      rw [hk1] at h4
      refine ⟨(r64 ((k : Int) + 1)), ?_⟩
      exact ⟨rfl, z.length - (k + 1), by omega, k + 1, by omega, hg_next hkl hc1_1 (by first | (rw [prv_pos z (by omega)]; omega) | (rw [prv_zero z (by omega)]; omega)), rfl, rfl, rfl⟩
    ·replace h3 : ¬ (0 < (k : Int)) := h3
     refine ⟨(r64 ((k : Int) + 1)), ?_⟩
     exact ⟨rfl, z.length - (k + 1), by omega, k + 1, by omega, hg_next hkl hc1_1 (by first | (rw [prv_pos z (by omega)]; omega) | (rw [prv_zero z (by omega)]; omega)), rfl, rfl, rfl⟩
   ·replace h2 : ¬ (0 ≤ (z.getD k 0) ∧ (z.getD k 0) ≤ ((cntL b l d) - 1)) := h2
    refine ⟨⟨rfl, rfl, rfl, Nat.le_of_ble_eq_true rfl⟩, ?_⟩
    have e0 : lokE b l d m hs z t = 1 := by unfold lokE; rw [if_pos (Classical.not_not.1 h0), hg_bad hkl hc1_1 (by omega)]; rfl
    have en : ¬ lokE b l d m hs z t = 0 := by rw [e0]; decide
    rw [e0, show lokM b l d m hs z t = 0 from if_neg en, show lokY b l d m hs z t = 0 from if_neg en, show lokW b l d m hs z t = [] from if_neg en, show lokT b l d m hs z t = [] from if_neg en, show lokR b l d m hs z t = [] from if_neg en, show lokL b l d m hs z t = False from propext ⟨fun h => en h.1, fun h => h.elim⟩]
    exact ⟨rfl, rfl, rfl, rfl⟩
  ·replace h1 : ¬ ((k : Int) < (z.length : Int)) := h1
   have hgo := hg_end (by omega) hc1_0 hc1_1
   refine ⟨rfl, rfl, rfl, trivial, fun h5 => ?_, fun h5 => ?_⟩
   ·replace h5 : ¬ (0 ≤ t ∧ t ≤ 1000000) := h5
    refine ⟨⟨rfl, rfl, rfl, Nat.le_of_ble_eq_true rfl⟩, ?_⟩
    have e0 : lokE b l d m hs z t = 3 := by unfold lokE; rw [if_pos (Classical.not_not.1 h0), if_pos hgo, if_neg (by omega)]
    have en : ¬ lokE b l d m hs z t = 0 := by rw [e0]; decide
    rw [e0, show lokM b l d m hs z t = 0 from if_neg en, show lokY b l d m hs z t = 0 from if_neg en, show lokW b l d m hs z t = [] from if_neg en, show lokT b l d m hs z t = [] from if_neg en, show lokR b l d m hs z t = [] from if_neg en, show lokL b l d m hs z t = False from propext ⟨fun h => en h.1, fun h => h.elim⟩]
    exact ⟨rfl, rfl, rfl, rfl⟩
   ·replace h5 : ¬ (¬ (0 ≤ t ∧ t ≤ 1000000)) := h5
    obtain ⟨per1, per2⟩ := per_ok hc t
    have e0 : lokE b l d m hs z t = 0 := by unfold lokE; rw [if_pos (Classical.not_not.1 h0), if_pos hgo, if_pos (by omega)]
    have eW : lokW b l d m hs z t = z.filter (wpP b l d t) := if_pos e0
    have eT : lokT b l d m hs z t = z.filter (ltP b l d t) := if_pos e0
    have eR : lokR b l d m hs z t = z.filter (eaP b d t) := if_pos e0
    have eM : lokM b l d m hs z t = perL b l d m hs t := if_pos e0
    refine ⟨rfl, rfl, rfl, rfl, rfl, by show hs.length ≤ 2000000; first | omega | assumption, ⟨rfl, rfl, rfl, Nat.le_of_ble_eq_true rfl⟩, fun h6 => ?_, fun h6 => ?_⟩
    ·replace h6 : 0 ≤ (perL b l d m hs t) := h6
     refine ⟨rfl, by show z.length ≤ 2000000; first | omega | assumption, ⟨rfl, rfl, rfl⟩, by kernel_rfl, (r64 ((perL b l d m hs t) + 1)), rfl, rfl, rfl, rfl, ⟨by show 0 ≤ b; first | omega | assumption, by show b ≤ l; first | omega | assumption, by show l ≤ 1000000; first | omega | assumption, by show 1 ≤ d; first | omega | assumption⟩, fun h7 => ?_, fun h7 => ?_⟩
     ·replace h7 : ((perL b l d m hs t) + 1) < (cntL b l d) := h7
      refine ⟨(r64 ((perL b l d m hs t) + 1)), ⟨rfl, rfl, rfl⟩, 6, [(2, .k), (3, .k), (6, .k), (11, .c [(3, (.int .i64)), (4, (.int .i64)), (5, (.int .i64))]), (79, .k), (80, .k), (81, .k)], fun nM vs H => ∃ (k : Nat), k ≤ z.length ∧ nM = z.length - k ∧ vs = [.int .i64 t, .ptr 0 1 0 0, .ptr 1 1 0 0, .ptr 2 1 0 0, .sl false (.int .i64) z, .int .i64 (z.length : Int), .int .i64 (k : Int)] ∧ H = [.cells [.int .i64 b, .int .i64 l, .int .i64 d, .int .i64 m, .sl false (.int .i64) hs], .cells [.int .i64 0, .int .i64 0, .b False, .nils, .nils, .nils], .cells [.int .i64 (perL b l d m hs t), .int .i64 ((perL b l d m hs t) + 1), .b (¬ ((perL b l d m hs t) ∈ z)), .own (.int .i64) 3, .own (.int .i64) 4, .own (.int .i64) 5], .row true (.int .i64) ((z.take k).filter (wpP b l d t)), .row true (.int .i64) ((z.take k).filter (ltP b l d t)), .row true (.int .i64) ((z.take k).filter (eaP b d t))], ⟨rfl, z.length, 0, by omega, by omega, rfl, rfl⟩, ?_⟩
      rintro nM vs H ⟨k, hc2_0, rfl, rfl, rfl⟩
      have hq0 : k < z.length → 0 ≤ z.getD k 0 ∧ z.getD k 0 ≤ cntL b l d - 1 := hg_at _ z _ k hgo
      have l1 := filter_take_len (wpP b l d t) z k
      have l2 := filter_take_len (ltP b l d t) z k
      have l3 := filter_take_len (eaP b d t) z k
      have f1 : k < z.length → (spanT b l d (z.getD k 0)) < t → (z.take (k + 1)).filter (wpP b l d t) = (z.take k).filter (wpP b l d t) ++ [z.getD k 0] := fun h g => filter_yes 0 _ z k h (decide_eq_true g)
      have f2 : k < z.length → ¬ ((spanT b l d (z.getD k 0)) < t) → (z.take (k + 1)).filter (wpP b l d t) = (z.take k).filter (wpP b l d t) := fun h g => filter_no 0 _ z k h (decide_eq_false g)
      have f3 : k < z.length → (expT b l d (z.getD k 0)) < t → (z.take (k + 1)).filter (ltP b l d t) = (z.take k).filter (ltP b l d t) ++ [z.getD k 0] := fun h g => filter_yes 0 _ z k h (decide_eq_true g)
      have f4 : k < z.length → ¬ ((expT b l d (z.getD k 0)) < t) → (z.take (k + 1)).filter (ltP b l d t) = (z.take k).filter (ltP b l d t) := fun h g => filter_no 0 _ z k h (decide_eq_false g)
      have f5 : k < z.length → t < (expF b d (z.getD k 0)) → (z.take (k + 1)).filter (eaP b d t) = (z.take k).filter (eaP b d t) ++ [z.getD k 0] := fun h g => filter_yes 0 _ z k h (decide_eq_true g)
      have f6 : k < z.length → ¬ (t < (expF b d (z.getD k 0))) → (z.take (k + 1)).filter (eaP b d t) = (z.take k).filter (eaP b d t) := fun h g => filter_no 0 _ z k h (decide_eq_false g)
      refine ⟨fun h8 => ?_, fun h8 => ?_⟩
      ·replace h8 : (k : Int) < (z.length : Int) := h8
       refine ⟨(i0 (k : Int) (z.length : Int)), rfl, rfl, rfl, rfl, rfl, ⟨by show 0 ≤ b; first | omega | assumption, by show b ≤ l; first | omega | assumption, by show l ≤ 1000000; first | omega | assumption, by show 1 ≤ d; first | omega | assumption, by show d ≤ 1000000; first | omega | assumption, by show 0 ≤ (z.getD k 0); first | omega | assumption, by show (z.getD k 0) < cntL b l d; first | omega | assumption⟩, rfl, rfl, rfl, rfl, rfl, ⟨by show 0 ≤ b; first | omega | assumption, by show b ≤ l; first | omega | assumption, by show l ≤ 1000000; first | omega | assumption, by show 1 ≤ d; first | omega | assumption, by show d ≤ 1000000; first | omega | assumption, by show 0 ≤ (z.getD k 0); first | omega | assumption, by show (z.getD k 0) < cntL b l d; first | omega | assumption⟩, fun h9 => ?_, fun h9 => ?_⟩
       ·replace h9 : (spanT b l d (z.getD k 0)) < t := h9
        refine ⟨rfl, ⟨rfl, rfl⟩, by show ((z.take k).filter (wpP b l d t)).length + ([z.getD k 0] : List Int).length ≤ 1000000000; simp only [List.length_cons, List.length_nil]; omega, ⟨rfl, rfl, rfl⟩, fun h10 => ?_, fun h10 => ?_⟩
        ·replace h10 : (expT b l d (z.getD k 0)) < t := h10
         refine ⟨rfl, ⟨rfl, rfl⟩, by show ((z.take k).filter (ltP b l d t)).length + ([z.getD k 0] : List Int).length ≤ 1000000000; simp only [List.length_cons, List.length_nil]; omega, ⟨rfl, rfl, rfl⟩, fun h11 => ?_, fun h11 => ?_⟩
         ·replace h11 : t < (expF b d (z.getD k 0)) := h11
          refine ⟨rfl, ⟨rfl, rfl⟩, by show ((z.take k).filter (eaP b d t)).length + ([z.getD k 0] : List Int).length ≤ 1000000000; simp only [List.length_cons, List.length_nil]; omega, ⟨rfl, rfl, rfl⟩, (r64 ((k : Int) + 1)), ?_⟩
          exact ⟨rfl, z.length - (k + 1), by omega, k + 1, by omega, rfl, rfl, by (first | rw [f1 (by omega) (by assumption)] | rw [f2 (by omega) (by assumption)]); (first | rw [f3 (by omega) (by assumption)] | rw [f4 (by omega) (by assumption)]); (first | rw [f5 (by omega) (by assumption)] | rw [f6 (by omega) (by assumption)]); rfl⟩
         ·replace h11 : ¬ (t < (expF b d (z.getD k 0))) := h11
          refine ⟨(r64 ((k : Int) + 1)), ?_⟩
          exact ⟨rfl, z.length - (k + 1), by omega, k + 1, by omega, rfl, rfl, by (first | rw [f1 (by omega) (by assumption)] | rw [f2 (by omega) (by assumption)]); (first | rw [f3 (by omega) (by assumption)] | rw [f4 (by omega) (by assumption)]); (first | rw [f5 (by omega) (by assumption)] | rw [f6 (by omega) (by assumption)]); rfl⟩
        ·replace h10 : ¬ ((expT b l d (z.getD k 0)) < t) := h10
         refine ⟨fun h12 => ?_, fun h12 => ?_⟩
         ·replace h12 : t < (expF b d (z.getD k 0)) := h12
          refine ⟨rfl, ⟨rfl, rfl⟩, by show ((z.take k).filter (eaP b d t)).length + ([z.getD k 0] : List Int).length ≤ 1000000000; simp only [List.length_cons, List.length_nil]; omega, ⟨rfl, rfl, rfl⟩, (r64 ((k : Int) + 1)), ?_⟩
          exact ⟨rfl, z.length - (k + 1), by omega, k + 1, by omega, rfl, rfl, by (first | rw [f1 (by omega) (by assumption)] | rw [f2 (by omega) (by assumption)]); (first | rw [f3 (by omega) (by assumption)] | rw [f4 (by omega) (by assumption)]); (first | rw [f5 (by omega) (by assumption)] | rw [f6 (by omega) (by assumption)]); rfl⟩
         ·replace h12 : ¬ (t < (expF b d (z.getD k 0))) := h12
          refine ⟨(r64 ((k : Int) + 1)), ?_⟩
          exact ⟨rfl, z.length - (k + 1), by omega, k + 1, by omega, rfl, rfl, by (first | rw [f1 (by omega) (by assumption)] | rw [f2 (by omega) (by assumption)]); (first | rw [f3 (by omega) (by assumption)] | rw [f4 (by omega) (by assumption)]); (first | rw [f5 (by omega) (by assumption)] | rw [f6 (by omega) (by assumption)]); rfl⟩
       ·replace h9 : ¬ ((spanT b l d (z.getD k 0)) < t) := h9
        refine ⟨fun h13 => ?_, fun h13 => ?_⟩
        ·replace h13 : (expT b l d (z.getD k 0)) < t := h13
         refine ⟨rfl, ⟨rfl, rfl⟩, by show ((z.take k).filter (ltP b l d t)).length + ([z.getD k 0] : List Int).length ≤ 1000000000; simp only [List.length_cons, List.length_nil]; omega, ⟨rfl, rfl, rfl⟩, fun h14 => ?_, fun h14 => ?_⟩
         ·replace h14 : t < (expF b d (z.getD k 0)) := h14
          refine ⟨rfl, ⟨rfl, rfl⟩, by show ((z.take k).filter (eaP b d t)).length + ([z.getD k 0] : List Int).length ≤ 1000000000; simp only [List.length_cons, List.length_nil]; omega, ⟨rfl, rfl, rfl⟩, (r64 ((k : Int) + 1)), ?_⟩
          exact ⟨rfl, z.length - (k + 1), by omega, k + 1, by omega, rfl, rfl, by (first | rw [f1 (by omega) (by assumption)] | rw [f2 (by omega) (by assumption)]); (first | rw [f3 (by omega) (by assumption)] | rw [f4 (by omega) (by assumption)]); (first | rw [f5 (by omega) (by assumption)] | rw [f6 (by omega) (by assumption)]); rfl⟩
         ·replace h14 : ¬ (t < (expF b d (z.getD k 0))) := h14
          refine ⟨(r64 ((k : Int) + 1)), ?_⟩
          exact ⟨rfl, z.length - (k + 1), by omega, k + 1, by omega, rfl, rfl, by (first | rw [f1 (by omega) (by assumption)] | rw [f2 (by omega) (by assumption)]); (first | rw [f3 (by omega) (by assumption)] | rw [f4 (by omega) (by assumption)]); (first | rw [f5 (by omega) (by assumption)] | rw [f6 (by omega) (by assumption)]); rfl⟩
        ·replace h13 : ¬ ((expT b l d (z.getD k 0)) < t) := h13
         refine ⟨fun h15 => ?_, fun h15 => ?_⟩
         ·replace h15 : t < (expF b d (z.getD k 0)) := h15
          refine ⟨rfl, ⟨rfl, rfl⟩, by show ((z.take k).filter (eaP b d t)).length + ([z.getD k 0] : List Int).length ≤ 1000000000; simp only [List.length_cons, List.length_nil]; omega, ⟨rfl, rfl, rfl⟩, (r64 ((k : Int) + 1)), ?_⟩
          exact ⟨rfl, z.length - (k + 1), by omega, k + 1, by omega, rfl, rfl, by (first | rw [f1 (by omega) (by assumption)] | rw [f2 (by omega) (by assumption)]); (first | rw [f3 (by omega) (by assumption)] | rw [f4 (by omega) (by assumption)]); (first | rw [f5 (by omega) (by assumption)] | rw [f6 (by omega) (by assumption)]); rfl⟩
         ·replace h15 : ¬ (t < (expF b d (z.getD k 0))) := h15
          refine ⟨(r64 ((k : Int) + 1)), ?_⟩
          exact ⟨rfl, z.length - (k + 1), by omega, k + 1, by omega, rfl, rfl, by (first | rw [f1 (by omega) (by assumption)] | rw [f2 (by omega) (by assumption)]); (first | rw [f3 (by omega) (by assumption)] | rw [f4 (by omega) (by assumption)]); (first | rw [f5 (by omega) (by assumption)] | rw [f6 (by omega) (by assumption)]); rfl⟩
      ·replace h8 : ¬ ((k : Int) < (z.length : Int)) := h8
       refine ⟨⟨rfl, rfl, rfl, Nat.le_of_ble_eq_true rfl⟩, ?_⟩
       have hk : k = z.length := by omega
       have eY : lokY b l d m hs z t = perL b l d m hs t + 1 := by unfold lokY; rw [if_pos e0]; exact if_pos ⟨h6, h7⟩
       have eL : (lokL b l d m hs z t) = (¬ (perL b l d m hs t ∈ z)) := (propext ⟨fun h => ⟨e0, h6, h⟩, fun h => h.2.2⟩).symm
       rw [e0, eW, eT, eR, eM, eY, eL, hk, List.take_length]
       exact ⟨rfl, rfl, rfl, rfl⟩
     ·replace h7 : ¬ (((perL b l d m hs t) + 1) < (cntL b l d)) := h7
      refine ⟨6, [(2, .k), (3, .k), (6, .k), (11, .c [(3, (.int .i64)), (4, (.int .i64)), (5, (.int .i64))]), (79, .k), (80, .k), (81, .k)], fun nM vs H => ∃ (k : Nat), k ≤ z.length ∧ nM = z.length - k ∧ vs = [.int .i64 t, .ptr 0 1 0 0, .ptr 1 1 0 0, .ptr 2 1 0 0, .sl false (.int .i64) z, .int .i64 (z.length : Int), .int .i64 (k : Int)] ∧ H = [.cells [.int .i64 b, .int .i64 l, .int .i64 d, .int .i64 m, .sl false (.int .i64) hs], .cells [.int .i64 0, .int .i64 0, .b False, .nils, .nils, .nils], .cells [.int .i64 (perL b l d m hs t), .int .i64 (-1), .b (¬ ((perL b l d m hs t) ∈ z)), .own (.int .i64) 3, .own (.int .i64) 4, .own (.int .i64) 5], .row true (.int .i64) ((z.take k).filter (wpP b l d t)), .row true (.int .i64) ((z.take k).filter (ltP b l d t)), .row true (.int .i64) ((z.take k).filter (eaP b d t))], ⟨rfl, z.length, 0, by omega, by omega, rfl, rfl⟩, ?_⟩
      rintro nM vs H ⟨k, hc3_0, rfl, rfl, rfl⟩
      have hq0 : k < z.length → 0 ≤ z.getD k 0 ∧ z.getD k 0 ≤ cntL b l d - 1 := hg_at _ z _ k hgo
      have l1 := filter_take_len (wpP b l d t) z k
      have l2 := filter_take_len (ltP b l d t) z k
      have l3 := filter_take_len (eaP b d t) z k
      have f1 : k < z.length → (spanT b l d (z.getD k 0)) < t → (z.take (k + 1)).filter (wpP b l d t) = (z.take k).filter (wpP b l d t) ++ [z.getD k 0] := fun h g => filter_yes 0 _ z k h (decide_eq_true g)
      have f2 : k < z.length → ¬ ((spanT b l d (z.getD k 0)) < t) → (z.take (k + 1)).filter (wpP b l d t) = (z.take k).filter (wpP b l d t) := fun h g => filter_no 0 _ z k h (decide_eq_false g)
      have f3 : k < z.length → (expT b l d (z.getD k 0)) < t → (z.take (k + 1)).filter (ltP b l d t) = (z.take k).filter (ltP b l d t) ++ [z.getD k 0] := fun h g => filter_yes 0 _ z k h (decide_eq_true g)
      have f4 : k < z.length → ¬ ((expT b l d (z.getD k 0)) < t) → (z.take (k + 1)).filter (ltP b l d t) = (z.take k).filter (ltP b l d t) := fun h g => filter_no 0 _ z k h (decide_eq_false g)
      have f5 : k < z.length → t < (expF b d (z.getD k 0)) → (z.take (k + 1)).filter (eaP b d t) = (z.take k).filter (eaP b d t) ++ [z.getD k 0] := fun h g => filter_yes 0 _ z k h (decide_eq_true g)
      have f6 : k < z.length → ¬ (t < (expF b d (z.getD k 0))) → (z.take (k + 1)).filter (eaP b d t) = (z.take k).filter (eaP b d t) := fun h g => filter_no 0 _ z k h (decide_eq_false g)
      refine ⟨fun h16 => ?_, fun h16 => ?_⟩
      ·replace h16 : (k : Int) < (z.length : Int) := h16
       refine ⟨(i0 (k : Int) (z.length : Int)), rfl, rfl, rfl, rfl, rfl, ⟨by show 0 ≤ b; first | omega | assumption, by show b ≤ l; first | omega | assumption, by show l ≤ 1000000; first | omega | assumption, by show 1 ≤ d; first | omega | assumption, by show d ≤ 1000000; first | omega | assumption, by show 0 ≤ (z.getD k 0); first | omega | assumption, by show (z.getD k 0) < cntL b l d; first | omega | assumption⟩, rfl, rfl, rfl, rfl, rfl, ⟨by show 0 ≤ b; first | omega | assumption, by show b ≤ l; first | omega | assumption, by show l ≤ 1000000; first | omega | assumption, by show 1 ≤ d; first | omega | assumption, by show d ≤ 1000000; first | omega | assumption, by show 0 ≤ (z.getD k 0); first | omega | assumption, by show (z.getD k 0) < cntL b l d; first | omega | assumption⟩, fun h17 => ?_, fun h17 => ?_⟩
       ·replace h17 : (spanT b l d (z.getD k 0)) < t := h17
        refine ⟨rfl, ⟨rfl, rfl⟩, by show ((z.take k).filter (wpP b l d t)).length + ([z.getD k 0] : List Int).length ≤ 1000000000; simp only [List.length_cons, List.length_nil]; omega, ⟨rfl, rfl, rfl⟩, fun h18 => ?_, fun h18 => ?_⟩
        ·replace h18 : (expT b l d (z.getD k 0)) < t := h18
         refine ⟨rfl, ⟨rfl, rfl⟩, by show ((z.take k).filter (ltP b l d t)).length + ([z.getD k 0] : List Int).length ≤ 1000000000; simp only [List.length_cons, List.length_nil]; omega, ⟨rfl, rfl, rfl⟩, fun h19 => ?_, fun h19 => ?_⟩
         ·replace h19 : t < (expF b d (z.getD k 0)) := h19
          refine ⟨rfl, ⟨rfl, rfl⟩, by show ((z.take k).filter (eaP b d t)).length + ([z.getD k 0] : List Int).length ≤ 1000000000; simp only [List.length_cons, List.length_nil]; omega, ⟨rfl, rfl, rfl⟩, (r64 ((k : Int) + 1)), ?_⟩
          exact ⟨rfl, z.length - (k + 1), by omega, k + 1, by omega, rfl, rfl, by (first | rw [f1 (by omega) (by assumption)] | rw [f2 (by omega) (by assumption)]); (first | rw [f3 (by omega) (by assumption)] | rw [f4 (by omega) (by assumption)]); (first | rw [f5 (by omega) (by assumption)] | rw [f6 (by omega) (by assumption)]); rfl⟩
         ·replace h19 : ¬ (t < (expF b d (z.getD k 0))) := h19
          refine ⟨(r64 ((k : Int) + 1)), ?_⟩
          exact ⟨rfl, z.length - (k + 1), by omega, k + 1, by omega, rfl, rfl, by (first | rw [f1 (by omega) (by assumption)] | rw [f2 (by omega) (by assumption)]); (first | rw [f3 (by omega) (by assumption)] | rw [f4 (by omega) (by assumption)]); (first | rw [f5 (by omega) (by assumption)] | rw [f6 (by omega) (by assumption)]); rfl⟩
        ·replace h18 : ¬ ((expT b l d (z.getD k 0)) < t) := h18
         refine ⟨fun h20 => ?_, fun h20 => ?_⟩
         ·replace h20 : t < (expF b d (z.getD k 0)) := h20
          refine ⟨rfl, ⟨rfl, rfl⟩, by show ((z.take k).filter (eaP b d t)).length + ([z.getD k 0] : List Int).length ≤ 1000000000; simp only [List.length_cons, List.length_nil]; omega, ⟨rfl, rfl, rfl⟩, (r64 ((k : Int) + 1)), ?_⟩
          exact ⟨rfl, z.length - (k + 1), by omega, k + 1, by omega, rfl, rfl, by (first | rw [f1 (by omega) (by assumption)] | rw [f2 (by omega) (by assumption)]); (first | rw [f3 (by omega) (by assumption)] | rw [f4 (by omega) (by assumption)]); (first | rw [f5 (by omega) (by assumption)] | rw [f6 (by omega) (by assumption)]); rfl⟩
         ·replace h20 : ¬ (t < (expF b d (z.getD k 0))) := h20
          refine ⟨(r64 ((k : Int) + 1)), ?_⟩
          exact ⟨rfl, z.length - (k + 1), by omega, k + 1, by omega, rfl, rfl, by (first | rw [f1 (by omega) (by assumption)] | rw [f2 (by omega) (by assumption)]); (first | rw [f3 (by omega) (by assumption)] | rw [f4 (by omega) (by assumption)]); (first | rw [f5 (by omega) (by assumption)] | rw [f6 (by omega) (by assumption)]); rfl⟩
       ·replace h17 : ¬ ((spanT b l d (z.getD k 0)) < t) := h17
        refine ⟨fun h21 => ?_, fun h21 => ?_⟩
        ·replace h21 : (expT b l d (z.getD k 0)) < t := h21
         refine ⟨rfl, ⟨rfl, rfl⟩, by show ((z.take k).filter (ltP b l d t)).length + ([z.getD k 0] : List Int).length ≤ 1000000000; simp only [List.length_cons, List.length_nil]; omega, ⟨rfl, rfl, rfl⟩, fun h22 => ?_, fun h22 => ?_⟩
         ·replace h22 : t < (expF b d (z.getD k 0)) := h22
          refine ⟨rfl, ⟨rfl, rfl⟩, by show ((z.take k).filter (eaP b d t)).length + ([z.getD k 0] : List Int).length ≤ 1000000000; simp only [List.length_cons, List.length_nil]; omega, ⟨rfl, rfl, rfl⟩, (r64 ((k : Int) + 1)), ?_⟩
          exact ⟨rfl, z.length - (k + 1), by omega, k + 1, by omega, rfl, rfl, by (first | rw [f1 (by omega) (by assumption)] | rw [f2 (by omega) (by assumption)]); (first | rw [f3 (by omega) (by assumption)] | rw [f4 (by omega) (by assumption)]); (first | rw [f5 (by omega) (by assumption)] | rw [f6 (by omega) (by assumption)]); rfl⟩
         ·replace h22 : ¬ (t < (expF b d (z.getD k 0))) := h22
          refine ⟨(r64 ((k : Int) + 1)), ?_⟩
          exact ⟨rfl, z.length - (k + 1), by omega, k + 1, by omega, rfl, rfl, by (first | rw [f1 (by omega) (by assumption)] | rw [f2 (by omega) (by assumption)]); (first | rw [f3 (by omega) (by assumption)] | rw [f4 (by omega) (by assumption)]); (first | rw [f5 (by omega) (by assumption)] | rw [f6 (by omega) (by assumption)]); rfl⟩
        ·replace h21 : ¬ ((expT b l d (z.getD k 0)) < t) := h21
         refine ⟨fun h23 => ?_, fun h23 => ?_⟩
         ·replace h23 : t < (expF b d (z.getD k 0)) := h23
          refine ⟨rfl, ⟨rfl, rfl⟩, by show ((z.take k).filter (eaP b d t)).length + ([z.getD k 0] : List Int).length ≤ 1000000000; simp only [List.length_cons, List.length_nil]; omega, ⟨rfl, rfl, rfl⟩, (r64 ((k : Int) + 1)), ?_⟩
          exact ⟨rfl, z.length - (k + 1), by omega, k + 1, by omega, rfl, rfl, by (first | rw [f1 (by omega) (by assumption)] | rw [f2 (by omega) (by assumption)]); (first | rw [f3 (by omega) (by assumption)] | rw [f4 (by omega) (by assumption)]); (first | rw [f5 (by omega) (by assumption)] | rw [f6 (by omega) (by assumption)]); rfl⟩
         ·replace h23 : ¬ (t < (expF b d (z.getD k 0))) := h23
          refine ⟨(r64 ((k : Int) + 1)), ?_⟩
          exact ⟨rfl, z.length - (k + 1), by omega, k + 1, by omega, rfl, rfl, by (first | rw [f1 (by omega) (by assumption)] | rw [f2 (by omega) (by assumption)]); (first | rw [f3 (by omega) (by assumption)] | rw [f4 (by omega) (by assumption)]); (first | rw [f5 (by omega) (by assumption)] | rw [f6 (by omega) (by assumption)]); rfl⟩
      ·replace h16 : ¬ ((k : Int) < (z.length : Int)) := h16
       refine ⟨⟨rfl, rfl, rfl, Nat.le_of_ble_eq_true rfl⟩, ?_⟩
       have hk : k = z.length := by omega
       have eY : lokY b l d m hs z t = -1 := by unfold lokY; rw [if_pos e0]; exact if_neg (fun h => h7 h.2)
       have eL : (lokL b l d m hs z t) = (¬ (perL b l d m hs t ∈ z)) := (propext ⟨fun h => ⟨e0, h6, h⟩, fun h => h.2.2⟩).symm
       rw [e0, eW, eT, eR, eM, eY, eL, hk, List.take_length]
       exact ⟨rfl, rfl, rfl, rfl⟩
    ·replace h6 : ¬ (0 ≤ (perL b l d m hs t)) := h6
     refine ⟨6, [(2, .k), (3, .k), (6, .k), (11, .c [(3, (.int .i64)), (4, (.int .i64)), (5, (.int .i64))]), (79, .k), (80, .k), (81, .k)], fun nM vs H => ∃ (k : Nat), k ≤ z.length ∧ nM = z.length - k ∧ vs = [.int .i64 t, .ptr 0 1 0 0, .ptr 1 1 0 0, .ptr 2 1 0 0, .sl false (.int .i64) z, .int .i64 (z.length : Int), .int .i64 (k : Int)] ∧ H = [.cells [.int .i64 b, .int .i64 l, .int .i64 d, .int .i64 m, .sl false (.int .i64) hs], .cells [.int .i64 0, .int .i64 0, .b False, .nils, .nils, .nils], .cells [.int .i64 (perL b l d m hs t), .int .i64 (-1), .b False, .own (.int .i64) 3, .own (.int .i64) 4, .own (.int .i64) 5], .row true (.int .i64) ((z.take k).filter (wpP b l d t)), .row true (.int .i64) ((z.take k).filter (ltP b l d t)), .row true (.int .i64) ((z.take k).filter (eaP b d t))], ⟨rfl, z.length, 0, by omega, by omega, rfl, rfl⟩, ?_⟩
     rintro nM vs H ⟨k, hc4_0, rfl, rfl, rfl⟩
     have hq0 : k < z.length → 0 ≤ z.getD k 0 ∧ z.getD k 0 ≤ cntL b l d - 1 := hg_at _ z _ k hgo
     have l1 := filter_take_len (wpP b l d t) z k
     have l2 := filter_take_len (ltP b l d t) z k
     have l3 := filter_take_len (eaP b d t) z k
     have f1 : k < z.length → (spanT b l d (z.getD k 0)) < t → (z.take (k + 1)).filter (wpP b l d t) = (z.take k).filter (wpP b l d t) ++ [z.getD k 0] := fun h g => filter_yes 0 _ z k h (decide_eq_true g)
     have f2 : k < z.length → ¬ ((spanT b l d (z.getD k 0)) < t) → (z.take (k + 1)).filter (wpP b l d t) = (z.take k).filter (wpP b l d t) := fun h g => filter_no 0 _ z k h (decide_eq_false g)
     have f3 : k < z.length → (expT b l d (z.getD k 0)) < t → (z.take (k + 1)).filter (ltP b l d t) = (z.take k).filter (ltP b l d t) ++ [z.getD k 0] := fun h g => filter_yes 0 _ z k h (decide_eq_true g)
     have f4 : k < z.length → ¬ ((expT b l d (z.getD k 0)) < t) → (z.take (k + 1)).filter (ltP b l d t) = (z.take k).filter (ltP b l d t) := fun h g => filter_no 0 _ z k h (decide_eq_false g)
     have f5 : k < z.length → t < (expF b d (z.getD k 0)) → (z.take (k + 1)).filter (eaP b d t) = (z.take k).filter (eaP b d t) ++ [z.getD k 0] := fun h g => filter_yes 0 _ z k h (decide_eq_true g)
     have f6 : k < z.length → ¬ (t < (expF b d (z.getD k 0))) → (z.take (k + 1)).filter (eaP b d t) = (z.take k).filter (eaP b d t) := fun h g => filter_no 0 _ z k h (decide_eq_false g)
     refine ⟨fun h24 => ?_, fun h24 => ?_⟩
     ·replace h24 : (k : Int) < (z.length : Int) := h24
      refine ⟨(i0 (k : Int) (z.length : Int)), rfl, rfl, rfl, rfl, rfl, ⟨by show 0 ≤ b; first | omega | assumption, by show b ≤ l; first | omega | assumption, by show l ≤ 1000000; first | omega | assumption, by show 1 ≤ d; first | omega | assumption, by show d ≤ 1000000; first | omega | assumption, by show 0 ≤ (z.getD k 0); first | omega | assumption, by show (z.getD k 0) < cntL b l d; first | omega | assumption⟩, rfl, rfl, rfl, rfl, rfl, ⟨by show 0 ≤ b; first | omega | assumption, by show b ≤ l; first | omega | assumption, by show l ≤ 1000000; first | omega | assumption, by show 1 ≤ d; first | omega | assumption, by show d ≤ 1000000; first | omega | assumption, by show 0 ≤ (z.getD k 0); first | omega | assumption, by show (z.getD k 0) < cntL b l d; first | omega | assumption⟩, fun h25 => ?_, fun h25 => ?_⟩
      ·replace h25 : (spanT b l d (z.getD k 0)) < t := h25
       refine ⟨rfl, ⟨rfl, rfl⟩, by show ((z.take k).filter (wpP b l d t)).length + ([z.getD k 0] : List Int).length ≤ 1000000000; simp only [List.length_cons, List.length_nil]; omega, ⟨rfl, rfl, rfl⟩, fun h26 => ?_, fun h26 => ?_⟩
       ·replace h26 : (expT b l d (z.getD k 0)) < t := h26
        refine ⟨rfl, ⟨rfl, rfl⟩, by show ((z.take k).filter (ltP b l d t)).length + ([z.getD k 0] : List Int).length ≤ 1000000000; simp only [List.length_cons, List.length_nil]; omega, ⟨rfl, rfl, rfl⟩, fun h27 => ?_, fun h27 => ?_⟩
        ·replace h27 : t < (expF b d (z.getD k 0)) := h27
         refine ⟨rfl, ⟨rfl, rfl⟩, by show ((z.take k).filter (eaP b d t)).length + ([z.getD k 0] : List Int).length ≤ 1000000000; simp only [List.length_cons, List.length_nil]; omega, ⟨rfl, rfl, rfl⟩, (r64 ((k : Int) + 1)), ?_⟩
         exact ⟨rfl, z.length - (k + 1), by omega, k + 1, by omega, rfl, rfl, by (first | rw [f1 (by omega) (by assumption)] | rw [f2 (by omega) (by assumption)]); (first | rw [f3 (by omega) (by assumption)] | rw [f4 (by omega) (by assumption)]); (first | rw [f5 (by omega) (by assumption)] | rw [f6 (by omega) (by assumption)]); rfl⟩
        ·replace h27 : ¬ (t < (expF b d (z.getD k 0))) := h27
         refine ⟨(r64 ((k : Int) + 1)), ?_⟩
         exact ⟨rfl, z.length - (k + 1), by omega, k + 1, by omega, rfl, rfl, by (first | rw [f1 (by omega) (by assumption)] | rw [f2 (by omega) (by assumption)]); (first | rw [f3 (by omega) (by assumption)] | rw [f4 (by omega) (by assumption)]); (first | rw [f5 (by omega) (by assumption)] | rw [f6 (by omega) (by assumption)]); rfl⟩
       ·replace h26 : ¬ ((expT b l d (z.getD k 0)) < t) := h26
        refine ⟨fun h28 => ?_, fun h28 => ?_⟩
        ·replace h28 : t < (expF b d (z.getD k 0)) := h28
         refine ⟨rfl, ⟨rfl, rfl⟩, by show ((z.take k).filter (eaP b d t)).length + ([z.getD k 0] : List Int).length ≤ 1000000000; simp only [List.length_cons, List.length_nil]; omega, ⟨rfl, rfl, rfl⟩, (r64 ((k : Int) + 1)), ?_⟩
         exact ⟨rfl, z.length - (k + 1), by omega, k + 1, by omega, rfl, rfl, by (first | rw [f1 (by omega) (by assumption)] | rw [f2 (by omega) (by assumption)]); (first | rw [f3 (by omega) (by assumption)] | rw [f4 (by omega) (by assumption)]); (first | rw [f5 (by omega) (by assumption)] | rw [f6 (by omega) (by assumption)]); rfl⟩
        ·replace h28 : ¬ (t < (expF b d (z.getD k 0))) := h28
         refine ⟨(r64 ((k : Int) + 1)), ?_⟩
         exact ⟨rfl, z.length - (k + 1), by omega, k + 1, by omega, rfl, rfl, by (first | rw [f1 (by omega) (by assumption)] | rw [f2 (by omega) (by assumption)]); (first | rw [f3 (by omega) (by assumption)] | rw [f4 (by omega) (by assumption)]); (first | rw [f5 (by omega) (by assumption)] | rw [f6 (by omega) (by assumption)]); rfl⟩
      ·replace h25 : ¬ ((spanT b l d (z.getD k 0)) < t) := h25
       refine ⟨fun h29 => ?_, fun h29 => ?_⟩
       ·replace h29 : (expT b l d (z.getD k 0)) < t := h29
        refine ⟨rfl, ⟨rfl, rfl⟩, by show ((z.take k).filter (ltP b l d t)).length + ([z.getD k 0] : List Int).length ≤ 1000000000; simp only [List.length_cons, List.length_nil]; omega, ⟨rfl, rfl, rfl⟩, fun h30 => ?_, fun h30 => ?_⟩
        ·replace h30 : t < (expF b d (z.getD k 0)) := h30
         refine ⟨rfl, ⟨rfl, rfl⟩, by show ((z.take k).filter (eaP b d t)).length + ([z.getD k 0] : List Int).length ≤ 1000000000; simp only [List.length_cons, List.length_nil]; omega, ⟨rfl, rfl, rfl⟩, (r64 ((k : Int) + 1)), ?_⟩
         exact ⟨rfl, z.length - (k + 1), by omega, k + 1, by omega, rfl, rfl, by (first | rw [f1 (by omega) (by assumption)] | rw [f2 (by omega) (by assumption)]); (first | rw [f3 (by omega) (by assumption)] | rw [f4 (by omega) (by assumption)]); (first | rw [f5 (by omega) (by assumption)] | rw [f6 (by omega) (by assumption)]); rfl⟩
        ·replace h30 : ¬ (t < (expF b d (z.getD k 0))) := h30
         refine ⟨(r64 ((k : Int) + 1)), ?_⟩
         exact ⟨rfl, z.length - (k + 1), by omega, k + 1, by omega, rfl, rfl, by (first | rw [f1 (by omega) (by assumption)] | rw [f2 (by omega) (by assumption)]); (first | rw [f3 (by omega) (by assumption)] | rw [f4 (by omega) (by assumption)]); (first | rw [f5 (by omega) (by assumption)] | rw [f6 (by omega) (by assumption)]); rfl⟩
       ·replace h29 : ¬ ((expT b l d (z.getD k 0)) < t) := h29
        refine ⟨fun h31 => ?_, fun h31 => ?_⟩
        ·replace h31 : t < (expF b d (z.getD k 0)) := h31
         refine ⟨rfl, ⟨rfl, rfl⟩, by show ((z.take k).filter (eaP b d t)).length + ([z.getD k 0] : List Int).length ≤ 1000000000; simp only [List.length_cons, List.length_nil]; omega, ⟨rfl, rfl, rfl⟩, (r64 ((k : Int) + 1)), ?_⟩
         exact ⟨rfl, z.length - (k + 1), by omega, k + 1, by omega, rfl, rfl, by (first | rw [f1 (by omega) (by assumption)] | rw [f2 (by omega) (by assumption)]); (first | rw [f3 (by omega) (by assumption)] | rw [f4 (by omega) (by assumption)]); (first | rw [f5 (by omega) (by assumption)] | rw [f6 (by omega) (by assumption)]); rfl⟩
        ·replace h31 : ¬ (t < (expF b d (z.getD k 0))) := h31
         refine ⟨(r64 ((k : Int) + 1)), ?_⟩
         exact ⟨rfl, z.length - (k + 1), by omega, k + 1, by omega, rfl, rfl, by (first | rw [f1 (by omega) (by assumption)] | rw [f2 (by omega) (by assumption)]); (first | rw [f3 (by omega) (by assumption)] | rw [f4 (by omega) (by assumption)]); (first | rw [f5 (by omega) (by assumption)] | rw [f6 (by omega) (by assumption)]); rfl⟩
     ·replace h24 : ¬ ((k : Int) < (z.length : Int)) := h24
      refine ⟨⟨rfl, rfl, rfl, Nat.le_of_ble_eq_true rfl⟩, ?_⟩
      have hk : k = z.length := by omega
      have eY : lokY b l d m hs z t = -1 := by unfold lokY; rw [if_pos e0]; exact if_neg (fun h => h6 h.1)
      have eL : (lokL b l d m hs z t) = (False) := (propext ⟨fun h => h.elim, fun h => h6 h.2.1⟩).symm
      rw [e0, eW, eT, eR, eM, eY, eL, hk, List.take_length]
      exact ⟨rfl, rfl, rfl, rfl⟩
def CLok : List (Nat × Con) := (59, pureC [.v (.cons (.int .i64) (.cons (.int .i64) (.cons (.int .i64) (.cons (.int .i64) (.cons (.sl (.int .i64)) .nil))))), .v (.sl (.int .i64)), .v (.int .i64)] sLok) :: CSaf
theorem kLok : Known Tryd.prog (En CLok tys G6 QAt) := kSaf.add Tryd.func59 Tryd.call59 [.c [(3, (.int .i64)), (4, (.int .i64)), (5, (.int .i64))], .k] fun ds p v bs h hp => by
 unfold sLok at h
 split at h <;> simp only [Option.some.injEq, Prod.mk.injEq, reduceCtorEq] at h
 obtain ⟨rfl, rfl, rfl⟩ := h
 exact bLok _ _ _ _ _ _ _ hp.1 hp.2
end Go.Proofs.YtogipicegdbhdaaDoor.S41c

namespace Go.Proofs.YtogipicegdbhdaaDoor.S41c
open Go

def lstN (b l d m : Int) (hs : List Int) (bad : Int) : Int := max 0 (m - (knwL b l d hs bad : Int))
/-- a capture that greedy search takes -/
def grdOk (b l d : Int) (hs : List Int) (need : Int) (q : Int) (x : Cp) (h : List Bool) (ls : List Int) : Prop :=
 (((ls.length : Int) < need ∧ expF b d q ≤ x.2.1 ∧ x.2.1 ≤ expT b l d q) ∧ x.1 ∈ hs) ∧ ¬ h.getD x.1.toNat false = true
instance (b l d : Int) (hs : List Int) (need : Int) (q : Int) (x : Cp) (h : List Bool) (ls : List Int) : Decidable (grdOk b l d hs need q x h ls) := by unfold grdOk; infer_instance
def grd (b l d : Int) (hs : List Int) (need : Int) (q : Int) : List Cp → Nat → List Bool → List Int → List Int
 | [], _, _, ls => ls
 | x :: xs, k, h, ls => if grdOk b l d hs need q x h ls then grd b l d hs need q xs (k + 1) (h.set x.1.toNat true) (ls ++ [(k : Int)]) else grd b l d hs need q xs (k + 1) h ls
def rowLc (b l d : Int) (hs : List Int) (bad : Int) (q : Nat) : List Bool := (List.range 12).map (seenC b l d hs bad [] q)
def grdL (b l d m : Int) (hs : List Int) (bad : Int) (a : List Cp) (q : Int) : List Int := grd b l d hs (lstN b l d m hs bad) q a 0 (rowLc b l d hs bad q.toNat) []
def bst (b l d m : Int) (hs : List Int) (bad : Int) (a : List Cp) : List Int → List Int → List Int
 | [], best => best
 | q :: qs, best => bst b l d m hs bad a qs (if best = [] ∨ cmpS (grdL b l d m hs bad a q) best < 0 then grdL b l d m hs bad a q else best)
def lstE (b l d m : Int) (hs : List Int) (bad : Int) (a : List Cp) : Int := if redL b l d m hs bad a = 0 then (if telL b l d m hs bad a = [] then 8 else 0) else redL b l d m hs bad a
def lstL (b l d m : Int) (hs : List Int) (bad : Int) (a : List Cp) : List Int := if lstE b l d m hs bad a = 0 then bst b l d m hs bad a (telL b l d m hs bad a) [] else []

theorem grd_grows {b l d : Int} {hs : List Int} {need q : Int} : ∀ (xs : List Cp) (k : Nat) (h : List Bool) (ls : List Int), ls.length ≤ (grd b l d hs need q xs k h ls).length
 | [], k, h, ls => by simp [grd]
 | x :: xs, k, h, ls => by
  unfold grd
  split
  ·have := grd_grows (b := b) (l := l) (d := d) (hs := hs) (need := need) (q := q) xs (k + 1) (h.set x.1.toNat true) (ls ++ [(k : Int)])
   simp only [List.length_append, List.length_cons, List.length_nil] at this
   omega
  ·exact grd_grows xs (k + 1) h ls
theorem grd_none {b l d : Int} {hs : List Int} {need q : Int} : ∀ (xs : List Cp) (k : Nat) (h : List Bool), grd b l d hs need q xs k h [] = [] → ∀ x ∈ xs, ¬ grdOk b l d hs need q x h []
 | [], k, h, _ => by simp
 | x :: xs, k, h, he => by
  unfold grd at he
  split at he
  ·have := grd_grows (b := b) (l := l) (d := d) (hs := hs) (need := need) (q := q) xs (k + 1) (h.set x.1.toNat true) ([] ++ [(k : Int)])
   rw [he] at this
   simp at this
  ·rename_i hn
   intro y hy
   rcases List.mem_cons.1 hy with rfl | hy
   ·exact hn
   ·exact grd_none xs (k + 1) h he y hy
theorem tel_mem {b l d m : Int} {hs : List Int} {bad : Int} {a : List Cp} {q : Int} (h : q ∈ telL b l d m hs bad a) : redL b l d m hs bad a = 0 ∧ 0 ≤ q ∧ q < cntL b l d ∧ telP b l d m hs bad a q.toNat = true := by
 unfold telL at h
 split at h
 ·rename_i h0
  unfold telG at h
  rw [List.mem_map] at h
  obtain ⟨k, hk, rfl⟩ := h
  rw [List.mem_filter] at hk
  have := List.mem_range.1 hk.1
  refine ⟨h0, Int.natCast_nonneg k, ?_, hk.2⟩
  show (k : Int) < _
  omega
 ·simp at h
theorem cntF_mono {f g : Nat → Bool} : ∀ k, (∀ i, i < k → f i = true → g i = true) → cntF f k ≤ cntF g k
 | 0, _ => Nat.le_refl _
 | k + 1, h => by
  have h1 := cntF_mono k fun i hi => h i (by omega)
  have h2 := h k (by omega)
  rw [cntF, cntF]
  split <;> split <;> simp_all <;> omega
/-- where the key is told, something is taken, unless nothing is needed -/
theorem grd_ne {b l d m : Int} {hs : List Int} {bad : Int} {a : List Cp} {q : Int} (hq : q ∈ telL b l d m hs bad a) (he : grdL b l d m hs bad a q = []) : lstN b l d m hs bad ≤ 0 := by
 obtain ⟨h0, h1, h2, h3⟩ := tel_mem hq
 obtain ⟨hc, hb0, hb1, ha, hcap⟩ := red0 h0
 apply Classical.byContradiction
 intro hn
 have hno := grd_none _ _ _ he
 have h4 : m ≤ (cntF (seenC b l d hs bad a q.toNat) 12 : Int) := by simpa [telP] using h3
 have h5 : cntF (seenC b l d hs bad a q.toNat) 12 ≤ cntF (seenC b l d hs bad [] q.toNat) 12 := cntF_mono 12 fun i hi hs1 => by
  apply Classical.byContradiction
  intro hf
  unfold seenC at hs1 hf
  simp only [Bool.and_eq_true, Bool.or_eq_true, List.any_eq_true, List.any_nil, Bool.or_false] at hs1 hf
  obtain ⟨g1, g2⟩ := hs1
  rcases g2 with g2 | ⟨x, hx, g2⟩
  ·exact hf ⟨g1, g2⟩
  ·unfold capIn at g2
   simp only [Bool.and_eq_true, decide_eq_true_eq] at g2
   obtain ⟨g3, g4⟩ := g2
   unfold exB at g4
   rw [decide_eq_true_eq] at g4
   have e : ((q.toNat : Nat) : Int) = q := by omega
   rw [e] at g4
   refine hno x hx ⟨⟨⟨?_, g4⟩, ?_⟩, ?_⟩
   ·show ((0 : Nat) : Int) < _; omega
   ·rw [g3]; simpa using g1
   ·have e2 : x.1.toNat = i := by omega
    rw [e2, rowLc, row_get hi]
    intro g5
    unfold seenC at g5
    simp only [Bool.and_eq_true, Bool.or_eq_true, List.any_nil, Bool.or_false] at g5
    exact hf g5
 have h6 : cntF (seenC b l d hs bad [] q.toNat) 12 = knwL b l d hs bad := cntF_congr fun i hi => by simp [seenC]
 unfold lstN at hn
 omega
theorem telL_len (b l d m hs bad a) : (telL b l d m hs bad a).length ≤ (cntL b l d).toNat := by
 unfold telL
 split
 ·exact telG_len ..
 ·simp
theorem grd_zero {b l d : Int} {hs : List Int} {need q : Int} (hn : need ≤ 0) : ∀ (xs : List Cp) (k : Nat) (h : List Bool) (ls : List Int), grd b l d hs need q xs k h ls = ls
 | [], _, _, _ => rfl
 | x :: xs, k, h, ls => by
  unfold grd
  rw [if_neg (fun g => by have := g.1.1.1; omega)]
  exact grd_zero hn xs (k + 1) h ls
theorem bst_step {b l d m : Int} {hs : List Int} {bad : Int} {a : List Cp} {T bs : List Int} {k : Nat} (hk : k < T.length) :
  bst b l d m hs bad a (T.drop k) bs = bst b l d m hs bad a (T.drop (k + 1)) (if bs = [] ∨ cmpS (grdL b l d m hs bad a (T.getD k 0)) bs < 0 then grdL b l d m hs bad a (T.getD k 0) else bs) := by
 rw [drop_one 0 T k hk, bst]
theorem bst_keep {g bs : List Int} (h : ¬ cmpS g bs < 0) (h2 : bs = [] → g = []) : (if bs = [] ∨ cmpS g bs < 0 then g else bs) = bs := by
 split
 ·rename_i h3
  rcases h3 with h3 | h3
  ·rw [h2 h3, h3]
  ·exact absurd h3 h
 ·rfl
theorem dtrue : @decide (true = true) (Classical.propDecidable _) = true := by simp
end Go.Proofs.YtogipicegdbhdaaDoor.S41c

namespace Go.Proofs.YtogipicegdbhdaaDoor.S41c
open Go Go.Proofs.YtogipicegdbhdaaDoor.Vc Go.Proofs
set_option maxRecDepth 100000
set_option linter.unusedVariables false
open Go.Proofs.YtogipicegdbhdaaDoor.S41
def sLst : List V → Option (Prop × V × List Blk)
 | [.agg [.int .i64 b, .int .i64 l, .int .i64 d, .int .i64 m, .sl false (.int .i64) hs], .int .i64 bad, .sl false (.cons (.int .i64) (.cons (.int .i64) .nil)) a] => some (hs.length ≤ 2000000 ∧ a.length ≤ 2000000, .tup [.own (.int .i64) 0, .int .i64 (lstE b l d m hs bad a)], [.row true (.int .i64) (lstL b l d m hs bad a)])
 | _ => none
set_option maxHeartbeats 4000000 in
theorem bLst (b : Int) (l : Int) (d : Int) (m : Int) (hs : List Int) (bad : Int) (a : List (Int × (Int × Unit))) (hp0 : hs.length ≤ 2000000) (hp1 : a.length ≤ 2000000) : bodyP (En CLok tys G6 QAt) Tryd.f60 [.o (.int .i64), .k] [.agg [.int .i64 b, .int .i64 l, .int .i64 d, .int .i64 m, .sl false (.int .i64) hs], .int .i64 bad, .sl false (.cons (.int .i64) (.cons (.int .i64) .nil)) a] (.tup [.own (.int .i64) 0, .int .i64 (lstE b l d m hs bad a)]) [.row true (.int .i64) (lstL b l d m hs bad a)] := by
 refine ⟨rfl, rfl, rfl, rfl, rfl, ⟨by show hs.length ≤ 2000000; first | omega | assumption, by show a.length ≤ 2000000; first | omega | assumption⟩, fun h0 => ?_, fun h0 => ?_⟩
 ·replace h0 : (redL b l d m hs bad a) ≠ 0 := h0
  rw [show lstL b l d m hs bad a = [] from if_neg (by unfold lstE; rw [if_neg h0]; exact h0), show lstE b l d m hs bad a = redL b l d m hs bad a from if_neg h0]
  exact ⟨rfl, rfl, rfl, rfl⟩
 ·replace h0 : ¬ ((redL b l d m hs bad a) ≠ 0) := h0
  obtain ⟨hc, hb0, hb1, hca1, hca2⟩ := red0 (Classical.not_not.1 h0)
  obtain ⟨q1, q2, q3, q4, q5, q6, q7, q8, q9, q10, q11⟩ := id hc
  have hml := mk_len (cntL b l d).toNat (seenC b l d hs bad [])
  have hkn : cntF (fun i => ((mk (cntL b l d).toNat (seenC b l d hs bad [])).getD 0 (List.replicate 12 false)).getD i false) 12 = knwL b l d hs bad := mk_row_cnt (by omega) _
  have hk12 := cntF_le (fun i => ((mk (cntL b l d).toNat (seenC b l d hs bad [])).getD 0 (List.replicate 12 false)).getD i false) 12
  have hneed : max 0 (m - (cntF (fun i => ((mk (cntL b l d).toNat (seenC b l d hs bad [])).getD 0 (List.replicate 12 false)).getD i false) 12 : Int)) = lstN b l d m hs bad := by rw [hkn]; rfl
  have htl := telL_len b l d m hs bad a
  refine ⟨fun h1 => ?_, fun h1 => ?_⟩
  ·replace h1 : (((telL b l d m hs bad a).length : Nat) : Int) = 0 := h1
   have e1 : (telL b l d m hs bad a) = [] := List.eq_nil_of_length_eq_zero (by omega)
   have e2 : lstE b l d m hs bad a = 8 := by unfold lstE; rw [if_pos (Classical.not_not.1 h0), if_pos e1]
   rw [show lstL b l d m hs bad a = [] from if_neg (by rw [e2]; decide), e2]
   exact ⟨rfl, rfl, rfl, rfl⟩
  ·replace h1 : ¬ ((((telL b l d m hs bad a).length : Nat) : Int) = 0) := h1
   refine ⟨rfl, rfl, rfl, rfl, rfl, ⟨by assumption, by show 0 ≤ bad; first | omega | assumption, by show ([]).length ≤ 500; first | omega | assumption | (simp only [List.length_cons, List.length_nil, List.length_append, List.length_take, List.length_drop, List.length_set, List.length_replicate]; omega), by first | assumption | simp⟩, by kernel_rfl, (i0 0 ((mk (cntL b l d).toNat (seenC b l d hs bad ([]))).length : Int)), by exact mk_row_len (N := (cntL b l d).toNat) (by omega) _, (r64 (m - (cntF (fun i => ((mk (cntL b l d).toNat (seenC b l d hs bad ([]))).getD 0 (List.replicate 12 false)).getD i false) 12 : Int))), 3, [(2, .k), (3, .k), (10, .o (.arr 12 .bool)), (11, .k), (12, .c []), (47, .o (.int .i64)), (48, .k), (49, .k)], fun nM vs H => (∃ (k : Nat), k = 0 ∧ nM = (telL b l d m hs bad a).length - k ∧ vs = [.sl false (.cons (.int .i64) (.cons (.int .i64) .nil)) a, .ptr 0 1 0 0, .own (.arr 12 .bool) 2, .int .i64 (max 0 (m - (cntF (fun i => ((mk (cntL b l d).toNat (seenC b l d hs bad ([]))).getD 0 (List.replicate 12 false)).getD i false) 12 : Int))), .nils, .own (.int .i64) 1, .int .i64 (((telL b l d m hs bad a).length : Nat) : Int), .int .i64 (k : Int)] ∧ H = [.cells [.int .i64 b, .int .i64 l, .int .i64 d, .int .i64 m, .sl false (.int .i64) hs], .row true (.int .i64) (telL b l d m hs bad a), .row true (.arr 12 .bool) (mk (cntL b l d).toNat (seenC b l d hs bad ([])))]) ∨ (∃ (k : Nat) (bs : List Int), k ≤ (telL b l d m hs bad a).length ∧ bst b l d m hs bad a ((telL b l d m hs bad a).drop k) bs = bst b l d m hs bad a (telL b l d m hs bad a) [] ∧ (bs = [] → lstN b l d m hs bad ≤ 0) ∧ bs.length ≤ 500 ∧ nM = (telL b l d m hs bad a).length - k ∧ vs = [.sl false (.cons (.int .i64) (.cons (.int .i64) .nil)) a, .ptr 0 1 0 0, .own (.arr 12 .bool) 2, .int .i64 (max 0 (m - (cntF (fun i => ((mk (cntL b l d).toNat (seenC b l d hs bad ([]))).getD 0 (List.replicate 12 false)).getD i false) 12 : Int))), .own (.int .i64) 3, .own (.int .i64) 1, .int .i64 (((telL b l d m hs bad a).length : Nat) : Int), .int .i64 (k : Int)] ∧ H = [.cells [.int .i64 b, .int .i64 l, .int .i64 d, .int .i64 m, .sl false (.int .i64) hs], .row true (.int .i64) (telL b l d m hs bad a), .row true (.arr 12 .bool) (mk (cntL b l d).toNat (seenC b l d hs bad ([]))), .row true (.int .i64) bs]), ⟨rfl, (telL b l d m hs bad a).length, .inl ⟨0, rfl, by omega, rfl, rfl⟩⟩, ?_⟩
   rintro nM vs H (⟨k, hc1_0, rfl, rfl, rfl⟩ | ⟨k, bs, hc1_0, hc1_1, hc1_2, hc1_3, rfl, rfl, rfl⟩)
   ·have alt := 0
    refine ⟨fun h2 => ?_, fun h2 => ?_⟩
    ·replace h2 : (k : Int) < (((telL b l d m hs bad a).length : Nat) : Int) := h2
     have hk : k < (telL b l d m hs bad a).length := by omega
     have hqm := getD_mem 0 (telL b l d m hs bad a) k hk
     obtain ⟨_, tq0, tq1, _⟩ := tel_mem hqm
     have hrl := mk_row_len (N := (cntL b l d).toNat) (F := seenC b l d hs bad []) (q := ((telL b l d m hs bad a).getD k 0).toNat) (by omega) (List.replicate 12 false)
     have hrow : (mk (cntL b l d).toNat (seenC b l d hs bad [])).getD ((telL b l d m hs bad a).getD k 0).toNat (List.replicate 12 false) = rowLc b l d hs bad ((telL b l d m hs bad a).getD k 0).toNat := mk_get (by omega) _
     have hb : bst b l d m hs bad a (telL b l d m hs bad a) [] = bst b l d m hs bad a ((telL b l d m hs bad a).drop (k + 1)) (grdL b l d m hs bad a ((telL b l d m hs bad a).getD k 0)) := by
      have e := bst_step (b := b) (l := l) (d := d) (m := m) (hs := hs) (bad := bad) (a := a) (T := (telL b l d m hs bad a)) (bs := []) hk
      rw [if_pos (.inl rfl)] at e
      rw [← e, hc1_0]; rfl
     refine ⟨(i0 (k : Int) ((telL b l d m hs bad a).length : Int)), (i0 ((telL b l d m hs bad a).getD k 0) ((mk (cntL b l d).toNat (seenC b l d hs bad ([]))).length : Int)), ⟨rfl, rfl, rfl, by first | assumption | rfl | simp, rfl⟩, rfl, rfl, rfl, rfl, rfl, ⟨by show 0 ≤ b; first | omega | assumption, by show b ≤ l; first | omega | assumption, by show l ≤ 1000000; first | omega | assumption, by show 1 ≤ d; first | omega | assumption, by show d ≤ 1000000; first | omega | assumption, by show 0 ≤ ((telL b l d m hs bad a).getD k 0); first | omega | assumption, by show ((telL b l d m hs bad a).getD k 0) < cntL b l d; first | omega | assumption⟩, 4, [(2, .k), (3, .k), (10, .o (.arr 12 .bool)), (11, .k), (12, .k), (15, .k), (16, .k), (17, .k), (18, .o (.int .i64)), (47, .o (.int .i64)), (48, .k), (49, .k), (63, .k), (64, .k), (65, .k)], fun nM vs H => ∃ (i : Nat) (x : List Bool) (ls : List Int), i ≤ a.length ∧ x.length = 12 ∧ ls.length ≤ i ∧ grd b l d hs (lstN b l d m hs bad) ((telL b l d m hs bad a).getD k 0) (a.drop i) i x ls = grdL b l d m hs bad a ((telL b l d m hs bad a).getD k 0) ∧ nM = a.length - i ∧ vs = [.sl false (.cons (.int .i64) (.cons (.int .i64) .nil)) a, .ptr 0 1 0 0, .own (.arr 12 .bool) 2, .int .i64 (max 0 (m - (cntF (fun i => ((mk (cntL b l d).toNat (seenC b l d hs bad ([]))).getD 0 (List.replicate 12 false)).getD i false) 12 : Int))), .nils, .ptr 3 1 0 0, .int .i64 (expF b d ((telL b l d m hs bad a).getD k 0)), .int .i64 (expT b l d ((telL b l d m hs bad a).getD k 0)), .own (.int .i64) 4, .own (.int .i64) 1, .int .i64 (((telL b l d m hs bad a).length : Nat) : Int), .int .i64 (k : Int), .sl false (.cons (.int .i64) (.cons (.int .i64) .nil)) a, .int .i64 (a.length : Int), .int .i64 (i : Int)] ∧ H = [.cells [.int .i64 b, .int .i64 l, .int .i64 d, .int .i64 m, .sl false (.int .i64) hs], .row true (.int .i64) (telL b l d m hs bad a), .row true (.arr 12 .bool) (mk (cntL b l d).toNat (seenC b l d hs bad ([]))), .row true .bool x, .row true (.int .i64) ls], ⟨rfl, a.length, 0, (mk (cntL b l d).toNat (seenC b l d hs bad [])).getD ((telL b l d m hs bad a).getD k 0).toNat (List.replicate 12 false), [], by omega, hrl, by simp, by rw [hrow]; rfl, by omega, rfl, rfl⟩, ?_⟩
     rintro nM vs H ⟨i, x, ls, hc2_0, hc2_1, hc2_2, hc2_3, rfl, rfl, rfl⟩
     refine ⟨fun h3 => ?_, fun h3 => ?_⟩
     ·replace h3 : (i : Int) < (a.length : Int) := h3
      have hia : i < a.length := by omega
      have hcb := capB_ok (hca2 _ (getD_mem (0, (0, ())) a i hia))
      rw [drop_one (0, (0, ())) a i hia, grd] at hc2_3
      refine ⟨(i0 (i : Int) (a.length : Int)), ⟨rfl, rfl, rfl, Nat.le_of_ble_eq_true rfl⟩, fun h4 => ?_, fun h4 => ?_⟩
      ·replace h4 : (ls.length : Int) < (max 0 (m - (cntF (fun i => ((mk (cntL b l d).toNat (seenC b l d hs bad ([]))).getD 0 (List.replicate 12 false)).getD i false) 12 : Int))) := h4
       rw [hneed] at h4
       refine ⟨rfl, rfl, rfl, trivial, fun h5 => ?_, fun h5 => ?_⟩
       ·replace h5 : ((expF b d ((telL b l d m hs bad a).getD k 0)) ≤ (((a.getD i (0, (0, ()))).2).1) ∧ (((a.getD i (0, (0, ()))).2).1) ≤ (expT b l d ((telL b l d m hs bad a).getD k 0))) := h5
        refine ⟨rfl, by show hs.length ≤ 2000000; first | omega | assumption, fun h6 => ?_, fun h6 => ?_⟩
        ·replace h6 : ((a.getD i (0, (0, ()))).1) ∈ hs := h6
         refine ⟨⟨by show (0 : Int) ≤ (a.getD i (0, (0, ()))).1; omega, by show (a.getD i (0, (0, ()))).1 < (12 : Int); omega, by first | assumption | rfl | simp⟩, fun h7 => ?_, fun h7 => ?_⟩
         ·replace h7 : ¬ ((x.getD (((a.getD i (0, (0, ()))).1).toNat) false) = true) := h7
          rw [if_pos ⟨⟨⟨h4, h5⟩, h6⟩, h7⟩] at hc2_3
          refine ⟨⟨by show (0 : Int) ≤ (a.getD i (0, (0, ()))).1; omega, by show (a.getD i (0, (0, ()))).1 < (12 : Int); omega, by first | assumption | rfl | simp⟩, ⟨rfl, rfl⟩, rfl, ⟨rfl, rfl⟩, by show ls.length + ([(i : Int)] : List Int).length ≤ 1000000000; simp only [List.length_cons, List.length_nil]; omega, (r64 ((i : Int) + 1)), ?_⟩
          first
          | exact ⟨rfl, a.length - (i + 1), by omega, i + 1, _, _, by omega, by rw [List.length_set]; exact hc2_1, by rw [List.length_append]; simp only [List.length_cons, List.length_nil]; omega, by rw [dtrue]; exact hc2_3, rfl, rfl, rfl⟩
          | exact ⟨rfl, a.length - (i + 1), by omega, i + 1, x, ls, by omega, hc2_1, by omega, hc2_3, rfl, rfl, rfl⟩
         ·replace h7 : ¬ (¬ ((x.getD (((a.getD i (0, (0, ()))).1).toNat) false) = true)) := h7
          rw [if_neg (fun g => h7 g.2)] at hc2_3
          refine ⟨(r64 ((i : Int) + 1)), ?_⟩
          first
          | exact ⟨rfl, a.length - (i + 1), by omega, i + 1, _, _, by omega, by rw [List.length_set]; exact hc2_1, by rw [List.length_append]; simp only [List.length_cons, List.length_nil]; omega, by rw [dtrue]; exact hc2_3, rfl, rfl, rfl⟩
          | exact ⟨rfl, a.length - (i + 1), by omega, i + 1, x, ls, by omega, hc2_1, by omega, hc2_3, rfl, rfl, rfl⟩
        ·replace h6 : ¬ (((a.getD i (0, (0, ()))).1) ∈ hs) := h6
         rw [if_neg (fun g => h6 g.1.2)] at hc2_3
         refine ⟨(r64 ((i : Int) + 1)), ?_⟩
         first
         | exact ⟨rfl, a.length - (i + 1), by omega, i + 1, _, _, by omega, by rw [List.length_set]; exact hc2_1, by rw [List.length_append]; simp only [List.length_cons, List.length_nil]; omega, by rw [dtrue]; exact hc2_3, rfl, rfl, rfl⟩
         | exact ⟨rfl, a.length - (i + 1), by omega, i + 1, x, ls, by omega, hc2_1, by omega, hc2_3, rfl, rfl, rfl⟩
       ·replace h5 : ¬ ((expF b d ((telL b l d m hs bad a).getD k 0)) ≤ (((a.getD i (0, (0, ()))).2).1) ∧ (((a.getD i (0, (0, ()))).2).1) ≤ (expT b l d ((telL b l d m hs bad a).getD k 0))) := h5
        rw [if_neg (fun g => h5 g.1.1.2)] at hc2_3
        refine ⟨(r64 ((i : Int) + 1)), ?_⟩
        first
        | exact ⟨rfl, a.length - (i + 1), by omega, i + 1, _, _, by omega, by rw [List.length_set]; exact hc2_1, by rw [List.length_append]; simp only [List.length_cons, List.length_nil]; omega, by rw [dtrue]; exact hc2_3, rfl, rfl, rfl⟩
        | exact ⟨rfl, a.length - (i + 1), by omega, i + 1, x, ls, by omega, hc2_1, by omega, hc2_3, rfl, rfl, rfl⟩
      ·replace h4 : ¬ ((ls.length : Int) < (max 0 (m - (cntF (fun i => ((mk (cntL b l d).toNat (seenC b l d hs bad ([]))).getD 0 (List.replicate 12 false)).getD i false) 12 : Int)))) := h4
       rw [hneed] at h4
       rw [if_neg (fun g => h4 g.1.1.1)] at hc2_3
       refine ⟨(r64 ((i : Int) + 1)), ?_⟩
       first
       | exact ⟨rfl, a.length - (i + 1), by omega, i + 1, _, _, by omega, by rw [List.length_set]; exact hc2_1, by rw [List.length_append]; simp only [List.length_cons, List.length_nil]; omega, by rw [dtrue]; exact hc2_3, rfl, rfl, rfl⟩
       | exact ⟨rfl, a.length - (i + 1), by omega, i + 1, x, ls, by omega, hc2_1, by omega, hc2_3, rfl, rfl, rfl⟩
     ·replace h3 : ¬ ((i : Int) < (a.length : Int)) := h3
      rw [List.drop_eq_nil_of_le (by omega), grd] at hc2_3
      refine ⟨fun h8 => absurd (show True by trivial) h8, fun h8 => ?_⟩
      refine ⟨(r64 ((k : Int) + 1)), ?_⟩
      exact ⟨rfl, (telL b l d m hs bad a).length - (k + 1), by omega, .inr ⟨k + 1, ls, by omega, by rw [hc2_3, ← hb], fun e => grd_ne hqm (by rw [← hc2_3]; exact e), by omega, rfl, rfl, rfl⟩⟩
    ·replace h2 : ¬ ((k : Int) < (((telL b l d m hs bad a).length : Nat) : Int)) := h2
     exfalso; omega
   ·have alt := 1
    refine ⟨fun h9 => ?_, fun h9 => ?_⟩
    ·replace h9 : (k : Int) < (((telL b l d m hs bad a).length : Nat) : Int) := h9
     have hk : k < (telL b l d m hs bad a).length := by omega
     have hqm := getD_mem 0 (telL b l d m hs bad a) k hk
     obtain ⟨_, tq0, tq1, _⟩ := tel_mem hqm
     have hrl := mk_row_len (N := (cntL b l d).toNat) (F := seenC b l d hs bad []) (q := ((telL b l d m hs bad a).getD k 0).toNat) (by omega) (List.replicate 12 false)
     have hrow : (mk (cntL b l d).toNat (seenC b l d hs bad [])).getD ((telL b l d m hs bad a).getD k 0).toNat (List.replicate 12 false) = rowLc b l d hs bad ((telL b l d m hs bad a).getD k 0).toNat := mk_get (by omega) _
     rw [bst_step hk] at hc1_1
     refine ⟨(i0 (k : Int) ((telL b l d m hs bad a).length : Int)), (i0 ((telL b l d m hs bad a).getD k 0) ((mk (cntL b l d).toNat (seenC b l d hs bad ([]))).length : Int)), ⟨rfl, rfl, rfl, by first | assumption | rfl | simp, rfl⟩, rfl, rfl, rfl, rfl, rfl, ⟨by show 0 ≤ b; first | omega | assumption, by show b ≤ l; first | omega | assumption, by show l ≤ 1000000; first | omega | assumption, by show 1 ≤ d; first | omega | assumption, by show d ≤ 1000000; first | omega | assumption, by show 0 ≤ ((telL b l d m hs bad a).getD k 0); first | omega | assumption, by show ((telL b l d m hs bad a).getD k 0) < cntL b l d; first | omega | assumption⟩, 5, [(2, .k), (3, .k), (10, .o (.arr 12 .bool)), (11, .k), (12, .o (.int .i64)), (15, .k), (16, .k), (17, .k), (18, .o (.int .i64)), (47, .o (.int .i64)), (48, .k), (49, .k), (63, .k), (64, .k), (65, .k)], fun nM vs H => ∃ (i : Nat) (x : List Bool) (ls : List Int), i ≤ a.length ∧ x.length = 12 ∧ ls.length ≤ i ∧ grd b l d hs (lstN b l d m hs bad) ((telL b l d m hs bad a).getD k 0) (a.drop i) i x ls = grdL b l d m hs bad a ((telL b l d m hs bad a).getD k 0) ∧ nM = a.length - i ∧ vs = [.sl false (.cons (.int .i64) (.cons (.int .i64) .nil)) a, .ptr 0 1 0 0, .own (.arr 12 .bool) 2, .int .i64 (max 0 (m - (cntF (fun i => ((mk (cntL b l d).toNat (seenC b l d hs bad ([]))).getD 0 (List.replicate 12 false)).getD i false) 12 : Int))), .own (.int .i64) 3, .ptr 4 1 0 0, .int .i64 (expF b d ((telL b l d m hs bad a).getD k 0)), .int .i64 (expT b l d ((telL b l d m hs bad a).getD k 0)), .own (.int .i64) 5, .own (.int .i64) 1, .int .i64 (((telL b l d m hs bad a).length : Nat) : Int), .int .i64 (k : Int), .sl false (.cons (.int .i64) (.cons (.int .i64) .nil)) a, .int .i64 (a.length : Int), .int .i64 (i : Int)] ∧ H = [.cells [.int .i64 b, .int .i64 l, .int .i64 d, .int .i64 m, .sl false (.int .i64) hs], .row true (.int .i64) (telL b l d m hs bad a), .row true (.arr 12 .bool) (mk (cntL b l d).toNat (seenC b l d hs bad ([]))), .row true (.int .i64) bs, .row true .bool x, .row true (.int .i64) ls], ⟨rfl, a.length, 0, (mk (cntL b l d).toNat (seenC b l d hs bad [])).getD ((telL b l d m hs bad a).getD k 0).toNat (List.replicate 12 false), [], by omega, hrl, by simp, by rw [hrow]; rfl, by omega, rfl, rfl⟩, ?_⟩
     rintro nM vs H ⟨i, x, ls, hc3_0, hc3_1, hc3_2, hc3_3, rfl, rfl, rfl⟩
     refine ⟨fun h10 => ?_, fun h10 => ?_⟩
     ·replace h10 : (i : Int) < (a.length : Int) := h10
      have hia : i < a.length := by omega
      have hcb := capB_ok (hca2 _ (getD_mem (0, (0, ())) a i hia))
      rw [drop_one (0, (0, ())) a i hia, grd] at hc3_3
      refine ⟨(i0 (i : Int) (a.length : Int)), ⟨rfl, rfl, rfl, Nat.le_of_ble_eq_true rfl⟩, fun h11 => ?_, fun h11 => ?_⟩
      ·replace h11 : (ls.length : Int) < (max 0 (m - (cntF (fun i => ((mk (cntL b l d).toNat (seenC b l d hs bad ([]))).getD 0 (List.replicate 12 false)).getD i false) 12 : Int))) := h11
       rw [hneed] at h11
       refine ⟨rfl, rfl, rfl, trivial, fun h12 => ?_, fun h12 => ?_⟩
       ·replace h12 : ((expF b d ((telL b l d m hs bad a).getD k 0)) ≤ (((a.getD i (0, (0, ()))).2).1) ∧ (((a.getD i (0, (0, ()))).2).1) ≤ (expT b l d ((telL b l d m hs bad a).getD k 0))) := h12
        refine ⟨rfl, by show hs.length ≤ 2000000; first | omega | assumption, fun h13 => ?_, fun h13 => ?_⟩
        ·replace h13 : ((a.getD i (0, (0, ()))).1) ∈ hs := h13
         refine ⟨⟨by show (0 : Int) ≤ (a.getD i (0, (0, ()))).1; omega, by show (a.getD i (0, (0, ()))).1 < (12 : Int); omega, by first | assumption | rfl | simp⟩, fun h14 => ?_, fun h14 => ?_⟩
         ·replace h14 : ¬ ((x.getD (((a.getD i (0, (0, ()))).1).toNat) false) = true) := h14
          rw [if_pos ⟨⟨⟨h11, h12⟩, h13⟩, h14⟩] at hc3_3
          refine ⟨⟨by show (0 : Int) ≤ (a.getD i (0, (0, ()))).1; omega, by show (a.getD i (0, (0, ()))).1 < (12 : Int); omega, by first | assumption | rfl | simp⟩, ⟨rfl, rfl⟩, rfl, ⟨rfl, rfl⟩, by show ls.length + ([(i : Int)] : List Int).length ≤ 1000000000; simp only [List.length_cons, List.length_nil]; omega, (r64 ((i : Int) + 1)), ?_⟩
          first
          | exact ⟨rfl, a.length - (i + 1), by omega, i + 1, _, _, by omega, by rw [List.length_set]; exact hc3_1, by rw [List.length_append]; simp only [List.length_cons, List.length_nil]; omega, by rw [dtrue]; exact hc3_3, rfl, rfl, rfl⟩
          | exact ⟨rfl, a.length - (i + 1), by omega, i + 1, x, ls, by omega, hc3_1, by omega, hc3_3, rfl, rfl, rfl⟩
         ·replace h14 : ¬ (¬ ((x.getD (((a.getD i (0, (0, ()))).1).toNat) false) = true)) := h14
          rw [if_neg (fun g => h14 g.2)] at hc3_3
          refine ⟨(r64 ((i : Int) + 1)), ?_⟩
          first
          | exact ⟨rfl, a.length - (i + 1), by omega, i + 1, _, _, by omega, by rw [List.length_set]; exact hc3_1, by rw [List.length_append]; simp only [List.length_cons, List.length_nil]; omega, by rw [dtrue]; exact hc3_3, rfl, rfl, rfl⟩
          | exact ⟨rfl, a.length - (i + 1), by omega, i + 1, x, ls, by omega, hc3_1, by omega, hc3_3, rfl, rfl, rfl⟩
        ·replace h13 : ¬ (((a.getD i (0, (0, ()))).1) ∈ hs) := h13
         rw [if_neg (fun g => h13 g.1.2)] at hc3_3
         refine ⟨(r64 ((i : Int) + 1)), ?_⟩
         first
         | exact ⟨rfl, a.length - (i + 1), by omega, i + 1, _, _, by omega, by rw [List.length_set]; exact hc3_1, by rw [List.length_append]; simp only [List.length_cons, List.length_nil]; omega, by rw [dtrue]; exact hc3_3, rfl, rfl, rfl⟩
         | exact ⟨rfl, a.length - (i + 1), by omega, i + 1, x, ls, by omega, hc3_1, by omega, hc3_3, rfl, rfl, rfl⟩
       ·replace h12 : ¬ ((expF b d ((telL b l d m hs bad a).getD k 0)) ≤ (((a.getD i (0, (0, ()))).2).1) ∧ (((a.getD i (0, (0, ()))).2).1) ≤ (expT b l d ((telL b l d m hs bad a).getD k 0))) := h12
        rw [if_neg (fun g => h12 g.1.1.2)] at hc3_3
        refine ⟨(r64 ((i : Int) + 1)), ?_⟩
        first
        | exact ⟨rfl, a.length - (i + 1), by omega, i + 1, _, _, by omega, by rw [List.length_set]; exact hc3_1, by rw [List.length_append]; simp only [List.length_cons, List.length_nil]; omega, by rw [dtrue]; exact hc3_3, rfl, rfl, rfl⟩
        | exact ⟨rfl, a.length - (i + 1), by omega, i + 1, x, ls, by omega, hc3_1, by omega, hc3_3, rfl, rfl, rfl⟩
      ·replace h11 : ¬ ((ls.length : Int) < (max 0 (m - (cntF (fun i => ((mk (cntL b l d).toNat (seenC b l d hs bad ([]))).getD 0 (List.replicate 12 false)).getD i false) 12 : Int)))) := h11
       rw [hneed] at h11
       rw [if_neg (fun g => h11 g.1.1.1)] at hc3_3
       refine ⟨(r64 ((i : Int) + 1)), ?_⟩
       first
       | exact ⟨rfl, a.length - (i + 1), by omega, i + 1, _, _, by omega, by rw [List.length_set]; exact hc3_1, by rw [List.length_append]; simp only [List.length_cons, List.length_nil]; omega, by rw [dtrue]; exact hc3_3, rfl, rfl, rfl⟩
       | exact ⟨rfl, a.length - (i + 1), by omega, i + 1, x, ls, by omega, hc3_1, by omega, hc3_3, rfl, rfl, rfl⟩
     ·replace h10 : ¬ ((i : Int) < (a.length : Int)) := h10
      rw [List.drop_eq_nil_of_le (by omega), grd] at hc3_3
      refine fun p15 hq15 => ?_
      refine ⟨fun h16 => ?_, fun h16 => ?_⟩
      ·replace h16 : ¬ p15 := h16
       refine ⟨⟨by show ls.length ≤ 2000000; first | omega | assumption, by show bs.length ≤ 2000000; first | omega | assumption⟩, fun h17 => ?_, fun h17 => ?_⟩
       ·replace h17 : (cmpS ls bs) < 0 := h17
        rw [hc3_3] at h17
        rw [if_pos (.inr h17)] at hc1_1
        refine ⟨(r64 ((k : Int) + 1)), ?_⟩
        first
        | exact ⟨rfl, (telL b l d m hs bad a).length - (k + 1), by omega, .inr ⟨k + 1, ls, by omega, by rw [hc3_3]; exact hc1_1, fun e => grd_ne hqm (by rw [← hc3_3]; exact e), by omega, rfl, rfl, rfl⟩⟩
        | exact ⟨rfl, (telL b l d m hs bad a).length - (k + 1), by omega, .inr ⟨k + 1, bs, by omega, hc1_1, hc1_2, by omega, rfl, rfl, rfl⟩⟩
       ·replace h17 : ¬ ((cmpS ls bs) < 0) := h17
        rw [hc3_3] at h17
        rw [bst_keep h17 (fun e => grd_zero (hc1_2 e) _ _ _ _)] at hc1_1
        refine ⟨(r64 ((k : Int) + 1)), ?_⟩
        first
        | exact ⟨rfl, (telL b l d m hs bad a).length - (k + 1), by omega, .inr ⟨k + 1, ls, by omega, by rw [hc3_3]; exact hc1_1, fun e => grd_ne hqm (by rw [← hc3_3]; exact e), by omega, rfl, rfl, rfl⟩⟩
        | exact ⟨rfl, (telL b l d m hs bad a).length - (k + 1), by omega, .inr ⟨k + 1, bs, by omega, hc1_1, hc1_2, by omega, rfl, rfl, rfl⟩⟩
      ·replace h16 : p15 := h16
       rw [if_pos (.inl (hq15 h16))] at hc1_1
       refine ⟨(r64 ((k : Int) + 1)), ?_⟩
       first
       | exact ⟨rfl, (telL b l d m hs bad a).length - (k + 1), by omega, .inr ⟨k + 1, ls, by omega, by rw [hc3_3]; exact hc1_1, fun e => grd_ne hqm (by rw [← hc3_3]; exact e), by omega, rfl, rfl, rfl⟩⟩
       | exact ⟨rfl, (telL b l d m hs bad a).length - (k + 1), by omega, .inr ⟨k + 1, bs, by omega, hc1_1, hc1_2, by omega, rfl, rfl, rfl⟩⟩
    ·replace h9 : ¬ ((k : Int) < (((telL b l d m hs bad a).length : Nat) : Int)) := h9
     have e1 : ¬ (telL b l d m hs bad a) = [] := fun e => h1 (by rw [e]; rfl)
     have e2 : lstE b l d m hs bad a = 0 := by unfold lstE; rw [if_pos (Classical.not_not.1 h0), if_neg e1]
     rw [List.drop_eq_nil_of_le (by omega), bst] at hc1_1
     rw [show lstL b l d m hs bad a = bs by unfold lstL; rw [if_pos e2]; exact hc1_1.symm, e2]
     exact ⟨rfl, rfl, rfl, rfl⟩
def CLst : List (Nat × Con) := (60, pureC [.v (.cons (.int .i64) (.cons (.int .i64) (.cons (.int .i64) (.cons (.int .i64) (.cons (.sl (.int .i64)) .nil))))), .v (.int .i64), .v (.sl (.cons (.int .i64) (.cons (.int .i64) .nil)))] sLst) :: CLok
theorem kLst : Known Tryd.prog (En CLst tys G6 QAt) := kLok.add Tryd.func60 Tryd.call60 [.o (.int .i64), .k] fun ds p v bs h hp => by
 unfold sLst at h
 split at h <;> simp only [Option.some.injEq, Prod.mk.injEq, reduceCtorEq] at h
 obtain ⟨rfl, rfl, rfl⟩ := h
 exact bLst _ _ _ _ _ _ _ hp.1 hp.2
end Go.Proofs.YtogipicegdbhdaaDoor.S41c

namespace Go.Proofs.YtogipicegdbhdaaDoor.S41c
open Go

def fewP (b l d m : Int) (hs : List Int) (n : Int) : Prop := hs.length ≤ 30 ∧ (chkL b l d m hs = 0 → cntL b l d ≤ n)
theorem list_eq {α : Type} (d : α) {a b : List α} (hl : a.length = b.length) (h : ∀ i, i < a.length → a.getD i d = b.getD i d) : a = b := by
 apply List.ext_getElem hl
 intro i h1 h2
 have := h i h1
 simpa [List.getD_eq_getElem?_getD, h1, h2] using this
end Go.Proofs.YtogipicegdbhdaaDoor.S41c

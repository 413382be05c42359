/- Texts of this claim: S38.Qs, S38.L4. -/
import Derived.Test.YtgljcfnplkcfhaaS3
import Derived.Test.YtgljcfnplkcfhaaS4
set_option linter.unusedVariables false
set_option linter.unusedSimpArgs false
namespace Go.Proofs.Ytgljcfnplkcfhaa.S38
open Go

theorem mem_set_of {l : List (Int × (Int × (Int × (List Int × (Int × (Int × (Int × (Int × (Int × (Int × Unit))))))))))} {k : Nat} {x : (Int × (Int × (Int × (List Int × (Int × (Int × (Int × (Int × (Int × (Int × Unit))))))))))} (h : ∀ a ∈ l, a.2.2.2.1.length ≤ 1048576) (hx : x.2.2.2.1.length ≤ 1048576) : ∀ a ∈ l.set k x, a.2.2.2.1.length ≤ 1048576 := fun a ha => by
  rcases List.mem_or_eq_of_mem_set ha with g | g
  · exact h a g
  · rw [g]; exact hx
theorem purL_ok {l : List (Int × (Int × (Int × (List Int × (Int × (Int × (Int × (Int × (Int × (Int × Unit))))))))))} {o t : Int} (h : ∀ a ∈ l, a.2.2.2.1.length ≤ 1048576) : (purL l o t).length ≤ l.length ∧ ∀ x ∈ purL l o t, x.2.2.2.1.length ≤ 1048576 := by
  by_cases hE : purE l o t = 0
  · rw [pur_yes hE, purF_len]; exact ⟨Nat.le_refl _, purF_of h⟩
  · rw [pur_err hE]; simp
theorem idsO_len (p : (Int × (Int × (Int × (List Int × (Int × (Int × (Int × (Int × (Int × (Int × Unit)))))))))) → Bool) (o : Int) (l : List (Int × (Int × (Int × (List Int × (Int × (Int × (Int × (Int × (Int × (Int × Unit))))))))))) : (idsF p (fO o l)).length ≤ l.length := Nat.le_trans (idsF_len _ _) (fO_len _ _)
theorem atL_len (l : List (Int × (Int × (Int × (List Int × (Int × (Int × (Int × (Int × (Int × (Int × Unit))))))))))) (o t : Int) : (atL l o t).length ≤ l.length := by
  unfold atL; split
  · exact idsO_len _ _ _
  · exact Nat.zero_le _
theorem laL_len (l : List (Int × (Int × (Int × (List Int × (Int × (Int × (Int × (Int × (Int × (Int × Unit))))))))))) (o t : Int) : (laL l o t).length ≤ l.length := by
  unfold laL; split
  · exact idsO_len _ _ _
  · exact Nat.zero_le _
theorem hasL_len (l : List (Int × (Int × (Int × (List Int × (Int × (Int × (Int × (Int × (Int × (Int × Unit))))))))))) (bad : Int) (cs : List (Int × (Int × Unit))) : (hasL l bad cs).length ≤ l.length := by
  unfold hasL; split
  · exact idsF_len _ _
  · exact Nat.zero_le _
theorem pur_late {l : List (Int × (Int × (Int × (List Int × (Int × (Int × (Int × (Int × (Int × (Int × Unit))))))))))} {o t : Int} (h : purE l o t = 0) : laL (purF o t l) o t = [] := by
  obtain ⟨h0, h1, h2⟩ := pur_zero h
  unfold laL
  split
  · unfold idsF
    rw [List.map_eq_nil_iff, List.filter_eq_nil_iff]
    intro a ha
    obtain ⟨ha1, ha2⟩ := List.mem_filter.1 ha
    obtain ⟨b, hb, rfl⟩ := List.mem_map.1 ha1
    have ho := of_decide_eq_true ha2
    rw [pg1_ob] at ho
    unfold pL
    rw [decide_eq_true_eq, pg1_kd, pg1_bo, pg1_go]
    rintro ⟨g1, g2, g3⟩
    have := h1 b hb
    by_cases hp : pgC o t b
    · rw [if_pos hp] at g3; omega
    · rw [if_neg hp] at g2 g3
      have : ¬ thr b t := fun g => hp ⟨ho, g1, g⟩
      unfold thr at this
      have hnb : ¬ t < b.2.2.2.2.2.2.1 := fun g => h1 b hb ⟨ho, g1, g⟩
      omega
  · rfl
theorem pur_ask {l : List (Int × (Int × (Int × (List Int × (Int × (Int × (Int × (Int × (Int × (Int × Unit))))))))))} {o t : Int} (h : purE l o t = 0) {x lo hi : Int} : askE (purF o t l) o x lo hi = if lo ≤ x ∧ x ≤ hi then 0 else 3 := by
  obtain ⟨h0, h1, h2⟩ := pur_zero h
  obtain ⟨_, ho, _⟩ := ask_ok h0
  unfold askE
  rw [if_neg (fun g => g h2)]
  by_cases hx : lo ≤ x ∧ x ≤ hi
  · rw [if_pos hx, if_neg (by omega)]
  · rw [if_neg hx, if_pos (.inr hx)]
theorem ids_mem {p : (Int × (Int × (Int × (List Int × (Int × (Int × (Int × (Int × (Int × (Int × Unit)))))))))) → Bool} {F : List (Int × (Int × (Int × (List Int × (Int × (Int × (Int × (Int × (Int × (Int × Unit))))))))))} {x : Int} : x ∈ idsF p F ↔ ∃ a ∈ F, p a = true ∧ a.1 = x := by
  unfold idsF
  rw [List.mem_map]
  constructor
  · rintro ⟨a, ha, e⟩
    obtain ⟨h1, h2⟩ := List.mem_filter.1 ha
    exact ⟨a, h1, h2, e⟩
  · rintro ⟨a, h1, h2, e⟩; exact ⟨a, List.mem_filter.2 ⟨h1, h2⟩, e⟩
theorem gone_at {l : List (Int × (Int × (Int × (List Int × (Int × (Int × (Int × (Int × (Int × (Int × Unit))))))))))} {o t s : Int} (h : purE l o t = 0) (hs : t ≤ s) {b : (Int × (Int × (Int × (List Int × (Int × (Int × (Int × (Int × (Int × (Int × Unit))))))))))} (hb : b ∈ l) (ho : b.2.2.1 = o) (hk : b.2.1 ≠ 4) : ¬ ((pg1 o t b).2.2.2.2.2.2.1 ≤ s ∧ s < (pg1 o t b).2.2.2.2.2.2.2.1) := by
  obtain ⟨h0, h1, h2⟩ := pur_zero h
  rw [pg1_bo, pg1_go]
  rintro ⟨g1, g2⟩
  by_cases hp : pgC o t b
  · rw [if_pos hp] at g2; omega
  · rw [if_neg hp] at g2
    have : ¬ thr b t := fun g => hp ⟨ho, hk, g⟩
    unfold thr at this
    have hnb : ¬ t < b.2.2.2.2.2.2.1 := fun g => h1 b hb ⟨ho, hk, g⟩
    omega
theorem pur_at {l : List (Int × (Int × (Int × (List Int × (Int × (Int × (Int × (Int × (Int × (Int × Unit))))))))))} {o t s : Int} (h : purE l o t = 0) (hs : t ≤ s) {k : Nat} (hk : k < l.length) (ho : ((purF o t l).getD k d0).2.2.1 = o) (h4 : ((purF o t l).getD k d0).2.1 ≠ 4) : ((purF o t l).getD k d0).1 ∉ atL (purF o t l) o s := by
  obtain ⟨h0, h1, h2⟩ := pur_zero h
  unfold atL
  split
  · intro g
    obtain ⟨a, ha, g1, g2⟩ := ids_mem.1 g
    obtain ⟨ha1, ha2⟩ := List.mem_filter.1 ha
    obtain ⟨m, hm, e⟩ := List.mem_iff_getElem.1 ha1
    have e : (purF o t l).getD m d0 = a := by rw [List.getD_eq_getElem?_getD, List.getElem?_eq_getElem hm]; exact e
    have := id_inj h2 hm (by rw [purF_len]; exact hk) (by rw [e]; exact g2)
    subst this
    rw [← e, purF_get hk] at g1
    rw [purF_get hk, pg1_ob] at ho
    rw [purF_get hk, pg1_kd] at h4
    exact gone_at h hs (getD_mem d0 l m hk) ho h4 (of_decide_eq_true g1)
  · simp
theorem pur_go {l : List (Int × (Int × (Int × (List Int × (Int × (Int × (Int × (Int × (Int × (Int × Unit))))))))))} {o t : Int} {k : Nat} (hk : k < l.length) (ho : ((purF o t l).getD k d0).2.2.1 ≠ o) : ((purF o t l).getD k d0).2.2.2.2.2.2.2.1 = (l.getD k d0).2.2.2.2.2.2.2.1 := by
  rw [purF_get hk, pg1_ob] at ho
  rw [purF_get hk, pg1_go, if_neg fun g => ho g.1]
theorem pur_told {l : List (Int × (Int × (Int × (List Int × (Int × (Int × (Int × (Int × (Int × (Int × Unit))))))))))} {o t need : Int} {cs : List (Int × (Int × Unit))} (h : purE l o t = 0) (hs : ∀ c ∈ cs, ¬ c.2.1 < t) : tolT (purF o t l) o need 0 cs = false := by
  obtain ⟨h0, h1, h2⟩ := pur_zero h
  have key : ∀ a ∈ sn 0 cs (fO o (purF o t l)), a.2.1 = 4 := fun a ha => by
    obtain ⟨ha1, ha2⟩ := List.mem_filter.1 ha
    obtain ⟨ha3, ha4⟩ := List.mem_filter.1 ha1
    obtain ⟨b, hb, rfl⟩ := List.mem_map.1 ha3
    have ho := of_decide_eq_true ha4
    rw [pg1_ob] at ho
    refine Classical.byContradiction fun hk => ?_
    rw [pg1_kd] at hk
    have hsee : seeP 0 cs (pg1 o t b) := of_decide_eq_true ha2
    rcases hsee with ⟨g, _⟩ | ⟨c, hc, _, g2⟩
    · rw [Int.zero_ediv] at g; cases g
    · exact gone_at h (by have := hs c hc; omega) hb ho hk g2
  have h1 : srcS (sn 0 cs (fO o (purF o t l))) = false := by
    cases e : srcS (sn 0 cs (fO o (purF o t l))) with
    | false => rfl
    | true =>
      obtain ⟨a, ha, g⟩ := List.any_eq_true.1 e
      have := key a ha
      have g := of_decide_eq_true g
      omega
  have h2 : covS (sn 0 cs (fO o (purF o t l))) = false := by
    cases e : covS (sn 0 cs (fO o (purF o t l))) with
    | false => rfl
    | true =>
      obtain ⟨a, ha, g⟩ := List.any_eq_true.1 e
      have := key a ha
      have g := of_decide_eq_true g
      omega
  unfold tolT tolB
  rw [h1, h2]
  cases decide (tolE (purF o t l) o need 0 cs = 0) <;> rfl
end Go.Proofs.Ytgljcfnplkcfhaa.S38

namespace Go.Proofs.Ytgljcfnplkcfhaa.S38
open Go Go.Proofs.Ytgljcfnplkcfhaa.Vc Go.Proofs
set_option maxRecDepth 100000
set_option linter.unusedVariables false

noncomputable def sLPur : List V → Option (Prop × V × List Blk)
  | [.sl false (.cons (.int .i64) (.cons (.int .i64) (.cons (.int .i64) (.cons (.sl (.int .i64)) (.cons (.int .i64) (.cons (.int .i64) (.cons (.int .i64) (.cons (.int .i64) (.cons (.int .i64) (.cons (.int .i64) .nil)))))))))) l, .dat false (.arr 4 (.int .i64)) nu, .sl false (.cons (.int .i64) (.cons (.int .i64) .nil)) cs] => some (l.length ≤ 1048576 ∧ (∀ a ∈ l, a.2.2.2.1.length ≤ 1048576) ∧ nu.length = 4 ∧ cs.length ≤ 1048576, .b True, [])
  | _ => none
set_option maxHeartbeats 4000000 in
theorem bLPur (l : List (Int × (Int × (Int × (List Int × (Int × (Int × (Int × (Int × (Int × (Int × Unit))))))))))) (nu : List Int) (cs : List (Int × (Int × Unit))) (hp0 : l.length ≤ 1048576) (hp1 : (∀ a ∈ l, a.2.2.2.1.length ≤ 1048576)) (hp2 : nu.length = 4) (hp3 : cs.length ≤ 1048576) : bodyP (En CRCk tys [] QOfs) Try.f13 [.k] [.sl false (.cons (.int .i64) (.cons (.int .i64) (.cons (.int .i64) (.cons (.sl (.int .i64)) (.cons (.int .i64) (.cons (.int .i64) (.cons (.int .i64) (.cons (.int .i64) (.cons (.int .i64) (.cons (.int .i64) .nil)))))))))) l, .dat false (.arr 4 (.int .i64)) nu, .sl false (.cons (.int .i64) (.cons (.int .i64) .nil)) cs] (.b True) [] := by
 obtain ⟨w1, w2⟩ := purL_ok (o := (nu.getD 0 0)) (t := (nu.getD 1 0)) hp1
 have w3 := laL_len (purL l (nu.getD 0 0) (nu.getD 1 0)) (nu.getD 0 0) (nu.getD 1 0)
 have w4 := atL_len (purL l (nu.getD 0 0) (nu.getD 1 0)) (nu.getD 0 0) (nu.getD 2 0)
 refine ⟨⟨rfl, by first | assumption | rfl | simp⟩, by kernel_rfl, ⟨by show (0 : Int) ≤ 0; omega, by show 0 < (4 : Int); omega, by first | assumption | rfl | simp⟩, ⟨by show (0 : Int) ≤ 1; omega, by show 1 < (4 : Int); omega, by first | assumption | rfl | simp⟩, ⟨by show (0 : Int) ≤ 2; omega, by show 2 < (4 : Int); omega, by first | assumption | rfl | simp⟩, rfl, by show l.length ≤ 1048576; first | omega | assumption, fun h0 => ?_, fun h0 => ?_⟩
 ·replace h0 : ¬ (¬ (fewA l 30)) := h0
  refine ⟨⟨by show l.length ≤ 1048576; first | omega | assumption, by first | assumption | simp⟩, fun h1 => ?_, fun h1 => ?_⟩
  ·replace h1 : ¬ ((chkL l) ≠ 0) := h1
   refine ⟨fun h2 => ?_, fun h2 => ?_⟩
   ·replace h2 : 20 < (cs.length : Int) := h2
    refine ⟨trivial, ?_⟩
    exact ⟨rfl, rfl, congrArg V.b (propext ⟨fun _ => trivial, fun _ => by first | trivial | rfl⟩), rfl⟩
   ·replace h2 : ¬ (20 < (cs.length : Int)) := h2
    refine ⟨rfl, rfl, ⟨by show l.length ≤ 1048576; first | omega | assumption, by first | assumption | simp⟩, fun h3 => ?_, fun h3 => ?_⟩
    ·replace h3 : (purE l (nu.getD 0 0) (nu.getD 1 0)) ≠ 0 := h3
     refine ⟨trivial, fun h4 => ?_, fun h4 => absurd (show True by trivial) h4⟩
     exact ⟨rfl, rfl, congrArg V.b (propext ⟨fun _ => trivial, fun _ => show (((purL l (nu.getD 0 0) (nu.getD 1 0)).length : Nat) : Int) = 0 from (by rw [pur_err h3]; rfl)⟩), rfl⟩
    ·replace h3 : ¬ ((purE l (nu.getD 0 0) (nu.getD 1 0)) ≠ 0) := h3
     have hE : purE l (nu.getD 0 0) (nu.getD 1 0) = 0 := Classical.not_not.1 h3
     have hY := pur_yes hE
     obtain ⟨hA, _, hZ⟩ := pur_zero hE
     obtain ⟨_, hob, hT⟩ := ask_ok hA
     have hPl : (purL l (nu.getD 0 0) (nu.getD 1 0)).length = l.length := by rw [hY, purF_len]
     refine ⟨rfl, rfl, ⟨by show (purL l (nu.getD 0 0) (nu.getD 1 0)).length ≤ 1048576; first | omega | assumption, by first | assumption | simp⟩, fun h5 => ?_, fun h5 => absurd h5 (show ¬ ((askE (purL l (nu.getD 0 0) (nu.getD 1 0)) (nu.getD 0 0) (nu.getD 1 0) 0 1000000) ≠ 0) by rw [hY, pur_ask hE, if_pos hT]; exact fun h => h rfl)⟩
     refine ⟨fun h6 => ?_, fun h6 => absurd h6 (show ¬ (0 < (((laL (purL l (nu.getD 0 0) (nu.getD 1 0)) (nu.getD 0 0) (nu.getD 1 0)).length : Nat) : Int)) by rw [hY, pur_late hE]; decide)⟩
     refine ⟨fun h7 => ?_, fun h7 => absurd h7 (show ¬ ((((purL l (nu.getD 0 0) (nu.getD 1 0)).length : Nat) : Int) ≠ (l.length : Int)) by rw [hY, purF_len]; exact fun h => h rfl)⟩
     refine ⟨⟨by show (purL l (nu.getD 0 0) (nu.getD 1 0)).length ≤ 1048576; first | omega | assumption, by first | assumption | simp⟩, fun h8 => absurd h8 (show ¬ ((chkL (purL l (nu.getD 0 0) (nu.getD 1 0))) ≠ 0) by rw [hY]; exact fun h => h hZ), fun h8 => ?_⟩
     refine ⟨rfl, rfl, ⟨by show (purL l (nu.getD 0 0) (nu.getD 1 0)).length ≤ 1048576; first | omega | assumption, by first | assumption | simp⟩, 4, [(0, .k), (2, .k), (4, .k), (7, .k), (8, .k), (9, .k), (10, .k), (14, .k), (15, .k), (90, .k), (91, .k), (92, .k)], fun nM vs H => ∃ (k : Nat), k ≤ (purL l (nu.getD 0 0) (nu.getD 1 0)).length ∧ nM = (purL l (nu.getD 0 0) (nu.getD 1 0)).length - k ∧ vs = [.sl false (.cons (.int .i64) (.cons (.int .i64) (.cons (.int .i64) (.cons (.sl (.int .i64)) (.cons (.int .i64) (.cons (.int .i64) (.cons (.int .i64) (.cons (.int .i64) (.cons (.int .i64) (.cons (.int .i64) .nil)))))))))) l, .sl false (.cons (.int .i64) (.cons (.int .i64) .nil)) cs, .ptr 0 1 0 0, .int .i64 (nu.getD 0 0), .int .i64 (nu.getD 1 0), .int .i64 (nu.getD 2 0), .own (.cons (.int .i64) (.cons (.int .i64) (.cons (.int .i64) (.cons (.sl (.int .i64)) (.cons (.int .i64) (.cons (.int .i64) (.cons (.int .i64) (.cons (.int .i64) (.cons (.int .i64) (.cons (.int .i64) .nil)))))))))) 1, .own (.int .i64) 3, .int .i64 (askE (purL l (nu.getD 0 0) (nu.getD 1 0)) (nu.getD 0 0) (nu.getD 2 0) 0 1000000), .own (.cons (.int .i64) (.cons (.int .i64) (.cons (.int .i64) (.cons (.sl (.int .i64)) (.cons (.int .i64) (.cons (.int .i64) (.cons (.int .i64) (.cons (.int .i64) (.cons (.int .i64) (.cons (.int .i64) .nil)))))))))) 1, .int .i64 (((purL l (nu.getD 0 0) (nu.getD 1 0)).length : Nat) : Int), .int .i64 (k : Int)] ∧ H = [.row true (.int .i64) nu, .row false (.cons (.int .i64) (.cons (.int .i64) (.cons (.int .i64) (.cons (.sl (.int .i64)) (.cons (.int .i64) (.cons (.int .i64) (.cons (.int .i64) (.cons (.int .i64) (.cons (.int .i64) (.cons (.int .i64) .nil)))))))))) (purL l (nu.getD 0 0) (nu.getD 1 0)), .row true (.int .i64) (laL (purL l (nu.getD 0 0) (nu.getD 1 0)) (nu.getD 0 0) (nu.getD 1 0)), .row true (.int .i64) (atL (purL l (nu.getD 0 0) (nu.getD 1 0)) (nu.getD 0 0) (nu.getD 2 0))], ⟨rfl, (purL l (nu.getD 0 0) (nu.getD 1 0)).length, 0, by omega, by omega, rfl, rfl⟩, ?_⟩
     rintro nM vs H ⟨k, hc1_0, rfl, rfl, rfl⟩
     have hkk : k < (purL l (nu.getD 0 0) (nu.getD 1 0)).length → k < l.length := fun g => by omega
     refine ⟨fun h9 => ?_, fun h9 => ?_⟩
     ·replace h9 : (k : Int) < (((purL l (nu.getD 0 0) (nu.getD 1 0)).length : Nat) : Int) := h9
      refine ⟨⟨by show (0 : Int) ≤ (k : Int); omega, by show (k : Int) < ((purL l (nu.getD 0 0) (nu.getD 1 0)).length : Int); omega⟩, ⟨rfl, rfl, rfl, Nat.le_of_ble_eq_true rfl⟩, by kernel_rfl, fun h10 => ?_, fun h10 => ?_⟩
      ·replace h10 : ((purL l (nu.getD 0 0) (nu.getD 1 0)).getD k d0).2.2.1 ≠ (nu.getD 0 0) := h10
       refine ⟨fun h11 => ?_, fun h11 => absurd (show ((purL l (nu.getD 0 0) (nu.getD 1 0)).getD k d0).2.2.1 ≠ (nu.getD 0 0) by first | omega | assumption | simp_all) h11⟩
       refine ⟨fun h12 => ?_, fun h12 => absurd (show ((purL l (nu.getD 0 0) (nu.getD 1 0)).getD k d0).2.2.1 ≠ (nu.getD 0 0) by first | omega | assumption | simp_all) h12⟩
       refine ⟨fun h13 => ?_, fun h13 => absurd (show ((purL l (nu.getD 0 0) (nu.getD 1 0)).getD k d0).2.2.1 ≠ (nu.getD 0 0) by first | omega | assumption | simp_all) h13⟩
       refine ⟨fun h14 => ?_, fun h14 => absurd (show ((purL l (nu.getD 0 0) (nu.getD 1 0)).getD k d0).2.2.1 ≠ (nu.getD 0 0) by first | omega | assumption | simp_all) h14⟩
       refine ⟨⟨by show (0 : Int) ≤ (k : Int); omega, by show (k : Int) < (l.length : Int); omega⟩, fun h15 => ?_, fun h15 => absurd (show ((purL l (nu.getD 0 0) (nu.getD 1 0)).getD k d0).2.2.1 ≠ (nu.getD 0 0) by first | omega | assumption | simp_all) h15⟩
       refine ⟨fun h16 => ?_, fun h16 => absurd (show ((purL l (nu.getD 0 0) (nu.getD 1 0)).getD k d0).2.2.1 ≠ (nu.getD 0 0) by first | omega | assumption | simp_all) h16⟩
       refine ⟨fun h17 => ?_, fun h17 => absurd (show ((purL l (nu.getD 0 0) (nu.getD 1 0)).getD k d0).2.2.1 ≠ (nu.getD 0 0) by first | omega | assumption | simp_all) h17⟩
       refine ⟨fun h18 => ?_, fun h18 => absurd (show ((purL l (nu.getD 0 0) (nu.getD 1 0)).getD k d0).2.2.1 ≠ (nu.getD 0 0) by first | omega | assumption | simp_all) h18⟩
       refine ⟨fun h19 => ?_, fun h19 => absurd h19 (show ¬ (((purL l (nu.getD 0 0) (nu.getD 1 0)).getD k d0).2.2.2.2.2.2.2.1 ≠ (l.getD k d0).2.2.2.2.2.2.2.1) by exact fun h => h (by rw [hY]; exact pur_go (hkk (by omega)) (by rw [← hY]; assumption)))⟩
       refine ⟨fun h20 => ?_, fun h20 => absurd h20 (show ¬ (((purL l (nu.getD 0 0) (nu.getD 1 0)).getD k d0).2.2.2.2.2.2.2.1 ≠ (l.getD k d0).2.2.2.2.2.2.2.1) by exact fun h => h (by rw [hY]; exact pur_go (hkk (by omega)) (by rw [← hY]; assumption)))⟩
       refine ⟨fun h21 => ?_, fun h21 => absurd h21 (show ¬ (((purL l (nu.getD 0 0) (nu.getD 1 0)).getD k d0).2.2.2.2.2.2.2.1 ≠ (l.getD k d0).2.2.2.2.2.2.2.1) by exact fun h => h (by rw [hY]; exact pur_go (hkk (by omega)) (by rw [← hY]; assumption)))⟩
       refine ⟨fun h22 => ?_, fun h22 => absurd h22 (show ¬ (((purL l (nu.getD 0 0) (nu.getD 1 0)).getD k d0).2.2.2.2.2.2.2.1 ≠ (l.getD k d0).2.2.2.2.2.2.2.1) by exact fun h => h (by rw [hY]; exact pur_go (hkk (by omega)) (by rw [← hY]; assumption)))⟩
       refine ⟨fun h23 => ?_, fun h23 => absurd h23 (show ¬ (((purL l (nu.getD 0 0) (nu.getD 1 0)).getD k d0).2.2.2.2.2.2.2.1 ≠ (l.getD k d0).2.2.2.2.2.2.2.1) by exact fun h => h (by rw [hY]; exact pur_go (hkk (by omega)) (by rw [← hY]; assumption)))⟩
       refine ⟨fun h24 => absurd h24 (show ¬ (((purL l (nu.getD 0 0) (nu.getD 1 0)).getD k d0).2.2.1 = (nu.getD 0 0)) by first | omega | assumption | simp_all), fun h24 => ?_⟩
       refine ⟨fun h25 => absurd h25 (show ¬ (((purL l (nu.getD 0 0) (nu.getD 1 0)).getD k d0).2.2.1 = (nu.getD 0 0)) by first | omega | assumption | simp_all), fun h25 => ?_⟩
       refine ⟨fun h26 => ?_, fun h26 => absurd h26 (show ¬ (((purL l (nu.getD 0 0) (nu.getD 1 0)).getD k d0).2.2.2.2.2.2.2.1 ≠ (l.getD k d0).2.2.2.2.2.2.2.1) by exact fun h => h (by rw [hY]; exact pur_go (hkk (by omega)) (by rw [← hY]; assumption)))⟩
       refine ⟨fun h27 => absurd h27 (show ¬ (((purL l (nu.getD 0 0) (nu.getD 1 0)).getD k d0).2.2.1 = (nu.getD 0 0)) by first | omega | assumption | simp_all), fun h27 => ?_⟩
       refine ⟨fun h28 => ?_, fun h28 => absurd h28 (show ¬ (((purL l (nu.getD 0 0) (nu.getD 1 0)).getD k d0).2.2.2.2.2.2.2.1 ≠ (l.getD k d0).2.2.2.2.2.2.2.1) by exact fun h => h (by rw [hY]; exact pur_go (hkk (by omega)) (by rw [← hY]; assumption)))⟩
       refine ⟨fun h29 => ?_, fun h29 => absurd h29 (show ¬ (((purL l (nu.getD 0 0) (nu.getD 1 0)).getD k d0).2.2.2.2.2.2.2.1 ≠ (l.getD k d0).2.2.2.2.2.2.2.1) by exact fun h => h (by rw [hY]; exact pur_go (hkk (by omega)) (by rw [← hY]; assumption)))⟩
       refine ⟨fun h30 => ?_, fun h30 => absurd h30 (show ¬ (((purL l (nu.getD 0 0) (nu.getD 1 0)).getD k d0).2.2.2.2.2.2.2.1 ≠ (l.getD k d0).2.2.2.2.2.2.2.1) by exact fun h => h (by rw [hY]; exact pur_go (hkk (by omega)) (by rw [← hY]; assumption)))⟩
       refine ⟨fun h31 => ?_, fun h31 => absurd h31 (show ¬ (((purL l (nu.getD 0 0) (nu.getD 1 0)).getD k d0).2.2.2.2.2.2.2.1 ≠ (l.getD k d0).2.2.2.2.2.2.2.1) by exact fun h => h (by rw [hY]; exact pur_go (hkk (by omega)) (by rw [← hY]; assumption)))⟩
       refine ⟨fun h32 => ?_, fun h32 => absurd h32 (show ¬ (((purL l (nu.getD 0 0) (nu.getD 1 0)).getD k d0).2.2.2.2.2.2.2.1 ≠ (l.getD k d0).2.2.2.2.2.2.2.1) by exact fun h => h (by rw [hY]; exact pur_go (hkk (by omega)) (by rw [← hY]; assumption)))⟩
       refine ⟨fun h33 => ?_, fun h33 => absurd h33 (show ¬ (((purL l (nu.getD 0 0) (nu.getD 1 0)).getD k d0).2.2.2.2.2.2.2.1 ≠ (l.getD k d0).2.2.2.2.2.2.2.1) by exact fun h => h (by rw [hY]; exact pur_go (hkk (by omega)) (by rw [← hY]; assumption)))⟩
       refine ⟨fun h34 => absurd h34 (show ¬ (((purL l (nu.getD 0 0) (nu.getD 1 0)).getD k d0).2.2.2.2.2.2.2.1 ≠ (l.getD k d0).2.2.2.2.2.2.2.1) by exact fun h => h (by rw [hY]; exact pur_go (hkk (by omega)) (by rw [← hY]; assumption))), fun h34 => ?_⟩
       refine ⟨⟨by show (-9223372036854775808 : Int) ≤ ((k : Int) + 1); omega, by show ((k : Int) + 1) ≤ (9223372036854775807 : Int); omega⟩, ?_⟩
       exact ⟨rfl, (purL l (nu.getD 0 0) (nu.getD 1 0)).length - (k + 1), by omega, k + 1, by omega, rfl, rfl, rfl⟩
      ·replace h10 : ¬ (((purL l (nu.getD 0 0) (nu.getD 1 0)).getD k d0).2.2.1 ≠ (nu.getD 0 0)) := h10
       refine ⟨fun h35 => absurd h35 (show ¬ (((purL l (nu.getD 0 0) (nu.getD 1 0)).getD k d0).2.2.1 ≠ (nu.getD 0 0)) by first | omega | assumption | simp_all), fun h35 => ?_⟩
       refine ⟨fun h36 => absurd h36 (show ¬ (((purL l (nu.getD 0 0) (nu.getD 1 0)).getD k d0).2.2.1 ≠ (nu.getD 0 0)) by first | omega | assumption | simp_all), fun h36 => ?_⟩
       refine ⟨fun h37 => absurd h37 (show ¬ (((purL l (nu.getD 0 0) (nu.getD 1 0)).getD k d0).2.2.1 ≠ (nu.getD 0 0)) by first | omega | assumption | simp_all), fun h37 => ?_⟩
       refine ⟨fun h38 => absurd h38 (show ¬ (((purL l (nu.getD 0 0) (nu.getD 1 0)).getD k d0).2.2.1 ≠ (nu.getD 0 0)) by first | omega | assumption | simp_all), fun h38 => ?_⟩
       refine ⟨fun h39 => absurd h39 (show ¬ (((purL l (nu.getD 0 0) (nu.getD 1 0)).getD k d0).2.2.1 ≠ (nu.getD 0 0)) by first | omega | assumption | simp_all), fun h39 => ?_⟩
       refine ⟨fun h40 => absurd h40 (show ¬ (((purL l (nu.getD 0 0) (nu.getD 1 0)).getD k d0).2.2.1 ≠ (nu.getD 0 0)) by first | omega | assumption | simp_all), fun h40 => ?_⟩
       refine ⟨fun h41 => absurd h41 (show ¬ (((purL l (nu.getD 0 0) (nu.getD 1 0)).getD k d0).2.2.1 ≠ (nu.getD 0 0)) by first | omega | assumption | simp_all), fun h41 => ?_⟩
       refine ⟨fun h42 => absurd h42 (show ¬ (((purL l (nu.getD 0 0) (nu.getD 1 0)).getD k d0).2.2.1 ≠ (nu.getD 0 0)) by first | omega | assumption | simp_all), fun h42 => ?_⟩
       refine ⟨fun h43 => ?_, fun h43 => absurd (show ((purL l (nu.getD 0 0) (nu.getD 1 0)).getD k d0).2.2.1 = (nu.getD 0 0) by first | omega | assumption | simp_all) h43⟩
       refine ⟨fun h44 => ?_, fun h44 => absurd (show ((purL l (nu.getD 0 0) (nu.getD 1 0)).getD k d0).2.2.1 = (nu.getD 0 0) by first | omega | assumption | simp_all) h44⟩
       refine ⟨fun h45 => ?_, fun h45 => absurd (show ((purL l (nu.getD 0 0) (nu.getD 1 0)).getD k d0).2.2.1 = (nu.getD 0 0) by first | omega | assumption | simp_all) h45⟩
       refine ⟨fun h46 => ?_, fun h46 => ?_⟩
       ·replace h46 : (askE (purL l (nu.getD 0 0) (nu.getD 1 0)) (nu.getD 0 0) (nu.getD 2 0) 0 1000000) = 0 := h46
        refine ⟨fun h47 => ?_, fun h47 => absurd (show (askE (purL l (nu.getD 0 0) (nu.getD 1 0)) (nu.getD 0 0) (nu.getD 2 0) 0 1000000) = 0 by first | omega | assumption | simp_all) h47⟩
        refine ⟨fun h48 => ?_, fun h48 => absurd (show (askE (purL l (nu.getD 0 0) (nu.getD 1 0)) (nu.getD 0 0) (nu.getD 2 0) 0 1000000) = 0 by first | omega | assumption | simp_all) h48⟩
        refine ⟨fun h49 => ?_, fun h49 => absurd (show (askE (purL l (nu.getD 0 0) (nu.getD 1 0)) (nu.getD 0 0) (nu.getD 2 0) 0 1000000) = 0 by first | omega | assumption | simp_all) h49⟩
        refine ⟨fun h50 => ?_, fun h50 => ?_⟩
        ·replace h50 : (nu.getD 1 0) ≤ (nu.getD 2 0) := h50
         refine ⟨fun h51 => ?_, fun h51 => absurd (show (nu.getD 1 0) ≤ (nu.getD 2 0) by first | omega | assumption | simp_all) h51⟩
         refine ⟨fun h52 => ?_, fun h52 => absurd (show (nu.getD 1 0) ≤ (nu.getD 2 0) by first | omega | assumption | simp_all) h52⟩
         refine ⟨fun h53 => ?_, fun h53 => absurd (show (nu.getD 1 0) ≤ (nu.getD 2 0) by first | omega | assumption | simp_all) h53⟩
         refine ⟨fun h54 => ?_, fun h54 => ?_⟩
         ·replace h54 : ((purL l (nu.getD 0 0) (nu.getD 1 0)).getD k d0).2.1 ≠ 4 := h54
          refine ⟨fun h55 => ?_, fun h55 => absurd (show ((purL l (nu.getD 0 0) (nu.getD 1 0)).getD k d0).2.1 ≠ 4 by first | omega | assumption | simp_all) h55⟩
          refine ⟨fun h56 => ?_, fun h56 => absurd (show ((purL l (nu.getD 0 0) (nu.getD 1 0)).getD k d0).2.1 ≠ 4 by first | omega | assumption | simp_all) h56⟩
          refine ⟨fun h57 => ?_, fun h57 => absurd (show ((purL l (nu.getD 0 0) (nu.getD 1 0)).getD k d0).2.1 ≠ 4 by first | omega | assumption | simp_all) h57⟩
          refine ⟨rfl, by show (atL (purL l (nu.getD 0 0) (nu.getD 1 0)) (nu.getD 0 0) (nu.getD 2 0)).length ≤ 1048576; first | omega | assumption, fun h58 => ?_, fun h58 => absurd (show ((purL l (nu.getD 0 0) (nu.getD 1 0)).getD k d0).2.1 ≠ 4 by first | omega | assumption | simp_all) h58⟩
          refine ⟨fun h59 => absurd h59 (show ¬ (((purL l (nu.getD 0 0) (nu.getD 1 0)).getD k d0).1 ∈ (atL (purL l (nu.getD 0 0) (nu.getD 1 0)) (nu.getD 0 0) (nu.getD 2 0))) by rw [hY]; exact pur_at hE (by assumption) (hkk (by omega)) (by rw [← hY]; first | assumption | (exact Classical.not_not.1 (by assumption))) (by rw [← hY]; assumption)), fun h59 => ?_⟩
          refine ⟨⟨by show (-9223372036854775808 : Int) ≤ ((k : Int) + 1); omega, by show ((k : Int) + 1) ≤ (9223372036854775807 : Int); omega⟩, ?_⟩
          exact ⟨rfl, (purL l (nu.getD 0 0) (nu.getD 1 0)).length - (k + 1), by omega, k + 1, by omega, rfl, rfl, rfl⟩
         ·replace h54 : ¬ (((purL l (nu.getD 0 0) (nu.getD 1 0)).getD k d0).2.1 ≠ 4) := h54
          refine ⟨fun h60 => absurd h60 (show ¬ (((purL l (nu.getD 0 0) (nu.getD 1 0)).getD k d0).2.1 ≠ 4) by first | omega | assumption | simp_all), fun h60 => ?_⟩
          refine ⟨fun h61 => absurd h61 (show ¬ (((purL l (nu.getD 0 0) (nu.getD 1 0)).getD k d0).2.1 ≠ 4) by first | omega | assumption | simp_all), fun h61 => ?_⟩
          refine ⟨fun h62 => absurd h62 (show ¬ (((purL l (nu.getD 0 0) (nu.getD 1 0)).getD k d0).2.1 ≠ 4) by first | omega | assumption | simp_all), fun h62 => ?_⟩
          refine ⟨fun h63 => absurd h63 (show ¬ (((purL l (nu.getD 0 0) (nu.getD 1 0)).getD k d0).2.1 ≠ 4) by first | omega | assumption | simp_all), fun h63 => ?_⟩
          refine ⟨⟨by show (-9223372036854775808 : Int) ≤ ((k : Int) + 1); omega, by show ((k : Int) + 1) ≤ (9223372036854775807 : Int); omega⟩, ?_⟩
          exact ⟨rfl, (purL l (nu.getD 0 0) (nu.getD 1 0)).length - (k + 1), by omega, k + 1, by omega, rfl, rfl, rfl⟩
        ·replace h50 : ¬ ((nu.getD 1 0) ≤ (nu.getD 2 0)) := h50
         refine ⟨fun h64 => absurd h64 (show ¬ ((nu.getD 1 0) ≤ (nu.getD 2 0)) by first | omega | assumption | simp_all), fun h64 => ?_⟩
         refine ⟨fun h65 => absurd h65 (show ¬ ((nu.getD 1 0) ≤ (nu.getD 2 0)) by first | omega | assumption | simp_all), fun h65 => ?_⟩
         refine ⟨fun h66 => absurd h66 (show ¬ ((nu.getD 1 0) ≤ (nu.getD 2 0)) by first | omega | assumption | simp_all), fun h66 => ?_⟩
         refine ⟨⟨by show (-9223372036854775808 : Int) ≤ ((k : Int) + 1); omega, by show ((k : Int) + 1) ≤ (9223372036854775807 : Int); omega⟩, ?_⟩
         exact ⟨rfl, (purL l (nu.getD 0 0) (nu.getD 1 0)).length - (k + 1), by omega, k + 1, by omega, rfl, rfl, rfl⟩
       ·replace h46 : ¬ ((askE (purL l (nu.getD 0 0) (nu.getD 1 0)) (nu.getD 0 0) (nu.getD 2 0) 0 1000000) = 0) := h46
        refine ⟨fun h67 => absurd h67 (show ¬ ((askE (purL l (nu.getD 0 0) (nu.getD 1 0)) (nu.getD 0 0) (nu.getD 2 0) 0 1000000) = 0) by first | omega | assumption | simp_all), fun h67 => ?_⟩
        refine ⟨fun h68 => absurd h68 (show ¬ ((askE (purL l (nu.getD 0 0) (nu.getD 1 0)) (nu.getD 0 0) (nu.getD 2 0) 0 1000000) = 0) by first | omega | assumption | simp_all), fun h68 => ?_⟩
        refine ⟨fun h69 => absurd h69 (show ¬ ((askE (purL l (nu.getD 0 0) (nu.getD 1 0)) (nu.getD 0 0) (nu.getD 2 0) 0 1000000) = 0) by first | omega | assumption | simp_all), fun h69 => ?_⟩
        refine ⟨⟨by show (-9223372036854775808 : Int) ≤ ((k : Int) + 1); omega, by show ((k : Int) + 1) ≤ (9223372036854775807 : Int); omega⟩, ?_⟩
        exact ⟨rfl, (purL l (nu.getD 0 0) (nu.getD 1 0)).length - (k + 1), by omega, k + 1, by omega, rfl, rfl, rfl⟩
     ·replace h9 : ¬ ((k : Int) < (((purL l (nu.getD 0 0) (nu.getD 1 0)).length : Nat) : Int)) := h9
      refine ⟨4, [(2, .k), (4, .k), (7, .k), (8, .k), (10, .k), (138, .k), (139, .k), (140, .k)], fun nM vs H => ∃ (k : Nat), k ≤ cs.length ∧ (∀ x ∈ cs.take k, ¬ x.2.1 < (nu.getD 1 0)) ∧ nM = cs.length - k ∧ vs = [.sl false (.cons (.int .i64) (.cons (.int .i64) .nil)) cs, .ptr 0 1 0 0, .int .i64 (nu.getD 0 0), .int .i64 (nu.getD 1 0), .own (.cons (.int .i64) (.cons (.int .i64) (.cons (.int .i64) (.cons (.sl (.int .i64)) (.cons (.int .i64) (.cons (.int .i64) (.cons (.int .i64) (.cons (.int .i64) (.cons (.int .i64) (.cons (.int .i64) .nil)))))))))) 1, .sl false (.cons (.int .i64) (.cons (.int .i64) .nil)) cs, .int .i64 (cs.length : Int), .int .i64 (k : Int)] ∧ H = [.row true (.int .i64) nu, .row false (.cons (.int .i64) (.cons (.int .i64) (.cons (.int .i64) (.cons (.sl (.int .i64)) (.cons (.int .i64) (.cons (.int .i64) (.cons (.int .i64) (.cons (.int .i64) (.cons (.int .i64) (.cons (.int .i64) .nil)))))))))) (purL l (nu.getD 0 0) (nu.getD 1 0)), .row true (.int .i64) (laL (purL l (nu.getD 0 0) (nu.getD 1 0)) (nu.getD 0 0) (nu.getD 1 0)), .row true (.int .i64) (atL (purL l (nu.getD 0 0) (nu.getD 1 0)) (nu.getD 0 0) (nu.getD 2 0))], ⟨rfl, cs.length, 0, by omega, by simp, by omega, rfl, rfl⟩, ?_⟩
      rintro nM vs H ⟨k, hc2_0, hc2_1, rfl, rfl, rfl⟩
      refine ⟨fun h70 => ?_, fun h70 => ?_⟩
      ·replace h70 : (k : Int) < (cs.length : Int) := h70
       refine ⟨⟨by show (0 : Int) ≤ (k : Int); omega, by show (k : Int) < (cs.length : Int); omega⟩, ⟨rfl, rfl, rfl, Nat.le_of_ble_eq_true rfl⟩, fun h71 => ?_, fun h71 => ?_⟩
       ·replace h71 : (cs.getD k (0, (0, ()))).2.1 < (nu.getD 1 0) := h71
        refine ⟨trivial, ?_⟩
        exact ⟨rfl, rfl, congrArg V.b (propext ⟨fun _ => trivial, fun _ => by first | trivial | rfl⟩), rfl⟩
       ·replace h71 : ¬ ((cs.getD k (0, (0, ()))).2.1 < (nu.getD 1 0)) := h71
        refine ⟨⟨by show (-9223372036854775808 : Int) ≤ ((k : Int) + 1); omega, by show ((k : Int) + 1) ≤ (9223372036854775807 : Int); omega⟩, ?_⟩
        exact ⟨rfl, cs.length - (k + 1), by omega, k + 1, by omega, all_nextG (d := (0, (0, ()))) (p := fun x : (Int × (Int × Unit)) => ¬ x.2.1 < (nu.getD 1 0)) (by omega) (by assumption) (by assumption), rfl, rfl, rfl⟩
      ·replace h70 : ¬ ((k : Int) < (cs.length : Int)) := h70
       refine ⟨⟨by show (0 : Int) ≤ 3; omega, by show 3 < (4 : Int); omega, by first | assumption | rfl | simp⟩, rfl, rfl, rfl, ⟨by show (purL l (nu.getD 0 0) (nu.getD 1 0)).length ≤ 1048576; first | omega | assumption, by first | assumption | simp, by show cs.length ≤ 1048576; first | omega | assumption⟩, trivial, fun h72 => ?_, fun h72 => absurd (show True by trivial) h72⟩
       refine ⟨fun h73 => ?_, fun h73 => ?_⟩
       ·replace h73 : ¬ ((tolE (purL l (nu.getD 0 0) (nu.getD 1 0)) (nu.getD 0 0) (nu.getD 3 0) 0 cs) ≠ 0) := h73
        exact ⟨rfl, rfl, congrArg V.b (propext ⟨fun _ => trivial, fun _ => by rw [hY, pur_told hE (fun c hc => hc2_1 c (by rw [List.take_of_length_le (by omega)]; exact hc))]; decide⟩), rfl⟩
       ·replace h73 : (tolE (purL l (nu.getD 0 0) (nu.getD 1 0)) (nu.getD 0 0) (nu.getD 3 0) 0 cs) ≠ 0 := h73
        exact ⟨rfl, rfl, congrArg V.b (propext ⟨fun _ => trivial, fun _ => by first | trivial | rfl⟩), rfl⟩
  ·replace h1 : (chkL l) ≠ 0 := h1
   refine ⟨trivial, ?_⟩
   exact ⟨rfl, rfl, congrArg V.b (propext ⟨fun _ => trivial, fun _ => by first | trivial | rfl⟩), rfl⟩
 ·replace h0 : ¬ (fewA l 30) := h0
  refine ⟨trivial, ?_⟩
  exact ⟨rfl, rfl, congrArg V.b (propext ⟨fun _ => trivial, fun _ => by first | trivial | rfl⟩), rfl⟩
end Go.Proofs.Ytgljcfnplkcfhaa.S38

/- Texts of this claim: S28.Pd, S28.M0, S28.M1, S28.A5, S28.XPa, S28.XPb, S28.XQ1, S28.XQ2, S28.XR1, S28.XQ0, S28.XPc, S28.XQ3. -/
import Derived.Test.YtpfehhcljeagoaaDoorS1
import Derived.Test.YtpfehhcljeagoaaDoorVc9
import Derived.KernelRfl
set_option linter.unusedVariables false
set_option linter.unusedSimpArgs false
namespace Go.Proofs.YtpfehhcljeagoaaDoor.S28
open Go

/-! ### deals that are made -/
theorem kr4 {P : Prop} {v : Go.Proofs.YtpfehhcljeagoaaDoor.Vc.V} (h : ((true = true) ∧ (true = true) ∧ (v = v) ∧ (([] : List Go.Proofs.YtpfehhcljeagoaaDoor.Vc.Blk) = [])) = P) : P := Eq.mp h ⟨rfl, rfl, rfl, rfl⟩
theorem prod_bd {nd sz : Int} (h2 : 2 ≤ nd) (h12 : nd ≤ 12) (hz : 0 ≤ sz) (h4 : sz ≤ 4096) : (0 ≤ sz * (nd - 1) ∧ sz * (nd - 1) ≤ 45056) ∧ (0 ≤ (sz * (nd - 1)) * ((nd - 1) + 1) ∧ (sz * (nd - 1)) * ((nd - 1) + 1) ≤ 540672) ∧ ((sz * (nd - 1)) * ((nd - 1) + 1)) / 2 = sz * (((nd - 1) * nd) / 2) := by
 obtain rfl | rfl | rfl | rfl | rfl | rfl | rfl | rfl | rfl | rfl | rfl : nd = 2 ∨ nd = 3 ∨ nd = 4 ∨ nd = 5 ∨ nd = 6 ∨ nd = 7 ∨ nd = 8 ∨ nd = 9 ∨ nd = 10 ∨ nd = 11 ∨ nd = 12 := by omega
 all_goals omega
theorem yy {p X Y : Prop} (h : p) (x : X) : (p → X) ∧ (¬p → Y) := ⟨fun _ => x, fun g => absurd h g⟩
theorem nn {p X Y : Prop} (h : ¬p) (y : Y) : (p → X) ∧ (¬p → Y) := ⟨fun g => absurd g h, fun _ => y⟩
theorem ww {α β : Sort _} {a : α} {b : β} : a = a ∧ b = b := ⟨rfl, rfl⟩
theorem ww3 {α β γ : Sort _} {a : α} {b : β} {c : γ} : a = a ∧ b = b ∧ c = c := ⟨rfl, rfl, rfl⟩
theorem q {p : Prop} [d : Decidable p] (h : Decidable.decide p = true := by kernel_rfl) : p := of_decide_eq_true h
def dn (z : Nat) : Nat → List UInt8 → List UInt8
 | 0, s => s
 | k + 1, s => (dn z k s).drop z
theorem dn_eq (z : Nat) : ∀ (k : Nat) (s : List UInt8), dn z k s = s.drop (k * z)
 | 0, s => by simp [dn]
 | k + 1, s => by rw [dn, dn_eq z k s, List.drop_drop, Nat.succ_mul]
theorem dn_len (z k : Nat) (s : List UInt8) : (dn z k s).length = s.length - k * z := by rw [dn_eq, List.length_drop]
theorem cutOk {sz : Int} {s : List UInt8} (K : Nat) (h0 : 0 ≤ sz) (hl : (s.length : Int) = sz * (K : Int)) (k : Nat) (hk : k < K := by decide) : 0 ≤ sz ∧ sz ≤ ((dn sz.toNat k s).length : Int) := by
 refine ⟨h0, ?_⟩
 rw [dn_len]
 obtain ⟨z, rfl⟩ := Int.eq_ofNat_of_zero_le h0
 have h1 : s.length = z * K := by exact_mod_cast hl
 have h2 : (k + 1) * z ≤ K * z := Nat.mul_le_mul_right z hk
 rw [Nat.succ_mul] at h2
 rw [h1, Nat.mul_comm z K]
 show (z : Int) ≤ ((K * z - k * z : Nat) : Int)
 omega
def posT (m a b : Nat) : Nat := bif Nat.ble a b then a * m - a * (a - 1) / 2 + (b - a) else b * m - b * (b - 1) / 2 + (a - b)
def mkD (m z : Nat) (s : List UInt8) : List Rw := (List.range m).map fun a => (List.range m).map fun b => (dn z (posT m a b) s).take z
def mkE (nd sz : Int) (s : List UInt8) : Int := if nd < 2 ∨ 12 < nd ∨ sz < 0 ∨ 4096 < sz then 3 else if (s.length : Int) = sz * (((nd - 1) * nd) / 2) then 0 else 1
def mkN (nd sz : Int) (s : List UInt8) : Int := if mkE nd sz s = 0 then nd else 0
def mkC (nd sz : Int) (s : List UInt8) : List Rw := if mkE nd sz s = 0 then mkD (nd - 1).toNat sz.toNat s else []
theorem mkE3 {nd sz : Int} {s : List UInt8} (h : nd < 2 ∨ 12 < nd ∨ sz < 0 ∨ 4096 < sz) : mkE nd sz s = 3 ∧ mkN nd sz s = 0 ∧ mkC nd sz s = [] := by
 have e : mkE nd sz s = 3 := if_pos h
 refine ⟨e, if_neg (by rw [e]; decide), if_neg (by rw [e]; decide)⟩
theorem mkE1 {nd sz : Int} {s : List UInt8} (h : ¬ (nd < 2 ∨ 12 < nd ∨ sz < 0 ∨ 4096 < sz)) (hl : (s.length : Int) ≠ sz * (((nd - 1) * nd) / 2)) : mkE nd sz s = 1 ∧ mkN nd sz s = 0 ∧ mkC nd sz s = [] := by
 have e : mkE nd sz s = 1 := by unfold mkE; rw [if_neg h, if_neg hl]
 refine ⟨e, if_neg (by rw [e]; decide), if_neg (by rw [e]; decide)⟩
theorem mkE0 {nd sz : Int} {s : List UInt8} (h : ¬ (nd < 2 ∨ 12 < nd ∨ sz < 0 ∨ 4096 < sz)) (hl : (s.length : Int) = sz * (((nd - 1) * nd) / 2)) : mkE nd sz s = 0 ∧ mkN nd sz s = nd ∧ mkC nd sz s = mkD (nd - 1).toNat sz.toNat s := by
 have e : mkE nd sz s = 0 := by unfold mkE; rw [if_neg h, if_pos hl]
 refine ⟨e, if_pos e, if_pos e⟩
end Go.Proofs.YtpfehhcljeagoaaDoor.S28

namespace Go.Proofs.YtpfehhcljeagoaaDoor.S28
open Go Go.Proofs.YtpfehhcljeagoaaDoor.Vc Go.Proofs
set_option maxRecDepth 100000
set_option linter.unusedVariables false

set_option maxHeartbeats 2000000 in
theorem bMk0 (nd : Int) (sz : Int) (nz : List UInt8) (hn : nd < 2 ∨ 12 < nd ∨ sz < 0 ∨ 4096 < sz) : bodyP (En CUpd tys G6 [] [1000000, 1000001]) Tryd.f26 [.m 1 .str, .k] [.int .i64 nd, .int .i64 sz, .str nz] (.tup [.agg [.int .i64 0, .sl true (.sl .str) []], .int .i64 3]) [] := by
 refine ⟨fun h0 => ?_, fun h0 => ?_⟩
 ·replace h0 : ¬ (nd < 2) := h0
  refine ⟨fun h1 => ?_, fun h1 => ?_⟩
  ·replace h1 : ¬ (12 < nd) := h1
   refine ⟨fun h2 => ?_, fun h2 => ?_⟩
   ·replace h2 : ¬ (sz < 0) := h2
    refine ⟨fun h3 => ?_, fun h3 => ?_⟩
    ·replace h3 : 4096 < sz := h3
     refine ⟨⟨rfl, rfl, rfl, Nat.le_of_ble_eq_true rfl⟩, ?_⟩
     exact kr4 (v := .tup [.agg [.int .i64 0, .sl true (.sl .str) []], .int .i64 3]) (by kernel_rfl)
    ·replace h3 : ¬ (4096 < sz) := h3
     omega
   ·replace h2 : sz < 0 := h2
    refine ⟨⟨rfl, rfl, rfl, Nat.le_of_ble_eq_true rfl⟩, ?_⟩
    exact kr4 (v := .tup [.agg [.int .i64 0, .sl true (.sl .str) []], .int .i64 3]) (by kernel_rfl)
  ·replace h1 : 12 < nd := h1
   refine ⟨⟨rfl, rfl, rfl, Nat.le_of_ble_eq_true rfl⟩, ?_⟩
   exact kr4 (v := .tup [.agg [.int .i64 0, .sl true (.sl .str) []], .int .i64 3]) (by kernel_rfl)
 ·replace h0 : nd < 2 := h0
  refine ⟨⟨rfl, rfl, rfl, Nat.le_of_ble_eq_true rfl⟩, ?_⟩
  exact kr4 (v := .tup [.agg [.int .i64 0, .sl true (.sl .str) []], .int .i64 3]) (by kernel_rfl)
set_option maxHeartbeats 2000000 in
theorem bMkN (nd : Int) (sz : Int) (nz : List UInt8) (g2 : 2 ≤ nd) (g12 : nd ≤ 12) (hz : 0 ≤ sz) (hs4 : sz ≤ 4096) (hb1 : 0 ≤ sz * (nd - 1) ∧ sz * (nd - 1) ≤ 45056) (hb2 : 0 ≤ (sz * (nd - 1)) * ((nd - 1) + 1) ∧ (sz * (nd - 1)) * ((nd - 1) + 1) ≤ 540672) (hl : ¬ (nz.length : Int) = ((sz * (nd - 1)) * ((nd - 1) + 1)) / 2) : bodyP (En CUpd tys G6 [] [1000000, 1000001]) Tryd.f26 [.m 1 .str, .k] [.int .i64 nd, .int .i64 sz, .str nz] (.tup [.agg [.int .i64 0, .sl true (.sl .str) []], .int .i64 1]) [] := by
 refine ⟨fun h0 => ?_, fun h0 => ?_⟩
 ·replace h0 : ¬ (nd < 2) := h0
  refine ⟨fun h1 => ?_, fun h1 => ?_⟩
  ·replace h1 : ¬ (12 < nd) := h1
   refine ⟨fun h2 => ?_, fun h2 => ?_⟩
   ·replace h2 : ¬ (sz < 0) := h2
    refine ⟨fun h3 => ?_, fun h3 => ?_⟩
    ·replace h3 : 4096 < sz := h3
     omega
    ·replace h3 : ¬ (4096 < sz) := h3
     refine ⟨(r64 (nd - 1)), (r64 (sz * (nd - 1))), (r64 ((nd - 1) + 1)), (r64 ((sz * (nd - 1)) * ((nd - 1) + 1))), .inl ⟨⟨by show (0 : Int) ≤ ((sz * (nd - 1)) * ((nd - 1) + 1)); omega, by show (0 : Int) < 2; omega⟩, ?_⟩⟩
     refine ⟨fun h4 => ?_, fun h4 => ?_⟩
     ·replace h4 : (nz.length : Int) ≠ (((sz * (nd - 1)) * ((nd - 1) + 1)) / 2) := h4
      refine ⟨⟨rfl, rfl, rfl, Nat.le_of_ble_eq_true rfl⟩, ?_⟩
      exact kr4 (v := .tup [.agg [.int .i64 0, .sl true (.sl .str) []], .int .i64 1]) (by kernel_rfl)
     ·replace h4 : ¬ ((nz.length : Int) ≠ (((sz * (nd - 1)) * ((nd - 1) + 1)) / 2)) := h4
      exact absurd (Classical.not_not.1 h4) hl
   ·replace h2 : sz < 0 := h2
    omega
  ·replace h1 : 12 < nd := h1
   omega
 ·replace h0 : nd < 2 := h0
  omega
end Go.Proofs.YtpfehhcljeagoaaDoor.S28

namespace Go.Proofs.YtpfehhcljeagoaaDoor.S28
open Go Go.Proofs.YtpfehhcljeagoaaDoor.Vc Go.Proofs
set_option maxRecDepth 100000
set_option linter.unusedVariables false

set_option maxHeartbeats 2000000 in
theorem bMk2 (sz : Int) (nz : List UInt8) (hz : 0 ≤ sz) (h1 : sz ≤ 4096) (hl : (nz.length : Int) = sz * ((1 : Nat) : Int)) : bodyP (En CUpd tys G6 [] [1000000, 1000001]) Tryd.f26 [.m 1 .str, .k] [.int .i64 2, .int .i64 sz, .str nz] (.tup [.agg [.int .i64 2, .sl true (.sl .str) (mkD 1 sz.toNat nz)], .int .i64 0]) [] := by
 have c := @cutOk sz nz 1 hz hl
 refine ⟨fun h0 => ?_, fun h0 => absurd h0 (show ¬ ((2 : Int) < 2) by decide)⟩
 refine ⟨fun h1 => ?_, fun h1 => absurd h1 (show ¬ ((12 : Int) < 2) by decide)⟩
 refine ⟨fun h2 => ?_, fun h2 => ?_⟩
 ·replace h2 : ¬ (sz < 0) := h2
  refine ⟨fun h3 => ?_, fun h3 => ?_⟩
  ·replace h3 : 4096 < sz := h3
   omega
  ·replace h3 : ¬ (4096 < sz) := h3
   refine ⟨q, (r64 (sz * 1)), q, (r64 ((sz * 1) * 2)), .inl ⟨⟨by show (0 : Int) ≤ ((sz * 1) * 2); omega, by show (0 : Int) < 2; omega⟩, ?_⟩⟩
   refine ⟨fun h4 => ?_, fun h4 => ?_⟩
   ·replace h4 : (nz.length : Int) ≠ (((sz * 1) * 2) / 2) := h4
    omega
   ·replace h4 : ¬ ((nz.length : Int) ≠ (((sz * 1) * 2) / 2)) := h4
    refine ⟨⟨rfl, by decide, by decide⟩, ⟨rfl, rfl, rfl, Nat.le_of_ble_eq_true rfl⟩, .inr ?_⟩
    refine yy q ?_
    refine ⟨by kernel_rfl, ⟨rfl, by show (0 : Int) ≤ 1; omega, by show 1 ≤ (1000000000 : Int); omega⟩, q, ww3, q, nn q ?_⟩
    refine .inr (yy q ?_)
    refine .inr (yy q ?_)
    refine ⟨by kernel_rfl, q, q, (c 0 q), (c 0 q), q, ww, q, ww, (c 0 q), q, nn q ?_⟩
    refine ⟨q, nn q ?_⟩
    refine ⟨⟨rfl, rfl, rfl, Nat.le_of_ble_eq_true rfl⟩, ?_⟩
    exact kr4 (v := .tup [.agg [.int .i64 2, .sl true (.sl .str) (mkD 1 sz.toNat nz)], .int .i64 0]) (by kernel_rfl)
 ·replace h2 : sz < 0 := h2
  omega
end Go.Proofs.YtpfehhcljeagoaaDoor.S28

namespace Go.Proofs.YtpfehhcljeagoaaDoor.S28
open Go Go.Proofs.YtpfehhcljeagoaaDoor.Vc Go.Proofs
set_option maxRecDepth 100000
set_option linter.unusedVariables false

def sMk : List V → Option (Prop × V × List Blk)
 | [.int .i64 nd, .int .i64 sz, .str nz] => some (nd ≤ 2, .tup [.agg [.int .i64 (mkN nd sz nz), .sl true (.sl .str) (mkC nd sz nz)], .int .i64 (mkE nd sz nz)], [])
 | _ => none
set_option maxHeartbeats 1000000 in
theorem bMk (nd : Int) (sz : Int) (nz : List UInt8) (hp0 : nd ≤ 2) : bodyP (En CUpd tys G6 [] [1000000, 1000001]) Tryd.f26 [.m 1 .str, .k] [.int .i64 nd, .int .i64 sz, .str nz] (.tup [.agg [.int .i64 (mkN nd sz nz), .sl true (.sl .str) (mkC nd sz nz)], .int .i64 (mkE nd sz nz)]) [] := by
 by_cases hn : nd < 2 ∨ 12 < nd ∨ sz < 0 ∨ 4096 < sz
 ·obtain ⟨e1, e2, e3⟩ := mkE3 (s := nz) hn
  rw [e1, e2, e3]; exact bMk0 nd sz nz hn
 ·by_cases hl : (nz.length : Int) = sz * (((nd - 1) * nd) / 2)
  ·obtain ⟨e1, e2, e3⟩ := mkE0 hn hl
   rw [e1, e2, e3]
   obtain rfl : nd = 2 := by omega
   ·exact bMk2 sz nz (by omega) (by omega) (by omega)
  ·obtain ⟨e1, e2, e3⟩ := mkE1 hn hl
   rw [e1, e2, e3]
   obtain ⟨p1, p2, p3⟩ := prod_bd (nd := nd) (sz := sz) (by omega) (by omega) (by omega) (by omega)
   exact bMkN nd sz nz (by omega) (by omega) (by omega) (by omega) p1 p2 (by rw [p3]; exact hl)
def CMk : List (Nat × Con) := (26, pureC [.v (.int .i64), .v (.int .i64), .v .str] sMk) :: CUpd
theorem kMk : Known Tryd.prog (En CMk tys G6 []) := Known.frz0 <| (kUpd.frz [1000000, 1000001]).add Tryd.func26 Tryd.call26 [.m 1 .str, .k] fun ds p v bs h hp => by
 unfold sMk at h
 split at h <;> simp only [Option.some.injEq, Prod.mk.injEq, reduceCtorEq] at h
 obtain ⟨rfl, rfl, rfl⟩ := h
 exact bMk _ _ _ hp
end Go.Proofs.YtpfehhcljeagoaaDoor.S28

namespace Go.Proofs.YtpfehhcljeagoaaDoor.S28c
open Go Go.Proofs.YtpfehhcljeagoaaDoor.Vc Go.Proofs Go.Proofs.YtpfehhcljeagoaaDoor.S28
/-- The sets that houses have posted: a map of rows. -/
abbrev Ps := List (Int × List Int)
/-- With a house more. -/
def nxt (set h : Int) : Int := ((set.toNat ||| ((1 : Int) * 2 ^ h.toNat).toNat : Nat) : Int)
/-- A house of the set that does not hold with this one. -/
def bad1 (e : Int × List Int) (k set h : Int) : Prop := (((set / 2 ^ e.1.toNat).toNat &&& 1 : Nat) : Int) = 1 ∧ ((((e.2.getD k.toNat 0) / 2 ^ h.toNat).toNat &&& 1 : Nat) : Int) = 0
/-- A house fits: it posted a set about the dealer with all of these and itself, and those of these that posted hold it in theirs. -/
def fits (es : Ps) (k set h : Int) : Prop := ∃ ag, mget es h = some ag ∧ (((ag.getD k.toNat 0).toNat &&& (nxt set h).toNat : Nat) : Int) = nxt set h ∧ ∀ e ∈ es, ¬ bad1 e k set h
open Classical in
/-- The first set of so many more of the houses left. -/
noncomputable def cl (es : Ps) (k : Int) : List Int → Int → Int → Int
 | [], set, more => if more = 0 then set else -1
 | h :: l, set, more => if more = 0 then set else if fits es k set h then (if 0 ≤ cl es k l (nxt set h) (more - 1) then cl es k l (nxt set h) (more - 1) else cl es k l set more) else cl es k l set more
structure SrOk (hs : List Int) (es : Ps) (k set more fr : Int) : Prop where
 set0 : 0 ≤ set
 set1 : set < 4096
 fr0 : 0 ≤ fr
 fr1 : fr ≤ hs.length
 k0 : 0 ≤ k
 k1 : k < hs.length
 m0 : 0 ≤ more
 m1 : more ≤ 20
 l1 : hs.length ≤ 20
 hs1 : ∀ h ∈ hs, 0 ≤ h ∧ h < 12
 es1 : ∀ e ∈ es, (0 ≤ e.1 ∧ e.1 < 12) ∧ e.2.length = hs.length ∧ ∀ x ∈ e.2, 0 ≤ x ∧ x < 4096
theorem gD {α : Type} {d : α} {l : List α} {i : Nat} (h : i < l.length) : l.getD i d = l[i] := by simp [List.getD, h]
theorem gmem {α : Type} (d : α) : ∀ (l : List α) (i : Nat), i < l.length → l.getD i d ∈ l := fun l i h => by
 rw [gD h]; exact List.getElem_mem h
theorem mget_mem {es : Ps} {n : Int} {x : List Int} (h : mget es n = some x) : (n, x) ∈ es := by
 induction es with
 | nil => simp [mget] at h
 | cons e es ih =>
  obtain ⟨a, b⟩ := e
  simp only [mget] at h
  split at h
  ·rename_i hh
   simp_all
  ·exact List.mem_cons_of_mem _ (ih h)
theorem cl_zero (es : Ps) (k set : Int) : ∀ l, cl es k l set 0 = set
 | [] => by simp [cl]
 | h :: l => by simp [cl]
theorem drop_at (hs : List Int) (i : Nat) (h : i < hs.length) : hs.drop i = hs.getD i 0 :: hs.drop (i + 1) := by
 rw [List.drop_eq_getElem_cons h, gD h]
theorem cl_skip {es : Ps} {k set more : Int} {hs : List Int} {i : Nat} (h : i < hs.length) (hm : ¬ more = 0) (hf : ¬ fits es k set (hs.getD i 0)) : cl es k (hs.drop (i + 1)) set more = cl es k (hs.drop i) set more := by
 rw [drop_at hs i h, cl, if_neg hm, if_neg hf]
theorem cl_no {es : Ps} {k set more : Int} {hs : List Int} {i : Nat} (h : i < hs.length) (hm : ¬ more = 0) (hf : ¬ 0 ≤ cl es k (hs.drop (i + 1)) (nxt set (hs.getD i 0)) (more - 1)) : cl es k (hs.drop (i + 1)) set more = cl es k (hs.drop i) set more := by
 rw [drop_at hs i h, cl, if_neg hm, if_neg hf]
 split <;> rfl
theorem cl_yes {es : Ps} {k set more : Int} {hs : List Int} {i : Nat} (h : i < hs.length) (hm : ¬ more = 0) (hf : fits es k set (hs.getD i 0)) (hx : 0 ≤ cl es k (hs.drop (i + 1)) (nxt set (hs.getD i 0)) (more - 1)) : cl es k (hs.drop (i + 1)) (nxt set (hs.getD i 0)) (more - 1) = cl es k (hs.drop i) set more := by
 rw [drop_at hs i h, cl, if_neg hm, if_pos hf, if_pos hx]
theorem cl_end {es : Ps} {k set more : Int} {hs : List Int} {i : Nat} (h : hs.length ≤ i) (hm : ¬ more = 0) : cl es k (hs.drop i) set more = -1 := by
 rw [List.drop_eq_nil_of_le h, cl, if_neg hm]
/-- How many are still to come. -/
def rem (n : Nat) (l : List Nat) : Nat := (List.range n).countP fun i => decide (i ∉ l)
theorem countP_lt {p q : Nat → Bool} : ∀ (l : List Nat), (∀ x, q x = true → p x = true) → (∃ x ∈ l, p x = true ∧ q x = false) → l.countP q < l.countP p
 | [], _, h => by obtain ⟨_, h, _⟩ := h; cases h
 | a :: l, hpq, h => by
  have hle : l.countP q ≤ l.countP p := List.countP_mono_left fun x _ => hpq x
  obtain ⟨x, hx, h1, h2⟩ := h
  rw [List.countP_cons, List.countP_cons]
  rcases List.mem_cons.1 hx with rfl | hx
  ·rw [h1, h2]; simp; omega
  ·have := countP_lt l hpq ⟨x, hx, h1, h2⟩
   cases hq : q a with
   | true => rw [hpq a hq, if_pos rfl]; omega
   | false => rw [if_neg (by decide)]; omega
theorem rem_lt {n i : Nat} {l : List Nat} (h : i < n) (hi : ¬ i ∈ l) : rem n (l ++ [i]) < rem n l := by
 refine countP_lt _ (fun x hx => ?_) ⟨i, List.mem_range.2 h, decide_eq_true hi, decide_eq_false fun hn => hn (List.mem_append.2 (.inr (List.mem_singleton.2 rfl)))⟩
 exact decide_eq_true fun hx2 => (of_decide_eq_true hx) (List.mem_append.2 (.inl hx2))
theorem pw12 {h : Int} (h0 : 0 ≤ h) (h1 : h < 12) : (1 : Int) ≤ 2 ^ h.toNat ∧ (2 : Int) ^ h.toNat ≤ 2048 := by
 obtain ⟨n, rfl⟩ := Int.eq_ofNat_of_zero_le h0
 have hn : n < 12 := by omega
 rw [Int.toNat_natCast]
 refine ⟨?_, ?_⟩
 ·have := Int.pow_pos (n := 2) (m := n) (by omega); omega
 ·have h := Nat.pow_le_pow_right (n := 2) (by omega) (show n ≤ 11 by omega)
  have h2 : ((2 ^ n : Nat) : Int) ≤ ((2 ^ 11 : Nat) : Int) := Int.ofNat_le.2 h
  rw [Int.natCast_pow] at h2
  exact h2
theorem pwn (i : Nat) (h : i ≤ 12) : (1 : Int) ≤ 2 ^ i ∧ (2 : Int) ^ i ≤ 4096 := by
 refine ⟨?_, ?_⟩
 ·have := Int.pow_pos (n := 2) (m := i) (by omega); omega
 ·have h := Nat.pow_le_pow_right (n := 2) (by omega) h
  have h2 : ((2 ^ i : Nat) : Int) ≤ ((2 ^ 12 : Nat) : Int) := Int.ofNat_le.2 h
  rw [Int.natCast_pow] at h2
  exact h2
theorem nxt_lt {set h : Int} (s0 : 0 ≤ set) (s1 : set < 4096) (h0 : 0 ≤ h) (h1 : h < 12) : 0 ≤ nxt set h ∧ nxt set h < 4096 := by
 obtain ⟨p1, p2⟩ := pw12 h0 h1
 have : set.toNat ||| ((1 : Int) * 2 ^ h.toNat).toNat < 2 ^ 12 := Nat.or_lt_two_pow (by omega) (by omega)
 unfold nxt
 omega
end Go.Proofs.YtpfehhcljeagoaaDoor.S28c

namespace Go.Proofs.YtpfehhcljeagoaaDoor.S28c
open Go Go.Proofs.YtpfehhcljeagoaaDoor.Vc Go.Proofs Go.Proofs.YtpfehhcljeagoaaDoor.S28
set_option maxRecDepth 100000
def hsF : Int → List Int → Bool
 | _, [] => true
 | p, h :: t => decide (0 ≤ h ∧ h ≤ 11 ∧ p < h) && hsF h t
def prv (hs : List Int) (k : Nat) : Int := if k = 0 then -1 else hs.getD (k - 1) 0
theorem prv_zero (hs : List Int) {k : Nat} (h : ¬ 0 < k) : prv hs k = -1 := if_pos (by omega)
theorem prv_pos (hs : List Int) {k : Nat} (h : 0 < k) : prv hs k = hs.getD (k - 1) 0 := if_neg (by omega)
theorem drop_one {α : Type} (d : α) (l : List α) (k : Nat) (h : k < l.length) : l.drop k = l.getD k d :: l.drop (k + 1) := by
 rw [List.drop_eq_getElem_cons h]
 simp [List.getD_eq_getElem?_getD, h]
theorem hs_next {hs : List Int} {k : Nat} (hk : k < hs.length) (hc : hsF (prv hs k) (hs.drop k) = hsF (-1) hs) (h : 0 ≤ hs.getD k 0 ∧ hs.getD k 0 ≤ 11 ∧ prv hs k < hs.getD k 0) : hsF (prv hs (k + 1)) (hs.drop (k + 1)) = hsF (-1) hs := by
 rw [← hc, drop_one 0 hs k hk, hsF, decide_eq_true h, Bool.true_and]; rfl
theorem hs_bad {hs : List Int} {k : Nat} (hk : k < hs.length) (hc : hsF (prv hs k) (hs.drop k) = hsF (-1) hs) (h : ¬ (0 ≤ hs.getD k 0 ∧ hs.getD k 0 ≤ 11 ∧ prv hs k < hs.getD k 0)) : hsF (-1) hs = false := by
 rw [← hc, drop_one 0 hs k hk, hsF, decide_eq_false h, Bool.false_and]
theorem hs_end {hs : List Int} {k : Nat} (hk : k = hs.length) (hc : hsF (prv hs k) (hs.drop k) = hsF (-1) hs) : hsF (-1) hs = true := by
 rw [← hc, hk, List.drop_length]; rfl
theorem hsF_len : ∀ (l : List Int) (p : Int), -1 ≤ p → hsF p l = true → p ≤ 11 → (List.length l : Int) ≤ 11 - p
 | [], p, _, _, hp => by simp only [List.length_nil]; omega
 | h :: t, p, h0, hh, hp => by
  simp only [hsF, Bool.and_eq_true, decide_eq_true_eq] at hh
  have := hsF_len t h (by omega) hh.2 (by omega)
  simp only [List.length_cons]; omega
theorem hsF_at : ∀ (l : List Int) (p : Int) (k : Nat), hsF p l = true → k < l.length → 0 ≤ l.getD k 0 ∧ l.getD k 0 ≤ 11
 | [], p, k, _, hk => by simp at hk
 | h :: t, p, 0, hh, hk => by
  simp only [hsF, Bool.and_eq_true, decide_eq_true_eq] at hh
  exact ⟨hh.1.1, hh.1.2.1⟩
 | h :: t, p, k + 1, hh, hk => by
  simp only [hsF, Bool.and_eq_true, decide_eq_true_eq] at hh
  have := hsF_at t h k hh.2 (by simpa using hk)
  simpa using this
def idxF (v : Int) : List Int → Int → Int
 | [], _ => -1
 | x :: t, k => if v = x then k else idxF v t (k + 1)
theorem idxF_mem (v : Int) : ∀ (l : List Int) (k : Int), 0 ≤ k → (0 ≤ idxF v l k ↔ v ∈ l)
 | [], k, _ => by simp [idxF]
 | x :: t, k, h => by
  unfold idxF
  split
  ·rename_i e; subst e; simp [h]
  ·rename_i e
   rw [idxF_mem v t (k + 1) (by omega)]
   simp [e]

/-- The first error of a task. -/
def rngT (nd wr sz st ph : Int) : Prop := ((2 ≤ nd ∧ nd ≤ 12) ∧ (0 ≤ wr ∧ wr ≤ 12) ∧ (1 ≤ sz ∧ sz ≤ 4096) ∧ (0 ≤ st ∧ st ≤ 1000000) ∧ (1 ≤ ph ∧ ph ≤ 1000000)) ∧ st + 3 * ph ≤ 1000000
instance (nd wr sz st ph : Int) : Decidable (rngT nd wr sz st ph) := by unfold rngT; infer_instance
def tkE (hs : List Int) (nd wr sz st ph : Int) : Int :=
 if hsF (-1) hs = false then 1 else if rngT nd wr sz st ph then (if (hs.length : Int) < nd + wr ∨ (hs.length : Int) < nd - 1 + 3 * wr then 29 else 0) else 3
/-- A task that is right. -/
structure Tk (hs : List Int) (nd wr sz st ph : Int) : Prop where
 ho : hsF (-1) hs = true
 rg : rngT nd wr sz st ph
 q1 : nd + wr ≤ hs.length
 q2 : nd - 1 + 3 * wr ≤ hs.length
 l12 : hs.length ≤ 12
theorem tk0 {hs : List Int} {nd wr sz st ph : Int} (h : tkE hs nd wr sz st ph = 0) : Tk hs nd wr sz st ph := by
 unfold tkE at h
 split at h
 ·omega
 ·rename_i h1
  split at h
  ·rename_i h2
   split at h
   ·omega
   ·have h1 : hsF (-1) hs = true := by simpa using h1
    have := hsF_len hs (-1) (by omega) h1 (by omega)
    exact ⟨h1, h2, by omega, by omega, by omega⟩
  ·omega
theorem Tk.e {hs : List Int} {nd wr sz st ph : Int} (h : Tk hs nd wr sz st ph) : tkE hs nd wr sz st ph = 0 := by
 unfold tkE
 rw [if_neg (by rw [h.ho]; simp), if_pos h.rg, if_neg (by have := h.q1; have := h.q2; omega)]
theorem tk1 {hs : List Int} {nd wr sz st ph : Int} (e : hsF (-1) hs = false) : tkE hs nd wr sz st ph = 1 := if_pos e
theorem tk3 {hs : List Int} {nd wr sz st ph : Int} (e : hsF (-1) hs = true) (h : ¬ rngT nd wr sz st ph) : tkE hs nd wr sz st ph = 3 := by
 unfold tkE; rw [if_neg (by rw [e]; simp), if_neg h]
theorem tk29 {hs : List Int} {nd wr sz st ph : Int} (e : hsF (-1) hs = true) (h : rngT nd wr sz st ph) (hq : (hs.length : Int) < nd + wr ∨ (hs.length : Int) < nd - 1 + 3 * wr) : tkE hs nd wr sz st ph = 29 := by
 unfold tkE; rw [if_neg (by rw [e]; simp), if_pos h, if_pos hq]
theorem tkOk {hs : List Int} {nd wr sz st ph : Int} (e : hsF (-1) hs = true) (h : rngT nd wr sz st ph) (hq : ¬ ((hs.length : Int) < nd + wr ∨ (hs.length : Int) < nd - 1 + 3 * wr)) : tkE hs nd wr sz st ph = 0 := by
 unfold tkE; rw [if_neg (by rw [e]; simp), if_pos h, if_neg hq]
/-- A set that is not one of houses. -/
def wildE (a x : Int) : Prop := x < 0 ∨ ¬ (((x.toNat ^^^ (x.toNat &&& a.toNat)) : Nat) : Int) = 0
instance (a x : Int) : Decidable (wildE a x) := by unfold wildE; infer_instance
def ixP {α : Type} (p : α → Bool) : List α → Nat → Int
 | [], _ => -1
 | a :: l, k => if p a = true then k else ixP p l (k + 1)
theorem ixP_none {α : Type} {p : α → Bool} : ∀ {l : List α} {k : Nat}, ixP p l k < 0 ↔ ∀ a ∈ l, p a = false
 | [], k => by simp [ixP]
 | a :: l, k => by
  unfold ixP
  split
  ·rename_i h
   constructor
   ·intro g; omega
   ·intro g; have := g a (by simp); rw [h] at this; cases this
  ·rename_i h
   rw [ixP_none]
   constructor
   ·intro g b hb
    rcases List.mem_cons.1 hb with rfl | hb
    ·simpa using h
    ·exact g b hb
   ·intro g b hb; exact g b (by simp [hb])
theorem ixP_is (p : Int → Bool) {q : Int → Prop} (l : List Int) (h : ∀ i, p i = true ↔ q i) : 0 ≤ ixP p l 0 ↔ ∃ i ∈ l, q i := by
 constructor
 ·intro g
  refine Classical.byContradiction fun hn => ?_
  have := (ixP_none (p := p) (l := l) (k := 0)).2 fun a ha => by
   cases hp : p a with
   | false => rfl
   | true => exact absurd ⟨a, ha, (h a).1 hp⟩ hn
  omega
 ·rintro ⟨i, hi, hq⟩
  refine Classical.byContradiction fun hn => ?_
  have := (ixP_none (p := p) (l := l) (k := 0)).1 (by omega) i hi
  rw [(h i).2 hq] at this; cases this
end Go.Proofs.YtpfehhcljeagoaaDoor.S28c

namespace Go.Proofs.YtpfehhcljeagoaaDoor.S28c
open Go Go.Proofs.YtpfehhcljeagoaaDoor.Vc Go.Proofs
set_option maxRecDepth 100000
set_option linter.unusedVariables false
open Go.Proofs.YtpfehhcljeagoaaDoor.S28
def sWi : List V → Option (Prop × V × List Blk)
 | [.int .i64 x, .int .i64 lo, .int .i64 hi] => some (True, .b (lo ≤ x ∧ x ≤ hi), [])
 | _ => none
set_option maxHeartbeats 1000000 in
theorem bWi (x : Int) (lo : Int) (hi : Int)  : bodyP (En CMk tys G6 []) Tryd.f29 [.k] [.int .i64 x, .int .i64 lo, .int .i64 hi] (.b (lo ≤ x ∧ x ≤ hi)) [] := by
 refine ⟨fun h0 => ?_, fun h0 => ?_⟩
 ·replace h0 : lo ≤ x := h0
  exact ⟨rfl, rfl, congrArg V.b (propext (by constructor <;> intro h <;> first | omega | (exfalso; first | omega | exact Bool.noConfusion h))), rfl⟩
 ·replace h0 : ¬ (lo ≤ x) := h0
  exact ⟨rfl, rfl, congrArg V.b (propext (by constructor <;> intro h <;> first | omega | (exfalso; first | omega | exact Bool.noConfusion h))), rfl⟩
def CWi : List (Nat × Con) := (29, pureC [.v (.int .i64), .v (.int .i64), .v (.int .i64)] sWi) :: CMk
theorem kWi : Known Tryd.prog (En CWi tys G6 []) := kMk.add Tryd.func29 Tryd.call29 [.k] fun ds p v bs h hp => by
 unfold sWi at h
 split at h <;> simp only [Option.some.injEq, Prod.mk.injEq, reduceCtorEq] at h
 obtain ⟨rfl, rfl, rfl⟩ := h
 exact bWi _ _ _
def sChk : List V → Option (Prop × V × List Blk)
 | [.agg [.sl false (.int .i64) hs, .int .i64 nd, .int .i64 wr, .int .i64 sz, .int .i64 st, .int .i64 ph]] => some (hs.length ≤ 2000000, .int .i64 (tkE hs nd wr sz st ph), [])
 | _ => none
set_option maxHeartbeats 1000000 in
theorem bChk (hs : List Int) (nd : Int) (wr : Int) (sz : Int) (st : Int) (ph : Int) (hp0 : hs.length ≤ 2000000) : bodyP (En CWi tys G6 []) Tryd.f10 [.k] [.agg [.sl false (.int .i64) hs, .int .i64 nd, .int .i64 wr, .int .i64 sz, .int .i64 st, .int .i64 ph]] (.int .i64 (tkE hs nd wr sz st ph)) [] := by
 refine ⟨1, [(1, .k), (8, .k), (9, .k), (10, .k)], fun nM vs H => ∃ (k : Nat), k ≤ hs.length ∧ hsF (prv hs k) (hs.drop k) = hsF (-1) hs ∧ nM = hs.length - k ∧ vs = [.ptr 0 1 0 0, .sl false (.int .i64) hs, .int .i64 (hs.length : Int), .int .i64 (k : Int)] ∧ H = [.cells [.sl false (.int .i64) hs, .int .i64 nd, .int .i64 wr, .int .i64 sz, .int .i64 st, .int .i64 ph]], ⟨rfl, hs.length, 0, by omega, rfl, by omega, rfl, rfl⟩, ?_⟩
 rintro nM vs H ⟨k, hc1_0, hc1_1, rfl, rfl, rfl⟩
 refine ⟨fun h0 => ?_, fun h0 => ?_⟩
 ·replace h0 : (k : Int) < (hs.length : Int) := h0
  have hkl : k < hs.length := by omega
  have hk1 : ((k : Int) - 1).toNat = k - 1 := by omega
  refine ⟨(i0 (k : Int) (hs.length : Int)), fun h1 => ?_, fun h1 => ?_⟩
  ·replace h1 : ¬ ((hs.getD k 0) < 0) := h1
   refine ⟨fun h2 => ?_, fun h2 => ?_⟩
   ·replace h2 : ¬ (12 ≤ (hs.getD k 0)) := h2
    refine ⟨fun h3 => ?_, fun h3 => ?_⟩
    ·replace h3 : 0 < (k : Int) := h3
     refine ⟨(r64 ((k : Int) - 1)), (i0 ((k : Int) - 1) (hs.length : Int)), fun h4 => ?_, fun h4 => ?_⟩
     ·replace h4 : (hs.getD k 0) ≤ (hs.getD (((k : Int) - 1).toNat) 0) := h4
      rw [hk1] at h4
      have e := hs_bad hkl hc1_1 (by rw [prv_pos hs (by omega)]; omega)
      rw [tk1 e]
      exact ⟨rfl, rfl, rfl, rfl⟩
     ·replace h4 : ¬ ((hs.getD k 0) ≤ (hs.getD (((k : Int) - 1).toNat) 0)) := h4
      rw [hk1] at h4
      refine ⟨(r64 ((k : Int) + 1)), ?_⟩
      exact ⟨rfl, hs.length - (k + 1), by omega, k + 1, by omega, hs_next hkl hc1_1 (by first | (rw [prv_pos hs (by omega)]; omega) | (rw [prv_zero hs (by omega)]; omega)), rfl, rfl, rfl⟩
    ·replace h3 : ¬ (0 < (k : Int)) := h3
     refine ⟨(r64 ((k : Int) + 1)), ?_⟩
     exact ⟨rfl, hs.length - (k + 1), by omega, k + 1, by omega, hs_next hkl hc1_1 (by first | (rw [prv_pos hs (by omega)]; omega) | (rw [prv_zero hs (by omega)]; omega)), rfl, rfl, rfl⟩
   ·replace h2 : 12 ≤ (hs.getD k 0) := h2
    have e := hs_bad hkl hc1_1 (by omega)
    rw [tk1 e]
    exact ⟨rfl, rfl, rfl, rfl⟩
  ·replace h1 : (hs.getD k 0) < 0 := h1
   have e := hs_bad hkl hc1_1 (by omega)
   rw [tk1 e]
   exact ⟨rfl, rfl, rfl, rfl⟩
 ·replace h0 : ¬ ((k : Int) < (hs.length : Int)) := h0
  have e := hs_end (by omega) hc1_1
  refine ⟨rfl, rfl, rfl, trivial, fun h5 => ?_, fun h5 => ?_⟩
  ·replace h5 : ¬ (¬ (2 ≤ nd ∧ nd ≤ 12)) := h5
   refine ⟨rfl, rfl, rfl, trivial, fun h6 => ?_, fun h6 => ?_⟩
   ·replace h6 : ¬ (¬ (0 ≤ wr ∧ wr ≤ 12)) := h6
    refine ⟨rfl, rfl, rfl, trivial, fun h7 => ?_, fun h7 => ?_⟩
    ·replace h7 : ¬ (¬ (1 ≤ sz ∧ sz ≤ 4096)) := h7
     refine ⟨rfl, rfl, rfl, trivial, fun h8 => ?_, fun h8 => ?_⟩
     ·replace h8 : ¬ (¬ (0 ≤ st ∧ st ≤ 1000000)) := h8
      refine ⟨rfl, rfl, rfl, trivial, fun h9 => ?_, fun h9 => ?_⟩
      ·replace h9 : ¬ (¬ (1 ≤ ph ∧ ph ≤ 1000000)) := h9
       refine ⟨(r64 (3 * ph)), (r64 (st + (3 * ph))), fun h10 => ?_, fun h10 => ?_⟩
       ·replace h10 : 1000000 < (st + (3 * ph)) := h10
        rw [tk3 e (fun h => by unfold rngT at h; omega)]
        exact ⟨rfl, rfl, rfl, rfl⟩
       ·replace h10 : ¬ (1000000 < (st + (3 * ph))) := h10
        refine ⟨(r64 (nd + wr)), fun h11 => ?_, fun h11 => ?_⟩
        ·replace h11 : ¬ ((hs.length : Int) < (nd + wr)) := h11
         refine ⟨(r64 (nd - 1)), (r64 (3 * wr)), (r64 ((nd - 1) + (3 * wr))), fun h12 => ?_, fun h12 => ?_⟩
         ·replace h12 : (hs.length : Int) < ((nd - 1) + (3 * wr)) := h12
          rw [tk29 e (by unfold rngT; omega) (by omega)]
          exact ⟨rfl, rfl, rfl, rfl⟩
         ·replace h12 : ¬ ((hs.length : Int) < ((nd - 1) + (3 * wr))) := h12
          rw [tkOk e (by unfold rngT; omega) (by omega)]
          exact ⟨rfl, rfl, rfl, rfl⟩
        ·replace h11 : (hs.length : Int) < (nd + wr) := h11
         rw [tk29 e (by unfold rngT; omega) (by omega)]
         exact ⟨rfl, rfl, rfl, rfl⟩
      ·replace h9 : ¬ (1 ≤ ph ∧ ph ≤ 1000000) := h9
       rw [tk3 e (fun h => by unfold rngT at h; omega)]
       exact ⟨rfl, rfl, rfl, rfl⟩
     ·replace h8 : ¬ (0 ≤ st ∧ st ≤ 1000000) := h8
      rw [tk3 e (fun h => by unfold rngT at h; omega)]
      exact ⟨rfl, rfl, rfl, rfl⟩
    ·replace h7 : ¬ (1 ≤ sz ∧ sz ≤ 4096) := h7
     rw [tk3 e (fun h => by unfold rngT at h; omega)]
     exact ⟨rfl, rfl, rfl, rfl⟩
   ·replace h6 : ¬ (0 ≤ wr ∧ wr ≤ 12) := h6
    rw [tk3 e (fun h => by unfold rngT at h; omega)]
    exact ⟨rfl, rfl, rfl, rfl⟩
  ·replace h5 : ¬ (2 ≤ nd ∧ nd ≤ 12) := h5
   rw [tk3 e (fun h => by unfold rngT at h; omega)]
   exact ⟨rfl, rfl, rfl, rfl⟩
def CChk : List (Nat × Con) := (10, pureC [.v (.cons (.sl (.int .i64)) (.cons (.int .i64) (.cons (.int .i64) (.cons (.int .i64) (.cons (.int .i64) (.cons (.int .i64) .nil))))))] sChk) :: CWi
theorem kChk : Known Tryd.prog (En CChk tys G6 []) := kWi.add Tryd.func10 Tryd.call10 [.k] fun ds p v bs h hp => by
 unfold sChk at h
 split at h <;> simp only [Option.some.injEq, Prod.mk.injEq, reduceCtorEq] at h
 obtain ⟨rfl, rfl, rfl⟩ := h
 exact bChk _ _ _ _ _ _ hp
def sRChk : List V → Option (Prop × V × List Blk)
 | [.agg [.sl false (.int .i64) hs, .int .i64 nd, .int .i64 wr, .int .i64 sz, .int .i64 st, .int .i64 ph]] => some (hs.length ≤ 2000000, .int .i64 (tkE hs nd wr sz st ph), [])
 | _ => none
set_option maxHeartbeats 1000000 in
theorem bRChk (hs : List Int) (nd : Int) (wr : Int) (sz : Int) (st : Int) (ph : Int) (hp0 : hs.length ≤ 2000000) : bodyP (En CChk tys G6 []) Tryd.f21 [.k] [.agg [.sl false (.int .i64) hs, .int .i64 nd, .int .i64 wr, .int .i64 sz, .int .i64 st, .int .i64 ph]] (.int .i64 (tkE hs nd wr sz st ph)) [] := by
 refine ⟨1, [(1, .k), (3, .k)], fun nM vs H => ∃ (k : Nat), k ≤ hs.length ∧ hsF (prv hs k) (hs.drop k) = hsF (-1) hs ∧ nM = hs.length - k ∧ vs = [.ptr 0 1 0 0, .int .i64 (k : Int)] ∧ H = [.cells [.sl false (.int .i64) hs, .int .i64 nd, .int .i64 wr, .int .i64 sz, .int .i64 st, .int .i64 ph]], ⟨rfl, hs.length, 0, by omega, rfl, by omega, rfl, rfl⟩, ?_⟩
 rintro nM vs H ⟨k, hc1_0, hc1_1, rfl, rfl, rfl⟩
 refine ⟨fun h0 => ?_, fun h0 => ?_⟩
 ·replace h0 : (k : Int) < (hs.length : Int) := h0
  have hkl : k < hs.length := by omega
  have hk1 : ((k : Int) - 1).toNat = k - 1 := by omega
  refine ⟨by kernel_rfl, (i0 (k : Int) (hs.length : Int)), fun h1 => ?_, fun h1 => ?_⟩
  ·replace h1 : ¬ ((hs.getD k 0) < 0) := h1
   refine ⟨fun h2 => ?_, fun h2 => absurd h2 (show ¬ ((hs.getD k 0) < 0) by first | omega | assumption | simp_all)⟩
   refine ⟨fun h3 => ?_, fun h3 => absurd h3 (show ¬ ((hs.getD k 0) < 0) by first | omega | assumption | simp_all)⟩
   refine ⟨fun h4 => ?_, fun h4 => absurd h4 (show ¬ ((hs.getD k 0) < 0) by first | omega | assumption | simp_all)⟩
   refine ⟨(i0 (k : Int) (hs.length : Int)), fun h5 => ?_, fun h5 => absurd h5 (show ¬ ((hs.getD k 0) < 0) by first | omega | assumption | simp_all)⟩
   refine ⟨fun h6 => ?_, fun h6 => absurd h6 (show ¬ ((hs.getD k 0) < 0) by first | omega | assumption | simp_all)⟩
   refine ⟨fun h7 => absurd h7 (show ¬ ((hs.getD k 0) < 0) by first | omega | assumption | simp_all), fun h7 => ?_⟩
   refine ⟨fun h8 => ?_, fun h8 => ?_⟩
   ·replace h8 : ¬ (12 ≤ (hs.getD k 0)) := h8
    refine ⟨fun h9 => ?_, fun h9 => absurd h9 (show ¬ (12 ≤ (hs.getD k 0)) by first | omega | assumption | simp_all)⟩
    refine ⟨fun h10 => ?_, fun h10 => absurd h10 (show ¬ (12 ≤ (hs.getD k 0)) by first | omega | assumption | simp_all)⟩
    refine ⟨fun h11 => ?_, fun h11 => ?_⟩
    ·replace h11 : 0 < (k : Int) := h11
     refine ⟨fun h12 => ?_, fun h12 => absurd (show 0 < (k : Int) by first | omega | assumption | simp_all) h12⟩
     refine ⟨fun h13 => ?_, fun h13 => absurd (show 0 < (k : Int) by first | omega | assumption | simp_all) h13⟩
     refine ⟨fun h14 => ?_, fun h14 => absurd (show 0 < (k : Int) by first | omega | assumption | simp_all) h14⟩
     refine ⟨(r64 ((k : Int) - 1)), fun h15 => ?_, fun h15 => absurd (show 0 < (k : Int) by first | omega | assumption | simp_all) h15⟩
     refine ⟨(i0 ((k : Int) - 1) (hs.length : Int)), fun h16 => ?_, fun h16 => absurd (show 0 < (k : Int) by first | omega | assumption | simp_all) h16⟩
     refine ⟨fun h17 => ?_, fun h17 => absurd (show 0 < (k : Int) by first | omega | assumption | simp_all) h17⟩
     refine ⟨fun h18 => ?_, fun h18 => absurd (show 0 < (k : Int) by first | omega | assumption | simp_all) h18⟩
     refine ⟨fun h19 => ?_, fun h19 => absurd (show 0 < (k : Int) by first | omega | assumption | simp_all) h19⟩
     refine ⟨fun h20 => ?_, fun h20 => absurd (show 0 < (k : Int) by first | omega | assumption | simp_all) h20⟩
     refine ⟨(i0 (k : Int) (hs.length : Int)), fun h21 => ?_, fun h21 => absurd (show 0 < (k : Int) by first | omega | assumption | simp_all) h21⟩
     refine ⟨fun h22 => ?_, fun h22 => absurd (show 0 < (k : Int) by first | omega | assumption | simp_all) h22⟩
     refine ⟨fun h23 => ?_, fun h23 => absurd h23 (show ¬ (12 ≤ (hs.getD k 0)) by first | omega | assumption | simp_all)⟩
     refine ⟨fun h24 => ?_, fun h24 => absurd (show 0 < (k : Int) by first | omega | assumption | simp_all) h24⟩
     refine ⟨fun h25 => absurd h25 (show ¬ (12 ≤ (hs.getD k 0)) by first | omega | assumption | simp_all), fun h25 => ?_⟩
     refine ⟨fun h26 => ?_, fun h26 => ?_⟩
     ·replace h26 : (hs.getD k 0) ≤ (hs.getD (((k : Int) - 1).toNat) 0) := h26
      rw [hk1] at h26
      have e := hs_bad hkl hc1_1 (by rw [prv_pos hs (by omega)]; omega)
      rw [tk1 e]
      exact ⟨rfl, rfl, rfl, rfl⟩
     ·replace h26 : ¬ ((hs.getD k 0) ≤ (hs.getD (((k : Int) - 1).toNat) 0)) := h26
      rw [hk1] at h26
      refine ⟨(r64 ((k : Int) + 1)), ?_⟩
      exact ⟨rfl, hs.length - (k + 1), by omega, k + 1, by omega, hs_next hkl hc1_1 (by first | (rw [prv_pos hs (by omega)]; omega) | (rw [prv_zero hs (by omega)]; omega)), rfl, rfl, rfl⟩
    ·replace h11 : ¬ (0 < (k : Int)) := h11
     refine ⟨fun h27 => absurd h27 (show ¬ (0 < (k : Int)) by first | omega | assumption | simp_all), fun h27 => ?_⟩
     refine ⟨fun h28 => absurd h28 (show ¬ (0 < (k : Int)) by first | omega | assumption | simp_all), fun h28 => ?_⟩
     refine ⟨fun h29 => absurd h29 (show ¬ (0 < (k : Int)) by first | omega | assumption | simp_all), fun h29 => ?_⟩
     refine ⟨fun h30 => absurd h30 (show ¬ (0 < (k : Int)) by first | omega | assumption | simp_all), fun h30 => ?_⟩
     refine ⟨fun h31 => absurd h31 (show ¬ (0 < (k : Int)) by first | omega | assumption | simp_all), fun h31 => ?_⟩
     refine ⟨fun h32 => absurd h32 (show ¬ (0 < (k : Int)) by first | omega | assumption | simp_all), fun h32 => ?_⟩
     refine ⟨fun h33 => absurd h33 (show ¬ (0 < (k : Int)) by first | omega | assumption | simp_all), fun h33 => ?_⟩
     refine ⟨fun h34 => absurd h34 (show ¬ (0 < (k : Int)) by first | omega | assumption | simp_all), fun h34 => ?_⟩
     refine ⟨fun h35 => absurd h35 (show ¬ (0 < (k : Int)) by first | omega | assumption | simp_all), fun h35 => ?_⟩
     refine ⟨fun h36 => absurd h36 (show ¬ (0 < (k : Int)) by first | omega | assumption | simp_all), fun h36 => ?_⟩
     refine ⟨fun h37 => absurd h37 (show ¬ (0 < (k : Int)) by first | omega | assumption | simp_all), fun h37 => ?_⟩
     refine ⟨fun h38 => ?_, fun h38 => absurd h38 (show ¬ (12 ≤ (hs.getD k 0)) by first | omega | assumption | simp_all)⟩
     refine ⟨fun h39 => absurd h39 (show ¬ (0 < (k : Int)) by first | omega | assumption | simp_all), fun h39 => ?_⟩
     refine ⟨fun h40 => absurd h40 (show ¬ (12 ≤ (hs.getD k 0)) by first | omega | assumption | simp_all), fun h40 => ?_⟩
     refine ⟨(r64 ((k : Int) + 1)), ?_⟩
     exact ⟨rfl, hs.length - (k + 1), by omega, k + 1, by omega, hs_next hkl hc1_1 (by first | (rw [prv_pos hs (by omega)]; omega) | (rw [prv_zero hs (by omega)]; omega)), rfl, rfl, rfl⟩
   ·replace h8 : 12 ≤ (hs.getD k 0) := h8
    have e := hs_bad hkl hc1_1 (by omega)
    refine ⟨fun h41 => absurd (show 12 ≤ (hs.getD k 0) by first | omega | assumption | simp_all) h41, fun h41 => ?_⟩
    refine ⟨fun h42 => absurd (show 12 ≤ (hs.getD k 0) by first | omega | assumption | simp_all) h42, fun h42 => ?_⟩
    refine ⟨fun h43 => absurd (show 12 ≤ (hs.getD k 0) by first | omega | assumption | simp_all) h43, fun h43 => ?_⟩
    refine ⟨fun h44 => ?_, fun h44 => absurd (show 12 ≤ (hs.getD k 0) by first | omega | assumption | simp_all) h44⟩
    rw [tk1 e]
    exact ⟨rfl, rfl, rfl, rfl⟩
  ·replace h1 : (hs.getD k 0) < 0 := h1
   have e := hs_bad hkl hc1_1 (by omega)
   refine ⟨fun h45 => absurd (show (hs.getD k 0) < 0 by first | omega | assumption | simp_all) h45, fun h45 => ?_⟩
   refine ⟨fun h46 => absurd (show (hs.getD k 0) < 0 by first | omega | assumption | simp_all) h46, fun h46 => ?_⟩
   refine ⟨fun h47 => absurd (show (hs.getD k 0) < 0 by first | omega | assumption | simp_all) h47, fun h47 => ?_⟩
   refine ⟨fun h48 => absurd (show (hs.getD k 0) < 0 by first | omega | assumption | simp_all) h48, fun h48 => ?_⟩
   refine ⟨fun h49 => absurd (show (hs.getD k 0) < 0 by first | omega | assumption | simp_all) h49, fun h49 => ?_⟩
   refine ⟨fun h50 => ?_, fun h50 => absurd (show (hs.getD k 0) < 0 by first | omega | assumption | simp_all) h50⟩
   rw [tk1 e]
   exact ⟨rfl, rfl, rfl, rfl⟩
 ·replace h0 : ¬ ((k : Int) < (hs.length : Int)) := h0
  have e := hs_end (by omega) hc1_1
  refine ⟨fun h51 => ?_, fun h51 => ?_⟩
  ·replace h51 : ¬ (nd < 2) := h51
   refine ⟨fun h52 => ?_, fun h52 => ?_⟩
   ·replace h52 : ¬ (12 < nd) := h52
    refine ⟨fun h53 => ?_, fun h53 => ?_⟩
    ·replace h53 : ¬ (wr < 0) := h53
     refine ⟨fun h54 => ?_, fun h54 => ?_⟩
     ·replace h54 : ¬ (12 < wr) := h54
      refine ⟨fun h55 => ?_, fun h55 => ?_⟩
      ·replace h55 : ¬ (sz < 1) := h55
       refine ⟨fun h56 => ?_, fun h56 => ?_⟩
       ·replace h56 : ¬ (4096 < sz) := h56
        refine ⟨fun h57 => ?_, fun h57 => ?_⟩
        ·replace h57 : ¬ (st < 0) := h57
         refine ⟨fun h58 => ?_, fun h58 => ?_⟩
         ·replace h58 : ¬ (1000000 < st) := h58
          refine ⟨fun h59 => ?_, fun h59 => ?_⟩
          ·replace h59 : ¬ (ph < 1) := h59
           refine ⟨fun h60 => ?_, fun h60 => ?_⟩
           ·replace h60 : ¬ (1000000 < ph) := h60
            refine ⟨(r64 (3 * ph)), (r64 (st + (3 * ph))), fun h61 => ?_, fun h61 => ?_⟩
            ·replace h61 : 1000000 < (st + (3 * ph)) := h61
             rw [tk3 e (fun h => by unfold rngT at h; omega)]
             exact ⟨rfl, rfl, rfl, rfl⟩
            ·replace h61 : ¬ (1000000 < (st + (3 * ph))) := h61
             refine ⟨(r64 (nd + wr)), fun h62 => ?_, fun h62 => ?_⟩
             ·replace h62 : ¬ ((hs.length : Int) < (nd + wr)) := h62
              refine ⟨(r64 (nd - 1)), (r64 (3 * wr)), (r64 ((nd - 1) + (3 * wr))), fun h63 => ?_, fun h63 => ?_⟩
              ·replace h63 : (hs.length : Int) < ((nd - 1) + (3 * wr)) := h63
               rw [tk29 e (by unfold rngT; omega) (by omega)]
               exact ⟨rfl, rfl, rfl, rfl⟩
              ·replace h63 : ¬ ((hs.length : Int) < ((nd - 1) + (3 * wr))) := h63
               rw [tkOk e (by unfold rngT; omega) (by omega)]
               exact ⟨rfl, rfl, rfl, rfl⟩
             ·replace h62 : (hs.length : Int) < (nd + wr) := h62
              rw [tk29 e (by unfold rngT; omega) (by omega)]
              exact ⟨rfl, rfl, rfl, rfl⟩
           ·replace h60 : 1000000 < ph := h60
            rw [tk3 e (fun h => by unfold rngT at h; omega)]
            exact ⟨rfl, rfl, rfl, rfl⟩
          ·replace h59 : ph < 1 := h59
           rw [tk3 e (fun h => by unfold rngT at h; omega)]
           exact ⟨rfl, rfl, rfl, rfl⟩
         ·replace h58 : 1000000 < st := h58
          rw [tk3 e (fun h => by unfold rngT at h; omega)]
          exact ⟨rfl, rfl, rfl, rfl⟩
        ·replace h57 : st < 0 := h57
         rw [tk3 e (fun h => by unfold rngT at h; omega)]
         exact ⟨rfl, rfl, rfl, rfl⟩
       ·replace h56 : 4096 < sz := h56
        rw [tk3 e (fun h => by unfold rngT at h; omega)]
        exact ⟨rfl, rfl, rfl, rfl⟩
      ·replace h55 : sz < 1 := h55
       rw [tk3 e (fun h => by unfold rngT at h; omega)]
       exact ⟨rfl, rfl, rfl, rfl⟩
     ·replace h54 : 12 < wr := h54
      rw [tk3 e (fun h => by unfold rngT at h; omega)]
      exact ⟨rfl, rfl, rfl, rfl⟩
    ·replace h53 : wr < 0 := h53
     rw [tk3 e (fun h => by unfold rngT at h; omega)]
     exact ⟨rfl, rfl, rfl, rfl⟩
   ·replace h52 : 12 < nd := h52
    rw [tk3 e (fun h => by unfold rngT at h; omega)]
    exact ⟨rfl, rfl, rfl, rfl⟩
  ·replace h51 : nd < 2 := h51
   rw [tk3 e (fun h => by unfold rngT at h; omega)]
   exact ⟨rfl, rfl, rfl, rfl⟩
def CRChk : List (Nat × Con) := (21, pureC [.v (.cons (.sl (.int .i64)) (.cons (.int .i64) (.cons (.int .i64) (.cons (.int .i64) (.cons (.int .i64) (.cons (.int .i64) .nil))))))] sRChk) :: CChk
theorem kRChk : Known Tryd.prog (En CRChk tys G6 []) := kChk.add Tryd.func21 Tryd.call21 [.k] fun ds p v bs h hp => by
 unfold sRChk at h
 split at h <;> simp only [Option.some.injEq, Prod.mk.injEq, reduceCtorEq] at h
 obtain ⟨rfl, rfl, rfl⟩ := h
 exact bRChk _ _ _ _ _ _ hp
end Go.Proofs.YtpfehhcljeagoaaDoor.S28c

namespace Go.Proofs.YtpfehhcljeagoaaDoor.S28c
open Go Go.Proofs.YtpfehhcljeagoaaDoor.Vc Go.Proofs
set_option maxRecDepth 100000
set_option linter.unusedVariables false
open Go.Proofs.YtpfehhcljeagoaaDoor.S28
def sIdx : List V → Option (Prop × V × List Blk)
 | [.sl false (.int .i64) s, .int .i64 x] => some (s.length ≤ 2000000, .int .i64 (idxF x s 0), [])
 | _ => none
set_option maxHeartbeats 1000000 in
theorem bIdx (s : List Int) (x : Int) (hp0 : s.length ≤ 2000000) : bodyP (En CRChk tys G6 []) Tryd.f25 [.k] [.sl false (.int .i64) s, .int .i64 x] (.int .i64 (idxF x s 0)) [] := by
 refine ⟨0, [(0, .k), (1, .k), (7, .k), (8, .k)], fun nM vs H => ∃ (k : Nat), k ≤ s.length ∧ idxF x (s.drop k) k = idxF x s 0 ∧ nM = s.length - k ∧ vs = [.sl false (.int .i64) s, .int .i64 x, .int .i64 (s.length : Int), .int .i64 (k : Int)] ∧ H = [], ⟨rfl, s.length, 0, by omega, rfl, by omega, rfl, rfl⟩, ?_⟩
 rintro nM vs H ⟨k, hc1_0, hc1_1, rfl, rfl, rfl⟩
 refine ⟨fun h0 => ?_, fun h0 => ?_⟩
 ·replace h0 : (k : Int) < (s.length : Int) := h0
  rw [drop_one 0 s k (by omega), idxF] at hc1_1
  refine ⟨(i0 (k : Int) (s.length : Int)), fun h1 => ?_, fun h1 => ?_⟩
  ·replace h1 : x = (s.getD k 0) := h1
   rw [if_pos h1] at hc1_1
   rw [← hc1_1]
   exact ⟨rfl, rfl, rfl, rfl⟩
  ·replace h1 : ¬ (x = (s.getD k 0)) := h1
   rw [if_neg h1] at hc1_1
   refine ⟨(r64 ((k : Int) + 1)), ?_⟩
   exact ⟨rfl, s.length - (k + 1), by omega, k + 1, by omega, hc1_1, rfl, rfl, rfl⟩
 ·replace h0 : ¬ ((k : Int) < (s.length : Int)) := h0
  rw [List.drop_eq_nil_of_le (by omega), idxF] at hc1_1
  rw [← hc1_1]
  exact ⟨rfl, rfl, rfl, rfl⟩
def CIdx : List (Nat × Con) := (25, pureC [.v (.sl (.int .i64)), .v (.int .i64)] sIdx) :: CRChk
theorem kIdx : Known Tryd.prog (En CIdx tys G6 []) := kRChk.add Tryd.func25 Tryd.call25 [.k] fun ds p v bs h hp => by
 unfold sIdx at h
 split at h <;> simp only [Option.some.injEq, Prod.mk.injEq, reduceCtorEq] at h
 obtain ⟨rfl, rfl, rfl⟩ := h
 exact bIdx _ _ hp
def sCts : List V → Option (Prop × V × List Blk)
 | [.sl false (.int .i64) s, .int .i64 x] => some (s.length ≤ 2000000, .b (x ∈ s), [])
 | _ => none
set_option maxHeartbeats 1000000 in
theorem bCts (s : List Int) (x : Int) (hp0 : s.length ≤ 2000000) : bodyP (En CIdx tys G6 []) Tryd.f19 [.k] [.sl false (.int .i64) s, .int .i64 x] (.b (x ∈ s)) [] := by
 refine ⟨rfl, by show s.length ≤ 2000000; first | omega | assumption, ?_⟩
 exact ⟨rfl, rfl, congrArg V.b (propext (idxF_mem x s 0 (by omega))), rfl⟩
def CCts : List (Nat × Con) := (19, pureC [.v (.sl (.int .i64)), .v (.int .i64)] sCts) :: CIdx
theorem kCts : Known Tryd.prog (En CCts tys G6 []) := kIdx.add Tryd.func19 Tryd.call19 [.k] fun ds p v bs h hp => by
 unfold sCts at h
 split at h <;> simp only [Option.some.injEq, Prod.mk.injEq, reduceCtorEq] at h
 obtain ⟨rfl, rfl, rfl⟩ := h
 exact bCts _ _ hp
def sWld : List V → Option (Prop × V × List Blk)
 | [.int .i64 x, .rp false (.int .i64) a 0] => some (0 ≤ a, .b (wildE a x), [])
 | _ => none
set_option maxHeartbeats 1000000 in
theorem bWld (x : Int) (a : Int) (hp0 : 0 ≤ a) : bodyP (En CCts tys G6 []) Tryd.f18 [.k] [.int .i64 x, .rp false (.int .i64) a 0] (.b (wildE a x)) [] := by
 refine ⟨fun h0 => ?_, fun h0 => ?_⟩
 ·replace h0 : ¬ (x < 0) := h0
  refine ⟨⟨by show (0 : Int) ≤ x; omega, by show (0 : Int) ≤ a; omega⟩, ?_⟩
  first | exact ⟨rfl, rfl, congrArg V.b (propext ⟨fun h => .inr h, fun h => h.resolve_left h0⟩), rfl⟩ | exact ⟨rfl, rfl, congrArg V.b (propext ⟨fun _ => .inl h0, fun _ => trivial⟩), rfl⟩ | exact ⟨rfl, rfl, congrArg V.b (propext ⟨fun _ => .inl h0, fun _ => rfl⟩), rfl⟩
 ·replace h0 : x < 0 := h0
  first | exact ⟨rfl, rfl, congrArg V.b (propext ⟨fun h => .inr h, fun h => h.resolve_left h0⟩), rfl⟩ | exact ⟨rfl, rfl, congrArg V.b (propext ⟨fun _ => .inl h0, fun _ => trivial⟩), rfl⟩ | exact ⟨rfl, rfl, congrArg V.b (propext ⟨fun _ => .inl h0, fun _ => rfl⟩), rfl⟩
def CWld : List (Nat × Con) := (18, pureC [.v (.int .i64), .ref (.int .i64)] sWld) :: CCts
theorem kWld : Known Tryd.prog (En CWld tys G6 []) := kCts.add Tryd.func18 Tryd.call18 [.k] fun ds p v bs h hp => by
 unfold sWld at h
 split at h <;> simp only [Option.some.injEq, Prod.mk.injEq, reduceCtorEq] at h
 obtain ⟨rfl, rfl, rfl⟩ := h
 exact bWld _ _ hp
set_option maxHeartbeats 1000000 in
theorem bIxI0 (s : List Int) (a : Int) (hp0 : 0 ≤ a) (hp1 : s.length ≤ 1048576) : bodyP (En CWld tys G6 []) Tryd.f35 [.k] [.sl false (.int .i64) s, .fn 18 [.rp false (.int .i64) a 0]] (.int .i64 (ixP (fun x => decide (wildE a x)) s 0)) [] := by
 refine ⟨0, [(0, .k), (1, .k), (7, .k), (8, .k)], fun nM vs H => ∃ (j : Nat), j ≤ s.length ∧ ixP (fun x => decide (wildE a x)) (s.drop j) j = ixP (fun x => decide (wildE a x)) s 0 ∧ nM = s.length - j ∧ vs = [.sl false (.int .i64) s, .fn 18 [.rp false (.int .i64) a 0], .int .i64 (s.length : Int), .int .i64 (j : Int)] ∧ H = [], ⟨rfl, s.length, 0, by omega, rfl, by omega, rfl, rfl⟩, ?_⟩
 rintro nM vs H ⟨j, hc1_0, hc1_1, rfl, rfl, rfl⟩
 refine ⟨fun h0 => ?_, fun h0 => ?_⟩
 ·replace h0 : (j : Int) < (s.length : Int) := h0
  have hj : j < s.length := by omega
  rw [drop_one 0 s j hj, ixP] at hc1_1
  refine ⟨(i0 (j : Int) (s.length : Int)), rfl, by show 0 ≤ a; first | omega | assumption, fun h1 => ?_, fun h1 => ?_⟩
  ·replace h1 : wildE a (s.getD j 0) := h1
   rw [if_pos (decide_eq_true h1)] at hc1_1
   rw [← hc1_1]
   exact ⟨rfl, rfl, rfl, rfl⟩
  ·replace h1 : ¬ (wildE a (s.getD j 0)) := h1
   rw [if_neg (by simpa using h1)] at hc1_1
   refine ⟨(r64 ((j : Int) + 1)), ?_⟩
   exact ⟨rfl, s.length - (j + 1), by omega, j + 1, by omega, hc1_1, rfl, rfl, rfl⟩
 ·replace h0 : ¬ ((j : Int) < (s.length : Int)) := h0
  rw [List.drop_eq_nil_of_le (by omega), ixP] at hc1_1
  rw [← hc1_1]
  exact ⟨rfl, rfl, rfl, rfl⟩
def sIxI : List V → Option (Prop × V × List Blk)
 | [.sl false (.int .i64) s, .fn 18 [.rp false (.int .i64) a 0]] => some (0 ≤ a ∧ s.length ≤ 1048576, .int .i64 (ixP (fun x => decide (wildE a x)) s 0), [])
 | _ => none
def CIxI : List (Nat × Con) := (35, pureC [.v (.sl (.int .i64)), .fn [(18, [.ref (.int .i64)])]] sIxI) :: CWld
theorem kIxI : Known Tryd.prog (En CIxI tys G6 []) := kWld.add Tryd.func35 Tryd.call35 [.k] fun ds p v bs h hp => by
 unfold sIxI at h
 split at h <;> simp only [Option.some.injEq, Prod.mk.injEq, reduceCtorEq] at h
 ·obtain ⟨rfl, rfl, rfl⟩ := h
  exact bIxI0 _ _ hp.1 hp.2
set_option maxHeartbeats 1000000 in
theorem bCfI0 (s : List Int) (a : Int) (hp0 : 0 ≤ a) (hp1 : s.length ≤ 1048576) : bodyP (En CIxI tys G6 []) Tryd.f17 [.k] [.sl false (.int .i64) s, .fn 18 [.rp false (.int .i64) a 0]] (.b (∃ x ∈ s, wildE a x)) [] := by
 refine ⟨⟨by show 0 ≤ a; first | omega | assumption, by show s.length ≤ 1048576; first | omega | assumption⟩, ?_⟩
 exact ⟨rfl, rfl, congrArg V.b (propext (ixP_is (fun x => decide (wildE a x)) s fun x => decide_eq_true_iff)), rfl⟩
def sCfI : List V → Option (Prop × V × List Blk)
 | [.sl false (.int .i64) s, .fn 18 [.rp false (.int .i64) a 0]] => some (0 ≤ a ∧ s.length ≤ 1048576, .b (∃ x ∈ s, wildE a x), [])
 | _ => none
def CCfI : List (Nat × Con) := (17, pureC [.v (.sl (.int .i64)), .fn [(18, [.ref (.int .i64)])]] sCfI) :: CIxI
theorem kCfI : Known Tryd.prog (En CCfI tys G6 []) := kIxI.add Tryd.func17 Tryd.call17 [.k] fun ds p v bs h hp => by
 unfold sCfI at h
 split at h <;> simp only [Option.some.injEq, Prod.mk.injEq, reduceCtorEq] at h
 ·obtain ⟨rfl, rfl, rfl⟩ := h
  exact bCfI0 _ _ hp.1 hp.2
end Go.Proofs.YtpfehhcljeagoaaDoor.S28c

namespace Go.Proofs.YtpfehhcljeagoaaDoor.S28c
open Go Go.Proofs.YtpfehhcljeagoaaDoor.Vc Go.Proofs
set_option maxRecDepth 100000
set_option linter.unusedVariables false
open Go.Proofs.YtpfehhcljeagoaaDoor.S28
def sPlc : List V → Option (Prop × V × List Blk)
 | [.agg [.sl false (.int .i64) hs, .int .i64 nd, .int .i64 wr, .int .i64 sz, .int .i64 st, .int .i64 ph], .int .i64 x] => some (hs.length ≤ 2000000, .int .i64 (idxF x hs 0), [])
 | _ => none
set_option maxHeartbeats 1000000 in
theorem bPlc (hs : List Int) (nd : Int) (wr : Int) (sz : Int) (st : Int) (ph : Int) (x : Int) (hp0 : hs.length ≤ 2000000) : bodyP (En CCfI tys G6 []) Tryd.f39 [.k] [.agg [.sl false (.int .i64) hs, .int .i64 nd, .int .i64 wr, .int .i64 sz, .int .i64 st, .int .i64 ph], .int .i64 x] (.int .i64 (idxF x hs 0)) [] := by
 refine ⟨1, [(1, .k), (2, .k), (5, .k)], fun nM vs H => ∃ (k : Nat), k ≤ hs.length ∧ idxF x (hs.drop k) k = idxF x hs 0 ∧ nM = hs.length - k ∧ vs = [.int .i64 x, .ptr 0 1 0 0, .int .i64 (k : Int)] ∧ H = [.cells [.sl false (.int .i64) hs, .int .i64 nd, .int .i64 wr, .int .i64 sz, .int .i64 st, .int .i64 ph]], ⟨rfl, hs.length, 0, by omega, rfl, by omega, rfl, rfl⟩, ?_⟩
 rintro nM vs H ⟨k, hc1_0, hc1_1, rfl, rfl, rfl⟩
 refine ⟨fun h0 => ?_, fun h0 => ?_⟩
 ·replace h0 : (k : Int) < (hs.length : Int) := h0
  rw [drop_one 0 hs k (by omega), idxF] at hc1_1
  refine ⟨(i0 (k : Int) (hs.length : Int)), fun h1 => ?_, fun h1 => ?_⟩
  ·replace h1 : (hs.getD k 0) = x := h1
   rw [if_pos h1.symm] at hc1_1
   rw [← hc1_1]
   exact ⟨rfl, rfl, rfl, rfl⟩
  ·replace h1 : ¬ ((hs.getD k 0) = x) := h1
   rw [if_neg (fun h => h1 h.symm)] at hc1_1
   refine ⟨(r64 ((k : Int) + 1)), ?_⟩
   exact ⟨rfl, hs.length - (k + 1), by omega, k + 1, by omega, hc1_1, rfl, rfl, rfl⟩
 ·replace h0 : ¬ ((k : Int) < (hs.length : Int)) := h0
  rw [List.drop_eq_nil_of_le (by omega), idxF] at hc1_1
  rw [← hc1_1]
  exact ⟨rfl, rfl, rfl, rfl⟩
def CPlc : List (Nat × Con) := (39, pureC [.v (.cons (.sl (.int .i64)) (.cons (.int .i64) (.cons (.int .i64) (.cons (.int .i64) (.cons (.int .i64) (.cons (.int .i64) .nil)))))), .v (.int .i64)] sPlc) :: CCfI
theorem kPlc : Known Tryd.prog (En CPlc tys G6 []) := kCfI.add Tryd.func39 Tryd.call39 [.k] fun ds p v bs h hp => by
 unfold sPlc at h
 split at h <;> simp only [Option.some.injEq, Prod.mk.injEq, reduceCtorEq] at h
 obtain ⟨rfl, rfl, rfl⟩ := h
 exact bPlc _ _ _ _ _ _ _ hp
def sBit : List V → Option (Prop × V × List Blk)
 | [.int .i64 h] => some (0 ≤ h ∧ h < 12, .int .i64 ((2 : Int) ^ (h).toNat), [])
 | _ => none
set_option maxHeartbeats 1000000 in
theorem bBit (h : Int) (hp0 : 0 ≤ h) (hp1 : h < 12) : bodyP (En CPlc tys G6 []) Tryd.f36 [.k] [.int .i64 h] (.int .i64 ((2 : Int) ^ (h).toNat)) [] := by
 refine ⟨0, [(0, .k), (3, .k), (4, .k)], fun nM vs H => ∃ (i : Nat), i ≤ h.toNat ∧ nM = h.toNat - i ∧ vs = [.int .i64 h, .int .i64 ((2 : Int) ^ i), .int .i64 (i : Int)] ∧ H = [], ⟨rfl, h.toNat, 0, by omega, by omega, rfl, rfl⟩, ?_⟩
 rintro nM vs H ⟨i, hc1_0, rfl, rfl, rfl⟩
 obtain ⟨b0, b1⟩ := pwn i (by omega)
 have e2 : (2 : Int) ^ (i + 1) = 2 * 2 ^ i := by rw [Int.pow_succ, Int.mul_comm]
 refine ⟨fun h0 => ?_, fun h0 => ?_⟩
 ·replace h0 : (i : Int) < h := h0
  refine ⟨(r64 (2 * ((2 : Int) ^ i))), (r64 ((i : Int) + 1)), ?_⟩
  exact ⟨rfl, h.toNat - (i + 1), by omega, i + 1, by omega, rfl, by rw [e2]; rfl, rfl⟩
 ·replace h0 : ¬ ((i : Int) < h) := h0
  obtain rfl : i = h.toNat := by omega
  exact ⟨rfl, rfl, rfl, rfl⟩
def CBit : List (Nat × Con) := (36, pureC [.v (.int .i64)] sBit) :: CPlc
theorem kBit : Known Tryd.prog (En CBit tys G6 []) := kPlc.add Tryd.func36 Tryd.call36 [.k] fun ds p v bs h hp => by
 unfold sBit at h
 split at h <;> simp only [Option.some.injEq, Prod.mk.injEq, reduceCtorEq] at h
 obtain ⟨rfl, rfl, rfl⟩ := h
 exact bBit _ hp.1 hp.2
def sIn : List V → Option (Prop × V × List Blk)
 | [.int .i64 a, .int .i64 h] => some (0 ≤ a ∧ 0 ≤ h ∧ h < 12, .b ((a / 2 ^ (h).toNat) % 2 = 1), [])
 | _ => none
set_option maxHeartbeats 1000000 in
theorem bIn (a : Int) (h : Int) (hp0 : 0 ≤ a) (hp1 : 0 ≤ h) (hp2 : h < 12) : bodyP (En CBit tys G6 []) Tryd.f37 [.k] [.int .i64 a, .int .i64 h] (.b ((a / 2 ^ (h).toNat) % 2 = 1)) [] := by
 refine ⟨0, [(0, .k), (1, .k), (5, .k)], fun nM vs H => ∃ (i : Nat), i ≤ h.toNat ∧ nM = h.toNat - i ∧ vs = [.int .i64 (a / 2 ^ i), .int .i64 h, .int .i64 (i : Int)] ∧ H = [], ⟨rfl, h.toNat, 0, by omega, by omega, congrArg (fun z : Int => [V.int .i64 z, V.int .i64 h, V.int .i64 0]) (show a = a / 2 ^ 0 by rw [Int.pow_zero, Int.ediv_one]), rfl⟩, ?_⟩
 rintro nM vs H ⟨i, hc1_0, rfl, rfl, rfl⟩
 obtain ⟨b0, b1⟩ := pwn i (by omega)
 have d0 : 0 ≤ a / 2 ^ i := Int.ediv_nonneg hp0 (by omega)
 have d1 : a / 2 ^ i ≤ a := Int.ediv_le_self _ hp0
 have e2 : a / 2 ^ (i + 1) = a / 2 ^ i / 2 := by rw [Int.pow_succ, Int.ediv_ediv_of_nonneg (by omega)]
 refine ⟨fun h0 => ?_, fun h0 => ?_⟩
 ·replace h0 : (i : Int) < h := h0
  refine .inl ⟨⟨by show (0 : Int) ≤ (a / 2 ^ i); omega, by show (0 : Int) < 2; omega⟩, ?_⟩
  refine ⟨(r64 ((i : Int) + 1)), ?_⟩
  exact ⟨rfl, h.toNat - (i + 1), by omega, i + 1, by omega, rfl, by rw [e2]; rfl, rfl⟩
 ·replace h0 : ¬ ((i : Int) < h) := h0
  refine .inl ⟨⟨by show (0 : Int) ≤ (a / 2 ^ i); omega, by show (0 : Int) < 2; omega⟩, ?_⟩
  obtain rfl : i = h.toNat := by omega
  exact ⟨rfl, rfl, rfl, rfl⟩
def CIn : List (Nat × Con) := (37, pureC [.v (.int .i64), .v (.int .i64)] sIn) :: CBit
theorem kIn : Known Tryd.prog (En CIn tys G6 []) := kBit.add Tryd.func37 Tryd.call37 [.k] fun ds p v bs h hp => by
 unfold sIn at h
 split at h <;> simp only [Option.some.injEq, Prod.mk.injEq, reduceCtorEq] at h
 obtain ⟨rfl, rfl, rfl⟩ := h
 exact bIn _ _ hp.1 hp.2.1 hp.2.2
end Go.Proofs.YtpfehhcljeagoaaDoor.S28c

namespace Go.Proofs.YtpfehhcljeagoaaDoor.S28c
open Go Go.Proofs.YtpfehhcljeagoaaDoor.Vc Go.Proofs
set_option maxRecDepth 100000
set_option linter.unusedVariables false
open Go.Proofs.YtpfehhcljeagoaaDoor.S28
noncomputable def sSe : List V → List Blk → Option (Prop × V)
 | [.int .i64 set, .int .i64 more, .int .i64 fr, .ptr 0 1 0 0, .ptr 1 1 0 0, .ptr 2 1 0 0, .ptr 3 1 0 0], [.cells [.sl false (.int .i64) hs, .int .i64 nd, .int .i64 wr, .int .i64 sz, .int .i64 stt, .int .i64 ph], .cells [.mp (.sl (.int .i64)) 4], .cells [.int .i64 k], .cells [.fn 20 [.ptr 0 1 0 0, .ptr 1 1 0 0, .ptr 2 1 0 0, .ptr 3 1 0 0]], .imap false (.sl (.int .i64)) es] => some (SrOk hs es k set more fr, .int .i64 (cl es k (hs.drop fr.toNat) set more))
 | _, _ => none
def mSe : List V → List Blk → Nat
 | [.int .i64 set, .int .i64 more, .int .i64 fr, .ptr 0 1 0 0, .ptr 1 1 0 0, .ptr 2 1 0 0, .ptr 3 1 0 0], [.cells [.sl false (.int .i64) hs, .int .i64 nd, .int .i64 wr, .int .i64 sz, .int .i64 stt, .int .i64 ph], .cells [.mp (.sl (.int .i64)) 4], .cells [.int .i64 k], .cells [.fn 20 [.ptr 0 1 0 0, .ptr 1 1 0 0, .ptr 2 1 0 0, .ptr 3 1 0 0]], .imap false (.sl (.int .i64)) es] => hs.length - fr.toNat
 | _, _ => 0

set_option maxHeartbeats 2000000 in
theorem bSe (hs : List Int) (nd wr sz stt ph : Int) (k : Int) (es : Ps) (set more fr : Int) (hok : SrOk hs es k set more fr) : body (En ((20, lookC (recL mSe (hs.length - fr.toNat) sSe)) :: CIn) tys G6 [] [1000006]).inR Tryd.f20 [.int .i64 set, .int .i64 more, .int .i64 fr, .ptr 0 1 0 0, .ptr 1 1 0 0, .ptr 2 1 0 0, .ptr 3 1 0 0] (eyeH [.cells [.sl false (.int .i64) hs, .int .i64 nd, .int .i64 wr, .int .i64 sz, .int .i64 stt, .int .i64 ph], .cells [.mp (.sl (.int .i64)) 4], .cells [.int .i64 k], .cells [.fn 20 [.ptr 0 1 0 0, .ptr 1 1 0 0, .ptr 2 1 0 0, .ptr 3 1 0 0]], .imap false (.sl (.int .i64)) es]) (fun v' H' => (v'.bare = true ∧ v' = .int .i64 (cl es k (hs.drop fr.toNat) set more)) ∧ ∃ L, H' = eyeH [.cells [.sl false (.int .i64) hs, .int .i64 nd, .int .i64 wr, .int .i64 sz, .int .i64 stt, .int .i64 ph], .cells [.mp (.sl (.int .i64)) 4], .cells [.int .i64 k], .cells [.fn 20 [.ptr 0 1 0 0, .ptr 1 1 0 0, .ptr 2 1 0 0, .ptr 3 1 0 0]], .imap false (.sl (.int .i64)) es] ++ L) := by
 obtain ⟨s0, s1, f0, f1, k0, k1, m0, m1, l1, hs1, es1⟩ := id hok
 refine ⟨fun h0 => ?_, fun h0 => ?_⟩
 ·replace h0 : more = 0 := h0
  obtain rfl : more = 0 := h0
  exact ⟨⟨rfl, congrArg (V.int .i64) ((cl_zero es k set _).symm)⟩, _, rfl⟩
 ·replace h0 : ¬ (more = 0) := h0
  have hm0 : ¬ more = 0 := h0
  refine ⟨6, [(0, .k), (1, .k), (3, .k), (4, .k), (5, .k), (6, .k), (11, .k)], fun nM vs H => ∃ (i : Nat), (i ≤ hs.length ∧ fr.toNat ≤ i) ∧ cl es k (hs.drop i) set more = cl es k (hs.drop fr.toNat) set more ∧ nM = hs.length - i ∧ vs = [.int .i64 set, .int .i64 more, .ptr 0 1 0 0, .ptr 1 1 0 0, .ptr 2 1 0 0, .ptr 3 1 0 0, .int .i64 (i : Int)] ∧ H = [.cells [.sl false (.int .i64) hs, .int .i64 nd, .int .i64 wr, .int .i64 sz, .int .i64 stt, .int .i64 ph], .cells [.mp (.sl (.int .i64)) 4], .cells [.int .i64 k], .cells [.fn 20 [.ptr 0 1 0 0, .ptr 1 1 0 0, .ptr 2 1 0 0, .ptr 3 1 0 0]], .imap false (.sl (.int .i64)) es, .cells [.tup [], .ptr 0 1 0 0, .ptr 1 1 0 0, .ptr 2 1 0 0, .ptr 3 1 0 0, .mp (.sl (.int .i64)) 4]], ⟨rfl, hs.length - fr.toNat, fr.toNat, ⟨by omega, by omega⟩, rfl, rfl, congrArg (fun z : Int => [V.int .i64 set, V.int .i64 more, V.ptr 0 1 0 0, V.ptr 1 1 0 0, V.ptr 2 1 0 0, V.ptr 3 1 0 0, V.int .i64 z]) (Int.toNat_of_nonneg f0).symm, rfl⟩, ?_⟩
  rintro nM vs H ⟨i, hc1_0, hc1_1, rfl, rfl, rfl⟩
  refine ⟨fun h1 => ?_, fun h1 => ?_⟩
  ·replace h1 : (i : Int) < (hs.length : Int) := h1
   have hi : i < hs.length := by omega
   obtain ⟨g0, g1⟩ := hs1 _ (gmem 0 hs i hi)
   obtain ⟨p0, p1⟩ := pw12 g0 g1
   obtain ⟨n0, n1⟩ := nxt_lt s0 s1 g0 g1
   refine ⟨(i0 (i : Int) (hs.length : Int)), ⟨by show (0 : Int) ≤ hs.getD i 0; omega, by show hs.getD i 0 ≤ (64 : Int); omega⟩, (r64 ((1 : Int) * 2 ^ ((hs.getD i 0).toNat))), .inl ⟨⟨by show (0 : Int) ≤ set; omega, by show (0 : Int) ≤ ((1 : Int) * 2 ^ ((hs.getD i 0).toNat)); omega⟩, ?_⟩⟩
   refine ⟨rfl, fun x2 h2 => ?_, fun h2 => ?_⟩
   ·replace h2 : mget es (hs.getD i 0) = some x2 := h2
    obtain ⟨_, hxl, hxb⟩ := es1 _ (mget_mem h2)
    replace hxl : x2.length = hs.length := hxl
    obtain ⟨b0, b1⟩ := hxb _ (gmem 0 x2 k.toNat (by show k.toNat < x2.length; omega))
    refine fun p3 hq3 => ?_
    refine ⟨fun h4 => ?_, fun h4 => ?_⟩
    ·replace h4 : ¬ p3 := h4
     refine ⟨rfl, fun x5 h5 => ?_, fun h5 => absurd ((show mget es (hs.getD i 0) = some x2 by assumption).symm.trans h5) (fun h => by cases h)⟩
     obtain rfl : x2 = x5 := Option.some.inj ((show mget es (hs.getD i 0) = some x2 by assumption).symm.trans h5)
     refine ⟨(i0 k (x2.length : Int)), .inl ⟨⟨by show (0 : Int) ≤ (x2.getD k.toNat 0); omega, by show (0 : Int) ≤ ((set.toNat ||| (((1 : Int) * 2 ^ ((hs.getD i 0).toNat)).toNat) : Nat) : Int); omega⟩, ?_⟩⟩
     refine ⟨fun h6 => ?_, fun h6 => ?_⟩
     ·replace h6 : ((((x2.getD k.toNat 0).toNat) &&& (set.toNat ||| (((1 : Int) * 2 ^ ((hs.getD i 0).toNat)).toNat)) : Nat) : Int) ≠ ((set.toNat ||| (((1 : Int) * 2 ^ ((hs.getD i 0).toNat)).toNat) : Nat) : Int) := h6
      have hsk := cl_skip hi hm0 (show ¬ fits es k set (hs.getD i 0) from fun ⟨ag, e1, e2, _⟩ => h6 (by rw [h2] at e1; cases e1; exact e2))
      rw [hc1_1] at hsk
      refine ⟨(r64 ((i : Int) + 1)), ?_⟩
      exact ⟨rfl, hs.length - (i + 1), by omega, i + 1, ⟨by omega, by omega⟩, hsk, rfl, rfl, rfl⟩
     ·replace h6 : ¬ (((((x2.getD k.toNat 0).toNat) &&& (set.toNat ||| (((1 : Int) * 2 ^ ((hs.getD i 0).toNat)).toNat)) : Nat) : Int) ≠ ((set.toNat ||| (((1 : Int) * 2 ^ ((hs.getD i 0).toNat)).toNat) : Nat) : Int)) := h6
      refine ⟨rfl, 7, [(0, .k), (1, .k), (3, .k), (4, .k), (5, .k), (6, .k), (11, .k), (12, .k), (13, .k), (54, .k)], fun nM vs H => ∃ (s : List Nat) (l : Option Nat), (∀ j ∈ s ++ l.toList, ¬ bad1 (es.getD j (0, [])) k set ((hs.getD i 0))) ∧ nM = rem es.length (s ++ l.toList) ∧ vs = [.int .i64 set, .int .i64 more, .ptr 0 1 0 0, .ptr 1 1 0 0, .ptr 2 1 0 0, .ptr 3 1 0 0, .int .i64 (i : Int), .int .i64 (hs.getD i 0), .int .i64 ((set.toNat ||| (((1 : Int) * 2 ^ ((hs.getD i 0).toNat)).toNat) : Nat) : Int), .ptr 6 1 0 0] ∧ H = [.cells [.sl false (.int .i64) hs, .int .i64 nd, .int .i64 wr, .int .i64 sz, .int .i64 stt, .int .i64 ph], .cells [.mp (.sl (.int .i64)) 4], .cells [.int .i64 k], .cells [.fn 20 [.ptr 0 1 0 0, .ptr 1 1 0 0, .ptr 2 1 0 0, .ptr 3 1 0 0]], .imap false (.sl (.int .i64)) es, .cells [.tup [], .ptr 0 1 0 0, .ptr 1 1 0 0, .ptr 2 1 0 0, .ptr 3 1 0 0, .mp (.sl (.int .i64)) 4], .mit (some 4) es.length s l], ⟨rfl, rem es.length [], [], none, by simp, rfl, rfl, rfl⟩, ?_⟩
      rintro nM vs H ⟨s, l, hc2_0, rfl, rfl, rfl⟩
      refine ⟨rfl, fun h7 => ?_, fun i7 l7 h7 => ?_⟩
      ·have alt := 0
       have hfit : fits es k set (hs.getD i 0) := ⟨x2, h2, Classical.not_not.1 h6, fun e he hb => by
        obtain ⟨j, hj, rfl⟩ := List.mem_iff_getElem.1 he
        refine hc2_0 j (h7 j hj) ?_
        rw [gD hj]; exact hb⟩
       have hSe : SrOk hs es k (nxt set (hs.getD i 0)) (more - 1) ((i : Int) + 1) := ⟨n0, n1, by omega, by omega, k0, k1, by omega, by omega, l1, hs1, es1⟩
       have hMe : hs.length - ((i : Int) + 1).toNat < hs.length - fr.toNat := by omega
       refine ⟨(r64 (more - 1)), (r64 ((i : Int) + 1)), ⟨rfl, rfl⟩, ⟨hSe, hMe⟩, fun h8 => ?_, fun h8 => ?_⟩
       ·replace h8 : 0 ≤ (cl es k (hs.drop (((i : Int) + 1).toNat)) ((set.toNat ||| (((1 : Int) * 2 ^ ((hs.getD i 0).toNat)).toNat) : Nat) : Int) (more - 1)) := h8
        exact ⟨⟨rfl, congrArg (V.int .i64) ((cl_yes hi hm0 hfit h8).trans hc1_1)⟩, _, rfl⟩
       ·replace h8 : ¬ (0 ≤ (cl es k (hs.drop (((i : Int) + 1).toNat)) ((set.toNat ||| (((1 : Int) * 2 ^ ((hs.getD i 0).toNat)).toNat) : Nat) : Int) (more - 1))) := h8
        have hsk := cl_no hi hm0 h8
        rw [hc1_1] at hsk
        refine ⟨(r64 ((i : Int) + 1)), ?_⟩
        exact ⟨rfl, hs.length - (i + 1), by omega, i + 1, ⟨by omega, by omega⟩, hsk, rfl, rfl, rfl⟩
      ·have alt := 1
       obtain ⟨⟨o0, o1⟩, hyl, hyb⟩ := es1 _ (gmem (0, []) es i7 l7)
       obtain ⟨c0, c1⟩ := hyb _ (gmem 0 _ k.toNat (by rw [hyl]; omega))
       have d0 : 0 ≤ set / 2 ^ (((es.getD i7 (0, [])).1).toNat) := Int.ediv_nonneg s0 (by have := pw12 o0 o1; omega)
       have d1 : 0 ≤ ((es.getD i7 (0, [])).2).getD k.toNat 0 / 2 ^ ((hs.getD i 0).toNat) := Int.ediv_nonneg c0 (by omega)
       refine ⟨rfl, ⟨by show (0 : Int) ≤ (es.getD i7 (0, [])).1; omega, by show (es.getD i7 (0, [])).1 ≤ (64 : Int); omega⟩, .inl ⟨⟨by show (0 : Int) ≤ (set / 2 ^ (((es.getD i7 (0, [])).1).toNat)); omega, by show (0 : Int) ≤ 1; omega⟩, ?_⟩⟩
       refine ⟨fun h9 => ?_, fun h9 => ?_⟩
       ·replace h9 : ((((set / 2 ^ (((es.getD i7 (0, [])).1).toNat)).toNat) &&& 1 : Nat) : Int) = 1 := h9
        refine ⟨(i0 k (((es.getD i7 (0, [])).2).length : Int)), ⟨by show (0 : Int) ≤ hs.getD i 0; omega, by show hs.getD i 0 ≤ (64 : Int); omega⟩, .inl ⟨⟨by show (0 : Int) ≤ ((((es.getD i7 (0, [])).2).getD k.toNat 0) / 2 ^ ((hs.getD i 0).toNat)); omega, by show (0 : Int) ≤ 1; omega⟩, ?_⟩⟩
        refine ⟨fun h10 => ?_, fun h10 => ?_⟩
        ·replace h10 : (((((((es.getD i7 (0, [])).2).getD k.toNat 0) / 2 ^ ((hs.getD i 0).toNat)).toNat) &&& 1 : Nat) : Int) = 0 := h10
         have hsk := cl_skip hi hm0 (show ¬ fits es k set (hs.getD i 0) from fun ⟨ag, _, _, e3⟩ => e3 _ (gmem (0, []) es i7 l7) ⟨h9, h10⟩)
         rw [hc1_1] at hsk
         refine ⟨(r64 ((i : Int) + 1)), ?_⟩
         exact ⟨rfl, hs.length - (i + 1), by omega, i + 1, ⟨by omega, by omega⟩, hsk, rfl, rfl, rfl⟩
        ·replace h10 : ¬ ((((((((es.getD i7 (0, [])).2).getD k.toNat 0) / 2 ^ ((hs.getD i 0).toNat)).toNat) &&& 1 : Nat) : Int) = 0) := h10
         have hnx : ∀ j ∈ (s ++ l.toList) ++ (some i7).toList, ¬ bad1 (es.getD j (0, [])) k set (hs.getD i 0) := fun j hj => by
          rcases List.mem_append.1 hj with hj | hj
          ·exact hc2_0 j hj
          ·obtain rfl : j = i7 := by simpa using hj
           exact fun hb => h10 hb.2
         exact ⟨rfl, rem es.length ((s ++ l.toList) ++ [i7]), rem_lt l7 h7, s ++ l.toList, some i7, hnx, rfl, rfl, rfl⟩
       ·replace h9 : ¬ (((((set / 2 ^ (((es.getD i7 (0, [])).1).toNat)).toNat) &&& 1 : Nat) : Int) = 1) := h9
        have hnx : ∀ j ∈ (s ++ l.toList) ++ (some i7).toList, ¬ bad1 (es.getD j (0, [])) k set (hs.getD i 0) := fun j hj => by
         rcases List.mem_append.1 hj with hj | hj
         ·exact hc2_0 j hj
         ·obtain rfl : j = i7 := by simpa using hj
          exact fun hb => h9 hb.1
        exact ⟨rfl, rem es.length ((s ++ l.toList) ++ [i7]), rem_lt l7 h7, s ++ l.toList, some i7, hnx, rfl, rfl, rfl⟩
    ·replace h4 : p3 := h4
     have := hq3 h4
     subst this
     simp at hxl
     omega
   ·replace h2 : mget es (hs.getD i 0) = none := h2
    have hsk := cl_skip hi hm0 (show ¬ fits es k set (hs.getD i 0) from fun ⟨ag, e1, _⟩ => by rw [h2] at e1; cases e1)
    rw [hc1_1] at hsk
    refine ⟨fun h11 => absurd (show True by trivial) h11, fun h11 => ?_⟩
    refine ⟨(r64 ((i : Int) + 1)), ?_⟩
    exact ⟨rfl, hs.length - (i + 1), by omega, i + 1, ⟨by omega, by omega⟩, hsk, rfl, rfl, rfl⟩
  ·replace h1 : ¬ ((i : Int) < (hs.length : Int)) := h1
   exact ⟨⟨rfl, congrArg (V.int .i64) ((cl_end (by omega) hm0).symm.trans hc1_1)⟩, _, rfl⟩
noncomputable def CSe : List (Nat × Con) := (20, lookC sSe) :: CIn
theorem kSe : Known Tryd.prog (En CSe tys G6 [] [1000006]) := (kIn.frz [1000006]).addLook Tryd.func20 Tryd.call20 mSe fun xs H p v hs hp => by
 unfold sSe at hs
 split at hs <;> simp only [Option.some.injEq, Prod.mk.injEq, reduceCtorEq] at hs
 obtain ⟨rfl, rfl⟩ := hs
 exact bSe _ _ _ _ _ _ _ _ _ _ _ hp
end Go.Proofs.YtpfehhcljeagoaaDoor.S28c

namespace Go.Proofs.YtpfehhcljeagoaaDoor.S28c
open Go Go.Proofs.YtpfehhcljeagoaaDoor.Vc Go.Proofs Go.Proofs.YtpfehhcljeagoaaDoor.S28
set_option maxRecDepth 100000
abbrev RP := Int × List Int × Unit
def allS (l : List Int) : Int := l.foldl nxt 0
theorem allS_step {hs : List Int} {k : Nat} (h : k < hs.length) : allS (hs.take (k + 1)) = nxt (allS (hs.take k)) (hs.getD k 0) := by
 unfold allS
 rw [List.take_succ_eq_append_getElem h, List.foldl_append, gD h]; rfl
theorem fold_bd : ∀ (l : List Int) (s : Int), 0 ≤ s → s < 4096 → (∀ h ∈ l, 0 ≤ h ∧ h < 12) → 0 ≤ l.foldl nxt s ∧ l.foldl nxt s < 4096
 | [], s, h0, h1, _ => ⟨h0, h1⟩
 | h :: l, s, h0, h1, hl => by
  obtain ⟨n0, n1⟩ := nxt_lt h0 h1 (hl h (by simp)).1 (hl h (by simp)).2
  exact fold_bd l _ n0 n1 fun x hx => hl x (by simp [hx])
theorem allS_bd {hs : List Int} (h : ∀ h ∈ hs, 0 ≤ h ∧ h < 12) (k : Nat) : 0 ≤ allS (hs.take k) ∧ allS (hs.take k) < 4096 :=
 fold_bd _ 0 (by omega) (by omega) fun x hx => h x (List.mem_of_mem_take hx)
theorem Tk.hs12 {hs : List Int} {nd wr sz st ph : Int} (h : Tk hs nd wr sz st ph) : ∀ x ∈ hs, 0 ≤ x ∧ x < 12 := fun x hx => by
 obtain ⟨i, hi, rfl⟩ := List.mem_iff_getElem.1 hx
 have := hsF_at hs (-1) i h.ho hi
 rw [gD hi] at this
 omega
open Classical in
/-- A post counts if it is the first of its house. -/
noncomputable def putP (hs : List Int) (es : Ps) (p : RP) : Ps :=
 if mget es p.1 = none ∧ (¬ ∃ x ∈ p.2.1, wildE (allS hs) x) ∧ (p.2.1.length : Int) = (hs.length : Int) ∧ p.1 ∈ hs then mput es p.1 p.2.1 else es
noncomputable def esL (hs : List Int) (l : List RP) : Ps := l.foldl (putP hs) []
theorem esL_step {hs : List Int} {l : List RP} {k : Nat} (h : k < l.length) : esL hs (l.take (k + 1)) = putP hs (esL hs (l.take k)) (l.getD k (0, ([], ()))) := by
 unfold esL
 rw [List.take_succ_eq_append_getElem h, List.foldl_append, gD h]; rfl
theorem mput_mem {es : Ps} {n : Int} {x : List Int} {e : Int × List Int} : e ∈ mput es n x → e ∈ es ∨ e = (n, x) := by
 induction es with
 | nil => intro h; right; simpa [mput] using h
 | cons a es ih =>
  obtain ⟨m, y⟩ := a
  intro h
  unfold mput at h
  split at h
  ·rcases List.mem_cons.1 h with h | h
   ·right; simp_all
   ·left; exact List.mem_cons_of_mem _ h
  ·rcases List.mem_cons.1 h with h | h
   ·left; rw [h]; exact List.mem_cons_self ..
   ·exact (ih h).imp (List.mem_cons_of_mem _) id
theorem mput_len (es : Ps) (n : Int) (x : List Int) : (mput es n x).length ≤ es.length + 1 := by
 induction es with
 | nil => simp [mput]
 | cons a es ih =>
  obtain ⟨m, y⟩ := a
  unfold mput
  split <;> simp only [List.length_cons] <;> omega
theorem esL_len (hs : List Int) : ∀ (l : List RP) (es : Ps), (l.foldl (putP hs) es).length ≤ es.length + l.length
 | [], es => by simp
 | p :: l, es => by
  have h := esL_len hs l (putP hs es p)
  have h2 : (putP hs es p).length ≤ es.length + 1 := by
   unfold putP; split
   ·exact mput_len _ _ _
   ·omega
  simp only [List.foldl_cons, List.length_cons]; omega
theorem xor0 {a b : Nat} (h : a ^^^ b = 0) : a = b := by
 apply Nat.eq_of_testBit_eq
 intro i
 have := congrArg (fun n => n.testBit i) h
 simp only [Nat.testBit_xor, Nat.zero_testBit] at this
 revert this
 cases a.testBit i <;> cases b.testBit i <;> simp
theorem not_wild {a x : Int} (h : ¬ wildE a x) : 0 ≤ x ∧ x.toNat = x.toNat &&& a.toNat := by
 unfold wildE at h
 have h1 : ¬ x < 0 := fun g => h (.inl g)
 have h2 : (((x.toNat ^^^ (x.toNat &&& a.toNat)) : Nat) : Int) = 0 := Classical.not_not.1 fun g => h (.inr g)
 exact ⟨by omega, xor0 (by omega)⟩
def PsOk (hs : List Int) (es : Ps) : Prop := ∀ e ∈ es, (0 ≤ e.1 ∧ e.1 < 12) ∧ e.2.length = hs.length ∧ ∀ x ∈ e.2, 0 ≤ x ∧ x < 4096
theorem esL_ok {hs : List Int} (hh : ∀ h ∈ hs, 0 ≤ h ∧ h < 12) : ∀ (l : List RP) (es : Ps), PsOk hs es → PsOk hs (l.foldl (putP hs) es)
 | [], es, h => h
 | p :: l, es, h => by
  refine esL_ok hh l _ fun e he => ?_
  unfold putP at he
  split at he
  ·rename_i hc
   rcases mput_mem he with he | rfl
   ·exact h e he
   ·refine ⟨hh _ hc.2.2.2, by have := hc.2.2.1; show p.2.1.length = _; omega, fun x hx => ?_⟩
    obtain ⟨x0, x1⟩ := not_wild fun g => hc.2.1 ⟨x, hx, g⟩
    have ha := allS_bd hh hs.length
    rw [List.take_length] at ha
    have : x.toNat &&& (allS hs).toNat ≤ (allS hs).toNat := Nat.and_le_right
    omega
  ·exact h e he
/-- The verdicts about the first dealers. -/
noncomputable def vd1 (hs : List Int) (wr : Int) (es : Ps) (k : Nat) : List (Int × Int × Unit) :=
 if 0 ≤ cl es (k : Int) (hs.drop 0) 0 ((hs.length : Int) - wr) then [(hs.getD k 0, cl es (k : Int) (hs.drop 0) 0 ((hs.length : Int) - wr), ())] else []
noncomputable def vdL (hs : List Int) (wr : Int) (es : Ps) : Nat → List (Int × Int × Unit)
 | 0 => []
 | k + 1 => vdL hs wr es k ++ vd1 hs wr es k
theorem vdL_len (hs : List Int) (wr : Int) (es : Ps) : ∀ k, (vdL hs wr es k).length ≤ k
 | 0 => by simp [vdL]
 | k + 1 => by
  have := vdL_len hs wr es k
  unfold vdL vd1
  split <;> simp <;> omega
noncomputable def decL (hs : List Int) (nd wr sz st ph : Int) (l : List RP) : List (Int × Int × Unit) :=
 if tkE hs nd wr sz st ph = 0 then vdL hs wr (esL hs l) hs.length else []
/-! ### the reference's sets -/
theorem nxt_sum {s h : Int} (s0 : 0 ≤ s) (h0 : 0 ≤ h) (hs : s < 2 ^ h.toNat) : nxt s h = s + 2 ^ h.toNat := by
 obtain ⟨n, rfl⟩ := Int.eq_ofNat_of_zero_le h0
 obtain ⟨m, rfl⟩ := Int.eq_ofNat_of_zero_le s0
 rw [Int.toNat_natCast] at hs ⊢
 have e : ((1 : Int) * 2 ^ n).toNat = 2 ^ n := by rw [Int.one_mul, show (2 : Int) ^ n = ((2 ^ n : Nat) : Int) by rw [Int.natCast_pow]; rfl, Int.toNat_natCast]
 have h2 : m < 2 ^ n := by
  have : ((m : Nat) : Int) < ((2 ^ n : Nat) : Int) := by rw [Int.natCast_pow]; exact hs
  exact Int.ofNat_lt.1 this
 have h3 := Nat.two_pow_add_eq_or_of_lt h2 1
 rw [Nat.mul_one] at h3
 unfold nxt
 rw [Int.toNat_natCast, Int.toNat_natCast, e, Nat.or_comm, ← h3, Int.natCast_add, Int.natCast_pow, Int.add_comm]
 rfl
theorem fold_lt : ∀ (l : List Int) (s p : Int), -1 ≤ p → hsF p l = true → 0 ≤ s → s < 2 ^ (p + 1).toNat → ∀ k, k ≤ l.length → 0 ≤ (l.take k).foldl nxt s ∧ ∀ (h : Int), p < h → (∀ x ∈ l.take k, x < h) → (l.take k).foldl nxt s < 2 ^ h.toNat
 | _, s, p, hp, _, s0, s1, 0, _ => by
  refine ⟨by simpa using s0, fun h hh _ => ?_⟩
  have h1 := Nat.pow_le_pow_right (n := 2) (by omega) (show (p + 1).toNat ≤ h.toNat by omega)
  have h2 : ((2 ^ (p + 1).toNat : Nat) : Int) ≤ ((2 ^ h.toNat : Nat) : Int) := Int.ofNat_le.2 h1
  rw [Int.natCast_pow, Int.natCast_pow] at h2
  have h3 : (2 : Int) ^ (p + 1).toNat ≤ 2 ^ h.toNat := h2
  simp only [List.take_zero, List.foldl_nil]
  omega
 | [], s, p, hp, hh, s0, s1, k + 1, hk => by simp at hk
 | a :: l, s, p, hp, hh, s0, s1, k + 1, hk => by
  simp only [hsF, Bool.and_eq_true, decide_eq_true_eq] at hh
  obtain ⟨⟨a0, a1, a2⟩, hl⟩ := hh
  have hpw : ∀ {x y : Int}, 0 ≤ x → x ≤ y → (2 : Int) ^ x.toNat ≤ 2 ^ y.toNat := fun {x y} hx hxy => by
   have h1 := Nat.pow_le_pow_right (n := 2) (by omega) (show x.toNat ≤ y.toNat by omega)
   have h2 : ((2 ^ x.toNat : Nat) : Int) ≤ ((2 ^ y.toNat : Nat) : Int) := Int.ofNat_le.2 h1
   rw [Int.natCast_pow, Int.natCast_pow] at h2
   exact h2
  have s2 : s < 2 ^ a.toNat := Int.lt_of_lt_of_le s1 (hpw (by omega) (by omega))
  have e := nxt_sum s0 a0 s2
  have p0 : (0 : Int) < 2 ^ a.toNat := Int.pow_pos (by omega)
  have e2 : (2 : Int) ^ (a + 1).toNat = 2 * 2 ^ a.toNat := by rw [show (a + 1).toNat = a.toNat + 1 by omega, Int.pow_succ, Int.mul_comm]
  obtain ⟨f0, f1⟩ := fold_lt l (nxt s a) a (by omega) hl (by omega) (by omega) k (by simpa using hk)
  rw [List.take_succ_cons, List.foldl_cons]
  exact ⟨f0, fun h hh hx => f1 h (hx a (by simp)) fun x hm => hx x (by simp [hm])⟩
theorem sorted_take : ∀ (l : List Int) (p : Int) (k : Nat), hsF p l = true → k < l.length → p < l.getD k 0 ∧ ∀ x ∈ l.take k, x < l.getD k 0
 | [], _, k, _, hk => by simp at hk
 | a :: l, p, 0, hh, _ => by
  simp only [hsF, Bool.and_eq_true, decide_eq_true_eq] at hh
  exact ⟨hh.1.2.2, fun x hx => by simp at hx⟩
 | a :: l, p, k + 1, hh, hk => by
  simp only [hsF, Bool.and_eq_true, decide_eq_true_eq] at hh
  obtain ⟨h1, h2⟩ := sorted_take l a k hh.2 (by simpa using hk)
  have e : (a :: l).getD (k + 1) 0 = l.getD k 0 := by simp
  rw [e, List.take_succ_cons]
  refine ⟨by omega, fun x hx => ?_⟩
  rcases List.mem_cons.1 hx with rfl | hx
  ·exact h1
  ·exact h2 x hx
/-- The sum of the bits is their set. -/
theorem allS_sum {hs : List Int} (hh : hsF (-1) hs = true) {k : Nat} (hk : k < hs.length) : allS (hs.take (k + 1)) = allS (hs.take k) + 2 ^ (hs.getD k 0).toNat := by
 rw [allS_step hk]
 obtain ⟨h0, h1⟩ := sorted_take hs (-1) k hh hk
 obtain ⟨f0, f1⟩ := fold_lt hs 0 (-1) (by omega) hh (by omega) (by decide) k (by omega)
 exact nxt_sum f0 (by omega) (f1 _ h0 h1)
/-- A post that counts. -/
def cntP (hs : List Int) (p0 : Int) (p1 : List Int) : Prop := p0 ∈ hs ∧ p1.length = hs.length ∧ ¬ ∃ x ∈ p1, wildE (allS hs) x
theorem wild_and {a x : Int} (h0 : ¬ x < 0) (h : ((x.toNat &&& a.toNat : Nat) : Int) = x) : ¬ wildE a x := by
 rintro (h | h)
 ·exact h0 h
 ·have e : x.toNat &&& a.toNat = x.toNat := by omega
  exact h (by rw [e, Nat.xor_self]; rfl)
theorem wild_ne {a x : Int} (h : ¬ ((x.toNat &&& a.toNat : Nat) : Int) = x) : wildE a x := by
 refine Classical.byContradiction fun g => h ?_
 obtain ⟨h0, h1⟩ := not_wild g
 omega
end Go.Proofs.YtpfehhcljeagoaaDoor.S28c

namespace Go.Proofs.YtpfehhcljeagoaaDoor.S28c
open Go Go.Proofs.YtpfehhcljeagoaaDoor.Vc Go.Proofs
set_option maxRecDepth 100000
set_option linter.unusedVariables false
open Go.Proofs.YtpfehhcljeagoaaDoor.S28
noncomputable def sDec : List V → Option (Prop × V × List Blk)
 | [.agg [.sl false (.int .i64) hs, .int .i64 nd, .int .i64 wr, .int .i64 sz, .int .i64 st, .int .i64 ph], .sl false (.cons (.int .i64) (.cons (.sl (.int .i64)) .nil)) l] => some (hs.length ≤ 2000000 ∧ l.length ≤ 20 ∧ ∀ p ∈ l, p.2.1.length ≤ 1048576, .tup [.own (.cons (.int .i64) (.cons (.int .i64) .nil)) 0, .int .i64 (tkE hs nd wr sz st ph)], [.row true (.cons (.int .i64) (.cons (.int .i64) .nil)) (decL hs nd wr sz st ph l)])
 | _ => none
set_option maxHeartbeats 4000000 in
theorem bDec (hs : List Int) (nd : Int) (wr : Int) (sz : Int) (st : Int) (ph : Int) (l : List (Int × (List Int × Unit))) (hp0 : hs.length ≤ 2000000) (hp1 : l.length ≤ 20) (hp2 : ∀ p ∈ l, p.2.1.length ≤ 1048576) : bodyP (En CSe tys G6 [] [1000006]) Tryd.f5 [.o (.cons (.int .i64) (.cons (.int .i64) .nil)), .k] [.agg [.sl false (.int .i64) hs, .int .i64 nd, .int .i64 wr, .int .i64 sz, .int .i64 st, .int .i64 ph], .sl false (.cons (.int .i64) (.cons (.sl (.int .i64)) .nil)) l] (.tup [.own (.cons (.int .i64) (.cons (.int .i64) .nil)) 0, .int .i64 (tkE hs nd wr sz st ph)]) [.row true (.cons (.int .i64) (.cons (.int .i64) .nil)) (decL hs nd wr sz st ph l)] := by
 refine ⟨rfl, rfl, rfl, rfl, rfl, by show hs.length ≤ 2000000; first | omega | assumption, fun h0 => ?_, fun h0 => ?_⟩
 ·replace h0 : (tkE hs nd wr sz st ph) ≠ 0 := h0
  rw [show decL hs nd wr sz st ph l = [] from if_neg h0]
  exact ⟨rfl, rfl, rfl, rfl⟩
 ·replace h0 : ¬ ((tkE hs nd wr sz st ph) ≠ 0) := h0
  have hT := tk0 (Classical.not_not.1 h0)
  have hsb : ∀ h ∈ hs, 0 ≤ h ∧ h < 12 := hT.hs12
  have hn12 := hT.l12
  refine ⟨⟨rfl, rfl, rfl⟩, 2, [(1, .k), (2, .k), (7, .k), (27, .k), (28, .k), (29, .k)], fun nM vs H => ∃ (k : Nat), k ≤ hs.length ∧ nM = hs.length - k ∧ vs = [.sl false (.cons (.int .i64) (.cons (.sl (.int .i64)) .nil)) l, .ptr 0 1 0 0, .ptr 1 1 0 0, .sl false (.int .i64) hs, .int .i64 (hs.length : Int), .int .i64 (k : Int)] ∧ H = [.cells [.sl false (.int .i64) hs, .int .i64 nd, .int .i64 wr, .int .i64 sz, .int .i64 st, .int .i64 ph], .cells [.int .i64 (allS (hs.take k))]], ⟨rfl, hs.length, 0, by omega, by omega, rfl, rfl⟩, ?_⟩
  rintro nM vs H ⟨k, hc1_0, rfl, rfl, rfl⟩
  refine ⟨fun h1 => ?_, fun h1 => ?_⟩
  ·replace h1 : (k : Int) < (hs.length : Int) := h1
   have hkl : k < hs.length := by omega
   obtain ⟨g0, g1⟩ := hsb _ (gmem 0 hs k hkl)
   obtain ⟨p0, p1⟩ := pw12 g0 g1
   obtain ⟨a0, a1⟩ := allS_bd hsb k
   refine ⟨(i0 (k : Int) (hs.length : Int)), by kernel_rfl, ⟨by show (0 : Int) ≤ hs.getD k 0; omega, by show hs.getD k 0 ≤ (64 : Int); omega⟩, (r64 ((1 : Int) * 2 ^ ((hs.getD k 0).toNat))), .inl ⟨⟨by show (0 : Int) ≤ (allS (hs.take k)); omega, by show (0 : Int) ≤ ((1 : Int) * 2 ^ ((hs.getD k 0).toNat)); omega⟩, ?_⟩⟩
   refine ⟨⟨rfl, rfl, rfl⟩, (r64 ((k : Int) + 1)), ?_⟩
   exact ⟨rfl, hs.length - (k + 1), by omega, k + 1, by omega, rfl, rfl, by rw [allS_step hkl]; rfl⟩
  ·replace h1 : ¬ ((k : Int) < (hs.length : Int)) := h1
   have hk : hs.take k = hs := List.take_of_length_le (by omega)
   obtain ⟨a0, a1⟩ := allS_bd hsb k
   refine ⟨⟨rfl, rfl, rfl⟩, 4, [(2, .k), (7, .k), (10, .k), (39, .k), (40, .k), (41, .k)], fun nM vs H => ∃ (j : Nat), j ≤ l.length ∧ nM = l.length - j ∧ vs = [.ptr 0 1 0 0, .ptr 1 1 0 0, .ptr 3 1 0 0, .sl false (.cons (.int .i64) (.cons (.sl (.int .i64)) .nil)) l, .int .i64 (l.length : Int), .int .i64 (j : Int)] ∧ H = [.cells [.sl false (.int .i64) hs, .int .i64 nd, .int .i64 wr, .int .i64 sz, .int .i64 st, .int .i64 ph], .cells [.int .i64 (allS (hs.take k))], .imap false (.sl (.int .i64)) (esL hs (l.take j)), .cells [.mp (.sl (.int .i64)) 2]], ⟨rfl, l.length, 0, by omega, by omega, rfl, rfl⟩, ?_⟩
   rintro nM vs H ⟨j, hc2_0, rfl, rfl, rfl⟩
   refine ⟨fun h2 => ?_, fun h2 => ?_⟩
   ·replace h2 : (j : Int) < (l.length : Int) := h2
    have hjl : j < l.length := by omega
    have hpl := hp2 _ (gmem (0, ([], ())) l j hjl)
    have hel := esL_len hs (l.take j) []
    rw [List.length_take, List.length_nil] at hel
    replace hel : (esL hs (l.take j)).length ≤ 0 + min j l.length := hel
    refine ⟨(i0 (j : Int) (l.length : Int)), ⟨rfl, rfl, rfl, Nat.le_of_ble_eq_true rfl⟩, rfl, fun x3 h3 => ?_, fun h3 => ?_⟩
    ·replace h3 : mget (esL hs (l.take j)) ((l.getD j (0, ([], ()))).1) = some x3 := h3
     have hps : esL hs (l.take (j + 1)) = esL hs (l.take j) := by
      rw [esL_step hjl, putP, if_neg (fun h => by
       have h9 := h3.symm.trans h.1
       cases h9)]
     refine ⟨rfl, ⟨by show 0 ≤ (allS (hs.take k)); first | omega | assumption | (simp only [List.length_cons, List.length_nil, List.length_append, List.length_take, List.length_drop, List.length_set, List.length_replicate]; omega), by show (((l.getD j (0, ([], ()))).2).1).length ≤ 1048576; first | omega | assumption | (simp only [List.length_cons, List.length_nil, List.length_append, List.length_take, List.length_drop, List.length_set, List.length_replicate]; omega)⟩, fun h4 => absurd h4 (show ¬ (¬ True) by simp), fun h4 => ?_⟩
     refine ⟨(r64 ((j : Int) + 1)), ?_⟩
     exact ⟨rfl, l.length - (j + 1), by omega, j + 1, by omega, rfl, rfl, by rw [hps]; rfl⟩
    ·replace h3 : mget (esL hs (l.take j)) ((l.getD j (0, ([], ()))).1) = none := h3
     refine ⟨rfl, ⟨by show 0 ≤ (allS (hs.take k)); first | omega | assumption | (simp only [List.length_cons, List.length_nil, List.length_append, List.length_take, List.length_drop, List.length_set, List.length_replicate]; omega), by show (((l.getD j (0, ([], ()))).2).1).length ≤ 1048576; first | omega | assumption | (simp only [List.length_cons, List.length_nil, List.length_append, List.length_take, List.length_drop, List.length_set, List.length_replicate]; omega)⟩, fun h5 => ?_, fun h5 => absurd (show ¬ False by simp) h5⟩
     refine ⟨fun h6 => ?_, fun h6 => ?_⟩
     ·replace h6 : ¬ (∃ x ∈ (((l.getD j (0, ([], ()))).2).1), wildE (allS (hs.take k)) x) := h6
      refine ⟨fun h7 => ?_, fun h7 => ?_⟩
      ·replace h7 : (((((l.getD j (0, ([], ()))).2).1).length : Nat) : Int) = (hs.length : Int) := h7
       refine ⟨rfl, by show hs.length ≤ 2000000; first | omega | assumption, fun h8 => ?_, fun h8 => ?_⟩
       ·replace h8 : ((l.getD j (0, ([], ()))).1) ∈ hs := h8
        have hps : esL hs (l.take (j + 1)) = mput (esL hs (l.take j)) (l.getD j (0, ([], ()))).1 (l.getD j (0, ([], ()))).2.1 := by
         rw [hk] at h6
         rw [esL_step hjl, putP, if_pos ⟨h3, h6, h7, h8⟩]
        refine ⟨⟨rfl, by show (esL hs (l.take j)).length ≤ 1000000000; omega⟩, (r64 ((j : Int) + 1)), ?_⟩
        exact ⟨rfl, l.length - (j + 1), by omega, j + 1, by omega, rfl, rfl, by rw [hps]; rfl⟩
       ·replace h8 : ¬ (((l.getD j (0, ([], ()))).1) ∈ hs) := h8
        have hps : esL hs (l.take (j + 1)) = esL hs (l.take j) := by
         rw [esL_step hjl, putP, if_neg (fun h => h8 h.2.2.2)]
        refine ⟨(r64 ((j : Int) + 1)), ?_⟩
        exact ⟨rfl, l.length - (j + 1), by omega, j + 1, by omega, rfl, rfl, by rw [hps]; rfl⟩
      ·replace h7 : ¬ ((((((l.getD j (0, ([], ()))).2).1).length : Nat) : Int) = (hs.length : Int)) := h7
       have hps : esL hs (l.take (j + 1)) = esL hs (l.take j) := by
        rw [esL_step hjl, putP, if_neg (fun h => h7 h.2.2.1)]
       refine ⟨(r64 ((j : Int) + 1)), ?_⟩
       exact ⟨rfl, l.length - (j + 1), by omega, j + 1, by omega, rfl, rfl, by rw [hps]; rfl⟩
     ·replace h6 : ¬ (¬ (∃ x ∈ (((l.getD j (0, ([], ()))).2).1), wildE (allS (hs.take k)) x)) := h6
      have hps : esL hs (l.take (j + 1)) = esL hs (l.take j) := by
       rw [esL_step hjl, putP, if_neg (fun h => h6 (by rw [hk]; exact h.2.1))]
      refine ⟨(r64 ((j : Int) + 1)), ?_⟩
      exact ⟨rfl, l.length - (j + 1), by omega, j + 1, by omega, rfl, rfl, by rw [hps]; rfl⟩
   ·replace h2 : ¬ ((j : Int) < (l.length : Int)) := h2
    have hj : l.take j = l := List.take_of_length_le (by omega)
    have hok := esL_ok hsb l [] (fun e he => by cases he)
    refine ⟨4, [(2, .k), (10, .k), (16, .o (.cons (.int .i64) (.cons (.int .i64) .nil))), (85, .k), (86, .k), (87, .k)], fun nM vs H => ∃ (m : Nat), m ≤ hs.length ∧ nM = hs.length - m ∧ vs = [.ptr 0 1 0 0, .ptr 3 1 0 0, .own (.cons (.int .i64) (.cons (.int .i64) .nil)) 4, .sl false (.int .i64) hs, .int .i64 (hs.length : Int), .int .i64 (m : Int)] ∧ H = [.cells [.sl false (.int .i64) hs, .int .i64 nd, .int .i64 wr, .int .i64 sz, .int .i64 st, .int .i64 ph], .cells [.int .i64 (allS (hs.take k))], .imap false (.sl (.int .i64)) (esL hs (l.take j)), .cells [.mp (.sl (.int .i64)) 2], .row true (.cons (.int .i64) (.cons (.int .i64) .nil)) (vdL hs wr (esL hs l) m)], ⟨rfl, hs.length, 0, by omega, by omega, rfl, rfl⟩, ?_⟩
    rintro nM vs H ⟨m, hc3_0, rfl, rfl, rfl⟩
    refine ⟨fun h9 => ?_, fun h9 => ?_⟩
    ·replace h9 : (m : Int) < (hs.length : Int) := h9
     have hm : m < hs.length := by omega
     have hv := vdL_len hs wr (esL hs l) m
     have hq := hT.q1
     have r1 := hT.rg.1.1.1
     obtain ⟨r2, r3⟩ := hT.rg.1.2.1
     obtain ⟨g0, g1⟩ := hsb _ (gmem 0 hs m hm)
     have hSr : SrOk hs (esL hs (l.take j)) (m : Int) 0 ((hs.length : Int) - wr) 0 := ⟨by omega, by omega, by omega, by omega, by omega, by omega, by omega, by omega, by omega, hsb, by rw [hj]; exact hok⟩
     refine ⟨(i0 (m : Int) (hs.length : Int)), ⟨rfl, rfl, rfl⟩, ⟨rfl, rfl, rfl⟩, (r64 ((hs.length : Int) - wr)), ⟨rfl, rfl⟩, hSr, fun h10 => ?_, fun h10 => ?_⟩
     ·replace h10 : 0 ≤ (cl (esL hs (l.take j)) (m : Int) (hs.drop 0) 0 ((hs.length : Int) - wr)) := h10
      have hvd : vdL hs wr (esL hs l) (m + 1) = vdL hs wr (esL hs l) m ++ [(hs.getD m 0, (cl (esL hs (l.take j)) (m : Int) (hs.drop 0) 0 ((hs.length : Int) - wr), ()))] := by
       rw [hj] at h10
       rw [vdL, vd1, if_pos h10, hj]
      refine ⟨rfl, rfl, ⟨rfl, rfl⟩, by show (vdL hs wr (esL hs l) m).length + ([(hs.getD m 0, (cl (esL hs (l.take j)) (m : Int) (hs.drop 0) 0 ((hs.length : Int) - wr)), ())] : List (Int × (Int × Unit))).length ≤ 1000000000; simp only [List.length_cons, List.length_nil]; omega, (r64 ((m : Int) + 1)), ?_⟩
      exact ⟨rfl, hs.length - (m + 1), by omega, m + 1, by omega, rfl, rfl, by rw [hvd]; rfl⟩
     ·replace h10 : ¬ (0 ≤ (cl (esL hs (l.take j)) (m : Int) (hs.drop 0) 0 ((hs.length : Int) - wr))) := h10
      have hvd : vdL hs wr (esL hs l) (m + 1) = vdL hs wr (esL hs l) m := by
       rw [hj] at h10
       rw [vdL, vd1, if_neg h10, List.append_nil]
      refine ⟨(r64 ((m : Int) + 1)), ?_⟩
      exact ⟨rfl, hs.length - (m + 1), by omega, m + 1, by omega, rfl, rfl, by rw [hvd]; rfl⟩
    ·replace h9 : ¬ ((m : Int) < (hs.length : Int)) := h9
     rw [show decL hs nd wr sz st ph l = vdL hs wr (esL hs l) m by rw [decL, if_pos (Classical.not_not.1 h0), show m = hs.length by omega], Classical.not_not.1 h0]
     exact ⟨rfl, rfl, rfl, rfl⟩
noncomputable def CDec : List (Nat × Con) := (5, pureC [.v (.cons (.sl (.int .i64)) (.cons (.int .i64) (.cons (.int .i64) (.cons (.int .i64) (.cons (.int .i64) (.cons (.int .i64) .nil)))))), .v (.sl (.cons (.int .i64) (.cons (.sl (.int .i64)) .nil)))] sDec) :: CIn
theorem kDec : Known Tryd.prog (En CDec tys G6 []) := kIn.addT kSe Tryd.func5 Tryd.call5 [.o (.cons (.int .i64) (.cons (.int .i64) .nil)), .k] fun ds p v bs h hp => by
 unfold sDec at h
 split at h <;> simp only [Option.some.injEq, Prod.mk.injEq, reduceCtorEq] at h
 obtain ⟨rfl, rfl, rfl⟩ := h
 exact bDec _ _ _ _ _ _ _ hp.1 hp.2.1 hp.2.2
end Go.Proofs.YtpfehhcljeagoaaDoor.S28c

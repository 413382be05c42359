/- Texts of this claim: S38.Types, S38.Qa, S38.K0, S38.A0, S38.Qb, S38.A1, S38.A2, S38.Qc, S38.A3. -/
import Derived.Test.YtgljcfnplkcfhaaVc9
import Derived.Test.YtgljcfnplkcfhaaProg
import Derived.KernelRfl
set_option linter.unusedVariables false
set_option linter.unusedSimpArgs false
namespace Go.Proofs.Ytgljcfnplkcfhaa.S38
open Go Go.Proofs.Ytgljcfnplkcfhaa.Vc Go.Proofs
theorem ty3 : TyOk Try.prog 3 (.int .i64) := ⟨(by unfold InfoOk; kernel_rfl), Try.underlying3⟩
theorem ty4 : TyOk Try.prog 4 .bool := ⟨(by unfold InfoOk; kernel_rfl), Try.underlying4⟩
theorem ty22 : TyOk Try.prog 22 (.sl (.int .i64)) := ⟨(by unfold InfoOk; kernel_rfl), 3, Try.underlying22, by unfold InfoOk; kernel_rfl, by decide⟩
theorem ty24 : TyOk Try.prog 24 (.cons (.int .i64) (.cons (.int .i64) (.cons (.int .i64) (.cons (.int .i64) (.cons (.sl (.int .i64)) .nil))))) := ⟨(by unfold InfoOk; kernel_rfl), _, Try.underlying24, by kernel_rfl⟩
theorem ty25 : TyOk Try.prog 25 (.arr 3 (.int .i64)) := ⟨(by unfold InfoOk; kernel_rfl), 3, Try.underlying25, by unfold InfoOk; kernel_rfl, by decide, by kernel_rfl⟩
theorem ty28 : TyOk Try.prog 28 (.int .i64) := ⟨(by unfold InfoOk; kernel_rfl), Try.underlying28⟩
theorem ty32 : TyOk Try.prog 32 (.cons (.int .i64) (.cons (.int .i64) (.cons (.int .i64) .nil))) := ⟨(by unfold InfoOk; kernel_rfl), _, Try.underlying32, by kernel_rfl⟩
theorem ty37 : TyOk Try.prog 37 (.cons (.cons (.int .i64) (.cons (.int .i64) (.cons (.int .i64) (.cons (.int .i64) (.cons (.sl (.int .i64)) .nil))))) (.cons (.int .i64) .nil)) := ⟨(by unfold InfoOk; kernel_rfl), _, Try.underlying37, by kernel_rfl⟩
theorem ty44 : TyOk Try.prog 44 (.sl (.cons (.int .i64) (.cons (.int .i64) .nil))) := ⟨(by unfold InfoOk; kernel_rfl), 77, Try.underlying44, by unfold InfoOk; kernel_rfl, by decide⟩
theorem ty45 : TyOk Try.prog 45 (.arr 2 (.int .i64)) := ⟨(by unfold InfoOk; kernel_rfl), 3, Try.underlying45, by unfold InfoOk; kernel_rfl, by decide, by kernel_rfl⟩
theorem ty49 : TyOk Try.prog 49 (.cons (.int .i64) (.cons (.int .i64) .nil)) := ⟨(by unfold InfoOk; kernel_rfl), _, Try.underlying49, by kernel_rfl⟩
theorem ty54 : TyOk Try.prog 54 (.cons (.sl (.int .i64)) (.cons (.int .i64) .nil)) := ⟨(by unfold InfoOk; kernel_rfl), _, Try.underlying54, by kernel_rfl⟩
theorem ty58 : TyOk Try.prog 58 (.arr 4 (.int .i64)) := ⟨(by unfold InfoOk; kernel_rfl), 3, Try.underlying58, by unfold InfoOk; kernel_rfl, by decide, by kernel_rfl⟩
theorem ty60 : TyOk Try.prog 60 (.cons (.int .i64) (.cons (.int .i64) (.cons .bool (.cons (.sl (.int .i64)) (.cons (.sl (.int .i64)) (.cons (.sl (.int .i64)) .nil)))))) := ⟨(by unfold InfoOk; kernel_rfl), _, Try.underlying60, by kernel_rfl⟩
theorem ty64 : TyOk Try.prog 64 (.cons (.cons (.int .i64) (.cons (.int .i64) (.cons .bool (.cons (.sl (.int .i64)) (.cons (.sl (.int .i64)) (.cons (.sl (.int .i64)) .nil)))))) (.cons (.int .i64) .nil)) := ⟨(by unfold InfoOk; kernel_rfl), _, Try.underlying64, by kernel_rfl⟩
theorem ty69 : TyOk Try.prog 69 (.cons .bool (.cons (.int .i64) .nil)) := ⟨(by unfold InfoOk; kernel_rfl), _, Try.underlying69, by kernel_rfl⟩
theorem ty73 : TyOk Try.prog 73 (.sl .bool) := ⟨(by unfold InfoOk; kernel_rfl), 4, Try.underlying73, by unfold InfoOk; kernel_rfl, by decide⟩
theorem ty77 : TyOk Try.prog 77 (.cons (.int .i64) (.cons (.int .i64) .nil)) := ⟨(by unfold InfoOk; kernel_rfl), _, Try.underlying77, by kernel_rfl⟩
theorem ty80 : TyOk Try.prog 80 (.sl (.cons (.int .i64) (.cons (.int .i64) (.cons (.int .i64) (.cons (.sl (.int .i64)) (.cons (.int .i64) (.cons (.int .i64) (.cons (.int .i64) (.cons (.int .i64) (.cons (.int .i64) (.cons (.int .i64) .nil))))))))))) := ⟨(by unfold InfoOk; kernel_rfl), 82, Try.underlying80, by unfold InfoOk; kernel_rfl, by decide⟩
theorem ty82 : TyOk Try.prog 82 (.cons (.int .i64) (.cons (.int .i64) (.cons (.int .i64) (.cons (.sl (.int .i64)) (.cons (.int .i64) (.cons (.int .i64) (.cons (.int .i64) (.cons (.int .i64) (.cons (.int .i64) (.cons (.int .i64) .nil)))))))))) := ⟨(by unfold InfoOk; kernel_rfl), _, Try.underlying82, by kernel_rfl⟩
theorem ty87 : TyOk Try.prog 87 (.cons (.sl (.cons (.int .i64) (.cons (.int .i64) (.cons (.int .i64) (.cons (.sl (.int .i64)) (.cons (.int .i64) (.cons (.int .i64) (.cons (.int .i64) (.cons (.int .i64) (.cons (.int .i64) (.cons (.int .i64) .nil))))))))))) (.cons (.int .i64) .nil)) := ⟨(by unfold InfoOk; kernel_rfl), _, Try.underlying87, by kernel_rfl⟩
theorem ty92 : TyOk Try.prog 92 (.cons (.sl (.int .i64)) (.cons (.int .i64) .nil)) := ⟨(by unfold InfoOk; kernel_rfl), _, Try.underlying92, by kernel_rfl⟩
theorem ty98 : TyOk Try.prog 98 (.cons (.int .i64) (.cons (.sl (.cons (.int .i64) (.cons (.int .i64) .nil))) .nil)) := ⟨(by unfold InfoOk; kernel_rfl), _, Try.underlying98, by kernel_rfl⟩
theorem ty102 : TyOk Try.prog 102 (.cons (.int .i64) (.cons (.int .i64) .nil)) := ⟨(by unfold InfoOk; kernel_rfl), _, Try.underlying102, by kernel_rfl⟩
theorem ty109 : TyOk Try.prog 109 (.cons .bool (.cons (.int .i64) .nil)) := ⟨(by unfold InfoOk; kernel_rfl), _, Try.underlying109, by kernel_rfl⟩
theorem ty112 : TyOk Try.prog 112 (.sl (.sl (.int .i64))) := ⟨(by unfold InfoOk; kernel_rfl), 22, Try.underlying112, by unfold InfoOk; kernel_rfl, by decide⟩
theorem ty116 : TyOk Try.prog 116 (.arr 2 (.cons (.int .i64) (.cons (.sl (.cons (.int .i64) (.cons (.int .i64) .nil))) .nil))) := ⟨(by unfold InfoOk; kernel_rfl), 98, Try.underlying116, by unfold InfoOk; kernel_rfl, by decide, by kernel_rfl⟩
theorem ty126 : TyOk Try.prog 126 (.arr 12 .bool) := ⟨(by unfold InfoOk; kernel_rfl), 4, Try.underlying126, by unfold InfoOk; kernel_rfl, by decide, by kernel_rfl⟩
theorem ty127 : TyOk Try.prog 127 (.arr 12 .bool) := ⟨(by unfold InfoOk; kernel_rfl), 4, Try.underlying127, by unfold InfoOk; kernel_rfl, by decide, by kernel_rfl⟩
theorem ty128 : TyOk Try.prog 128 (.sl (.arr 12 .bool)) := ⟨(by unfold InfoOk; kernel_rfl), 127, Try.underlying128, by unfold InfoOk; kernel_rfl, by decide⟩
theorem ty142 : TyOk Try.prog 142 .fnT := ⟨(by unfold InfoOk; kernel_rfl), _, _, _, Try.underlying142⟩
theorem ty145 : TyOk Try.prog 145 .fnT := ⟨(by unfold InfoOk; kernel_rfl), _, _, _, Try.underlying145⟩
theorem ty150 : TyOk Try.prog 150 .fnT := ⟨(by unfold InfoOk; kernel_rfl), _, _, _, Try.underlying150⟩
theorem ty153 : TyOk Try.prog 153 .fnT := ⟨(by unfold InfoOk; kernel_rfl), _, _, _, Try.underlying153⟩
theorem ty159 : TyOk Try.prog 159 (.arr 500 (.arr 12 .bool)) := ⟨(by unfold InfoOk; kernel_rfl), 126, Try.underlying159, by unfold InfoOk; kernel_rfl, by decide, by kernel_rfl⟩
theorem ty160 : TyOk Try.prog 160 .fnT := ⟨(by unfold InfoOk; kernel_rfl), _, _, _, Try.underlying160⟩
theorem ty167 : TyOk Try.prog 167 .fnT := ⟨(by unfold InfoOk; kernel_rfl), _, _, _, Try.underlying167⟩
theorem ty170 : TyOk Try.prog 170 .fnT := ⟨(by unfold InfoOk; kernel_rfl), _, _, _, Try.underlying170⟩
def tys : List (Nat × Ty) := [(3, (.int .i64)), (4, .bool), (22, (.sl (.int .i64))), (24, (.cons (.int .i64) (.cons (.int .i64) (.cons (.int .i64) (.cons (.int .i64) (.cons (.sl (.int .i64)) .nil)))))), (25, (.arr 3 (.int .i64))), (28, (.int .i64)), (32, (.cons (.int .i64) (.cons (.int .i64) (.cons (.int .i64) .nil)))), (37, (.cons (.cons (.int .i64) (.cons (.int .i64) (.cons (.int .i64) (.cons (.int .i64) (.cons (.sl (.int .i64)) .nil))))) (.cons (.int .i64) .nil))), (44, (.sl (.cons (.int .i64) (.cons (.int .i64) .nil)))), (45, (.arr 2 (.int .i64))), (49, (.cons (.int .i64) (.cons (.int .i64) .nil))), (54, (.cons (.sl (.int .i64)) (.cons (.int .i64) .nil))), (58, (.arr 4 (.int .i64))), (60, (.cons (.int .i64) (.cons (.int .i64) (.cons .bool (.cons (.sl (.int .i64)) (.cons (.sl (.int .i64)) (.cons (.sl (.int .i64)) .nil))))))), (64, (.cons (.cons (.int .i64) (.cons (.int .i64) (.cons .bool (.cons (.sl (.int .i64)) (.cons (.sl (.int .i64)) (.cons (.sl (.int .i64)) .nil)))))) (.cons (.int .i64) .nil))), (69, (.cons .bool (.cons (.int .i64) .nil))), (73, (.sl .bool)), (77, (.cons (.int .i64) (.cons (.int .i64) .nil))), (80, (.sl (.cons (.int .i64) (.cons (.int .i64) (.cons (.int .i64) (.cons (.sl (.int .i64)) (.cons (.int .i64) (.cons (.int .i64) (.cons (.int .i64) (.cons (.int .i64) (.cons (.int .i64) (.cons (.int .i64) .nil)))))))))))), (82, (.cons (.int .i64) (.cons (.int .i64) (.cons (.int .i64) (.cons (.sl (.int .i64)) (.cons (.int .i64) (.cons (.int .i64) (.cons (.int .i64) (.cons (.int .i64) (.cons (.int .i64) (.cons (.int .i64) .nil))))))))))), (87, (.cons (.sl (.cons (.int .i64) (.cons (.int .i64) (.cons (.int .i64) (.cons (.sl (.int .i64)) (.cons (.int .i64) (.cons (.int .i64) (.cons (.int .i64) (.cons (.int .i64) (.cons (.int .i64) (.cons (.int .i64) .nil))))))))))) (.cons (.int .i64) .nil))), (92, (.cons (.sl (.int .i64)) (.cons (.int .i64) .nil))), (98, (.cons (.int .i64) (.cons (.sl (.cons (.int .i64) (.cons (.int .i64) .nil))) .nil))), (102, (.cons (.int .i64) (.cons (.int .i64) .nil))), (109, (.cons .bool (.cons (.int .i64) .nil))), (112, (.sl (.sl (.int .i64)))), (116, (.arr 2 (.cons (.int .i64) (.cons (.sl (.cons (.int .i64) (.cons (.int .i64) .nil))) .nil)))), (126, (.arr 12 .bool)), (127, (.arr 12 .bool)), (128, (.sl (.arr 12 .bool))), (142, .fnT), (145, .fnT), (150, .fnT), (153, .fnT), (159, (.arr 500 (.arr 12 .bool))), (160, .fnT), (167, .fnT), (170, .fnT)]
theorem tysOk : ∀ T t, lk tys T = some t → TyOk Try.prog T t ∧ eqTyOk Try.prog T t = true :=
  AllTy.ok (⟨⟨ty3, by kernel_rfl⟩, ⟨ty4, by kernel_rfl⟩, ⟨ty22, by kernel_rfl⟩, ⟨ty24, by kernel_rfl⟩, ⟨ty25, by kernel_rfl⟩, ⟨ty28, by kernel_rfl⟩, ⟨ty32, by kernel_rfl⟩, ⟨ty37, by kernel_rfl⟩, ⟨ty44, by kernel_rfl⟩, ⟨ty45, by kernel_rfl⟩, ⟨ty49, by kernel_rfl⟩, ⟨ty54, by kernel_rfl⟩, ⟨ty58, by kernel_rfl⟩, ⟨ty60, by kernel_rfl⟩, ⟨ty64, by kernel_rfl⟩, ⟨ty69, by kernel_rfl⟩, ⟨ty73, by kernel_rfl⟩, ⟨ty77, by kernel_rfl⟩, ⟨ty80, by kernel_rfl⟩, ⟨ty82, by kernel_rfl⟩, ⟨ty87, by kernel_rfl⟩, ⟨ty92, by kernel_rfl⟩, ⟨ty98, by kernel_rfl⟩, ⟨ty102, by kernel_rfl⟩, ⟨ty109, by kernel_rfl⟩, ⟨ty112, by kernel_rfl⟩, ⟨ty116, by kernel_rfl⟩, ⟨ty126, by kernel_rfl⟩, ⟨ty127, by kernel_rfl⟩, ⟨ty128, by kernel_rfl⟩, ⟨ty142, by kernel_rfl⟩, ⟨ty145, by kernel_rfl⟩, ⟨ty150, by kernel_rfl⟩, ⟨ty153, by kernel_rfl⟩, ⟨ty159, by kernel_rfl⟩, ⟨ty160, by kernel_rfl⟩, ⟨ty167, by kernel_rfl⟩, ⟨ty170, by kernel_rfl⟩, trivial⟩ : AllTy Try.prog tys)
end Go.Proofs.Ytgljcfnplkcfhaa.S38

namespace Go.Proofs.Ytgljcfnplkcfhaa.S38
open Go

abbrev d0 : (Int × (Int × (Int × (List Int × (Int × (Int × (Int × (Int × (Int × (Int × Unit)))))))))) := (0, (0, (0, ([], (0, (0, (0, (0, (0, (0, ()))))))))))

theorem drop_one {α : Type} (d : α) (l : List α) (k : Nat) (h : k < l.length) : l.drop k = l.getD k d :: l.drop (k + 1) := by
  rw [List.drop_eq_getElem_cons h]
  simp [List.getD_eq_getElem?_getD, h]
theorem take_snoc {α : Type} (d : α) (l : List α) (k : Nat) (h : k < l.length) : l.take (k + 1) = l.take k ++ [l.getD k d] := by
  rw [List.take_succ_eq_append_getElem h]
  simp [List.getD_eq_getElem?_getD, h]
theorem getD_mem {α : Type} (d : α) (l : List α) (k : Nat) (h : k < l.length) : l.getD k d ∈ l := by
  simp [List.getD_eq_getElem?_getD, h]

/-- All of these numbers from 0 on. -/
def upA (p : Nat → Bool) : Nat → Bool
  | 0 => true
  | n + 1 => upA p n && p n
theorem upA_iff {p : Nat → Bool} : ∀ {n : Nat}, upA p n = true ↔ ∀ k, k < n → p k = true
  | 0 => by simp [upA]
  | n + 1 => by
    rw [upA, Bool.and_eq_true, upA_iff]
    constructor
    · rintro ⟨h1, h2⟩ k hk
      rcases Nat.lt_or_ge k n with g | g
      · exact h1 k g
      · have : k = n := by omega
        subst this; exact h2
    · intro h; exact ⟨fun k hk => h k (by omega), h n (by omega)⟩
theorem upA_next {p : Nat → Bool} {n : Nat} (h1 : upA p n = true) (h2 : p n = true) : upA p (n + 1) = true := by rw [upA, h1, h2]; rfl
theorem upA_bad {p : Nat → Bool} {k n : Nat} (hk : k < n) (h : p k = false) : ¬ upA p n = true := fun g => by
  rw [upA_iff.1 g k hk] at h; cases h

/-- The place of the first one of which this is so. -/
def ixP {α : Type} (p : α → Bool) : List α → Nat → Int
  | [], _ => -1
  | a :: l, k => if p a = true then k else ixP p l (k + 1)
theorem ixP_or {α : Type} (p : α → Bool) : ∀ (l : List α) (k : Nat), ixP p l k = -1 ∨ ((k : Int) ≤ ixP p l k ∧ ixP p l k < k + l.length)
  | [], k => .inl rfl
  | a :: l, k => by
    unfold ixP
    split
    · right; simp only [List.length_cons]; omega
    · rcases ixP_or p l (k + 1) with h | h
      · exact .inl h
      · right; simp only [List.length_cons]; omega
theorem ixP_none {α : Type} {p : α → Bool} : ∀ {l : List α} {k : Nat}, ixP p l k < 0 ↔ ∀ a ∈ l, p a = false
  | [], k => by simp [ixP]
  | a :: l, k => by
    unfold ixP
    split
    · rename_i h
      constructor
      · intro g; omega
      · intro g; have := g a (by simp); rw [h] at this; cases this
    · rename_i h
      rw [ixP_none]
      constructor
      · intro g b hb
        rcases List.mem_cons.1 hb with rfl | hb
        · simpa using h
        · exact g b hb
      · intro g b hb; exact g b (by simp [hb])

theorem ixP_is (p : Int → Bool) {q : Int → Prop} (l : List Int) (h : ∀ i, p i = true ↔ q i) : 0 ≤ ixP p l 0 ↔ ∃ i ∈ l, q i := by
  constructor
  · intro g
    refine Classical.byContradiction fun hn => ?_
    have := (ixP_none (p := p) (l := l) (k := 0)).2 fun a ha => by
      cases hp : p a with
      | false => rfl
      | true => exact absurd ⟨a, ha, (h a).1 hp⟩ hn
    omega
  · rintro ⟨i, hi, hq⟩
    refine Classical.byContradiction fun hn => ?_
    have := (ixP_none (p := p) (l := l) (k := 0)).1 (by omega) i hi
    rw [(h i).2 hq] at this; cases this

/-- An artifact that is well-formed. -/
def incB (l : List Int) (k : Nat) : Bool := decide (k = 0 ∨ l.getD (k - 1) 0 < l.getD k 0)
def fmd (id kd ob : Int) (of : List Int) (ho di bo go hr pe : Int) : Prop :=
  upA (incB of) of.length = true ∧ 1 ≤ id ∧ id ≤ 1099511627776 ∧ 1 ≤ kd ∧ kd ≤ 4 ∧ 0 ≤ ob ∧ ob ≤ 1048576 ∧ 0 ≤ ho ∧ ho ≤ 11 ∧ -1 ≤ di ∧ di ≤ 63 ∧ 0 ≤ bo ∧ bo ≤ 1000000 ∧ bo ≤ go ∧ go ≤ 1000001 ∧
    ((kd = 3 ∧ 0 ≤ hr ∧ hr ≤ 11 ∧ 0 ≤ pe ∧ pe ≤ 499) ∨ (kd ≠ 3 ∧ hr = -1 ∧ pe = 0))
/-- Whether an artifact may be made of another one. -/
def mad (kd ob pe kd' ob' pe' : Int) : Prop :=
  ob = ob' ∧ (if kd = 4 then kd' ≠ 3 else if kd = 3 then kd' = 3 ∧ 0 ≤ pe - pe' ∧ pe - pe' ≤ 1 else kd' ≠ 4)
end Go.Proofs.Ytgljcfnplkcfhaa.S38

namespace Go.Proofs.Ytgljcfnplkcfhaa.S38
open Go Go.Proofs.Ytgljcfnplkcfhaa.Vc Go.Proofs
theorem globOk : GlobOk [] := fun g x id h => by simp [lk] at h
theorem noRef0 : noRef [] := fun g x h => by simp [lk] at h
theorem mixed : Try.prog.follows .mixedOrders = true := by kernel_rfl
def C0 : List (Nat × Con) := []
theorem k0 : Known Try.prog (En C0 tys [] []) := .start globOk noRef0 mixed tysOk
end Go.Proofs.Ytgljcfnplkcfhaa.S38

namespace Go.Proofs.Ytgljcfnplkcfhaa.S38
open Go Go.Proofs.Ytgljcfnplkcfhaa.Vc Go.Proofs
set_option maxRecDepth 100000
set_option linter.unusedVariables false

def sWi : List V → Option (Prop × V × List Blk)
  | [.int .i64 x, .int .i64 lo, .int .i64 hi] => some (True, .b (lo ≤ x ∧ x ≤ hi), [])
  | _ => none
set_option maxHeartbeats 1000000 in
theorem bWi (x : Int) (lo : Int) (hi : Int)  : bodyP (En C0 tys [] []) Try.f96 [.k] [.int .i64 x, .int .i64 lo, .int .i64 hi] (.b (lo ≤ x ∧ x ≤ hi)) [] := by
 refine ⟨fun h0 => ?_, fun h0 => ?_⟩
 ·replace h0 : lo ≤ x := h0
  exact ⟨rfl, rfl, congrArg V.b (propext (by constructor <;> intro h <;> first | omega | (exfalso; first | omega | exact Bool.noConfusion h))), rfl⟩
 ·replace h0 : ¬ (lo ≤ x) := h0
  exact ⟨rfl, rfl, congrArg V.b (propext (by constructor <;> intro h <;> first | omega | (exfalso; first | omega | exact Bool.noConfusion h))), rfl⟩
def CWi : List (Nat × Con) := (96, pureC [.v (.int .i64), .v (.int .i64), .v (.int .i64)] sWi) :: C0
theorem kWi : Known Try.prog (En CWi tys [] []) := k0.add Try.func96 Try.call96 [.k] fun ds p v bs h hp => by
  unfold sWi at h
  split at h <;> simp only [Option.some.injEq, Prod.mk.injEq, reduceCtorEq] at h
  obtain ⟨rfl, rfl, rfl⟩ := h
  exact bWi _ _ _
def sThe : List V → Option (Prop × V × List Blk)
  | [.agg [.int .i64 id, .int .i64 kd, .int .i64 ob, .sl false (.int .i64) of, .int .i64 ho, .int .i64 di, .int .i64 bo, .int .i64 go, .int .i64 hr, .int .i64 pe], .int .i64 t] => some (True, .b (bo ≤ t ∧ t < go), [])
  | _ => none
set_option maxHeartbeats 1000000 in
theorem bThe (id : Int) (kd : Int) (ob : Int) (of : List Int) (ho : Int) (di : Int) (bo : Int) (go : Int) (hr : Int) (pe : Int) (t : Int)  : bodyP (En CWi tys [] []) Try.f106 [.k] [.agg [.int .i64 id, .int .i64 kd, .int .i64 ob, .sl false (.int .i64) of, .int .i64 ho, .int .i64 di, .int .i64 bo, .int .i64 go, .int .i64 hr, .int .i64 pe], .int .i64 t] (.b (bo ≤ t ∧ t < go)) [] := by
 refine ⟨fun h0 => ?_, fun h0 => ?_⟩
 ·replace h0 : bo ≤ t := h0
  exact ⟨rfl, rfl, congrArg V.b (propext (by constructor <;> intro h <;> first | omega | (exfalso; first | omega | exact Bool.noConfusion h))), rfl⟩
 ·replace h0 : ¬ (bo ≤ t) := h0
  exact ⟨rfl, rfl, congrArg V.b (propext (by constructor <;> intro h <;> first | omega | (exfalso; first | omega | exact Bool.noConfusion h))), rfl⟩
def CThe : List (Nat × Con) := (106, pureC [.v (.cons (.int .i64) (.cons (.int .i64) (.cons (.int .i64) (.cons (.sl (.int .i64)) (.cons (.int .i64) (.cons (.int .i64) (.cons (.int .i64) (.cons (.int .i64) (.cons (.int .i64) (.cons (.int .i64) .nil)))))))))), .v (.int .i64)] sThe) :: CWi
theorem kThe : Known Try.prog (En CThe tys [] []) := kWi.add Try.func106 Try.call106 [.k] fun ds p v bs h hp => by
  unfold sThe at h
  split at h <;> simp only [Option.some.injEq, Prod.mk.injEq, reduceCtorEq] at h
  obtain ⟨rfl, rfl, rfl⟩ := h
  exact bThe _ _ _ _ _ _ _ _ _ _ _
def sMad : List V → Option (Prop × V × List Blk)
  | [.agg [.int .i64 id, .int .i64 kd, .int .i64 ob, .sl false (.int .i64) of, .int .i64 ho, .int .i64 di, .int .i64 bo, .int .i64 go, .int .i64 hr, .int .i64 pe], .agg [.int .i64 id2, .int .i64 kd2, .int .i64 ob2, .sl false (.int .i64) of2, .int .i64 ho2, .int .i64 di2, .int .i64 bo2, .int .i64 go2, .int .i64 hr2, .int .i64 pe2]] => some (0 ≤ pe ∧ pe ≤ 499 ∧ 0 ≤ pe2 ∧ pe2 ≤ 499, .b (mad kd ob pe kd2 ob2 pe2), [])
  | _ => none
set_option maxHeartbeats 1000000 in
theorem bMad (id : Int) (kd : Int) (ob : Int) (of : List Int) (ho : Int) (di : Int) (bo : Int) (go : Int) (hr : Int) (pe : Int) (id2 : Int) (kd2 : Int) (ob2 : Int) (of2 : List Int) (ho2 : Int) (di2 : Int) (bo2 : Int) (go2 : Int) (hr2 : Int) (pe2 : Int) (hp0 : 0 ≤ pe) (hp1 : pe ≤ 499) (hp2 : 0 ≤ pe2) (hp3 : pe2 ≤ 499) : bodyP (En CThe tys [] []) Try.f112 [.k] [.agg [.int .i64 id, .int .i64 kd, .int .i64 ob, .sl false (.int .i64) of, .int .i64 ho, .int .i64 di, .int .i64 bo, .int .i64 go, .int .i64 hr, .int .i64 pe], .agg [.int .i64 id2, .int .i64 kd2, .int .i64 ob2, .sl false (.int .i64) of2, .int .i64 ho2, .int .i64 di2, .int .i64 bo2, .int .i64 go2, .int .i64 hr2, .int .i64 pe2]] (.b (mad kd ob pe kd2 ob2 pe2)) [] := by
 refine ⟨fun h0 => ?_, fun h0 => ?_⟩
 ·replace h0 : ob ≠ ob2 := h0
  exact ⟨rfl, rfl, congrArg V.b (propext (by unfold mad; constructor <;> intro h <;> (try split at h) <;> (try split) <;> first | omega | (exfalso; first | omega | exact Bool.noConfusion h))), rfl⟩
 ·replace h0 : ¬ (ob ≠ ob2) := h0
  refine ⟨fun h1 => ?_, fun h1 => ?_⟩
  ·replace h1 : kd = 4 := h1
   exact ⟨rfl, rfl, congrArg V.b (propext (by unfold mad; constructor <;> intro h <;> (try split at h) <;> (try split) <;> first | omega | (exfalso; first | omega | exact Bool.noConfusion h))), rfl⟩
  ·replace h1 : ¬ (kd = 4) := h1
   refine ⟨fun h2 => ?_, fun h2 => ?_⟩
   ·replace h2 : kd = 3 := h2
    refine ⟨fun h3 => ?_, fun h3 => ?_⟩
    ·replace h3 : kd2 = 3 := h3
     refine ⟨⟨by show (-9223372036854775808 : Int) ≤ (pe - pe2); omega, by show (pe - pe2) ≤ (9223372036854775807 : Int); omega⟩, rfl, rfl, rfl, trivial, ?_⟩
     exact ⟨rfl, rfl, congrArg V.b (propext (by unfold mad; constructor <;> intro h <;> (try split at h) <;> (try split) <;> first | omega | (exfalso; first | omega | exact Bool.noConfusion h))), rfl⟩
    ·replace h3 : ¬ (kd2 = 3) := h3
     exact ⟨rfl, rfl, congrArg V.b (propext (by unfold mad; constructor <;> intro h <;> (try split at h) <;> (try split) <;> first | omega | (exfalso; first | omega | exact Bool.noConfusion h))), rfl⟩
   ·replace h2 : ¬ (kd = 3) := h2
    exact ⟨rfl, rfl, congrArg V.b (propext (by unfold mad; constructor <;> intro h <;> (try split at h) <;> (try split) <;> first | omega | (exfalso; first | omega | exact Bool.noConfusion h))), rfl⟩
def CMad : List (Nat × Con) := (112, pureC [.v (.cons (.int .i64) (.cons (.int .i64) (.cons (.int .i64) (.cons (.sl (.int .i64)) (.cons (.int .i64) (.cons (.int .i64) (.cons (.int .i64) (.cons (.int .i64) (.cons (.int .i64) (.cons (.int .i64) .nil)))))))))), .v (.cons (.int .i64) (.cons (.int .i64) (.cons (.int .i64) (.cons (.sl (.int .i64)) (.cons (.int .i64) (.cons (.int .i64) (.cons (.int .i64) (.cons (.int .i64) (.cons (.int .i64) (.cons (.int .i64) .nil))))))))))] sMad) :: CThe
theorem kMad : Known Try.prog (En CMad tys [] []) := kThe.add Try.func112 Try.call112 [.k] fun ds p v bs h hp => by
  unfold sMad at h
  split at h <;> simp only [Option.some.injEq, Prod.mk.injEq, reduceCtorEq] at h
  obtain ⟨rfl, rfl, rfl⟩ := h
  exact bMad _ _ _ _ _ _ _ _ _ _ _ _ _ _ _ _ _ _ _ _ hp.1 hp.2.1 hp.2.2.1 hp.2.2.2
def sFmd : List V → Option (Prop × V × List Blk)
  | [.agg [.int .i64 id, .int .i64 kd, .int .i64 ob, .sl false (.int .i64) of, .int .i64 ho, .int .i64 di, .int .i64 bo, .int .i64 go, .int .i64 hr, .int .i64 pe]] => some (of.length ≤ 1048576, .b (fmd id kd ob of ho di bo go hr pe), [])
  | _ => none
set_option maxHeartbeats 4000000 in
theorem bFmd (id : Int) (kd : Int) (ob : Int) (of : List Int) (ho : Int) (di : Int) (bo : Int) (go : Int) (hr : Int) (pe : Int) (hp0 : of.length ≤ 1048576) : bodyP (En CMad tys [] []) Try.f109 [.k] [.agg [.int .i64 id, .int .i64 kd, .int .i64 ob, .sl false (.int .i64) of, .int .i64 ho, .int .i64 di, .int .i64 bo, .int .i64 go, .int .i64 hr, .int .i64 pe]] (.b (fmd id kd ob of ho di bo go hr pe)) [] := by
 refine ⟨1, [(1, .k), (8, .k), (9, .k), (10, .k)], fun nM vs H => ∃ (k : Nat), k ≤ of.length ∧ upA (incB of) k = true ∧ nM = of.length - k ∧ vs = [.ptr 0 1 0 0, .sl false (.int .i64) of, .int .i64 (of.length : Int), .int .i64 (k : Int)] ∧ H = [.cells [.int .i64 id, .int .i64 kd, .int .i64 ob, .sl false (.int .i64) of, .int .i64 ho, .int .i64 di, .int .i64 bo, .int .i64 go, .int .i64 hr, .int .i64 pe]], ⟨rfl, of.length, 0, by omega, rfl, by omega, rfl, rfl⟩, ?_⟩
 rintro nM vs H ⟨k, hc1_0, hc1_1, rfl, rfl, rfl⟩
 refine ⟨fun h0 => ?_, fun h0 => ?_⟩
 ·replace h0 : (k : Int) < (of.length : Int) := h0
  have hk : k < of.length := by omega
  refine ⟨⟨by show (0 : Int) ≤ (k : Int); omega, by show (k : Int) < (of.length : Int); omega⟩, fun h1 => ?_, fun h1 => ?_⟩
  ·replace h1 : 0 < (k : Int) := h1
   have hk1 : ((k : Int) - 1).toNat = k - 1 := by omega
   refine ⟨⟨by show (-9223372036854775808 : Int) ≤ ((k : Int) - 1); omega, by show ((k : Int) - 1) ≤ (9223372036854775807 : Int); omega⟩, ⟨by show (0 : Int) ≤ ((k : Int) - 1); omega, by show ((k : Int) - 1) < (of.length : Int); omega⟩, fun h2 => ?_, fun h2 => ?_⟩
   ·replace h2 : (of.getD k 0) ≤ (of.getD (((k : Int) - 1).toNat) 0) := h2
    rw [hk1] at h2
    exact ⟨rfl, rfl, congrArg V.b (propext ⟨fun h => Bool.noConfusion h, fun h => absurd h.1 (upA_bad (k := k) hk (decide_eq_false (by omega)))⟩), rfl⟩
   ·replace h2 : ¬ ((of.getD k 0) ≤ (of.getD (((k : Int) - 1).toNat) 0)) := h2
    rw [hk1] at h2
    refine ⟨⟨by show (-9223372036854775808 : Int) ≤ ((k : Int) + 1); omega, by show ((k : Int) + 1) ≤ (9223372036854775807 : Int); omega⟩, ?_⟩
    exact ⟨rfl, of.length - (k + 1), by omega, k + 1, by omega, upA_next hc1_1 (decide_eq_true (by omega)), rfl, rfl, rfl⟩
  ·replace h1 : ¬ (0 < (k : Int)) := h1
   refine ⟨⟨by show (-9223372036854775808 : Int) ≤ ((k : Int) + 1); omega, by show ((k : Int) + 1) ≤ (9223372036854775807 : Int); omega⟩, ?_⟩
   exact ⟨rfl, of.length - (k + 1), by omega, k + 1, by omega, upA_next hc1_1 (decide_eq_true (by omega)), rfl, rfl, rfl⟩
 ·replace h0 : ¬ ((k : Int) < (of.length : Int)) := h0
  have hall : upA (incB of) of.length = true := by rw [show of.length = k by omega]; exact hc1_1
  refine ⟨fun h3 => ?_, fun h3 => ?_⟩
  ·replace h3 : kd = 3 := h3
   refine ⟨rfl, rfl, rfl, trivial, fun h4 => ?_, fun h4 => ?_⟩
   ·replace h4 : (0 ≤ hr ∧ hr ≤ 11) := h4
    refine ⟨rfl, rfl, rfl, trivial, fun h5 => absurd h5 (show ¬ (kd ≠ 3) by first | omega | assumption | simp_all), fun h5 => ?_⟩
    refine ⟨rfl, rfl, rfl, trivial, fun h6 => ?_, fun h6 => ?_⟩
    ·replace h6 : (1 ≤ id ∧ id ≤ 1099511627776) := h6
     refine ⟨rfl, rfl, rfl, trivial, fun h7 => ?_, fun h7 => ?_⟩
     ·replace h7 : (1 ≤ kd ∧ kd ≤ 4) := h7
      refine ⟨rfl, rfl, rfl, trivial, fun h8 => ?_, fun h8 => ?_⟩
      ·replace h8 : (0 ≤ ob ∧ ob ≤ 1048576) := h8
       refine ⟨rfl, rfl, rfl, trivial, fun h9 => ?_, fun h9 => ?_⟩
       ·replace h9 : (0 ≤ ho ∧ ho ≤ 11) := h9
        refine ⟨rfl, rfl, rfl, trivial, fun h10 => ?_, fun h10 => ?_⟩
        ·replace h10 : ((-1) ≤ di ∧ di ≤ 63) := h10
         refine ⟨rfl, rfl, rfl, trivial, fun h11 => ?_, fun h11 => ?_⟩
         ·replace h11 : (0 ≤ bo ∧ bo ≤ 1000000) := h11
          refine ⟨rfl, rfl, rfl, trivial, fun h12 => ?_, fun h12 => ?_⟩
          ·replace h12 : (bo ≤ go ∧ go ≤ 1000001) := h12
           refine ⟨fun h13 => ?_, fun h13 => ?_⟩
           ·replace h13 : ¬ (0 ≤ pe ∧ pe ≤ 499) := h13
            exact ⟨rfl, rfl, congrArg V.b (propext (by unfold fmd; constructor <;> intro h <;> first | rfl | exact ⟨hall, by omega⟩ | exact Bool.noConfusion h | (have h2 := h.2; omega))), rfl⟩
           ·replace h13 : (0 ≤ pe ∧ pe ≤ 499) := h13
            exact ⟨rfl, rfl, congrArg V.b (propext (by unfold fmd; constructor <;> intro h <;> first | rfl | exact ⟨hall, by omega⟩ | exact Bool.noConfusion h | (have h2 := h.2; omega))), rfl⟩
          ·replace h12 : ¬ (bo ≤ go ∧ go ≤ 1000001) := h12
           exact ⟨rfl, rfl, congrArg V.b (propext (by unfold fmd; constructor <;> intro h <;> first | rfl | exact ⟨hall, by omega⟩ | exact Bool.noConfusion h | (have h2 := h.2; omega))), rfl⟩
         ·replace h11 : ¬ (0 ≤ bo ∧ bo ≤ 1000000) := h11
          exact ⟨rfl, rfl, congrArg V.b (propext (by unfold fmd; constructor <;> intro h <;> first | rfl | exact ⟨hall, by omega⟩ | exact Bool.noConfusion h | (have h2 := h.2; omega))), rfl⟩
        ·replace h10 : ¬ ((-1) ≤ di ∧ di ≤ 63) := h10
         exact ⟨rfl, rfl, congrArg V.b (propext (by unfold fmd; constructor <;> intro h <;> first | rfl | exact ⟨hall, by omega⟩ | exact Bool.noConfusion h | (have h2 := h.2; omega))), rfl⟩
       ·replace h9 : ¬ (0 ≤ ho ∧ ho ≤ 11) := h9
        exact ⟨rfl, rfl, congrArg V.b (propext (by unfold fmd; constructor <;> intro h <;> first | rfl | exact ⟨hall, by omega⟩ | exact Bool.noConfusion h | (have h2 := h.2; omega))), rfl⟩
      ·replace h8 : ¬ (0 ≤ ob ∧ ob ≤ 1048576) := h8
       exact ⟨rfl, rfl, congrArg V.b (propext (by unfold fmd; constructor <;> intro h <;> first | rfl | exact ⟨hall, by omega⟩ | exact Bool.noConfusion h | (have h2 := h.2; omega))), rfl⟩
     ·replace h7 : ¬ (1 ≤ kd ∧ kd ≤ 4) := h7
      exact ⟨rfl, rfl, congrArg V.b (propext (by unfold fmd; constructor <;> intro h <;> first | rfl | exact ⟨hall, by omega⟩ | exact Bool.noConfusion h | (have h2 := h.2; omega))), rfl⟩
    ·replace h6 : ¬ (1 ≤ id ∧ id ≤ 1099511627776) := h6
     exact ⟨rfl, rfl, congrArg V.b (propext (by unfold fmd; constructor <;> intro h <;> first | rfl | exact ⟨hall, by omega⟩ | exact Bool.noConfusion h | (have h2 := h.2; omega))), rfl⟩
   ·replace h4 : ¬ (0 ≤ hr ∧ hr ≤ 11) := h4
    refine ⟨fun h14 => absurd h14 (show ¬ (kd ≠ 3) by first | omega | assumption | simp_all), fun h14 => ?_⟩
    refine ⟨rfl, rfl, rfl, trivial, fun h15 => ?_, fun h15 => ?_⟩
    ·replace h15 : (1 ≤ id ∧ id ≤ 1099511627776) := h15
     refine ⟨rfl, rfl, rfl, trivial, fun h16 => ?_, fun h16 => ?_⟩
     ·replace h16 : (1 ≤ kd ∧ kd ≤ 4) := h16
      refine ⟨rfl, rfl, rfl, trivial, fun h17 => ?_, fun h17 => ?_⟩
      ·replace h17 : (0 ≤ ob ∧ ob ≤ 1048576) := h17
       refine ⟨rfl, rfl, rfl, trivial, fun h18 => ?_, fun h18 => ?_⟩
       ·replace h18 : (0 ≤ ho ∧ ho ≤ 11) := h18
        refine ⟨rfl, rfl, rfl, trivial, fun h19 => ?_, fun h19 => ?_⟩
        ·replace h19 : ((-1) ≤ di ∧ di ≤ 63) := h19
         refine ⟨rfl, rfl, rfl, trivial, fun h20 => ?_, fun h20 => ?_⟩
         ·replace h20 : (0 ≤ bo ∧ bo ≤ 1000000) := h20
          refine ⟨rfl, rfl, rfl, trivial, fun h21 => ?_, fun h21 => ?_⟩
          ·replace h21 : (bo ≤ go ∧ go ≤ 1000001) := h21
           exact ⟨rfl, rfl, congrArg V.b (propext (by unfold fmd; constructor <;> intro h <;> first | rfl | exact ⟨hall, by omega⟩ | exact Bool.noConfusion h | (have h2 := h.2; omega))), rfl⟩
          ·replace h21 : ¬ (bo ≤ go ∧ go ≤ 1000001) := h21
           exact ⟨rfl, rfl, congrArg V.b (propext (by unfold fmd; constructor <;> intro h <;> first | rfl | exact ⟨hall, by omega⟩ | exact Bool.noConfusion h | (have h2 := h.2; omega))), rfl⟩
         ·replace h20 : ¬ (0 ≤ bo ∧ bo ≤ 1000000) := h20
          exact ⟨rfl, rfl, congrArg V.b (propext (by unfold fmd; constructor <;> intro h <;> first | rfl | exact ⟨hall, by omega⟩ | exact Bool.noConfusion h | (have h2 := h.2; omega))), rfl⟩
        ·replace h19 : ¬ ((-1) ≤ di ∧ di ≤ 63) := h19
         exact ⟨rfl, rfl, congrArg V.b (propext (by unfold fmd; constructor <;> intro h <;> first | rfl | exact ⟨hall, by omega⟩ | exact Bool.noConfusion h | (have h2 := h.2; omega))), rfl⟩
       ·replace h18 : ¬ (0 ≤ ho ∧ ho ≤ 11) := h18
        exact ⟨rfl, rfl, congrArg V.b (propext (by unfold fmd; constructor <;> intro h <;> first | rfl | exact ⟨hall, by omega⟩ | exact Bool.noConfusion h | (have h2 := h.2; omega))), rfl⟩
      ·replace h17 : ¬ (0 ≤ ob ∧ ob ≤ 1048576) := h17
       exact ⟨rfl, rfl, congrArg V.b (propext (by unfold fmd; constructor <;> intro h <;> first | rfl | exact ⟨hall, by omega⟩ | exact Bool.noConfusion h | (have h2 := h.2; omega))), rfl⟩
     ·replace h16 : ¬ (1 ≤ kd ∧ kd ≤ 4) := h16
      exact ⟨rfl, rfl, congrArg V.b (propext (by unfold fmd; constructor <;> intro h <;> first | rfl | exact ⟨hall, by omega⟩ | exact Bool.noConfusion h | (have h2 := h.2; omega))), rfl⟩
    ·replace h15 : ¬ (1 ≤ id ∧ id ≤ 1099511627776) := h15
     exact ⟨rfl, rfl, congrArg V.b (propext (by unfold fmd; constructor <;> intro h <;> first | rfl | exact ⟨hall, by omega⟩ | exact Bool.noConfusion h | (have h2 := h.2; omega))), rfl⟩
  ·replace h3 : ¬ (kd = 3) := h3
   refine ⟨fun h22 => ?_, fun h22 => absurd (show kd ≠ 3 by first | omega | assumption | simp_all) h22⟩
   refine ⟨fun h23 => ?_, fun h23 => ?_⟩
   ·replace h23 : hr = (-1) := h23
    refine ⟨rfl, rfl, rfl, trivial, fun h24 => ?_, fun h24 => ?_⟩
    ·replace h24 : (1 ≤ id ∧ id ≤ 1099511627776) := h24
     refine ⟨rfl, rfl, rfl, trivial, fun h25 => ?_, fun h25 => ?_⟩
     ·replace h25 : (1 ≤ kd ∧ kd ≤ 4) := h25
      refine ⟨rfl, rfl, rfl, trivial, fun h26 => ?_, fun h26 => ?_⟩
      ·replace h26 : (0 ≤ ob ∧ ob ≤ 1048576) := h26
       refine ⟨rfl, rfl, rfl, trivial, fun h27 => ?_, fun h27 => ?_⟩
       ·replace h27 : (0 ≤ ho ∧ ho ≤ 11) := h27
        refine ⟨rfl, rfl, rfl, trivial, fun h28 => ?_, fun h28 => ?_⟩
        ·replace h28 : ((-1) ≤ di ∧ di ≤ 63) := h28
         refine ⟨rfl, rfl, rfl, trivial, fun h29 => ?_, fun h29 => ?_⟩
         ·replace h29 : (0 ≤ bo ∧ bo ≤ 1000000) := h29
          refine ⟨rfl, rfl, rfl, trivial, fun h30 => ?_, fun h30 => ?_⟩
          ·replace h30 : (bo ≤ go ∧ go ≤ 1000001) := h30
           exact ⟨rfl, rfl, congrArg V.b (propext (by unfold fmd; constructor <;> intro h <;> first | rfl | exact ⟨hall, by omega⟩ | exact Bool.noConfusion h | (have h2 := h.2; omega))), rfl⟩
          ·replace h30 : ¬ (bo ≤ go ∧ go ≤ 1000001) := h30
           exact ⟨rfl, rfl, congrArg V.b (propext (by unfold fmd; constructor <;> intro h <;> first | rfl | exact ⟨hall, by omega⟩ | exact Bool.noConfusion h | (have h2 := h.2; omega))), rfl⟩
         ·replace h29 : ¬ (0 ≤ bo ∧ bo ≤ 1000000) := h29
          exact ⟨rfl, rfl, congrArg V.b (propext (by unfold fmd; constructor <;> intro h <;> first | rfl | exact ⟨hall, by omega⟩ | exact Bool.noConfusion h | (have h2 := h.2; omega))), rfl⟩
        ·replace h28 : ¬ ((-1) ≤ di ∧ di ≤ 63) := h28
         exact ⟨rfl, rfl, congrArg V.b (propext (by unfold fmd; constructor <;> intro h <;> first | rfl | exact ⟨hall, by omega⟩ | exact Bool.noConfusion h | (have h2 := h.2; omega))), rfl⟩
       ·replace h27 : ¬ (0 ≤ ho ∧ ho ≤ 11) := h27
        exact ⟨rfl, rfl, congrArg V.b (propext (by unfold fmd; constructor <;> intro h <;> first | rfl | exact ⟨hall, by omega⟩ | exact Bool.noConfusion h | (have h2 := h.2; omega))), rfl⟩
      ·replace h26 : ¬ (0 ≤ ob ∧ ob ≤ 1048576) := h26
       exact ⟨rfl, rfl, congrArg V.b (propext (by unfold fmd; constructor <;> intro h <;> first | rfl | exact ⟨hall, by omega⟩ | exact Bool.noConfusion h | (have h2 := h.2; omega))), rfl⟩
     ·replace h25 : ¬ (1 ≤ kd ∧ kd ≤ 4) := h25
      exact ⟨rfl, rfl, congrArg V.b (propext (by unfold fmd; constructor <;> intro h <;> first | rfl | exact ⟨hall, by omega⟩ | exact Bool.noConfusion h | (have h2 := h.2; omega))), rfl⟩
    ·replace h24 : ¬ (1 ≤ id ∧ id ≤ 1099511627776) := h24
     exact ⟨rfl, rfl, congrArg V.b (propext (by unfold fmd; constructor <;> intro h <;> first | rfl | exact ⟨hall, by omega⟩ | exact Bool.noConfusion h | (have h2 := h.2; omega))), rfl⟩
   ·replace h23 : ¬ (hr = (-1)) := h23
    refine ⟨rfl, rfl, rfl, trivial, fun h31 => ?_, fun h31 => ?_⟩
    ·replace h31 : (1 ≤ id ∧ id ≤ 1099511627776) := h31
     refine ⟨rfl, rfl, rfl, trivial, fun h32 => ?_, fun h32 => ?_⟩
     ·replace h32 : (1 ≤ kd ∧ kd ≤ 4) := h32
      refine ⟨rfl, rfl, rfl, trivial, fun h33 => ?_, fun h33 => ?_⟩
      ·replace h33 : (0 ≤ ob ∧ ob ≤ 1048576) := h33
       refine ⟨rfl, rfl, rfl, trivial, fun h34 => ?_, fun h34 => ?_⟩
       ·replace h34 : (0 ≤ ho ∧ ho ≤ 11) := h34
        refine ⟨rfl, rfl, rfl, trivial, fun h35 => ?_, fun h35 => ?_⟩
        ·replace h35 : ((-1) ≤ di ∧ di ≤ 63) := h35
         refine ⟨rfl, rfl, rfl, trivial, fun h36 => ?_, fun h36 => ?_⟩
         ·replace h36 : (0 ≤ bo ∧ bo ≤ 1000000) := h36
          refine ⟨rfl, rfl, rfl, trivial, fun h37 => ?_, fun h37 => ?_⟩
          ·replace h37 : (bo ≤ go ∧ go ≤ 1000001) := h37
           exact ⟨rfl, rfl, congrArg V.b (propext (by unfold fmd; constructor <;> intro h <;> first | rfl | exact ⟨hall, by omega⟩ | exact Bool.noConfusion h | (have h2 := h.2; omega))), rfl⟩
          ·replace h37 : ¬ (bo ≤ go ∧ go ≤ 1000001) := h37
           exact ⟨rfl, rfl, congrArg V.b (propext (by unfold fmd; constructor <;> intro h <;> first | rfl | exact ⟨hall, by omega⟩ | exact Bool.noConfusion h | (have h2 := h.2; omega))), rfl⟩
         ·replace h36 : ¬ (0 ≤ bo ∧ bo ≤ 1000000) := h36
          exact ⟨rfl, rfl, congrArg V.b (propext (by unfold fmd; constructor <;> intro h <;> first | rfl | exact ⟨hall, by omega⟩ | exact Bool.noConfusion h | (have h2 := h.2; omega))), rfl⟩
        ·replace h35 : ¬ ((-1) ≤ di ∧ di ≤ 63) := h35
         exact ⟨rfl, rfl, congrArg V.b (propext (by unfold fmd; constructor <;> intro h <;> first | rfl | exact ⟨hall, by omega⟩ | exact Bool.noConfusion h | (have h2 := h.2; omega))), rfl⟩
       ·replace h34 : ¬ (0 ≤ ho ∧ ho ≤ 11) := h34
        exact ⟨rfl, rfl, congrArg V.b (propext (by unfold fmd; constructor <;> intro h <;> first | rfl | exact ⟨hall, by omega⟩ | exact Bool.noConfusion h | (have h2 := h.2; omega))), rfl⟩
      ·replace h33 : ¬ (0 ≤ ob ∧ ob ≤ 1048576) := h33
       exact ⟨rfl, rfl, congrArg V.b (propext (by unfold fmd; constructor <;> intro h <;> first | rfl | exact ⟨hall, by omega⟩ | exact Bool.noConfusion h | (have h2 := h.2; omega))), rfl⟩
     ·replace h32 : ¬ (1 ≤ kd ∧ kd ≤ 4) := h32
      exact ⟨rfl, rfl, congrArg V.b (propext (by unfold fmd; constructor <;> intro h <;> first | rfl | exact ⟨hall, by omega⟩ | exact Bool.noConfusion h | (have h2 := h.2; omega))), rfl⟩
    ·replace h31 : ¬ (1 ≤ id ∧ id ≤ 1099511627776) := h31
     exact ⟨rfl, rfl, congrArg V.b (propext (by unfold fmd; constructor <;> intro h <;> first | rfl | exact ⟨hall, by omega⟩ | exact Bool.noConfusion h | (have h2 := h.2; omega))), rfl⟩
def CFmd : List (Nat × Con) := (109, pureC [.v (.cons (.int .i64) (.cons (.int .i64) (.cons (.int .i64) (.cons (.sl (.int .i64)) (.cons (.int .i64) (.cons (.int .i64) (.cons (.int .i64) (.cons (.int .i64) (.cons (.int .i64) (.cons (.int .i64) .nil))))))))))] sFmd) :: CMad
theorem kFmd : Known Try.prog (En CFmd tys [] []) := kMad.add Try.func109 Try.call109 [.k] fun ds p v bs h hp => by
  unfold sFmd at h
  split at h <;> simp only [Option.some.injEq, Prod.mk.injEq, reduceCtorEq] at h
  obtain ⟨rfl, rfl, rfl⟩ := h
  exact bFmd _ _ _ _ _ _ _ _ _ _ hp
end Go.Proofs.Ytgljcfnplkcfhaa.S38

namespace Go.Proofs.Ytgljcfnplkcfhaa.S38
open Go

instance {kd ob pe kd' ob' pe' : Int} : Decidable (mad kd ob pe kd' ob' pe') := by unfold mad; infer_instance
instance {id kd ob : Int} {of : List Int} {ho di bo go hr pe : Int} : Decidable (fmd id kd ob of ho di bo go hr pe) := by unfold fmd; infer_instance

/-- Where the artifact of this number is. -/
def findL (l : List (Int × (Int × (Int × (List Int × (Int × (Int × (Int × (Int × (Int × (Int × Unit))))))))))) (i : Int) : Int := ixP (fun a : (Int × (Int × (Int × (List Int × (Int × (Int × (Int × (Int × (Int × (Int × Unit)))))))))) => decide (a.1 = i)) l 0
/-- What is wrong with what an artifact is made of. -/
def thr (a : (Int × (Int × (Int × (List Int × (Int × (Int × (Int × (Int × (Int × (Int × Unit))))))))))) (t : Int) : Prop := a.2.2.2.2.2.2.1 ≤ t ∧ t < a.2.2.2.2.2.2.2.1
def madA (a b : (Int × (Int × (Int × (List Int × (Int × (Int × (Int × (Int × (Int × (Int × Unit))))))))))) : Prop := mad a.2.1 a.2.2.1 a.2.2.2.2.2.2.2.2.2.1 b.2.1 b.2.2.1 b.2.2.2.2.2.2.2.2.2.1
def fmdA (a : (Int × (Int × (Int × (List Int × (Int × (Int × (Int × (Int × (Int × (Int × Unit))))))))))) : Prop := fmd a.1 a.2.1 a.2.2.1 a.2.2.2.1 a.2.2.2.2.1 a.2.2.2.2.2.1 a.2.2.2.2.2.2.1 a.2.2.2.2.2.2.2.1 a.2.2.2.2.2.2.2.2.1 a.2.2.2.2.2.2.2.2.2.1
instance {a t} : Decidable (thr a t) := by unfold thr; infer_instance
instance {a b} : Decidable (madA a b) := by unfold madA; infer_instance
instance {a} : Decidable (fmdA a) := by unfold fmdA; infer_instance
def ofE (l : List (Int × (Int × (Int × (List Int × (Int × (Int × (Int × (Int × (Int × (Int × Unit))))))))))) (a : (Int × (Int × (Int × (List Int × (Int × (Int × (Int × (Int × (Int × (Int × Unit))))))))))) : List Int → Int
  | [] => 0
  | i :: r => if ¬ madA a (l.getD (findL l i).toNat d0) then 7 else if ¬ thr (l.getD (findL l i).toNat d0) a.2.2.2.2.2.2.1 then 4 else ofE l a r
def oneE (l : List (Int × (Int × (Int × (List Int × (Int × (Int × (Int × (Int × (Int × (Int × Unit))))))))))) (k : Nat) : Int :=
  if ¬ fmdA (l.getD k d0) then 3 else if 0 < k ∧ (l.getD k d0).1 ≤ (l.getD (k - 1) d0).1 then 9 else
    if ∃ i ∈ (l.getD k d0).2.2.2.1, findL (l.take k) i < 0 then 8 else ofE l (l.getD k d0) (l.getD k d0).2.2.2.1
def upE (l : List (Int × (Int × (Int × (List Int × (Int × (Int × (Int × (Int × (Int × (Int × Unit))))))))))) : Nat → Int
  | 0 => 0
  | n + 1 => if upE l n = 0 then oneE l n else upE l n
def chkL (l : List (Int × (Int × (Int × (List Int × (Int × (Int × (Int × (Int × (Int × (Int × Unit))))))))))) : Int := if 400 < l.length then 2 else upE l l.length
end Go.Proofs.Ytgljcfnplkcfhaa.S38

namespace Go.Proofs.Ytgljcfnplkcfhaa.S38
open Go Go.Proofs.Ytgljcfnplkcfhaa.Vc Go.Proofs
set_option maxRecDepth 100000
set_option linter.unusedVariables false

def sFi1 : List V → Option (Prop × V × List Blk)
  | [.agg [.int .i64 id, .int .i64 kd, .int .i64 ob, .sl false (.int .i64) of, .int .i64 ho, .int .i64 di, .int .i64 bo, .int .i64 go, .int .i64 hr, .int .i64 pe], .rp false (.int .i64) i 0] => some (True, .b (id = i), [])
  | _ => none
set_option maxHeartbeats 1000000 in
theorem bFi1 (id : Int) (kd : Int) (ob : Int) (of : List Int) (ho : Int) (di : Int) (bo : Int) (go : Int) (hr : Int) (pe : Int) (i : Int)  : bodyP (En CFmd tys [] []) Try.f127 [.k] [.agg [.int .i64 id, .int .i64 kd, .int .i64 ob, .sl false (.int .i64) of, .int .i64 ho, .int .i64 di, .int .i64 bo, .int .i64 go, .int .i64 hr, .int .i64 pe], .rp false (.int .i64) i 0] (.b (id = i)) [] := by
 exact ⟨rfl, rfl, rfl, rfl⟩
def CFi1 : List (Nat × Con) := (127, pureC [.v (.cons (.int .i64) (.cons (.int .i64) (.cons (.int .i64) (.cons (.sl (.int .i64)) (.cons (.int .i64) (.cons (.int .i64) (.cons (.int .i64) (.cons (.int .i64) (.cons (.int .i64) (.cons (.int .i64) .nil)))))))))), .ref (.int .i64)] sFi1) :: CFmd
theorem kFi1 : Known Try.prog (En CFi1 tys [] []) := kFmd.add Try.func127 Try.call127 [.k] fun ds p v bs h hp => by
  unfold sFi1 at h
  split at h <;> simp only [Option.some.injEq, Prod.mk.injEq, reduceCtorEq] at h
  obtain ⟨rfl, rfl, rfl⟩ := h
  exact bFi1 _ _ _ _ _ _ _ _ _ _ _
set_option maxHeartbeats 1000000 in
theorem bIxA0 (s : List (Int × (Int × (Int × (List Int × (Int × (Int × (Int × (Int × (Int × (Int × Unit))))))))))) (i : Int) (hp0 : s.length ≤ 1048576) : bodyP (En CFi1 tys [] []) Try.f126 [.k] [.sl false (.cons (.int .i64) (.cons (.int .i64) (.cons (.int .i64) (.cons (.sl (.int .i64)) (.cons (.int .i64) (.cons (.int .i64) (.cons (.int .i64) (.cons (.int .i64) (.cons (.int .i64) (.cons (.int .i64) .nil)))))))))) s, .fn 127 [.rp false (.int .i64) i 0]] (.int .i64 (ixP (fun a : (Int × (Int × (Int × (List Int × (Int × (Int × (Int × (Int × (Int × (Int × Unit)))))))))) => decide (a.1 = i)) s 0)) [] := by
 refine ⟨0, [(0, .k), (1, .k), (7, .k), (8, .k)], fun nM vs H => ∃ (k : Nat), k ≤ s.length ∧ ixP (fun a : (Int × (Int × (Int × (List Int × (Int × (Int × (Int × (Int × (Int × (Int × Unit)))))))))) => decide (a.1 = i)) (s.drop k) k = ixP (fun a : (Int × (Int × (Int × (List Int × (Int × (Int × (Int × (Int × (Int × (Int × Unit)))))))))) => decide (a.1 = i)) s 0 ∧ nM = s.length - k ∧ vs = [.sl false (.cons (.int .i64) (.cons (.int .i64) (.cons (.int .i64) (.cons (.sl (.int .i64)) (.cons (.int .i64) (.cons (.int .i64) (.cons (.int .i64) (.cons (.int .i64) (.cons (.int .i64) (.cons (.int .i64) .nil)))))))))) s, .fn 127 [.rp false (.int .i64) i 0], .int .i64 (s.length : Int), .int .i64 (k : Int)] ∧ H = [], ⟨rfl, s.length, 0, by omega, rfl, by omega, rfl, rfl⟩, ?_⟩
 rintro nM vs H ⟨k, hc1_0, hc1_1, rfl, rfl, rfl⟩
 refine ⟨fun h0 => ?_, fun h0 => ?_⟩
 ·replace h0 : (k : Int) < (s.length : Int) := h0
  have hk : k < s.length := by omega
  rw [drop_one d0 s k hk, ixP] at hc1_1
  refine ⟨⟨by show (0 : Int) ≤ (k : Int); omega, by show (k : Int) < (s.length : Int); omega⟩, rfl, rfl, rfl, rfl, rfl, rfl, rfl, rfl, rfl, trivial, fun h1 => ?_, fun h1 => ?_⟩
  ·replace h1 : (s.getD k d0).1 = i := h1
   rw [if_pos (decide_eq_true h1)] at hc1_1
   rw [← hc1_1]
   exact ⟨rfl, rfl, rfl, rfl⟩
  ·replace h1 : ¬ ((s.getD k d0).1 = i) := h1
   rw [if_neg (by simpa using h1)] at hc1_1
   refine ⟨⟨by show (-9223372036854775808 : Int) ≤ ((k : Int) + 1); omega, by show ((k : Int) + 1) ≤ (9223372036854775807 : Int); omega⟩, ?_⟩
   exact ⟨rfl, s.length - (k + 1), by omega, k + 1, by omega, hc1_1, rfl, rfl, rfl⟩
 ·replace h0 : ¬ ((k : Int) < (s.length : Int)) := h0
  rw [List.drop_eq_nil_of_le (by omega), ixP] at hc1_1
  rw [← hc1_1]
  exact ⟨rfl, rfl, rfl, rfl⟩
def sIxA : List V → Option (Prop × V × List Blk)
  | [.sl false (.cons (.int .i64) (.cons (.int .i64) (.cons (.int .i64) (.cons (.sl (.int .i64)) (.cons (.int .i64) (.cons (.int .i64) (.cons (.int .i64) (.cons (.int .i64) (.cons (.int .i64) (.cons (.int .i64) .nil)))))))))) s, .fn 127 [.rp false (.int .i64) i 0]] => some (s.length ≤ 1048576, .int .i64 (ixP (fun a : (Int × (Int × (Int × (List Int × (Int × (Int × (Int × (Int × (Int × (Int × Unit)))))))))) => decide (a.1 = i)) s 0), [])
  | _ => none
def CIxA : List (Nat × Con) := (126, pureC [.v (.sl (.cons (.int .i64) (.cons (.int .i64) (.cons (.int .i64) (.cons (.sl (.int .i64)) (.cons (.int .i64) (.cons (.int .i64) (.cons (.int .i64) (.cons (.int .i64) (.cons (.int .i64) (.cons (.int .i64) .nil))))))))))), .fn [(127, [.ref (.int .i64)])]] sIxA) :: CFi1
theorem kIxA : Known Try.prog (En CIxA tys [] []) := kFi1.add Try.func126 Try.call126 [.k] fun ds p v bs h hp => by
  unfold sIxA at h
  split at h <;> simp only [Option.some.injEq, Prod.mk.injEq, reduceCtorEq] at h
  · obtain ⟨rfl, rfl, rfl⟩ := h
    exact bIxA0 _ _ hp
def sFin : List V → Option (Prop × V × List Blk)
  | [.sl false (.cons (.int .i64) (.cons (.int .i64) (.cons (.int .i64) (.cons (.sl (.int .i64)) (.cons (.int .i64) (.cons (.int .i64) (.cons (.int .i64) (.cons (.int .i64) (.cons (.int .i64) (.cons (.int .i64) .nil)))))))))) l, .int .i64 i] => some (l.length ≤ 1048576, .int .i64 (findL l i), [])
  | _ => none
set_option maxHeartbeats 1000000 in
theorem bFin (l : List (Int × (Int × (Int × (List Int × (Int × (Int × (Int × (Int × (Int × (Int × Unit))))))))))) (i : Int) (hp0 : l.length ≤ 1048576) : bodyP (En CIxA tys [] []) Try.f95 [.k] [.sl false (.cons (.int .i64) (.cons (.int .i64) (.cons (.int .i64) (.cons (.sl (.int .i64)) (.cons (.int .i64) (.cons (.int .i64) (.cons (.int .i64) (.cons (.int .i64) (.cons (.int .i64) (.cons (.int .i64) .nil)))))))))) l, .int .i64 i] (.int .i64 (findL l i)) [] := by
 refine ⟨rfl, by show l.length ≤ 1048576; first | omega | assumption, ?_⟩
 exact ⟨rfl, rfl, rfl, rfl⟩
def CFin : List (Nat × Con) := (95, pureC [.v (.sl (.cons (.int .i64) (.cons (.int .i64) (.cons (.int .i64) (.cons (.sl (.int .i64)) (.cons (.int .i64) (.cons (.int .i64) (.cons (.int .i64) (.cons (.int .i64) (.cons (.int .i64) (.cons (.int .i64) .nil))))))))))), .v (.int .i64)] sFin) :: CIxA
theorem kFin : Known Try.prog (En CFin tys [] []) := kIxA.add Try.func95 Try.call95 [.k] fun ds p v bs h hp => by
  unfold sFin at h
  split at h <;> simp only [Option.some.injEq, Prod.mk.injEq, reduceCtorEq] at h
  obtain ⟨rfl, rfl, rfl⟩ := h
  exact bFin _ _ hp
end Go.Proofs.Ytgljcfnplkcfhaa.S38

namespace Go.Proofs.Ytgljcfnplkcfhaa.S38
open Go Go.Proofs.Ytgljcfnplkcfhaa.Vc Go.Proofs
set_option maxRecDepth 100000
set_option linter.unusedVariables false

def sCk1 : List V → Option (Prop × V × List Blk)
  | [.int .i64 i, .rp false (.sl (.cons (.int .i64) (.cons (.int .i64) (.cons (.int .i64) (.cons (.sl (.int .i64)) (.cons (.int .i64) (.cons (.int .i64) (.cons (.int .i64) (.cons (.int .i64) (.cons (.int .i64) (.cons (.int .i64) .nil))))))))))) l 0, .rp false (.int .i64) k 0] => some (0 ≤ k ∧ k ≤ (l.length : Int) ∧ l.length ≤ 1048576, .b (findL (l.take k.toNat) i < 0), [])
  | _ => none
set_option maxHeartbeats 1000000 in
theorem bCk1 (i : Int) (l : List (Int × (Int × (Int × (List Int × (Int × (Int × (Int × (Int × (Int × (Int × Unit))))))))))) (k : Int) (hp0 : 0 ≤ k) (hp1 : k ≤ (l.length : Int)) (hp2 : l.length ≤ 1048576) : bodyP (En CFin tys [] []) Try.f111 [.k] [.int .i64 i, .rp false (.sl (.cons (.int .i64) (.cons (.int .i64) (.cons (.int .i64) (.cons (.sl (.int .i64)) (.cons (.int .i64) (.cons (.int .i64) (.cons (.int .i64) (.cons (.int .i64) (.cons (.int .i64) (.cons (.int .i64) .nil))))))))))) l 0, .rp false (.int .i64) k 0] (.b (findL (l.take k.toNat) i < 0)) [] := by
 refine ⟨⟨by omega, by omega⟩, rfl, by rw [List.length_take]; omega, ?_⟩
 exact ⟨rfl, rfl, rfl, rfl⟩
def CCk1 : List (Nat × Con) := (111, pureC [.v (.int .i64), .ref (.sl (.cons (.int .i64) (.cons (.int .i64) (.cons (.int .i64) (.cons (.sl (.int .i64)) (.cons (.int .i64) (.cons (.int .i64) (.cons (.int .i64) (.cons (.int .i64) (.cons (.int .i64) (.cons (.int .i64) .nil))))))))))), .ref (.int .i64)] sCk1) :: CFin
theorem kCk1 : Known Try.prog (En CCk1 tys [] []) := kFin.add Try.func111 Try.call111 [.k] fun ds p v bs h hp => by
  unfold sCk1 at h
  split at h <;> simp only [Option.some.injEq, Prod.mk.injEq, reduceCtorEq] at h
  obtain ⟨rfl, rfl, rfl⟩ := h
  exact bCk1 _ _ _ hp.1 hp.2.1 hp.2.2
set_option maxHeartbeats 1000000 in
theorem bIxI0 (s : List Int) (l : List (Int × (Int × (Int × (List Int × (Int × (Int × (Int × (Int × (Int × (Int × Unit))))))))))) (k : Int) (hp0 : 0 ≤ k) (hp1 : k ≤ (l.length : Int)) (hp2 : l.length ≤ 1048576) (hp3 : s.length ≤ 1048576) : bodyP (En CCk1 tys [] []) Try.f129 [.k] [.sl false (.int .i64) s, .fn 111 [.rp false (.sl (.cons (.int .i64) (.cons (.int .i64) (.cons (.int .i64) (.cons (.sl (.int .i64)) (.cons (.int .i64) (.cons (.int .i64) (.cons (.int .i64) (.cons (.int .i64) (.cons (.int .i64) (.cons (.int .i64) .nil))))))))))) l 0, .rp false (.int .i64) k 0]] (.int .i64 (ixP (fun i => decide (findL (l.take k.toNat) i < 0)) s 0)) [] := by
 refine ⟨0, [(0, .k), (1, .k), (7, .k), (8, .k)], fun nM vs H => ∃ (j : Nat), j ≤ s.length ∧ ixP (fun i => decide (findL (l.take k.toNat) i < 0)) (s.drop j) j = ixP (fun i => decide (findL (l.take k.toNat) i < 0)) s 0 ∧ nM = s.length - j ∧ vs = [.sl false (.int .i64) s, .fn 111 [.rp false (.sl (.cons (.int .i64) (.cons (.int .i64) (.cons (.int .i64) (.cons (.sl (.int .i64)) (.cons (.int .i64) (.cons (.int .i64) (.cons (.int .i64) (.cons (.int .i64) (.cons (.int .i64) (.cons (.int .i64) .nil))))))))))) l 0, .rp false (.int .i64) k 0], .int .i64 (s.length : Int), .int .i64 (j : Int)] ∧ H = [], ⟨rfl, s.length, 0, by omega, rfl, by omega, rfl, rfl⟩, ?_⟩
 rintro nM vs H ⟨j, hc1_0, hc1_1, rfl, rfl, rfl⟩
 refine ⟨fun h0 => ?_, fun h0 => ?_⟩
 ·replace h0 : (j : Int) < (s.length : Int) := h0
  have hj : j < s.length := by omega
  rw [drop_one 0 s j hj, ixP] at hc1_1
  refine ⟨⟨by show (0 : Int) ≤ (j : Int); omega, by show (j : Int) < (s.length : Int); omega⟩, rfl, ⟨by show 0 ≤ k; first | omega | assumption, by show k ≤ (l.length : Int); first | omega | assumption, by show l.length ≤ 1048576; first | omega | assumption⟩, fun h1 => ?_, fun h1 => ?_⟩
  ·replace h1 : findL (l.take k.toNat) (s.getD j 0) < 0 := h1
   rw [if_pos (decide_eq_true h1)] at hc1_1
   rw [← hc1_1]
   exact ⟨rfl, rfl, rfl, rfl⟩
  ·replace h1 : ¬ (findL (l.take k.toNat) (s.getD j 0) < 0) := h1
   rw [if_neg (by simpa using h1)] at hc1_1
   refine ⟨⟨by show (-9223372036854775808 : Int) ≤ ((j : Int) + 1); omega, by show ((j : Int) + 1) ≤ (9223372036854775807 : Int); omega⟩, ?_⟩
   exact ⟨rfl, s.length - (j + 1), by omega, j + 1, by omega, hc1_1, rfl, rfl, rfl⟩
 ·replace h0 : ¬ ((j : Int) < (s.length : Int)) := h0
  rw [List.drop_eq_nil_of_le (by omega), ixP] at hc1_1
  rw [← hc1_1]
  exact ⟨rfl, rfl, rfl, rfl⟩
def sIxI : List V → Option (Prop × V × List Blk)
  | [.sl false (.int .i64) s, .fn 111 [.rp false (.sl (.cons (.int .i64) (.cons (.int .i64) (.cons (.int .i64) (.cons (.sl (.int .i64)) (.cons (.int .i64) (.cons (.int .i64) (.cons (.int .i64) (.cons (.int .i64) (.cons (.int .i64) (.cons (.int .i64) .nil))))))))))) l 0, .rp false (.int .i64) k 0]] => some (0 ≤ k ∧ k ≤ (l.length : Int) ∧ l.length ≤ 1048576 ∧ s.length ≤ 1048576, .int .i64 (ixP (fun i => decide (findL (l.take k.toNat) i < 0)) s 0), [])
  | _ => none
def CIxI : List (Nat × Con) := (129, pureC [.v (.sl (.int .i64)), .fn [(111, [.ref (.sl (.cons (.int .i64) (.cons (.int .i64) (.cons (.int .i64) (.cons (.sl (.int .i64)) (.cons (.int .i64) (.cons (.int .i64) (.cons (.int .i64) (.cons (.int .i64) (.cons (.int .i64) (.cons (.int .i64) .nil))))))))))), .ref (.int .i64)])]] sIxI) :: CCk1
theorem kIxI : Known Try.prog (En CIxI tys [] []) := kCk1.add Try.func129 Try.call129 [.k] fun ds p v bs h hp => by
  unfold sIxI at h
  split at h <;> simp only [Option.some.injEq, Prod.mk.injEq, reduceCtorEq] at h
  · obtain ⟨rfl, rfl, rfl⟩ := h
    exact bIxI0 _ _ _ hp.1 hp.2.1 hp.2.2.1 hp.2.2.2
set_option maxHeartbeats 1000000 in
theorem bCfI0 (s : List Int) (l : List (Int × (Int × (Int × (List Int × (Int × (Int × (Int × (Int × (Int × (Int × Unit))))))))))) (k : Int) (hp0 : 0 ≤ k) (hp1 : k ≤ (l.length : Int)) (hp2 : l.length ≤ 1048576) (hp3 : s.length ≤ 1048576) : bodyP (En CIxI tys [] []) Try.f110 [.k] [.sl false (.int .i64) s, .fn 111 [.rp false (.sl (.cons (.int .i64) (.cons (.int .i64) (.cons (.int .i64) (.cons (.sl (.int .i64)) (.cons (.int .i64) (.cons (.int .i64) (.cons (.int .i64) (.cons (.int .i64) (.cons (.int .i64) (.cons (.int .i64) .nil))))))))))) l 0, .rp false (.int .i64) k 0]] (.b (∃ i ∈ s, findL (l.take k.toNat) i < 0)) [] := by
 refine ⟨⟨by show 0 ≤ k; first | omega | assumption, by show k ≤ (l.length : Int); first | omega | assumption, by show l.length ≤ 1048576; first | omega | assumption, by show s.length ≤ 1048576; first | omega | assumption⟩, ?_⟩
 exact ⟨rfl, rfl, congrArg V.b (propext (ixP_is (fun i => decide (findL (l.take k.toNat) i < 0)) s fun i => decide_eq_true_iff)), rfl⟩
def sCfI : List V → Option (Prop × V × List Blk)
  | [.sl false (.int .i64) s, .fn 111 [.rp false (.sl (.cons (.int .i64) (.cons (.int .i64) (.cons (.int .i64) (.cons (.sl (.int .i64)) (.cons (.int .i64) (.cons (.int .i64) (.cons (.int .i64) (.cons (.int .i64) (.cons (.int .i64) (.cons (.int .i64) .nil))))))))))) l 0, .rp false (.int .i64) k 0]] => some (0 ≤ k ∧ k ≤ (l.length : Int) ∧ l.length ≤ 1048576 ∧ s.length ≤ 1048576, .b (∃ i ∈ s, findL (l.take k.toNat) i < 0), [])
  | _ => none
def CCfI : List (Nat × Con) := (110, pureC [.v (.sl (.int .i64)), .fn [(111, [.ref (.sl (.cons (.int .i64) (.cons (.int .i64) (.cons (.int .i64) (.cons (.sl (.int .i64)) (.cons (.int .i64) (.cons (.int .i64) (.cons (.int .i64) (.cons (.int .i64) (.cons (.int .i64) (.cons (.int .i64) .nil))))))))))), .ref (.int .i64)])]] sCfI) :: CIxI
theorem kCfI : Known Try.prog (En CCfI tys [] []) := kIxI.add Try.func110 Try.call110 [.k] fun ds p v bs h hp => by
  unfold sCfI at h
  split at h <;> simp only [Option.some.injEq, Prod.mk.injEq, reduceCtorEq] at h
  · obtain ⟨rfl, rfl, rfl⟩ := h
    exact bCfI0 _ _ _ hp.1 hp.2.1 hp.2.2.1 hp.2.2.2
end Go.Proofs.Ytgljcfnplkcfhaa.S38

namespace Go.Proofs.Ytgljcfnplkcfhaa.S38
open Go

theorem fmd_pe {id kd ob : Int} {of : List Int} {ho di bo go hr pe : Int} (h : fmd id kd ob of ho di bo go hr pe) : 0 ≤ pe ∧ pe ≤ 499 ∧ 1 ≤ kd ∧ kd ≤ 4 ∧ 0 ≤ bo ∧ bo ≤ 1000000 ∧ go ≤ 1000001 := by
  unfold fmd at h; omega
theorem upE_zero {l : List (Int × (Int × (Int × (List Int × (Int × (Int × (Int × (Int × (Int × (Int × Unit))))))))))} : ∀ {n : Nat}, upE l n = 0 ↔ ∀ k, k < n → oneE l k = 0
  | 0 => by simp [upE]
  | n + 1 => by
    rw [upE]
    constructor
    · intro h k hk
      split at h
      · rename_i g
        rcases Nat.lt_or_ge k n with g2 | g2
        · exact upE_zero.1 g k g2
        · have : k = n := by omega
          subst this; exact h
      · contradiction
    · intro h
      rw [if_pos (upE_zero.2 fun k hk => h k (by omega))]
      exact h n (by omega)
theorem upE_bad {l : List (Int × (Int × (Int × (List Int × (Int × (Int × (Int × (Int × (Int × (Int × Unit))))))))))} {k n : Nat} (hk : k < n) (h0 : upE l k = 0) (h : oneE l k ≠ 0) : upE l n = oneE l k := by
  induction n with
  | zero => omega
  | succ n ih =>
    rw [upE]
    rcases Nat.lt_or_ge k n with g | g
    · rw [ih g, if_neg h]
    · have : k = n := by omega
      subst this
      rw [if_pos h0]
theorem one_fmd {l : List (Int × (Int × (Int × (List Int × (Int × (Int × (Int × (Int × (Int × (Int × Unit))))))))))} {k : Nat} (h : oneE l k = 0) : fmdA (l.getD k d0) := by
  unfold oneE at h
  refine Classical.byContradiction fun g => ?_
  rw [if_pos g] at h; cases h
theorem ixP_take {α : Type} {p : α → Bool} : ∀ {l : List α} {n k : Nat}, ¬ ixP p (l.take n) k < 0 → ixP p l k = ixP p (l.take n) k ∧ (k : Int) ≤ ixP p l k ∧ ixP p l k < k + n
  | [], n, k, h => by simp [ixP] at h
  | a :: l, 0, k, h => by simp [ixP] at h
  | a :: l, n + 1, k, h => by
    rw [List.take_succ_cons] at h ⊢
    unfold ixP at h ⊢
    split
    · exact ⟨rfl, by omega, by omega⟩
    · rename_i g
      rw [if_neg g] at h
      obtain ⟨h1, h2, h3⟩ := ixP_take h
      exact ⟨h1, by omega, by omega⟩
theorem find_take {l : List (Int × (Int × (Int × (List Int × (Int × (Int × (Int × (Int × (Int × (Int × Unit))))))))))} {i : Int} {n : Nat} (h : ¬ findL (l.take n) i < 0) : 0 ≤ findL l i ∧ findL l i < n := by
  obtain ⟨h1, h2, h3⟩ := ixP_take h
  unfold findL
  constructor <;> omega
end Go.Proofs.Ytgljcfnplkcfhaa.S38

namespace Go.Proofs.Ytgljcfnplkcfhaa.S38
open Go Go.Proofs.Ytgljcfnplkcfhaa.Vc Go.Proofs
set_option maxRecDepth 100000
set_option linter.unusedVariables false

def sChk : List V → Option (Prop × V × List Blk)
  | [.sl false (.cons (.int .i64) (.cons (.int .i64) (.cons (.int .i64) (.cons (.sl (.int .i64)) (.cons (.int .i64) (.cons (.int .i64) (.cons (.int .i64) (.cons (.int .i64) (.cons (.int .i64) (.cons (.int .i64) .nil)))))))))) l] => some (l.length ≤ 1048576 ∧ (∀ a ∈ l, a.2.2.2.1.length ≤ 1048576), .int .i64 (chkL l), [])
  | _ => none
set_option maxHeartbeats 4000000 in
theorem bChk (l : List (Int × (Int × (Int × (List Int × (Int × (Int × (Int × (Int × (Int × (Int × Unit))))))))))) (hp0 : l.length ≤ 1048576) (hp1 : (∀ a ∈ l, a.2.2.2.1.length ≤ 1048576)) : bodyP (En CCfI tys [] []) Try.f56 [.k] [.sl false (.cons (.int .i64) (.cons (.int .i64) (.cons (.int .i64) (.cons (.sl (.int .i64)) (.cons (.int .i64) (.cons (.int .i64) (.cons (.int .i64) (.cons (.int .i64) (.cons (.int .i64) (.cons (.int .i64) .nil)))))))))) l] (.int .i64 (chkL l)) [] := by
 refine ⟨fun h0 => ?_, fun h0 => ?_⟩
 ·replace h0 : 400 < (l.length : Int) := h0
  have e : chkL l = 2 := if_pos (by omega)
  rw [e]
  exact ⟨rfl, rfl, rfl, rfl⟩
 ·replace h0 : ¬ (400 < (l.length : Int)) := h0
  refine ⟨1, [(1, .k), (11, .k), (12, .k), (13, .k)], fun nM vs H => ∃ (k : Nat), k ≤ l.length ∧ upE l k = 0 ∧ nM = l.length - k ∧ vs = [.ptr 0 1 0 0, .sl false (.cons (.int .i64) (.cons (.int .i64) (.cons (.int .i64) (.cons (.sl (.int .i64)) (.cons (.int .i64) (.cons (.int .i64) (.cons (.int .i64) (.cons (.int .i64) (.cons (.int .i64) (.cons (.int .i64) .nil)))))))))) l, .int .i64 (l.length : Int), .int .i64 (k : Int)] ∧ H = [.cells [.sl false (.cons (.int .i64) (.cons (.int .i64) (.cons (.int .i64) (.cons (.sl (.int .i64)) (.cons (.int .i64) (.cons (.int .i64) (.cons (.int .i64) (.cons (.int .i64) (.cons (.int .i64) (.cons (.int .i64) .nil)))))))))) l]], ⟨rfl, l.length, 0, by omega, rfl, by omega, rfl, rfl⟩, ?_⟩
  rintro nM vs H ⟨k, hc1_0, hc1_1, rfl, rfl, rfl⟩
  refine ⟨fun h1 => ?_, fun h1 => ?_⟩
  ·replace h1 : (k : Int) < (l.length : Int) := h1
   have hk : k < l.length := by omega
   have hof := hp1 _ (getD_mem d0 l k hk)
   refine ⟨⟨by show (0 : Int) ≤ (k : Int); omega, by show (k : Int) < (l.length : Int); omega⟩, ⟨rfl, rfl, rfl⟩, ⟨rfl, rfl, rfl, Nat.le_of_ble_eq_true rfl⟩, rfl, rfl, rfl, rfl, rfl, rfl, rfl, rfl, rfl, by show (l.getD k d0).2.2.2.1.length ≤ 1048576; first | omega | assumption, fun h2 => ?_, fun h2 => ?_⟩
   ·replace h2 : ¬ (fmd (l.getD k d0).1 (l.getD k d0).2.1 (l.getD k d0).2.2.1 (l.getD k d0).2.2.2.1 (l.getD k d0).2.2.2.2.1 (l.getD k d0).2.2.2.2.2.1 (l.getD k d0).2.2.2.2.2.2.1 (l.getD k d0).2.2.2.2.2.2.2.1 (l.getD k d0).2.2.2.2.2.2.2.2.1 (l.getD k d0).2.2.2.2.2.2.2.2.2.1) := h2
    have e1 : oneE l k = 3 := by unfold oneE; rw [if_pos (show ¬ fmdA (l.getD k d0) from h2)]
    have e : chkL l = 3 := by unfold chkL; rw [if_neg (by omega), upE_bad hk hc1_1 (by rw [e1]; decide), e1]
    rw [e]
    exact ⟨rfl, rfl, rfl, rfl⟩
   ·replace h2 : ¬ (¬ (fmd (l.getD k d0).1 (l.getD k d0).2.1 (l.getD k d0).2.2.1 (l.getD k d0).2.2.2.1 (l.getD k d0).2.2.2.2.1 (l.getD k d0).2.2.2.2.2.1 (l.getD k d0).2.2.2.2.2.2.1 (l.getD k d0).2.2.2.2.2.2.2.1 (l.getD k d0).2.2.2.2.2.2.2.2.1 (l.getD k d0).2.2.2.2.2.2.2.2.2.1)) := h2
    have hfm : fmdA (l.getD k d0) := Classical.not_not.1 h2
    have hpe := fmd_pe hfm
    have hk1 : ((k : Int) - 1).toNat = k - 1 := by omega
    refine ⟨by kernel_rfl, fun h3 => ?_, fun h3 => ?_⟩
    ·replace h3 : 0 < (k : Int) := h3
     refine ⟨fun h4 => ?_, fun h4 => absurd (show 0 < (k : Int) by first | omega | assumption | simp_all) h4⟩
     refine ⟨fun h5 => ?_, fun h5 => absurd (show 0 < (k : Int) by first | omega | assumption | simp_all) h5⟩
     refine ⟨⟨by show (-9223372036854775808 : Int) ≤ ((k : Int) - 1); omega, by show ((k : Int) - 1) ≤ (9223372036854775807 : Int); omega⟩, fun h6 => ?_, fun h6 => absurd (show 0 < (k : Int) by first | omega | assumption | simp_all) h6⟩
     refine ⟨⟨by show (0 : Int) ≤ ((k : Int) - 1); omega, by show ((k : Int) - 1) < (l.length : Int); omega⟩, fun h7 => ?_, fun h7 => absurd (show 0 < (k : Int) by first | omega | assumption | simp_all) h7⟩
     refine ⟨fun h8 => ?_, fun h8 => absurd (show 0 < (k : Int) by first | omega | assumption | simp_all) h8⟩
     refine ⟨fun h9 => ?_, fun h9 => absurd (show 0 < (k : Int) by first | omega | assumption | simp_all) h9⟩
     refine ⟨fun h10 => ?_, fun h10 => absurd (show 0 < (k : Int) by first | omega | assumption | simp_all) h10⟩
     refine ⟨fun h11 => ?_, fun h11 => absurd (show 0 < (k : Int) by first | omega | assumption | simp_all) h11⟩
     refine ⟨fun h12 => ?_, fun h12 => absurd (show 0 < (k : Int) by first | omega | assumption | simp_all) h12⟩
     refine ⟨fun h13 => ?_, fun h13 => ?_⟩
     ·replace h13 : (l.getD k d0).1 ≤ (l.getD (((k : Int) - 1).toNat) d0).1 := h13
      have e1 : oneE l k = 9 := by unfold oneE; rw [if_neg (fun g => g hfm), if_pos ⟨by omega, by rw [← hk1]; exact h13⟩]
      have e : chkL l = 9 := by unfold chkL; rw [if_neg (by omega), upE_bad hk hc1_1 (by rw [e1]; decide), e1]
      rw [e]
      exact ⟨rfl, rfl, rfl, rfl⟩
     ·replace h13 : ¬ ((l.getD k d0).1 ≤ (l.getD (((k : Int) - 1).toNat) d0).1) := h13
      have hord : ¬ (0 < k ∧ ((l.getD k d0)).1 ≤ (l.getD (k - 1) d0).1) := fun g => h13 (by rw [hk1]; exact g.2)
      refine ⟨rfl, ⟨by show 0 ≤ (k : Int); first | omega | assumption, by show (k : Int) ≤ (l.length : Int); first | omega | assumption, by show l.length ≤ 1048576; first | omega | assumption, by show (l.getD k d0).2.2.2.1.length ≤ 1048576; first | omega | assumption⟩, fun h14 => ?_, fun h14 => ?_⟩
      ·replace h14 : ∃ i ∈ (l.getD k d0).2.2.2.1, findL (l.take (k : Int).toNat) i < 0 := h14
       have e1 : oneE l k = 8 := by unfold oneE; rw [if_neg (fun g => g hfm), if_neg hord, if_pos (show ∃ i ∈ (l.getD k d0).2.2.2.1, findL (l.take k) i < 0 from h14)]
       have e : chkL l = 8 := by unfold chkL; rw [if_neg (by omega), upE_bad hk hc1_1 (by rw [e1]; decide), e1]
       rw [e]
       exact ⟨rfl, rfl, rfl, rfl⟩
      ·replace h14 : ¬ (∃ i ∈ (l.getD k d0).2.2.2.1, findL (l.take (k : Int).toNat) i < 0) := h14
       have e0 : oneE l k = ofE l (l.getD k d0) (l.getD k d0).2.2.2.1 := by unfold oneE; rw [if_neg (fun g => g hfm), if_neg hord, if_neg (show ¬ ∃ i ∈ (l.getD k d0).2.2.2.1, findL (l.take k) i < 0 from h14)]
       have hno : ∀ i ∈ (l.getD k d0).2.2.2.1, ¬ findL (l.take k) i < 0 := fun i hi g => h14 ⟨i, hi, g⟩
       refine ⟨3, [(1, .k), (4, .k), (11, .k), (12, .k), (13, .k), (42, .k), (43, .k), (44, .k)], fun nM vs H => ∃ (j : Nat), j ≤ (l.getD k d0).2.2.2.1.length ∧ ofE l (l.getD k d0) ((l.getD k d0).2.2.2.1.drop j) = ofE l (l.getD k d0) (l.getD k d0).2.2.2.1 ∧ nM = (l.getD k d0).2.2.2.1.length - j ∧ vs = [.ptr 0 1 0 0, .ptr 2 1 0 0, .sl false (.cons (.int .i64) (.cons (.int .i64) (.cons (.int .i64) (.cons (.sl (.int .i64)) (.cons (.int .i64) (.cons (.int .i64) (.cons (.int .i64) (.cons (.int .i64) (.cons (.int .i64) (.cons (.int .i64) .nil)))))))))) l, .int .i64 (l.length : Int), .int .i64 (k : Int), .sl false (.int .i64) (l.getD k d0).2.2.2.1, .int .i64 (((l.getD k d0).2.2.2.1.length : Nat) : Int), .int .i64 (j : Int)] ∧ H = [.cells [.sl false (.cons (.int .i64) (.cons (.int .i64) (.cons (.int .i64) (.cons (.sl (.int .i64)) (.cons (.int .i64) (.cons (.int .i64) (.cons (.int .i64) (.cons (.int .i64) (.cons (.int .i64) (.cons (.int .i64) .nil)))))))))) l], .cells [.int .i64 (k : Int)], .cells [.int .i64 (l.getD k d0).1, .int .i64 (l.getD k d0).2.1, .int .i64 (l.getD k d0).2.2.1, .sl false (.int .i64) (l.getD k d0).2.2.2.1, .int .i64 (l.getD k d0).2.2.2.2.1, .int .i64 (l.getD k d0).2.2.2.2.2.1, .int .i64 (l.getD k d0).2.2.2.2.2.2.1, .int .i64 (l.getD k d0).2.2.2.2.2.2.2.1, .int .i64 (l.getD k d0).2.2.2.2.2.2.2.2.1, .int .i64 (l.getD k d0).2.2.2.2.2.2.2.2.2.1]], ⟨rfl, (l.getD k d0).2.2.2.1.length, 0, by omega, rfl, by omega, rfl, rfl⟩, ?_⟩
       rintro nM vs H ⟨j, hc2_0, hc2_1, rfl, rfl, rfl⟩
       refine ⟨fun h15 => ?_, fun h15 => ?_⟩
       ·replace h15 : (j : Int) < (((l.getD k d0).2.2.2.1.length : Nat) : Int) := h15
        have hj : j < (l.getD k d0).2.2.2.1.length := by omega
        obtain ⟨f1, f2⟩ := find_take (hno _ (getD_mem 0 _ j hj))
        have hfm2 : fmdA (l.getD (findL l ((l.getD k d0).2.2.2.1.getD j 0)).toNat d0) := one_fmd (upE_zero.1 hc1_1 _ (by omega))
        have hpe2 := fmd_pe hfm2
        rw [drop_one 0 _ j hj, ofE] at hc2_1
        refine ⟨⟨by show (0 : Int) ≤ (j : Int); omega, by show (j : Int) < ((l.getD k d0).2.2.2.1.length : Int); omega⟩, by kernel_rfl, rfl, by show l.length ≤ 1048576; first | omega | assumption, ⟨by show (0 : Int) ≤ findL l ((l.getD k d0).2.2.2.1.getD j 0); omega, by show findL l ((l.getD k d0).2.2.2.1.getD j 0) < (l.length : Int); omega⟩, ⟨rfl, rfl, rfl, Nat.le_of_ble_eq_true rfl⟩, rfl, rfl, rfl, rfl, rfl, rfl, rfl, rfl, rfl, rfl, rfl, rfl, rfl, rfl, rfl, rfl, rfl, rfl, ⟨by show 0 ≤ (l.getD k d0).2.2.2.2.2.2.2.2.2.1; first | omega | assumption, by show (l.getD k d0).2.2.2.2.2.2.2.2.2.1 ≤ 499; first | omega | assumption, by show 0 ≤ (l.getD ((findL l ((l.getD k d0).2.2.2.1.getD j 0)).toNat) d0).2.2.2.2.2.2.2.2.2.1; first | omega | assumption, by show (l.getD ((findL l ((l.getD k d0).2.2.2.1.getD j 0)).toNat) d0).2.2.2.2.2.2.2.2.2.1 ≤ 499; first | omega | assumption⟩, fun h16 => ?_, fun h16 => ?_⟩
        ·replace h16 : ¬ (mad (l.getD k d0).2.1 (l.getD k d0).2.2.1 (l.getD k d0).2.2.2.2.2.2.2.2.2.1 (l.getD ((findL l ((l.getD k d0).2.2.2.1.getD j 0)).toNat) d0).2.1 (l.getD ((findL l ((l.getD k d0).2.2.2.1.getD j 0)).toNat) d0).2.2.1 (l.getD ((findL l ((l.getD k d0).2.2.2.1.getD j 0)).toNat) d0).2.2.2.2.2.2.2.2.2.1) := h16
         rw [if_pos (show ¬ madA (l.getD k d0) (l.getD (findL l ((l.getD k d0).2.2.2.1.getD j 0)).toNat d0) from h16)] at hc2_1
         have e1 : oneE l k = 7 := by rw [e0, ← hc2_1]
         have e : chkL l = 7 := by unfold chkL; rw [if_neg (by omega), upE_bad hk hc1_1 (by rw [e1]; decide), e1]
         rw [e]
         exact ⟨rfl, rfl, rfl, rfl⟩
        ·replace h16 : ¬ (¬ (mad (l.getD k d0).2.1 (l.getD k d0).2.2.1 (l.getD k d0).2.2.2.2.2.2.2.2.2.1 (l.getD ((findL l ((l.getD k d0).2.2.2.1.getD j 0)).toNat) d0).2.1 (l.getD ((findL l ((l.getD k d0).2.2.2.1.getD j 0)).toNat) d0).2.2.1 (l.getD ((findL l ((l.getD k d0).2.2.2.1.getD j 0)).toNat) d0).2.2.2.2.2.2.2.2.2.1)) := h16
         rw [if_neg (show ¬ ¬ madA (l.getD k d0) (l.getD (findL l ((l.getD k d0).2.2.2.1.getD j 0)).toNat d0) from h16)] at hc2_1
         refine ⟨rfl, rfl, rfl, rfl, rfl, rfl, rfl, rfl, rfl, rfl, trivial, fun h17 => ?_, fun h17 => ?_⟩
         ·replace h17 : ¬ ((l.getD ((findL l ((l.getD k d0).2.2.2.1.getD j 0)).toNat) d0).2.2.2.2.2.2.1 ≤ (l.getD k d0).2.2.2.2.2.2.1 ∧ (l.getD k d0).2.2.2.2.2.2.1 < (l.getD ((findL l ((l.getD k d0).2.2.2.1.getD j 0)).toNat) d0).2.2.2.2.2.2.2.1) := h17
          rw [if_pos (show ¬ thr (l.getD (findL l ((l.getD k d0).2.2.2.1.getD j 0)).toNat d0) (l.getD k d0).2.2.2.2.2.2.1 from h17)] at hc2_1
          have e1 : oneE l k = 4 := by rw [e0, ← hc2_1]
          have e : chkL l = 4 := by unfold chkL; rw [if_neg (by omega), upE_bad hk hc1_1 (by rw [e1]; decide), e1]
          rw [e]
          exact ⟨rfl, rfl, rfl, rfl⟩
         ·replace h17 : ¬ (¬ ((l.getD ((findL l ((l.getD k d0).2.2.2.1.getD j 0)).toNat) d0).2.2.2.2.2.2.1 ≤ (l.getD k d0).2.2.2.2.2.2.1 ∧ (l.getD k d0).2.2.2.2.2.2.1 < (l.getD ((findL l ((l.getD k d0).2.2.2.1.getD j 0)).toNat) d0).2.2.2.2.2.2.2.1)) := h17
          rw [if_neg (show ¬ ¬ thr (l.getD (findL l ((l.getD k d0).2.2.2.1.getD j 0)).toNat d0) (l.getD k d0).2.2.2.2.2.2.1 from h17)] at hc2_1
          have hox := hc2_1
          refine ⟨⟨by show (-9223372036854775808 : Int) ≤ ((j : Int) + 1); omega, by show ((j : Int) + 1) ≤ (9223372036854775807 : Int); omega⟩, ?_⟩
          exact ⟨rfl, (l.getD k d0).2.2.2.1.length - (j + 1), by omega, j + 1, by omega, hox, rfl, rfl, rfl⟩
       ·replace h15 : ¬ ((j : Int) < (((l.getD k d0).2.2.2.1.length : Nat) : Int)) := h15
        have hnx : upE l (k + 1) = 0 := by rw [upE, if_pos hc1_1, e0, ← hc2_1, List.drop_eq_nil_of_le (by omega), ofE]
        refine ⟨⟨by show (-9223372036854775808 : Int) ≤ ((k : Int) + 1); omega, by show ((k : Int) + 1) ≤ (9223372036854775807 : Int); omega⟩, ?_⟩
        exact ⟨rfl, l.length - (k + 1), by omega, k + 1, by omega, hnx, rfl, rfl, rfl⟩
    ·replace h3 : ¬ (0 < (k : Int)) := h3
     have hord : ¬ (0 < k ∧ ((l.getD k d0)).1 ≤ (l.getD (k - 1) d0).1) := fun g => by omega
     refine ⟨fun h18 => absurd h18 (show ¬ (0 < (k : Int)) by first | omega | assumption | simp_all), fun h18 => ?_⟩
     refine ⟨fun h19 => absurd h19 (show ¬ (0 < (k : Int)) by first | omega | assumption | simp_all), fun h19 => ?_⟩
     refine ⟨fun h20 => absurd h20 (show ¬ (0 < (k : Int)) by first | omega | assumption | simp_all), fun h20 => ?_⟩
     refine ⟨fun h21 => absurd h21 (show ¬ (0 < (k : Int)) by first | omega | assumption | simp_all), fun h21 => ?_⟩
     refine ⟨fun h22 => absurd h22 (show ¬ (0 < (k : Int)) by first | omega | assumption | simp_all), fun h22 => ?_⟩
     refine ⟨fun h23 => absurd h23 (show ¬ (0 < (k : Int)) by first | omega | assumption | simp_all), fun h23 => ?_⟩
     refine ⟨fun h24 => absurd h24 (show ¬ (0 < (k : Int)) by first | omega | assumption | simp_all), fun h24 => ?_⟩
     refine ⟨fun h25 => absurd h25 (show ¬ (0 < (k : Int)) by first | omega | assumption | simp_all), fun h25 => ?_⟩
     refine ⟨fun h26 => absurd h26 (show ¬ (0 < (k : Int)) by first | omega | assumption | simp_all), fun h26 => ?_⟩
     refine ⟨rfl, ⟨by show 0 ≤ (k : Int); first | omega | assumption, by show (k : Int) ≤ (l.length : Int); first | omega | assumption, by show l.length ≤ 1048576; first | omega | assumption, by show (l.getD k d0).2.2.2.1.length ≤ 1048576; first | omega | assumption⟩, fun h27 => ?_, fun h27 => ?_⟩
     ·replace h27 : ∃ i ∈ (l.getD k d0).2.2.2.1, findL (l.take (k : Int).toNat) i < 0 := h27
      have e1 : oneE l k = 8 := by unfold oneE; rw [if_neg (fun g => g hfm), if_neg hord, if_pos (show ∃ i ∈ (l.getD k d0).2.2.2.1, findL (l.take k) i < 0 from h27)]
      have e : chkL l = 8 := by unfold chkL; rw [if_neg (by omega), upE_bad hk hc1_1 (by rw [e1]; decide), e1]
      rw [e]
      exact ⟨rfl, rfl, rfl, rfl⟩
     ·replace h27 : ¬ (∃ i ∈ (l.getD k d0).2.2.2.1, findL (l.take (k : Int).toNat) i < 0) := h27
      have e0 : oneE l k = ofE l (l.getD k d0) (l.getD k d0).2.2.2.1 := by unfold oneE; rw [if_neg (fun g => g hfm), if_neg hord, if_neg (show ¬ ∃ i ∈ (l.getD k d0).2.2.2.1, findL (l.take k) i < 0 from h27)]
      have hno : ∀ i ∈ (l.getD k d0).2.2.2.1, ¬ findL (l.take k) i < 0 := fun i hi g => h27 ⟨i, hi, g⟩
      refine ⟨3, [(1, .k), (4, .k), (11, .k), (12, .k), (13, .k), (42, .k), (43, .k), (44, .k)], fun nM vs H => ∃ (j : Nat), j ≤ (l.getD k d0).2.2.2.1.length ∧ ofE l (l.getD k d0) ((l.getD k d0).2.2.2.1.drop j) = ofE l (l.getD k d0) (l.getD k d0).2.2.2.1 ∧ nM = (l.getD k d0).2.2.2.1.length - j ∧ vs = [.ptr 0 1 0 0, .ptr 2 1 0 0, .sl false (.cons (.int .i64) (.cons (.int .i64) (.cons (.int .i64) (.cons (.sl (.int .i64)) (.cons (.int .i64) (.cons (.int .i64) (.cons (.int .i64) (.cons (.int .i64) (.cons (.int .i64) (.cons (.int .i64) .nil)))))))))) l, .int .i64 (l.length : Int), .int .i64 (k : Int), .sl false (.int .i64) (l.getD k d0).2.2.2.1, .int .i64 (((l.getD k d0).2.2.2.1.length : Nat) : Int), .int .i64 (j : Int)] ∧ H = [.cells [.sl false (.cons (.int .i64) (.cons (.int .i64) (.cons (.int .i64) (.cons (.sl (.int .i64)) (.cons (.int .i64) (.cons (.int .i64) (.cons (.int .i64) (.cons (.int .i64) (.cons (.int .i64) (.cons (.int .i64) .nil)))))))))) l], .cells [.int .i64 (k : Int)], .cells [.int .i64 (l.getD k d0).1, .int .i64 (l.getD k d0).2.1, .int .i64 (l.getD k d0).2.2.1, .sl false (.int .i64) (l.getD k d0).2.2.2.1, .int .i64 (l.getD k d0).2.2.2.2.1, .int .i64 (l.getD k d0).2.2.2.2.2.1, .int .i64 (l.getD k d0).2.2.2.2.2.2.1, .int .i64 (l.getD k d0).2.2.2.2.2.2.2.1, .int .i64 (l.getD k d0).2.2.2.2.2.2.2.2.1, .int .i64 (l.getD k d0).2.2.2.2.2.2.2.2.2.1]], ⟨rfl, (l.getD k d0).2.2.2.1.length, 0, by omega, rfl, by omega, rfl, rfl⟩, ?_⟩
      rintro nM vs H ⟨j, hc3_0, hc3_1, rfl, rfl, rfl⟩
      refine ⟨fun h28 => ?_, fun h28 => ?_⟩
      ·replace h28 : (j : Int) < (((l.getD k d0).2.2.2.1.length : Nat) : Int) := h28
       have hj : j < (l.getD k d0).2.2.2.1.length := by omega
       obtain ⟨f1, f2⟩ := find_take (hno _ (getD_mem 0 _ j hj))
       have hfm2 : fmdA (l.getD (findL l ((l.getD k d0).2.2.2.1.getD j 0)).toNat d0) := one_fmd (upE_zero.1 hc1_1 _ (by omega))
       have hpe2 := fmd_pe hfm2
       rw [drop_one 0 _ j hj, ofE] at hc3_1
       refine ⟨⟨by show (0 : Int) ≤ (j : Int); omega, by show (j : Int) < ((l.getD k d0).2.2.2.1.length : Int); omega⟩, by kernel_rfl, rfl, by show l.length ≤ 1048576; first | omega | assumption, ⟨by show (0 : Int) ≤ findL l ((l.getD k d0).2.2.2.1.getD j 0); omega, by show findL l ((l.getD k d0).2.2.2.1.getD j 0) < (l.length : Int); omega⟩, ⟨rfl, rfl, rfl, Nat.le_of_ble_eq_true rfl⟩, rfl, rfl, rfl, rfl, rfl, rfl, rfl, rfl, rfl, rfl, rfl, rfl, rfl, rfl, rfl, rfl, rfl, rfl, ⟨by show 0 ≤ (l.getD k d0).2.2.2.2.2.2.2.2.2.1; first | omega | assumption, by show (l.getD k d0).2.2.2.2.2.2.2.2.2.1 ≤ 499; first | omega | assumption, by show 0 ≤ (l.getD ((findL l ((l.getD k d0).2.2.2.1.getD j 0)).toNat) d0).2.2.2.2.2.2.2.2.2.1; first | omega | assumption, by show (l.getD ((findL l ((l.getD k d0).2.2.2.1.getD j 0)).toNat) d0).2.2.2.2.2.2.2.2.2.1 ≤ 499; first | omega | assumption⟩, fun h29 => ?_, fun h29 => ?_⟩
       ·replace h29 : ¬ (mad (l.getD k d0).2.1 (l.getD k d0).2.2.1 (l.getD k d0).2.2.2.2.2.2.2.2.2.1 (l.getD ((findL l ((l.getD k d0).2.2.2.1.getD j 0)).toNat) d0).2.1 (l.getD ((findL l ((l.getD k d0).2.2.2.1.getD j 0)).toNat) d0).2.2.1 (l.getD ((findL l ((l.getD k d0).2.2.2.1.getD j 0)).toNat) d0).2.2.2.2.2.2.2.2.2.1) := h29
        rw [if_pos (show ¬ madA (l.getD k d0) (l.getD (findL l ((l.getD k d0).2.2.2.1.getD j 0)).toNat d0) from h29)] at hc3_1
        have e1 : oneE l k = 7 := by rw [e0, ← hc3_1]
        have e : chkL l = 7 := by unfold chkL; rw [if_neg (by omega), upE_bad hk hc1_1 (by rw [e1]; decide), e1]
        rw [e]
        exact ⟨rfl, rfl, rfl, rfl⟩
       ·replace h29 : ¬ (¬ (mad (l.getD k d0).2.1 (l.getD k d0).2.2.1 (l.getD k d0).2.2.2.2.2.2.2.2.2.1 (l.getD ((findL l ((l.getD k d0).2.2.2.1.getD j 0)).toNat) d0).2.1 (l.getD ((findL l ((l.getD k d0).2.2.2.1.getD j 0)).toNat) d0).2.2.1 (l.getD ((findL l ((l.getD k d0).2.2.2.1.getD j 0)).toNat) d0).2.2.2.2.2.2.2.2.2.1)) := h29
        rw [if_neg (show ¬ ¬ madA (l.getD k d0) (l.getD (findL l ((l.getD k d0).2.2.2.1.getD j 0)).toNat d0) from h29)] at hc3_1
        refine ⟨rfl, rfl, rfl, rfl, rfl, rfl, rfl, rfl, rfl, rfl, trivial, fun h30 => ?_, fun h30 => ?_⟩
        ·replace h30 : ¬ ((l.getD ((findL l ((l.getD k d0).2.2.2.1.getD j 0)).toNat) d0).2.2.2.2.2.2.1 ≤ (l.getD k d0).2.2.2.2.2.2.1 ∧ (l.getD k d0).2.2.2.2.2.2.1 < (l.getD ((findL l ((l.getD k d0).2.2.2.1.getD j 0)).toNat) d0).2.2.2.2.2.2.2.1) := h30
         rw [if_pos (show ¬ thr (l.getD (findL l ((l.getD k d0).2.2.2.1.getD j 0)).toNat d0) (l.getD k d0).2.2.2.2.2.2.1 from h30)] at hc3_1
         have e1 : oneE l k = 4 := by rw [e0, ← hc3_1]
         have e : chkL l = 4 := by unfold chkL; rw [if_neg (by omega), upE_bad hk hc1_1 (by rw [e1]; decide), e1]
         rw [e]
         exact ⟨rfl, rfl, rfl, rfl⟩
        ·replace h30 : ¬ (¬ ((l.getD ((findL l ((l.getD k d0).2.2.2.1.getD j 0)).toNat) d0).2.2.2.2.2.2.1 ≤ (l.getD k d0).2.2.2.2.2.2.1 ∧ (l.getD k d0).2.2.2.2.2.2.1 < (l.getD ((findL l ((l.getD k d0).2.2.2.1.getD j 0)).toNat) d0).2.2.2.2.2.2.2.1)) := h30
         rw [if_neg (show ¬ ¬ thr (l.getD (findL l ((l.getD k d0).2.2.2.1.getD j 0)).toNat d0) (l.getD k d0).2.2.2.2.2.2.1 from h30)] at hc3_1
         have hox := hc3_1
         refine ⟨⟨by show (-9223372036854775808 : Int) ≤ ((j : Int) + 1); omega, by show ((j : Int) + 1) ≤ (9223372036854775807 : Int); omega⟩, ?_⟩
         exact ⟨rfl, (l.getD k d0).2.2.2.1.length - (j + 1), by omega, j + 1, by omega, hox, rfl, rfl, rfl⟩
      ·replace h28 : ¬ ((j : Int) < (((l.getD k d0).2.2.2.1.length : Nat) : Int)) := h28
       have hnx : upE l (k + 1) = 0 := by rw [upE, if_pos hc1_1, e0, ← hc3_1, List.drop_eq_nil_of_le (by omega), ofE]
       refine ⟨⟨by show (-9223372036854775808 : Int) ≤ ((k : Int) + 1); omega, by show ((k : Int) + 1) ≤ (9223372036854775807 : Int); omega⟩, ?_⟩
       exact ⟨rfl, l.length - (k + 1), by omega, k + 1, by omega, hnx, rfl, rfl, rfl⟩
  ·replace h1 : ¬ ((k : Int) < (l.length : Int)) := h1
   have e : chkL l = 0 := by unfold chkL; rw [if_neg (by omega), show l.length = k by omega]; exact hc1_1
   rw [e]
   exact ⟨rfl, rfl, rfl, rfl⟩
def CChk : List (Nat × Con) := (56, pureC [.v (.sl (.cons (.int .i64) (.cons (.int .i64) (.cons (.int .i64) (.cons (.sl (.int .i64)) (.cons (.int .i64) (.cons (.int .i64) (.cons (.int .i64) (.cons (.int .i64) (.cons (.int .i64) (.cons (.int .i64) .nil)))))))))))] sChk) :: CCfI
theorem kChk : Known Try.prog (En CChk tys [] []) := kCfI.add Try.func56 Try.call56 [.k] fun ds p v bs h hp => by
  unfold sChk at h
  split at h <;> simp only [Option.some.injEq, Prod.mk.injEq, reduceCtorEq] at h
  obtain ⟨rfl, rfl, rfl⟩ := h
  exact bChk _ hp.1 hp.2
end Go.Proofs.Ytgljcfnplkcfhaa.S38

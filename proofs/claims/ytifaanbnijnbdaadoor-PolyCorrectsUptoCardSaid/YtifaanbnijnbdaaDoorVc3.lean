/- Texts of this claim: Vc.V, Vc.VB, Vc.VC, Vc.VD, Vc.ZB, Vc.ZC. -/
import Derived.Test.YtifaanbnijnbdaaDoorVc2
import Derived.Carry
import Derived.OpenShut
import Derived.ChangeArms
import Derived.Lib.LaidTab
set_option linter.unusedVariables false
set_option linter.unusedSimpArgs false
namespace Go.Proofs.YtifaanbnijnbdaaDoor.Vc
open Go Go.RowKit

/-- A transformer that comes out in one way. -/
def Point {α : Type} (f : (α → Prop) → Prop) : Prop := ∀ K, f K → ∃ v, K v ∧ ∀ K' : α → Prop, K' v → f K'

section
variable {α β : Type}
theorem Point.fls : Point (fun _ : α → Prop => False) := fun _ h => h.elim
theorem Point.ret (v : α) : Point (fun K : α → Prop => K v) := fun _ h => ⟨v, h, fun _ h => h⟩
theorem Point.and {c : Prop} {f : (α → Prop) → Prop} (hf : Point f) : Point (fun K => c ∧ f K) := fun K h =>
  let ⟨v, h1, h2⟩ := hf K h.2
  ⟨v, h1, fun K' h' => ⟨h.1, h2 K' h'⟩⟩
theorem Point.or {c d : Prop} {f g : (α → Prop) → Prop} (hf : Point f) (hg : Point g) : Point (fun K => (c ∧ f K) ∨ (d ∧ g K)) := fun K h => by
  rcases h with h | h
  · obtain ⟨v, h1, h2⟩ := hf K h.2
    exact ⟨v, h1, fun K' h' => .inl ⟨h.1, h2 K' h'⟩⟩
  · obtain ⟨v, h1, h2⟩ := hg K h.2
    exact ⟨v, h1, fun K' h' => .inr ⟨h.1, h2 K' h'⟩⟩
theorem Point.imps {c : Prop} {f g : (α → Prop) → Prop} (hf : Point f) (hg : Point g) : Point (fun K => (c → f K) ∧ (¬c → g K)) := fun K h => by
  by_cases hc : c
  · obtain ⟨v, h1, h2⟩ := hf K (h.1 hc)
    exact ⟨v, h1, fun K' h' => ⟨fun _ => h2 K' h', fun hn => absurd hc hn⟩⟩
  · obtain ⟨v, h1, h2⟩ := hg K (h.2 hc)
    exact ⟨v, h1, fun K' h' => ⟨fun h => absurd h hc, fun _ => h2 K' h'⟩⟩
theorem Point.bif {b : Bool} {f g : (α → Prop) → Prop} (hf : Point f) (hg : Point g) : Point (fun K => bif b then f K else g K) := by
  cases b
  · exact hg
  · exact hf
theorem Point.bind {f : (α → Prop) → Prop} {g : α → (β → Prop) → Prop} (hf : Point f) (hg : ∀ x, Point (g x)) : Point (fun K => f fun x => g x K) := fun K h => by
  obtain ⟨x, h1, h2⟩ := hf _ h
  obtain ⟨v, h3, h4⟩ := hg x K h1
  exact ⟨v, h3, fun K' h' => h2 _ (h4 K' h')⟩
theorem Point.forceV {v : V} {f : V → (α → Prop) → Prop} (hf : ∀ v, Point (f v)) : Point (fun K => Vc.forceV v fun v => f v K) := fun K h => by
  obtain ⟨u, h1, h2⟩ := hf v K ((forceV_eq v _).1 h)
  exact ⟨u, h1, fun K' h' => (forceV_eq v _).2 (h2 K' h')⟩
theorem Point.dite {c : Prop} [Decidable c] {f : c → (α → Prop) → Prop} (hf : ∀ h, Point (f h)) : Point (fun K => if h : c then f h K else False) := fun K h => by
  dsimp only at h
  by_cases hc : c
  · rw [dif_pos hc] at h
    obtain ⟨v, h1, h2⟩ := hf hc K h
    exact ⟨v, h1, fun K' h' => by dsimp only; rw [dif_pos hc]; exact h2 K' h'⟩
  · rw [dif_neg hc] at h
    exact h.elim
end
/-- The same, where what is asked goes on with something of the lower universe. -/
theorem Point.forceL {α : Type} {β : Type} {l : List β} {f : List β → (α → Prop) → Prop} (hf : ∀ l, Point (f l)) : Point (fun K => Vc.forceL l fun l => f l K) := fun K h => by
  obtain ⟨u, h1, h2⟩ := hf l K ((forceL_eq l _).1 h)
  exact ⟨u, h1, fun K' h' => (forceL_eq l _).2 (h2 K' h')⟩

theorem Point.abounds {n : Nat} {lo hi : Option V} {f : Nat → Nat → (V → Prop) → Prop} (hf : ∀ l h, Point (f l h)) : Point (fun K => abounds n lo hi fun l h => f l h K) := by
  unfold Vc.abounds
  cases lo with
  | none => cases hi with
    | none => exact hf _ _
    | some v => cases v <;> first | exact .fls | exact .and (hf _ _)
  | some u => cases u <;> first
    | (cases hi with
      | none => exact .fls
      | some v => cases v <;> exact .fls)
    | (cases hi with
      | none => exact .and (hf _ _)
      | some v => cases v <;> first | exact .fls | exact .and (hf _ _))

theorem Point.inRK {k : IntKind} {n : Int} {α : Type} {f : (α → Prop) → Prop} (hf : Point f) : Point (fun K => inRK k n (f K)) := by
  cases k <;> first | exact .fls | exact .and hf
theorem Point.shRK {k : IntKind} {n : Int} {α : Type} {f : (α → Prop) → Prop} (hf : Point f) : Point (fun K => shRK k n (f K)) := by
  cases k <;> first | exact .fls | exact .and hf

theorem Point.abinI (op : BinOp) (k : IntKind) (a b : Int) : Point (abinI op k a b) := by
  cases op <;> unfold Vc.abinI <;> dsimp only <;> first
    | exact .fls | exact .ret _ | exact .inRK (.ret _) | exact .and (.ret _) | exact .or (.ret _) (.ret _)
theorem Point.abinB (op : BinOp) (a b : UInt8) : Point (abinB op a b) := by
  cases op <;> unfold Vc.abinB <;> dsimp only <;> first | exact .fls | exact .ret _
theorem Point.abinS (op : BinOp) (a b : List UInt8) : Point (abinS op a b) := by
  cases op <;> unfold Vc.abinS <;> dsimp only <;> first | exact .fls | exact .ret _ | exact .and (.ret _)

/-- Values that are no slices. -/
def V.plain : V → Bool
  | .nils | .sl _ _ _ | .own _ _ | .fn _ _ => false
  | _ => true

theorem Point.abin {op : BinOp} {H : List Blk} {x y : V} (hx : x.plain = true) : Point (abin op H x y) := by
  cases x <;> first | (simp [V.plain] at hx; done) | skip
  all_goals cases y <;> unfold Vc.abin <;> dsimp only
  all_goals first | exact .fls | exact .abinB _ _ _ | exact .abinS _ _ _ | skip
  · cases op <;> dsimp only <;> first | exact .shRK (.inRK (.ret _)) | exact .shRK (.ret _) | exact .bif (.abinI _ _ _ _) .fls
  · cases op <;> dsimp only <;> first | exact .fls | exact .and (.ret _)
  · cases op <;> dsimp only <;> first | exact .fls | exact .ret _
theorem abin_H {op : BinOp} {H H2 : List Blk} {x y : V} (hx : x.plain = true) (K : V → Prop) : abin op H x y K = abin op H2 x y K := by
  cases x <;> first | (simp [V.plain] at hx; done) | skip
  all_goals cases y <;> rfl

theorem Point.abinT {E : Env} {T : TypeId} {op : BinOp} {H : List Blk} {x y : V} (hT : ∀ t, lk E.ty T ≠ some (.sl t)) : Point (abinT E T op H x y) := by
  have hs : ∀ g : (V → Prop) → Prop, Point (fun K => match lk E.ty T with | some (.sl _) => g K | _ => False) := by
    intro g
    generalize lk E.ty T = r at hT
    rcases r with _ | t
    · exact .fls
    · cases t <;> first | exact .fls | exact absurd rfl (hT _)
  have hb : ∀ {g : (V → Prop) → Prop}, Point g → Point (fun K => match lk E.ty T with | some .bool => g K | _ => False) := by
    intro g hg
    generalize lk E.ty T = r
    rcases r with _ | t
    · exact .fls
    · cases t <;> first | exact .fls | exact hg
  cases x <;> unfold Vc.abinT <;> dsimp only <;> first | exact .fls | exact .abin rfl | exact hs _ | exact hb (.abin rfl)
theorem abinT_H {E : Env} {T : TypeId} {op : BinOp} {H H2 : List Blk} {x y : V} (hT : ∀ t, lk E.ty T ≠ some (.sl t)) (K : V → Prop) : abinT E T op H x y K = abinT E T op H2 x y K := by
  have hs : ∀ g g' : Prop, (match lk E.ty T with | some (.sl _) => g | _ => False) = (match lk E.ty T with | some (.sl _) => g' | _ => False) := by
    intro g g'
    generalize lk E.ty T = r at hT
    rcases r with _ | t
    · rfl
    · cases t <;> first | rfl | exact absurd rfl (hT _)
  cases x <;> unfold Vc.abinT <;> dsimp only <;> first | rfl | exact abin_H rfl K | exact hs _ _ | (rw [abin_H (H2 := H2) rfl K])

theorem Point.alen {H : List Blk} {v : V} : Point (alen H v) := by
  cases v <;> unfold Vc.alen <;> dsimp only <;> first | exact .fls | exact .ret _ | (generalize getB H _ = b; cases b <;> first | exact .fls | exact .ret _)
theorem Point.alenT {E : Env} {H : List Blk} {T : TypeId} {v : V} : Point (alenT E H T v) := by
  unfold Vc.alenT
  generalize lk E.ty T = r
  rcases r with _ | t
  · exact .fls
  · cases t <;> first | exact .fls | skip
    · cases v <;> first | exact .fls | exact .ret _
    · cases v <;> first | exact .fls | exact .alen
theorem Point.asIdx {v : V} {α : Type} {f : Int → (α → Prop) → Prop} (hf : ∀ i, Point (f i)) : Point (fun K => asIdx v fun i => f i K) := by
  cases v <;> first | exact .fls | exact hf _

theorem Point.aindexAddr {E : Env} {H : List Blk} {T : TypeId} {v ix : V} : Point (aindexAddr E H T v ix) := by
  unfold Vc.aindexAddr
  generalize lk E.ty T = r
  rcases r with _ | t
  · exact .fls
  · cases t <;> dsimp only <;> first | exact .fls | skip
    · cases v <;> dsimp only <;> first
        | exact .fls
        | exact .bif (.asIdx fun _ => .and (.ret _)) .fls
        | (generalize getB H _ = b; cases b <;> dsimp only <;> first | exact .fls | exact .bif (.asIdx fun _ => .and (.ret _)) .fls)
    · cases v <;> dsimp only <;> first
        | exact .fls
        | (generalize getB H _ = b; cases b <;> dsimp only <;> first | exact .fls | exact .bif (.asIdx fun _ => .and (.ret _)) (.bif (.asIdx fun _ => .and (.ret _)) .fls))
        | (rename_i fr t x o; cases t <;> dsimp only <;> first | exact .fls | exact .bif (.asIdx fun _ => .and (.ret _)) .fls)

theorem Point.aload {E : Env} {H : List Blk} {T : TypeId} {p : V} : Point (aload E H T p) := by
  unfold Vc.aload
  generalize lk E.ty T = r
  rcases r with _ | t
  · exact .fls
  · cases t <;> dsimp only <;> first | exact .fls | skip
    all_goals cases p <;> dsimp only <;> first
        | exact .fls
        | exact .bif (.forceV fun _ => .ret _) .fls
        | exact .bif (.forceL fun _ => .ret _) .fls
        | (generalize getB H _ = b; cases b <;> dsimp only <;> first | exact .fls | exact .forceV fun _ => .ret _ | exact .bif (.forceV fun _ => .ret _) .fls | exact .bif (.forceL fun _ => .ret _) .fls)

theorem Point.afield {E : Env} {H : List Blk} {S : TypeId} {v : V} {f : Nat} : Point (afield E H S v f) := by
  unfold Vc.afield
  generalize lk E.ty S = r
  rcases r with _ | t
  · exact .fls
  · cases t <;> dsimp only <;> first | exact .fls | skip
    generalize getO _ f = q
    rcases q with _ | ⟨o, z⟩ <;> dsimp only
    · exact .fls
    · refine .bif ?_ .fls
      cases v <;> dsimp only <;> first
        | exact .fls | exact .ret _
        | (generalize getB H _ = b; cases b <;> dsimp only <;> first | exact .fls | exact .bif (.ret _) .fls)

theorem Point.aslice {E : Env} {H : List Blk} {T : TypeId} {v : V} {lo hi : Option V} : Point (aslice E H T v lo hi) := by
  unfold Vc.aslice
  generalize lk E.ty T = r
  rcases r with _ | t
  · exact .fls
  · cases t <;> dsimp only <;> first | exact .fls | skip
    all_goals cases v <;> dsimp only <;> first
        | exact .fls
        | exact .bif (.abounds fun _ _ => .ret _) .fls
        | exact .abounds fun _ _ => .ret _
        | (generalize getB H _ = b; cases b <;> dsimp only <;> first | exact .fls | exact .bif (.abounds fun _ _ => .ret _) .fls)

theorem Point.aconv {E : Env} {S T : TypeId} {v : V} : Point (aconv E S T v) := by
  unfold Vc.aconv
  generalize lk E.ty S = r
  generalize lk E.ty T = q
  rcases r with _ | t
  · exact .fls
  · dsimp only
    rcases q with _ | t
    · exact .fls
    · cases t <;> first | exact .fls | skip
      all_goals first
        | (cases v <;> dsimp only <;> first | exact .fls | exact .ret _)
        | (rename_i k; cases k <;> cases v <;> dsimp only <;> first | exact .fls | exact .ret _ | exact .inRK (.ret _))

theorem Point.evs {E : Env} {σ : List V} {α : Type} : ∀ {l : List Operand} {f : List V → (α → Prop) → Prop}, (∀ vs, Point (f vs)) → Point (fun K => evs E σ l fun vs => f vs K)
  | [], f, hf => hf []
  | x :: l, f, hf => .forceV fun v => Point.evs (l := l) (f := fun vs => f (v :: vs)) fun vs => hf _
theorem evs_agree {E : Env} {σ σ2 : List V} : ∀ {l : List Operand}, (∀ x ∈ l, ev E σ2 x = ev E σ x) → ∀ K, evs E σ2 l K = evs E σ l K
  | [], h, K => rfl
  | x :: l, h, K => by
    unfold evs
    rw [h x (by simp)]
    exact congrArg _ (funext fun v => evs_agree (fun x hx => h x (by simp [hx])) _)

theorem Point.castK {t t' : Ty} {xs : List t'.D} {α : Type} {f : List t.D → (α → Prop) → Prop} (hf : ∀ l, Point (f l)) : Point (fun K => castK xs fun l => f l K) := fun K h => by
  obtain ⟨e, h⟩ := castK_iff.1 h
  obtain ⟨v, h1, h2⟩ := hf _ K h
  exact ⟨v, h1, fun K' h' => castK_iff.2 ⟨e, h2 K' h'⟩⟩
theorem Point.asRow {H : List Blk} {t : Ty} {v : V} {α : Type} {f : Bool → List t.D → (α → Prop) → Prop} (hf : ∀ b l, Point (f b l)) : Point (fun K => asRow H t v fun b l => f b l K) := by
  cases v <;> unfold Vc.asRow <;> dsimp only <;> first
    | exact .fls | exact hf _ _ | exact .castK fun _ => hf _ _
    | (generalize getB H _ = b; cases b <;> dsimp only <;> first | exact .fls | exact .castK fun _ => hf _ _)
theorem Point.asRows {H : List Blk} {t : Ty} {α : Type} : ∀ {l : List V} {f : List (List t.D) → (α → Prop) → Prop}, (∀ vs, Point (f vs)) → Point (fun K => asRows H t l fun vs => f vs K)
  | [], f, hf => hf []
  | x :: l, f, hf => .asRow fun _ v => Point.asRows (l := l) (f := fun vs => f (v :: vs)) fun vs => hf _
theorem Point.asD {H : List Blk} {t : Ty} {v : V} {α : Type} {f : t.D → (α → Prop) → Prop} (hf : ∀ x, Point (f x)) : Point (fun K => asD H t v fun x => f x K) := by
  cases t with
  | sl t =>
    cases t with
    | sl t =>
      cases v <;> first
        | exact .asRow (f := fun _ xs K => f xs K) fun _ xs => hf xs
        | (unfold Vc.asD; exact .asRow (f := fun _ xs K => f xs K) fun _ xs => hf xs)
        | (unfold Vc.asD; (try dsimp only); generalize getB H _ = b; cases b <;> (try dsimp only) <;> first | exact .fls | exact .asRows fun xs => hf xs | exact .castK fun xs => hf xs)
    | _ => exact .asRow (f := fun _ xs K => f xs K) fun _ xs => hf xs
  | _ => cases v <;> first | exact .fls | exact hf _ | exact .and (hf _)
theorem Point.asDs {H : List Blk} {t : Ty} {α : Type} : ∀ {l : List V} {f : List t.D → (α → Prop) → Prop}, (∀ vs, Point (f vs)) → Point (fun K => asDs H t l fun vs => f vs K)
  | [], f, hf => hf []
  | x :: l, f, hf => .asD fun v => Point.asDs (l := l) (f := fun vs => f (v :: vs)) fun vs => hf _
theorem Point.setD {t : Ty} {v : V} {α : Type} {f : t.D → (α → Prop) → Prop} (hf : ∀ x, Point (f x)) : Point (fun K => setD t v fun x => f x K) := by
  cases t <;> cases v <;> first | exact .fls | exact hf _ | exact .and (hf _)

theorem Point.abuildF {t : Ty} : ∀ {l : List (Nat × V)} {cs : List V}, Point (abuildF t l cs)
  | [], cs => .ret _
  | (i, v) :: l, cs => by
    show Point fun K => match getO (offs t 0) i with
      | some (o, z) => bif v.isPart && Nat.beq (cellsOfV v).length z && Nat.ble (o + z) cs.length then Vc.forceL (setAt cs o (cellsOfV v)) fun cs => Vc.abuildF t l cs K else False
      | none => False
    generalize getO (offs t 0) i = q
    rcases q with _ | ⟨o, z⟩ <;> dsimp only
    · exact .fls
    · exact .bif (.forceL fun cs => Point.abuildF (l := l)) .fls
theorem Point.abuild {E : Env} {T : TypeId} {ps : List (Nat × V)} : Point (abuild E T ps) := by
  unfold Vc.abuild
  generalize lk E.ty T = r
  rcases r with _ | t
  · exact .fls
  · cases t <;> dsimp only <;> first | exact .fls | exact .forceL fun _ => .abuildF

theorem Point.aalloc {E : Env} {H : List Blk} {T : TypeId} : Point (fun K : V × List Blk → Prop => aalloc E H T fun v H => K (v, H)) := by
  unfold Vc.aalloc
  generalize lk E.ty T = r
  rcases r with _ | t
  · exact .fls
  · cases t <;> dsimp only <;> first
      | exact .bif (.forceL fun _ => .ret _) .fls
      | exact .bif (.forceL fun _ => .forceL fun _ => .ret _) .fls
theorem Point.abuildSlice {E : Env} {H : List Blk} {T : TypeId} {vs : List V} : Point (fun K : V × List Blk → Prop => abuildSlice E H T vs fun v H => K (v, H)) := by
  unfold Vc.abuildSlice
  generalize lk E.ty T = r
  rcases r with _ | t
  · exact .fls
  · cases t <;> dsimp only <;> first | exact .fls | skip
    rename_i t
    cases t <;> dsimp only <;> first
      | exact .asDs fun _ => .forceL fun _ => .ret _
      | exact .bif (.forceL fun _ => .ret _) .fls
theorem Point.astore {E : Env} {H : List Blk} {T : TypeId} {p v : V} : Point (fun K : List Blk → Prop => astore E H T p v K) := by
  unfold Vc.astore
  generalize lk E.ty T = r
  rcases r with _ | t
  · cases p <;> exact .fls
  · cases p <;> (try dsimp only) <;> first | exact .fls | skip
    generalize getB H _ = b
    cases b <;> dsimp only <;> first
      | exact .fls
      | exact .setD fun _ => .and (.forceL fun _ => .ret _)
      | (cases v <;> dsimp only <;> exact .and (.forceL fun _ => .forceL fun _ => .ret _))
theorem Point.aappend {E : Env} {σ : List V} {H : List Blk} {T : TypeId} {x y : V} : Point (fun K : V × List V × List Blk → Prop => aappend E σ H T x y fun v σ H => K (v, σ, H)) := by
  unfold Vc.aappend
  generalize lk E.ty T = r
  rcases r with _ | t
  · exact .fls
  · cases t <;> dsimp only <;> first | exact .fls | skip
    cases x <;> dsimp only <;> first
      | exact .fls
      | exact .asRow fun _ _ => .and (.forceL fun _ => .ret _)
      | (generalize getB H _ = b; cases b <;> dsimp only <;> first
          | exact .fls
          | exact .and (.castK fun _ => .asRow fun _ _ => .and (.forceL fun _ => .forceL fun _ => .ret _)))
end Go.Proofs.YtifaanbnijnbdaaDoor.Vc

namespace Go.Proofs.YtifaanbnijnbdaaDoor.Vc
open Go Go.RowKit

def Agree (E : Env) (o : Op) (σ σ2 : List V) : Prop := ∀ x ∈ o.operands.toList, evr E σ2 x = evr E σ x
theorem ev_of_evr {E : Env} {σ σ2 : List V} {x : Operand} (h : evr E σ2 x = evr E σ x) : ev E σ2 x = ev E σ x := by
  cases x with
  | tmp t => exact congrArg V.nb h
  | _ => rfl
theorem Agree.ev {E : Env} {o : Op} {σ σ2 : List V} (h : Agree E o σ σ2) : ∀ x ∈ o.operands.toList, Vc.ev E σ2 x = Vc.ev E σ x := fun x hx => ev_of_evr (h x hx)


/-- A contract comes out in one way, and only adds to the own blocks. -/
def Det (c : Con) : Prop := ∀ args H R, c args H R → ∃ v bs, R v (H ++ bs) ∧ ∀ R' : V → List Blk → Prop, R' v (H ++ bs) → c args H R'
def DetE (E : Env) : Prop := ∀ k c, lk E.con k = some c → Det c

theorem Det.point {c : Con} (h : Det c) (args : List V) (H : List Blk) : Point (fun K : V × List Blk → Prop => c args H fun v H => K (v, H)) := fun K hk => by
  obtain ⟨v, bs, h1, h2⟩ := h args H _ hk
  exact ⟨(v, H ++ bs), h1, fun K' h' => h2 _ h'⟩

theorem cls0 {E : Env} {o : Op} (h : clsOp E o = some 0) (σ : List V) : ∃ F : (V → Prop) → Prop, Point F ∧ ∀ σ2 H2 (K : V → List V → List Blk → Prop), Agree E o σ σ2 → aop E σ2 H2 o K = F fun v => K v σ2 H2 := by
  cases o <;> first | (simp [clsOp] at h; done) | skip
  case move x =>
    refine ⟨fun K => forceV (evr E σ x) K, .forceV fun _ => .ret _, fun σ2 H2 K ha => ?_⟩
    unfold aop
    try dsimp only
    rw [ha x (by simp [Op.operands])]
  case assign x =>
    refine ⟨fun K => forceV (evr E σ x) K, .forceV fun _ => .ret _, fun σ2 H2 K ha => ?_⟩
    unfold aop
    try dsimp only
    rw [ha x (by simp [Op.operands])]
  case pick c a b =>
    refine ⟨fun K => match evr E σ c with | .b p => (p → forceV (evr E σ a) K) ∧ (¬p → forceV (evr E σ b) K) | .bt true => forceV (evr E σ a) K | .bt false => forceV (evr E σ b) K | _ => False, ?_, fun σ2 H2 K ha => ?_⟩
    · generalize evr E σ c = vc
      cases vc <;> first | exact .fls | exact .imps (.forceV fun _ => .ret _) (.forceV fun _ => .ret _) | (rename_i x; cases x <;> exact .forceV fun _ => .ret _)
    · unfold aop
      try dsimp only
      rw [ha c (by simp [Op.operands]), ha a (by simp [Op.operands]), ha b (by simp [Op.operands])]
      rfl
  case build T ps =>
    refine ⟨fun K => evs E σ (ps.toList.map (·.2)) fun vs => abuild E T ((ps.toList.map (·.1)).zip vs) K, .evs fun _ => .abuild, fun σ2 H2 K ha => ?_⟩
    unfold aop
    try dsimp only
    rw [evs_agree fun x hx => ha.ev x (by simpa [Op.operands] using hx)]
  case unOp op T x =>
    cases op <;> first
      | (refine ⟨fun _ => False, .fls, fun σ2 H2 K ha => ?_⟩; unfold aop; rfl)
      | skip
    refine ⟨fun K => match evr E σ x with | .b p => K (.b (¬p)) | .bt true => K (.bt false) | .bt false => K (.bt true) | _ => False, ?_, fun σ2 H2 K ha => ?_⟩
    · generalize evr E σ x = vc
      cases vc <;> first | exact .fls | exact .ret _ | (rename_i x; cases x <;> exact .ret _)
    · unfold aop
      try dsimp only
      rw [ha x (by simp [Op.operands])]
      rfl
  case convert S T x =>
    refine ⟨fun K => aconv E S T (ev E σ x) K, .aconv, fun σ2 H2 K ha => ?_⟩
    unfold aop
    try dsimp only
    rw [ha.ev x (by simp [Op.operands])]
  case makeFunc f fst caps =>
    cases f <;> first
      | (refine ⟨fun _ => False, .fls, fun σ2 H2 K ha => ?_⟩; unfold aop; rfl)
      | skip
    rename_i f
    refine ⟨fun K => match fst.toList with | [] => evs E σ caps.toList fun vs => K (.fn f vs) | _ => False, ?_, fun σ2 H2 K ha => ?_⟩
    · generalize fst.toList = l
      cases l
      · exact .evs fun _ => .ret _
      · exact .fls
    · unfold aop
      try dsimp only
      have hev := evs_agree (E := E) (σ := σ) (σ2 := σ2) (l := caps.toList) (fun x hx => ha.ev x (by simp [Op.operands]; right; simpa using hx))
      generalize fst.toList = l
      cases l
      · exact hev _
      · rfl
  case index T x i =>
    refine ⟨fun K => match lk E.ty T, ev E σ x, ev E σ i with | some .str, .str s, .int _ j => (0 ≤ j ∧ j < s.length) ∧ K (.u8 (s.getD j.toNat 0)) | _, _, _ => False, ?_, fun σ2 H2 K ha => ?_⟩
    · generalize ev E σ x = vc
      generalize ev E σ i = vi
      generalize lk E.ty T = r
      rcases r with _ | t
      · exact .fls
      · cases t <;> first | exact .fls | skip
        cases vc <;> first | exact .fls | skip
        cases vi <;> first | exact .fls | exact .and (.ret _)
    · unfold aop
      try dsimp only
      rw [ha.ev x (by simp [Op.operands]), ha.ev i (by simp [Op.operands])]
      rfl
  case extract x i =>
    refine ⟨fun K => match ev E σ x with | .tup vs => bif Nat.blt i vs.length then forceV (gets vs i) K else False | _ => False, ?_, fun σ2 H2 K ha => ?_⟩
    · generalize ev E σ x = vc
      cases vc <;> first | exact .fls | exact .bif (.forceV fun _ => .ret _) .fls
    · unfold aop
      try dsimp only
      rw [ha.ev x (by simp [Op.operands])]
      rfl
  case binOp op T x y yT =>
    have hT : ∀ t, lk E.ty T ≠ some (.sl t) := fun t ht => by simp [clsOp, ht] at h
    refine ⟨fun K => abinT E T op [] (ev E σ x) (ev E σ y) K, .abinT hT, fun σ2 H2 K ha => ?_⟩
    unfold aop
    try dsimp only
    rw [ha.ev x (by simp [Op.operands]), ha.ev y (by simp [Op.operands])]
    exact abinT_H hT _
  case call c =>
    obtain ⟨callee, args, tys⟩ := c
    cases callee <;> first | (simp [clsOp] at h; done) | skip
    rename_i b
    have key : ∀ mx : Bool, ∃ F : (V → Prop) → Prop, Point F ∧ ∀ σ2 H2 (K : V → List V → List Blk → Prop), Agree E (.call { callee := .builtin b, args, argTypes := tys }) σ σ2 →
        (match args.toList with | [x, y] => amm mx (ev E σ2 x) (ev E σ2 y) fun v => K v σ2 H2 | _ => False) = F fun v => K v σ2 H2 := fun mx => by
      refine ⟨fun K => match args.toList with | [x, y] => amm mx (ev E σ x) (ev E σ y) K | _ => False, ?_, fun σ2 H2 K ha => ?_⟩
      · generalize args.toList = l
        rcases l with _ | ⟨x, _ | ⟨y, _ | ⟨z, l⟩⟩⟩ <;> try exact .fls
        dsimp only
        generalize ev E σ x = vx
        generalize ev E σ y = vy
        cases vx <;> first | exact .fls | skip
        cases vy <;> first | exact .fls | (cases mx <;> exact .bif (.ret _) .fls)
      · have hx : ∀ x ∈ args.toList, ev E σ2 x = ev E σ x := fun x hx => ha.ev x (by simpa [Op.operands, Call.operands] using hx)
        generalize args.toList = l at hx
        rcases l with _ | ⟨x, _ | ⟨y, _ | ⟨z, l⟩⟩⟩ <;> try rfl
        dsimp only
        rw [hx x (by simp), hx y (by simp)]
    cases b <;> first | (simp [clsOp] at h; done) | exact key true | exact key false

theorem cls1 {E : Env} {o : Op} (h : clsOp E o = some 1) (σ : List V) (H : List Blk) : ∃ F : (V → Prop) → Prop, Point F ∧ ∀ σ2 (K : V → List V → List Blk → Prop), Agree E o σ σ2 → aop E σ2 H o K = F fun v => K v σ2 H := by
  cases o <;> first | (simp [clsOp] at h; done) | skip
  case load T p =>
    refine ⟨fun K => aload E H T (ev E σ p) K, .aload, fun σ2 K ha => ?_⟩
    unfold aop
    try dsimp only
    rw [ha.ev p (by simp [Op.operands])]
  case indexAddr T x i =>
    refine ⟨fun K => aindexAddr E H T (ev E σ x) (ev E σ i) K, .aindexAddr, fun σ2 K ha => ?_⟩
    unfold aop
    try dsimp only
    rw [ha.ev x (by simp [Op.operands]), ha.ev i (by simp [Op.operands])]
  case fieldAddr T x f =>
    refine ⟨fun K => afield E H T (ev E σ x) f K, .afield, fun σ2 K ha => ?_⟩
    unfold aop
    try dsimp only
    rw [ha.ev x (by simp [Op.operands])]
  case slice T x lo hi mx =>
    cases mx with
    | some m => exact ⟨fun _ => False, .fls, fun σ2 K ha => by unfold aop; rfl⟩
    | none =>
      refine ⟨fun K => aslice E H T (ev E σ x) (lo.map (ev E σ)) (hi.map (ev E σ)) K, .aslice, fun σ2 K ha => ?_⟩
      unfold aop
      try dsimp only
      have h1 : lo.map (ev E σ2) = lo.map (ev E σ) := by
        cases lo with
        | none => rfl
        | some l => simp only [Option.map_some]; rw [ha.ev l (by simp [Op.operands])]
      have h2 : hi.map (ev E σ2) = hi.map (ev E σ) := by
        cases hi with
        | none => rfl
        | some l => simp only [Option.map_some]; rw [ha.ev l (by simp [Op.operands])]
      rw [ha.ev x (by simp [Op.operands]), h1, h2]
  case binOp op T x y yT =>
    exfalso
    simp only [clsOp] at h
    split at h <;> simp at h
  case call c =>
    obtain ⟨callee, args, tys⟩ := c
    cases callee <;> first | (simp [clsOp] at h; done) | skip
    rename_i b
    cases b <;> first | (simp [clsOp] at h; done) | skip
    refine ⟨fun K => match args.toList, tys.toList with | [x], [T] => alenT E H T (ev E σ x) K | _, _ => False, ?_, fun σ2 K ha => ?_⟩
    · generalize args.toList = l
      generalize tys.toList = l'
      rcases l with _ | ⟨x, _ | ⟨y, l⟩⟩ <;> try exact .fls
      rcases l' with _ | ⟨T, _ | ⟨T', l'⟩⟩ <;> first | exact .fls | exact .alenT
    · unfold aop
      try dsimp only
      have hx : ∀ x ∈ args.toList, ev E σ2 x = ev E σ x := fun x hx => ha.ev x (by simpa [Op.operands, Call.operands] using hx)
      generalize args.toList = l at hx
      generalize tys.toList = l'
      rcases l with _ | ⟨x, _ | ⟨y, l⟩⟩ <;> try rfl
      rcases l' with _ | ⟨T, _ | ⟨T', l'⟩⟩ <;> try rfl
      dsimp only
      rw [hx x (by simp)]

theorem cls2 {E : Env} (hd : DetE E) {o : Op} (h : clsOp E o = some 2) (σ : List V) (H : List Blk) : ∃ F : (V × List Blk → Prop) → Prop, Point F ∧ (∀ K, F K → ∃ v bs, K (v, H ++ bs) ∧ ∀ K' : V × List Blk → Prop, K' (v, H ++ bs) → F K') ∧ ∀ σ2 (K : V → List V → List Blk → Prop), Agree E o σ σ2 → aop E σ2 H o K = F fun p => K p.1 σ2 p.2 := by
  cases o <;> first | (simp [clsOp] at h; done) | skip
  case binOp op T x y yT =>
    exfalso
    simp only [clsOp] at h
    split at h <;> simp at h
  case call c =>
    obtain ⟨callee, args, tys⟩ := c
    cases callee <;> first | (simp [clsOp] at h; done) | skip
    case builtin b => cases b <;> simp [clsOp] at h
    rename_i f
    let F : (V × List Blk → Prop) → Prop := fun K => match ev E σ f with
      | .fn k caps => match lk E.con k with
        | some c => evs E σ args.toList fun vs => c (vs ++ caps) H fun v H => forceV v fun v => forceL H fun H => K (v, H)
        | none => False
      | _ => False
    have key : ∀ K, F K → ∃ v bs, K (v, H ++ bs) ∧ ∀ K' : V × List Blk → Prop, K' (v, H ++ bs) → F K' := by
      intro K hF
      simp only [F] at hF ⊢
      generalize ev E σ f = vf at hF
      cases vf <;> first | exact hF.elim | skip
      rename_i k caps
      dsimp only at hF ⊢
      generalize hk : lk E.con k = r at hF
      rcases r with _ | c
      · exact hF.elim
      · dsimp only at hF ⊢
        have hp : Point (fun K : List V → Prop => evs E σ args.toList K) := .evs (f := fun vs K => K vs) fun vs => .ret vs
        obtain ⟨vs, h1, h2⟩ := hp _ hF
        obtain ⟨v, bs, h3, h4⟩ := hd k c hk _ _ _ h1
        exact ⟨v, bs, (forceL_eq _ _).1 ((forceV_eq _ _).1 h3), fun K' h' => h2 _ (h4 _ ((forceV_eq _ _).2 ((forceL_eq _ _).2 h')))⟩
    refine ⟨F, fun K hF => ?_, key, fun σ2 K ha => ?_⟩
    · obtain ⟨v, bs, h1, h2⟩ := key K hF
      exact ⟨_, h1, h2⟩
    · unfold aop
      try dsimp only
      rw [ha.ev f (by simp [Op.operands, Call.operands])]
      simp only [F]
      have hev := evs_agree (E := E) (σ := σ) (σ2 := σ2) (l := args.toList) (fun x hx => ha.ev x (by simp [Op.operands, Call.operands]; right; simpa using hx))
      generalize ev E σ f = vf
      cases vf <;> first | rfl | skip
      rename_i k caps
      dsimp only
      generalize lk E.con k = r
      rcases r with _ | c
      · rfl
      · exact hev _

theorem cls3 {E : Env} {o : Op} (h : clsOp E o = some 3) (σ : List V) (H : List Blk) : ∃ F : (V × List Blk → Prop) → Prop, Point F ∧ ∀ σ2 (K : V → List V → List Blk → Prop), Agree E o σ σ2 → aop E σ2 H o K = F fun p => K p.1 σ2 p.2 := by
  cases o <;> first | (simp [clsOp] at h; done) | skip
  case alloc T =>
    exact ⟨fun K => aalloc E H T fun v H => K (v, H), .aalloc, fun σ2 K ha => by unfold aop; rfl⟩
  case buildSlice T n ps =>
    refine ⟨fun K => bif idxOk ps.toList 0 n && Nat.ble n 1000 then evs E σ (ps.toList.map (·.2)) fun vs => abuildSlice E H T vs fun v H => K (v, H) else False, .bif (.evs fun _ => .abuildSlice) .fls, fun σ2 K ha => ?_⟩
    unfold aop
    try dsimp only
    rw [evs_agree fun x hx => ha.ev x (by simpa [Op.operands] using hx)]
  case store T p x =>
    refine ⟨fun K => forceV (ev E σ x) fun v => astore E H T (ev E σ p) v fun H => K (.undef, H), .forceV fun v => ?_, fun σ2 K ha => ?_⟩
    · exact Point.bind (g := fun H K => K (V.undef, H)) .astore fun H => .ret _
    · unfold aop
      try dsimp only
      rw [ha.ev x (by simp [Op.operands]), ha.ev p (by simp [Op.operands])]
  case makeSlice T l c =>
    refine ⟨fun K => match lk E.ty T, ev E σ l, ev E σ c with
      | some (.sl t), .int _ n, .int _ m => (n = m ∧ 0 ≤ n ∧ n ≤ 1000000000) ∧ forceL (H ++ [.row true t (List.replicate n.toNat t.dflt)]) fun H' => K (.own t H.length, H')
      | _, _, _ => False, ?_, fun σ2 K ha => ?_⟩
    · generalize ev E σ l = vc
      generalize ev E σ c = vi
      generalize lk E.ty T = r
      rcases r with _ | t
      · exact .fls
      · cases t <;> first | exact .fls | skip
        cases vc <;> first | exact .fls | skip
        cases vi <;> first | exact .fls | exact .and (.forceL fun _ => .ret _)
    · unfold aop
      try dsimp only
      rw [ha.ev l (by simp [Op.operands]), ha.ev c (by simp [Op.operands])]
      rfl
  case binOp op T x y yT =>
    exfalso
    simp only [clsOp] at h
    split at h <;> simp at h
  case call c =>
    obtain ⟨callee, args, tys⟩ := c
    cases callee <;> first | (simp [clsOp] at h; done) | skip
    rename_i b
    cases b <;> simp [clsOp] at h

theorem cls4 {E : Env} {o : Op} (h : clsOp E o = some 4) (σ : List V) (H : List Blk) : Point (fun K : V × List V × List Blk → Prop => aop E σ H o fun v σ H => K (v, σ, H)) := by
  cases o <;> first | (simp [clsOp] at h; done) | skip
  case binOp op T x y yT =>
    exfalso
    simp only [clsOp] at h
    split at h <;> simp at h
  case call c =>
    obtain ⟨callee, args, tys⟩ := c
    cases callee <;> first | (simp [clsOp] at h; done) | skip
    rename_i b
    cases b <;> first | (simp [clsOp] at h; done) | skip
    unfold aop
    try dsimp only
    generalize args.toList = l
    generalize tys.toList = l'
    rcases l with _ | ⟨x, _ | ⟨y, _ | ⟨z, l⟩⟩⟩ <;> first | exact .fls | skip
    rcases l' with _ | ⟨T, _ | ⟨T', _ | ⟨T'', l'⟩⟩⟩ <;> first | exact .fls | exact .bif .aappend .fls
theorem cls_lt {E : Env} {o : Op} {k : Nat} (h : clsOp E o = some k) : k ≤ 4 := by
  unfold clsOp at h
  split at h <;> first | (split at h <;> simp at h <;> omega) | (simp at h <;> omega)
end Go.Proofs.YtifaanbnijnbdaaDoor.Vc

namespace Go.Proofs.YtifaanbnijnbdaaDoor.Vc
open Go Go.RowKit

def putV (σ : List V) (d : Option Nat) (v : V) : List V := match d with | none => σ | some d => sets σ d v
theorem setDst_eq (σ : List V) (d : Option Nat) (v : V) (K : List V → Prop) : setDst σ d v K ↔ K (putV σ d v) := by
  cases d with
  | none => exact Iff.rfl
  | some d => exact forceL_eq _ _

theorem op_pt {E : Env} (hd : DetE E) {o : Op} {c : Nat} (hc : clsOp E o = some c) {σ : List V} {H : List Blk} {K : V → List V → List Blk → Prop} (h : aop E σ H o K) :
    ∃ v σ1 H1, K v σ1 H1 ∧ (c ≠ 4 → σ1 = σ) ∧ (c ≤ 1 → H1 = H) ∧ (c = 2 → ∃ bs, H1 = H ++ bs) ∧
      ∀ σ2 H2 (K' : V → List V → List Blk → Prop), (c ≠ 4 → Agree E o σ σ2) → (c = 4 → σ2 = σ) → (c ≠ 0 → H2 = H) → K' v (if c = 4 then σ1 else σ2) (if c = 0 then H2 else H1) → aop E σ2 H2 o K' := by
  have hself : Agree E o σ σ := fun _ _ => rfl
  have hle := cls_lt hc
  rcases (by omega : c = 0 ∨ c = 1 ∨ c = 2 ∨ c = 3 ∨ c = 4) with h0 | h0 | h0 | h0 | h0 <;> subst h0
  · obtain ⟨F, hF, he⟩ := cls0 hc σ
    rw [he σ H K hself] at h
    obtain ⟨v, h1, h2⟩ := hF _ h
    exact ⟨v, σ, H, h1, fun _ => rfl, fun _ => rfl, by simp, fun σ2 H2 K' ha _ _ hk => by rw [he σ2 H2 K' (ha (by simp))]; exact h2 _ (by simpa using hk)⟩
  · obtain ⟨F, hF, he⟩ := cls1 hc σ H
    rw [he σ K hself] at h
    obtain ⟨v, h1, h2⟩ := hF _ h
    refine ⟨v, σ, H, h1, fun _ => rfl, fun _ => rfl, by simp, fun σ2 H2 K' ha _ hH hk => ?_⟩
    have := hH (by simp)
    subst this
    rw [he σ2 K' (ha (by simp))]
    exact h2 _ (by simpa using hk)
  · obtain ⟨F, _, hF, he⟩ := cls2 hd hc σ H
    rw [he σ K hself] at h
    obtain ⟨v, bs, h1, h2⟩ := hF _ h
    refine ⟨v, σ, H ++ bs, h1, fun _ => rfl, by simp, fun _ => ⟨bs, rfl⟩, fun σ2 H2 K' ha _ hH hk => ?_⟩
    have := hH (by simp)
    subst this
    rw [he σ2 K' (ha (by simp))]
    exact h2 _ (by simpa using hk)
  · obtain ⟨F, hF, he⟩ := cls3 hc σ H
    rw [he σ K hself] at h
    obtain ⟨⟨v, H1⟩, h1, h2⟩ := hF _ h
    refine ⟨v, σ, H1, h1, fun _ => rfl, by simp, by simp, fun σ2 H2 K' ha _ hH hk => ?_⟩
    have := hH (by simp)
    subst this
    rw [he σ2 K' (ha (by simp))]
    exact h2 _ (by simpa using hk)
  · obtain ⟨⟨v, σ1, H1⟩, h1, h2⟩ := cls4 hc σ H (fun p => K p.1 p.2.1 p.2.2) h
    refine ⟨v, σ1, H1, h1, by simp, by simp, by simp, fun σ2 H2 K' _ hσ hH hk => ?_⟩
    have := hH (by simp)
    subst this
    have := hσ rfl
    subst this
    exact h2 (fun p => K' p.1 p.2.1 p.2.2) (by simpa using hk)

theorem mem_tmpsOf {t : Nat} : ∀ {l : List Operand}, Operand.tmp t ∈ l → t ∈ tmpsOf l
  | x :: l, h => by
    rcases List.mem_cons.1 h with h | h
    · subst h; simp [tmpsOf]
    · have := mem_tmpsOf h
      cases x <;> simp [tmpsOf, this]
theorem Agree.of {E : Env} {all : List Oper} {o : Oper} {σ σ2 : List V} (h : ∀ t ∈ looks all o, gets σ2 t = gets σ t) : Agree E o.op σ σ2 := fun x hx => by
  cases x with
  | tmp t =>
    refine h t ?_
    have := mem_tmpsOf hx
    unfold looks
    split
    · split
      · exact List.mem_cons_of_mem _ this
      · exact this
    · exact this
  | const v => cases v <;> rfl
  | _ => rfl

theorem oper_pt {E : Env} (hd : DetE E) {all : List Oper} {o : Oper} {c : Nat} (hc : clsOp E o.op = some c) {σ : List V} {H : List Blk} {K : V → List V → List Blk → Prop} {N : Prop} (hN : N → K .nope σ H)
    (h : aguard all σ o.guard (aop E σ H o.op K) N) :
    ∃ v σ1 H1, K v σ1 H1 ∧ (c ≠ 4 → σ1 = σ) ∧ (c ≤ 1 → H1 = H) ∧ (c = 2 → ∃ bs, H1 = H ++ bs) ∧
      ∀ σ2 H2 (K' : V → List V → List Blk → Prop), (c ≠ 4 → ∀ t ∈ looks all o, gets σ2 t = gets σ t) → (c = 4 → σ2 = σ) → (c ≠ 0 → H2 = H) → K' v (if c = 4 then σ1 else σ2) (if c = 0 then H2 else H1) →
        aguard all σ2 o.guard (aop E σ2 H2 o.op K') (K' .nope σ2 H2) := by
  have yes : aop E σ H o.op K → ∃ v σ1 H1, K v σ1 H1 ∧ (c ≠ 4 → σ1 = σ) ∧ (c ≤ 1 → H1 = H) ∧ (c = 2 → ∃ bs, H1 = H ++ bs) ∧
      ∀ σ2 H2 (K' : V → List V → List Blk → Prop), (c ≠ 4 → ∀ t ∈ looks all o, gets σ2 t = gets σ t) → (c = 4 → σ2 = σ) → (c ≠ 0 → H2 = H) → K' v (if c = 4 then σ1 else σ2) (if c = 0 then H2 else H1) → aop E σ2 H2 o.op K' := fun h => by
    obtain ⟨v, σ1, H1, h1, h2, h3, h4, h5⟩ := op_pt hd hc h
    exact ⟨v, σ1, H1, h1, h2, h3, h4, fun σ2 H2 K' ha => h5 σ2 H2 K' fun hn => Agree.of (ha hn)⟩
  have no : N → ∃ v σ1 H1, K v σ1 H1 ∧ (c ≠ 4 → σ1 = σ) ∧ (c ≤ 1 → H1 = H) ∧ (c = 2 → ∃ bs, H1 = H ++ bs) ∧
      ∀ σ2 H2 (K' : V → List V → List Blk → Prop), (c ≠ 4 → ∀ t ∈ looks all o, gets σ2 t = gets σ t) → (c = 4 → σ2 = σ) → (c ≠ 0 → H2 = H) → K' v (if c = 4 then σ1 else σ2) (if c = 0 then H2 else H1) → K' .nope σ2 H2 := fun h => by
    refine ⟨.nope, σ, H, hN h, fun _ => rfl, fun _ => rfl, fun _ => ⟨[], by simp⟩, fun σ2 H2 K' _ h1 h2 hk => ?_⟩
    have e1 : (if c = 4 then σ else σ2) = σ2 := by split <;> simp_all
    have e2 : (if c = 0 then H2 else H) = H2 := by split <;> simp_all
    rwa [e1, e2] at hk
  unfold aguard at h ⊢
  cases hg : o.guard with
  | none => rw [hg] at h; exact yes h
  | some g =>
    obtain ⟨j, w⟩ := g
    rw [hg] at h
    dsimp only at h ⊢
    cases hj : (all[j]?).bind (·.dst) with
    | none => rw [hj] at h; exact h.elim
    | some t =>
      rw [hj] at h
      dsimp only at h ⊢
      have hlook : t ∈ looks all o := by unfold looks; rw [hg]; dsimp only; rw [hj]; exact List.mem_cons_self
      generalize ht : gets σ t = vt at h
      cases vt <;> first | exact h.elim | skip
      case nope =>
        have same : ∀ σ2, (c ≠ 4 → ∀ t ∈ looks all o, gets σ2 t = gets σ t) → (c = 4 → σ2 = σ) → gets σ2 t = .nope := fun σ2 h1 h2 => by
          by_cases h4 : c = 4
          · rw [h2 h4, ht]
          · rw [h1 h4 t hlook, ht]
        obtain ⟨v, σ1, H1, h1, h2, h3, h4, h5⟩ := no h
        exact ⟨v, σ1, H1, h1, h2, h3, h4, fun σ2 H2 K' a b c d => by rw [same σ2 a b]; exact h5 σ2 H2 K' a b c d⟩
      case bt x =>
        have same : ∀ σ2, (c ≠ 4 → ∀ t ∈ looks all o, gets σ2 t = gets σ t) → (c = 4 → σ2 = σ) → gets σ2 t = .bt x := fun σ2 h1 h2 => by
          by_cases h4 : c = 4
          · rw [h2 h4, ht]
          · rw [h1 h4 t hlook, ht]
        cases x <;> cases w <;> dsimp only at h
        · obtain ⟨v, σ1, H1, h1, h2, h3, h4, h5⟩ := yes h
          exact ⟨v, σ1, H1, h1, h2, h3, h4, fun σ2 H2 K' a b c d => by rw [same σ2 a b]; exact h5 σ2 H2 K' a b c d⟩
        · obtain ⟨v, σ1, H1, h1, h2, h3, h4, h5⟩ := no h
          exact ⟨v, σ1, H1, h1, h2, h3, h4, fun σ2 H2 K' a b c d => by rw [same σ2 a b]; exact h5 σ2 H2 K' a b c d⟩
        · obtain ⟨v, σ1, H1, h1, h2, h3, h4, h5⟩ := no h
          exact ⟨v, σ1, H1, h1, h2, h3, h4, fun σ2 H2 K' a b c d => by rw [same σ2 a b]; exact h5 σ2 H2 K' a b c d⟩
        · obtain ⟨v, σ1, H1, h1, h2, h3, h4, h5⟩ := yes h
          exact ⟨v, σ1, H1, h1, h2, h3, h4, fun σ2 H2 K' a b c d => by rw [same σ2 a b]; exact h5 σ2 H2 K' a b c d⟩
      rename_i p
      have same : ∀ σ2, (c ≠ 4 → ∀ t ∈ looks all o, gets σ2 t = gets σ t) → (c = 4 → σ2 = σ) → gets σ2 t = .b p := fun σ2 h1 h2 => by
        by_cases h4 : c = 4
        · rw [h2 h4, ht]
        · rw [h1 h4 t hlook, ht]
      by_cases hp : p <;> cases w <;> dsimp only at h
      · obtain ⟨v, σ1, H1, h1, h2, h3, h4, h5⟩ := no (h.2 hp)
        exact ⟨v, σ1, H1, h1, h2, h3, h4, fun σ2 H2 K' a b c d => by rw [same σ2 a b]; exact ⟨fun hn => absurd hp hn, fun _ => h5 σ2 H2 K' a b c d⟩⟩
      · obtain ⟨v, σ1, H1, h1, h2, h3, h4, h5⟩ := yes (h.1 hp)
        exact ⟨v, σ1, H1, h1, h2, h3, h4, fun σ2 H2 K' a b c d => by rw [same σ2 a b]; exact ⟨fun _ => h5 σ2 H2 K' a b c d, fun hn => absurd hp hn⟩⟩
      · obtain ⟨v, σ1, H1, h1, h2, h3, h4, h5⟩ := yes (h.1 hp)
        exact ⟨v, σ1, H1, h1, h2, h3, h4, fun σ2 H2 K' a b c d => by rw [same σ2 a b]; exact ⟨fun _ => h5 σ2 H2 K' a b c d, fun hn => absurd hn hp⟩⟩
      · obtain ⟨v, σ1, H1, h1, h2, h3, h4, h5⟩ := no (h.2 hp)
        exact ⟨v, σ1, H1, h1, h2, h3, h4, fun σ2 H2 K' a b c d => by rw [same σ2 a b]; exact ⟨fun hn => absurd hn hp, fun _ => h5 σ2 H2 K' a b c d⟩⟩

/-- One step of the lexical walk, and that it can be done elsewhere. -/
def LStep (E : Env) (all : List Oper) (k : Nat) (σ : List V) (H : List Blk) (σ' : List V) (H' : List Blk) : Prop := ∀ o, all[k]? = some o → ∃ c v σ1, clsOp E o.op = some c ∧ σ' = putV σ1 o.dst v ∧ (c ≠ 4 → σ1 = σ) ∧ (c ≤ 1 → H' = H) ∧ (need E all k = true → c = 2 → H' = H) ∧
  ∀ σ2 H2 (K' : List V → List Blk → Prop), (c ≠ 4 → ∀ t ∈ looks all o, gets σ2 t = gets σ t) → (c = 4 → σ2 = σ) → (c ≠ 0 → H2 = H) → K' (putV (if c = 4 then σ1 else σ2) o.dst v) (if c = 0 then H2 else H') → aopAt E all o σ2 H2 K'

theorem trace {E : Env} (hd : DetE E) {all : List Oper} : ∀ (l : List Oper) (k : Nat) (σ : List V) (H : List Blk) (K : List V → List Blk → Prop), (∀ j, l[j]? = all[k + j]?) → (∀ o ∈ l, clsOp E o.op ≠ none) → aopsD E all k l σ H K →
    ∃ (S : Nat → List V) (Hs : Nat → List Blk), S k = σ ∧ Hs k = H ∧ K (S (k + l.length)) (Hs (k + l.length)) ∧ ∀ j, k ≤ j → j < k + l.length → LStep E all j (S j) (Hs j) (S (j + 1)) (Hs (j + 1))
  | [], k, σ, H, K, _, _, h => ⟨fun _ => σ, fun _ => H, rfl, rfl, h, fun j h1 h2 => by simp at h2; omega⟩
  | o :: l, k, σ, H, K, hl, hcl, h => by
    have h0 : all[k]? = some o := by simpa using (hl 0).symm
    cases hc : clsOp E o.op with
    | none => exact absurd hc (hcl o (by simp))
    | some c =>
    have hstep : ∃ v σ1 H1, aopsD E all (k + 1) l (putV σ1 o.dst v) H1 K ∧ LStep E all k σ H (putV σ1 o.dst v) H1 := by
      unfold aopsD at h
      rw [hc] at h
      by_cases h2 : c = 2
      · subst h2
        obtain ⟨v, σ1, H1, h1, h2, h3, h4, h5⟩ := oper_pt hd hc (fun hn => by simpa using hn) h
        obtain ⟨bs, hbs⟩ := h4 rfl
        have hb := bif_ok h1
        obtain ⟨hb, hk⟩ := hb
        refine ⟨v, σ1, H1, (setDst_eq _ _ _ _).1 hk, fun o' ho' => ?_⟩
        have : o' = o := Option.some.inj (ho'.symm.trans h0)
        subst this
        refine ⟨2, v, σ1, hc, rfl, h2, h3, fun hn _ => ?_, fun σ2 H2 K' a b c' d => ?_⟩
        · rw [hn] at hb
          simp only [Bool.not_true, Bool.false_or] at hb
          have := beq_ok hb
          rw [hbs, List.length_append] at this
          have : bs = [] := List.eq_nil_of_length_eq_zero (by omega)
          rw [hbs, this, List.append_nil]
        · unfold aopAt
          refine h5 σ2 H2 (fun v σ H => setDst σ o'.dst v fun σ => K' σ H) a b c' ?_
          exact (setDst_eq _ _ _ _).2 d
      · have h' : aguard all σ o.guard (aop E σ H o.op fun v σ H' => setDst σ o.dst v fun σ => aopsD E all (k + 1) l σ H' K) (setDst σ o.dst .nope fun σ => aopsD E all (k + 1) l σ H K) := by
          have hle := cls_lt hc
          rcases (by omega : c = 0 ∨ c = 1 ∨ c = 3 ∨ c = 4) with h0 | h0 | h0 | h0 <;> subst h0 <;> exact h
        obtain ⟨v, σ1, H1, h1, h2', h3, h4, h5⟩ := oper_pt hd hc (fun hn => hn) h'
        refine ⟨v, σ1, H1, (setDst_eq _ _ _ _).1 h1, fun o' ho' => ?_⟩
        have : o' = o := Option.some.inj (ho'.symm.trans h0)
        subst this
        refine ⟨c, v, σ1, hc, rfl, h2', h3, fun _ hx => absurd hx h2, fun σ2 H2 K' a b c' d => ?_⟩
        unfold aopAt
        refine h5 σ2 H2 (fun v σ H => setDst σ o'.dst v fun σ => K' σ H) a b c' ?_
        exact (setDst_eq _ _ _ _).2 d
    obtain ⟨v, σ1, H1, hr, hs⟩ := hstep
    obtain ⟨S, Hs, e1, e2, e3, e4⟩ := trace hd l (k + 1) _ _ K (fun j => by have := hl (j + 1); simpa [Nat.add_assoc, Nat.add_comm 1 j] using this) (fun o ho => hcl o (by simp [ho])) hr
    refine ⟨fun j => if j ≤ k then σ else S j, fun j => if j ≤ k then H else Hs j, by simp, by simp, ?_, fun j h1 h2 => ?_⟩
    · have : ¬ (k + (o :: l).length ≤ k) := by simp
      dsimp only
      rw [if_neg this, if_neg this]
      have e : k + (o :: l).length = k + 1 + l.length := by simp; omega
      rw [e]
      exact e3
    · by_cases hj : j = k
      · subst hj
        simp only [Nat.le_refl, if_true]
        rw [if_neg (by omega), if_neg (by omega), e1, e2]
        exact hs
      · dsimp only
        rw [if_neg (by omega), if_neg (by omega), if_neg (by omega), if_neg (by omega)]
        exact e4 j (by omega) (by simp at h2; omega)

/-! ### The check -/
/-- Closed under what an operation waits for. -/
def Clo (all : List Oper) (L : Nat → Prop) : Prop := ∀ j o, all[j]? = some o → L j → ∀ e ∈ o.after, Region.binds .any e = true → L e.on
def Bef (all : List Oper) (i j : Nat) : Prop := ∀ L, Clo all L → L j → L i

theorem edgeM_ok {all : List Oper} {acc : List Nat} (ha : ∀ j i, Nat.testBit (getN acc j) i = true → Bef all i j) {k : Nat} {o : Oper} (ho : all[k]? = some o) : ∀ (l : List Edge), (∀ e ∈ l, e ∈ o.after) → ∀ i, Nat.testBit (edgeM acc l) i = true → Bef all i k
  | [], _, i, h => by simp [edgeM] at h
  | e :: l, hl, i, h => by
    unfold edgeM at h
    cases hb : Region.binds .any e with
    | false => rw [hb] at h; exact edgeM_ok ha ho l (fun e he => hl e (by simp [he])) i h
    | true =>
      rw [hb] at h
      simp only [cond_true] at h
      have h' : Nat.testBit ((2 ^ e.on ||| getN acc e.on) ||| edgeM acc l) i = true := h
      rw [Nat.testBit_or, Nat.testBit_or, Bool.or_eq_true, Bool.or_eq_true] at h'
      have hon : Bef all e.on k := fun L hL hk => hL k o ho hk e (hl e (by simp)) hb
      rcases h' with (h' | h') | h'
      · have : e.on = i := by
          by_cases hh : e.on = i
          · exact hh
          · rw [Nat.testBit_two_pow_of_ne hh] at h'; cases h'
        subst this
        exact hon
      · exact fun L hL hk => ha _ _ h' L hL (hon L hL hk)
      · exact edgeM_ok ha ho l (fun e he => hl e (by simp [he])) i h'

theorem getN_append (l : List Nat) (x : Nat) : ∀ j, getN (l ++ [x]) j = if j = l.length then x else getN l j := by
  induction l with
  | nil => intro j; cases j <;> simp [getN]
  | cons y l ih => intro j; cases j with
    | zero => simp [getN]
    | succ j => simp [getN, ih]

theorem masksGo_ok {all : List Oper} : ∀ (l : List Oper) (acc : List Nat), (∀ j, l[j]? = all[acc.length + j]?) → (∀ j i, Nat.testBit (getN acc j) i = true → Bef all i j) → ∀ j i, Nat.testBit (getN (masksGo l acc) j) i = true → Bef all i j
  | [], acc, _, ha => ha
  | o :: l, acc, hl, ha => by
    have h0 : all[acc.length]? = some o := by simpa using (hl 0).symm
    refine masksGo_ok l _ (fun j => by have := hl (j + 1); simpa [Nat.add_assoc, Nat.add_comm 1 j] using this) fun j i h => ?_
    rw [getN_append] at h
    by_cases hj : j = acc.length
    · subst hj
      rw [if_pos rfl] at h
      exact edgeM_ok ha h0 _ (fun e he => by simpa using he) i h
    · rw [if_neg hj] at h
      exact ha j i h
theorem bef_ok {all : List Oper} {i j : Nat} (h : bef (masksGo all []) i j = true) : Bef all i j :=
  masksGo_ok all [] (by simp) (fun j i h => by cases j <;> simp [getN] at h) j i h

theorem inL_ok {l : List Nat} {n : Nat} : inL l n = false → n ∉ l := by
  induction l with
  | nil => simp
  | cons x l ih =>
    intro h
    simp only [inL, Bool.or_eq_false_iff] at h
    have h2 := ih h.2
    intro hm
    rcases List.mem_cons.1 hm with e | e
    · subst e
      rw [Nat.beq_refl] at h
      simp at h
    · exact h2 e

structure Pair (E : Env) (all : List Oper) (i : Nat) (x : Oper) (j : Nat) (y : Oper) : Prop where
  bx : clsOp E x.op ≠ some 4
  by' : clsOp E y.op ≠ some 4
  q : clsOp E x.op = some 0 ∨ clsOp E y.op = some 0 ∨ (quietB E all i x = true ∧ quietB E all j y = true)
  a1 : ∀ d, x.dst = some d → d ∉ looks all y
  a2 : ∀ d, x.dst = some d → y.dst ≠ some d
  a3 : ∀ d, y.dst = some d → d ∉ looks all x

theorem pairOk_ok {E : Env} {all : List Oper} {i j : Nat} {x y : Oper} (h : pairOk E all (masksGo all []) i x j y = true) : Bef all i j ∨ Pair E all i x j y := by
  unfold pairOk at h
  rw [Bool.or_eq_true] at h
  rcases h with h | h
  · exact .inl (bef_ok h)
  · simp only [Bool.and_eq_true, Bool.or_eq_true, Bool.not_eq_true'] at h
    obtain ⟨⟨⟨h1, h2⟩, h3⟩, h4⟩ := h
    have hT : ∀ {o : Oper}, isT E o = true → clsOp E o.op = some 0 := fun {o} h => by
      unfold isT at h
      split at h
      · assumption
      · cases h
    have hB : ∀ {o : Oper}, isBar E o = false → clsOp E o.op ≠ some 4 := fun {o} h h' => by simp [isBar, h'] at h
    unfold apartB at h4
    rw [Bool.and_eq_true] at h4
    obtain ⟨h4, h5⟩ := h4
    refine .inr ⟨hB h1, hB h2, ?_, fun d hx => ?_, fun d hx hy => ?_, fun d hy => ?_⟩
    · rcases h3 with (h3 | h3) | h3
      · exact .inl (hT h3)
      · exact .inr (.inl (hT h3))
      · exact .inr (.inr h3)
    · rw [hx] at h4
      simp only [Bool.and_eq_true, Bool.not_eq_true'] at h4
      exact inL_ok h4.1
    · rw [hx, hy] at h4
      simp only [Bool.and_eq_true, Bool.not_eq_true'] at h4
      rw [Nat.beq_refl] at h4
      simp at h4
    · rw [hy] at h5
      simp only [Bool.not_eq_true'] at h5
      exact inL_ok h5

theorem pairsI_ok {E : Env} {all : List Oper} {ms : List Nat} {j : Nat} {y : Oper} : ∀ (l : List Oper) (i0 : Nat), (∀ k, l[k]? = all[i0 + k]?) → pairsI E all ms j y i0 l = true → ∀ i x, i0 ≤ i → i < j → all[i]? = some x → pairOk E all ms i x j y = true
  | [], i0, hl, _, i, x, h1, h2, hx => by
    have := hl (i - i0)
    rw [show i0 + (i - i0) = i by omega, hx] at this
    simp at this
  | z :: l, i0, hl, h, i, x, h1, h2, hx => by
    unfold pairsI at h
    cases hb : Nat.beq i0 j with
    | true => have := beq_ok hb; omega
    | false =>
      rw [hb] at h
      simp only [cond_false, Bool.and_eq_true] at h
      by_cases hi : i = i0
      · subst hi
        have : all[i]? = some z := by simpa using (hl 0).symm
        have : x = z := Option.some.inj (hx.symm.trans this)
        subst this
        exact h.1
      · exact pairsI_ok l (i0 + 1) (fun k => by have := hl (k + 1); simpa [Nat.add_assoc, Nat.add_comm 1 k] using this) h.2 i x (by omega) h2 hx

theorem edgesOk_ok {j : Nat} : ∀ {l : List Edge}, edgesOk j l = true → ∀ e ∈ l, e.on < j
  | e :: l, h, e', he => by
    simp only [edgesOk, Bool.and_eq_true] at h
    rcases List.mem_cons.1 he with h' | h'
    · subst h'; simpa [Nat.blt_eq] using h.1
    · exact edgesOk_ok h.2 e' h'

theorem pairsJ_ok {E : Env} {all : List Oper} {ms : List Nat} : ∀ (l : List Oper) (j0 : Nat), (∀ k, l[k]? = all[j0 + k]?) → pairsJ E all ms j0 l = true → ∀ j y, j0 ≤ j → all[j]? = some y →
    clsOp E y.op ≠ none ∧ (∀ e ∈ y.after, e.on < j) ∧ ∀ i x, i < j → all[i]? = some x → pairOk E all ms i x j y = true
  | [], j0, hl, _, j, y, h1, hy => by
    have := hl (j - j0)
    rw [show j0 + (j - j0) = j by omega, hy] at this
    simp at this
  | z :: l, j0, hl, h, j, y, h1, hy => by
    unfold pairsJ at h
    simp only [Bool.and_eq_true] at h
    obtain ⟨⟨⟨ha, hb⟩, hc⟩, hd⟩ := h
    by_cases hj : j = j0
    · subst hj
      have : all[j]? = some z := by simpa using (hl 0).symm
      have : y = z := Option.some.inj (hy.symm.trans this)
      subst this
      exact ⟨fun hn => by rw [hn] at ha; simp at ha, fun e he => edgesOk_ok hb e (by simpa using he), fun i x hi hx => pairsI_ok all 0 (by simp) hc i x (by omega) hi hx⟩
    · exact pairsJ_ok l (j0 + 1) (fun k => by have := hl (k + 1); simpa [Nat.add_assoc, Nat.add_comm 1 k] using this) hd j y (by omega) hy
end Go.Proofs.YtifaanbnijnbdaaDoor.Vc

namespace Go.Proofs.YtifaanbnijnbdaaDoor.Vc
open Go Go.RowKit

/-- What is known of a part of the state, of which only some operations turn anything. -/
def Trk {α : Type} (n : Nat) (L W : Nat → Prop) (A : Nat → α) (cur : α) : Prop := ∀ k, k ≤ n → (∀ i, i < k → W i → L i) → (∀ i, k ≤ i → W i → ¬ L i) → cur = A k

/-- All that turn it are ordered as to this one. -/
def Cmp (all : List Oper) (W : Nat → Prop) (j : Nat) : Prop := ∀ i, W i → (i < j → Bef all i j) ∧ (j < i → Bef all j i)

section
variable {α : Type} {all : List Oper} {n : Nat} {L L' W : Nat → Prop} {A : Nat → α} {cur cur' : α} {j : Nat}

theorem Trk.read (h : Trk n L W A cur) (hc : Cmp all W j) (hj : j ≤ n) (hcl : Clo all L) (hcl' : Clo all fun i => L i ∨ i = j) (hn : ¬ L j) : cur = A j := by
  refine h j hj (fun i hi hw => ?_) fun i hi hw hL => ?_
  · rcases (hc i hw).1 hi _ hcl' (.inr rfl) with h' | h'
    · exact h'
    · omega
  · rcases Nat.lt_or_ge j i with h' | h'
    · exact hn ((hc i hw).2 h' L hcl hL)
    · have : i = j := by omega
      subst this
      exact hn hL

theorem Trk.step (h : Trk n L W A cur) (hj : j < n) (hcl : Clo all L) (hn : ¬ L j) (hA : ∀ k, k < n → ¬ W k → A (k + 1) = A k) (h1 : ¬ W j → cur' = cur) (h2 : W j → cur' = A (j + 1)) (hc : W j → Cmp all W j) : Trk n (fun i => L i ∨ i = j) W A cur' := by
  intro k hk ha hb
  by_cases hw : W j
  · have hjk : j < k := by
      rcases Nat.lt_or_ge j k with h' | h'
      · exact h'
      · exact absurd (.inr rfl) (hb j h' hw)
    have hno : ∀ i, j < i → i < k → ¬ W i := fun i h3 h4 hwi => by
      rcases ha i h4 hwi with h' | h'
      · exact hn ((hc hw i hwi).2 h3 L hcl h')
      · omega
    rw [h2 hw]
    have : ∀ d, j + 1 + d ≤ k → A (j + 1 + d) = A (j + 1) := by
      intro d
      induction d with
      | zero => intro _; rfl
      | succ d ih =>
        intro hd
        rw [← ih (by omega)]
        exact hA (j + 1 + d) (by omega) (hno _ (by omega) (by omega))
    have := this (k - (j + 1)) (by omega)
    rw [show j + 1 + (k - (j + 1)) = k by omega] at this
    exact this.symm
  · rw [h1 hw]
    refine h k hk (fun i hi hwi => ?_) fun i hi hwi hL => hb i hi hwi (.inl hL)
    rcases ha i hi hwi with h' | h'
    · exact h'
    · subst h'; exact absurd hwi hw
end

theorem gets_ext : ∀ {l l' : List V}, l.length = l'.length → (∀ t, gets l t = gets l' t) → l = l'
  | [], [], _, _ => rfl
  | x :: l, y :: l', h, hg => by
    have h0 : x = y := hg 0
    subst h0
    rw [gets_ext (l := l) (l' := l') (by simpa using h) fun t => hg (t + 1)]
  | [], _ :: _, h, _ => by simp at h
  | _ :: _, [], h, _ => by simp at h
theorem putV_length (σ : List V) (d : Option Nat) (v : V) : (putV σ d v).length = σ.length := by
  cases d with
  | none => rfl
  | some d => simp [putV, sets_eq]
theorem gets_sets_ne (v : V) : ∀ (σ : List V) {d t : Nat}, d ≠ t → gets (sets σ d v) t = gets σ t
  | [], d, t, _ => by cases d <;> rfl
  | x :: l, 0, 0, h => absurd rfl h
  | x :: l, 0, t + 1, _ => rfl
  | x :: l, d + 1, 0, _ => rfl
  | x :: l, d + 1, t + 1, h => gets_sets_ne v l (by omega)
theorem gets_sets_len (v : V) : ∀ (σ σ' : List V) (d : Nat), σ.length = σ'.length → gets (sets σ d v) d = gets (sets σ' d v) d
  | [], [], d, _ => rfl
  | x :: l, y :: l', 0, _ => rfl
  | x :: l, y :: l', d + 1, h => gets_sets_len v l l' d (by simpa using h)
  | [], _ :: _, _, h => by simp at h
  | _ :: _, [], _, h => by simp at h

def Writes (E : Env) (all : List Oper) (t i : Nat) : Prop := ∃ o, all[i]? = some o ∧ (o.dst = some t ∨ clsOp E o.op = some 4)
def Turns (E : Env) (all : List Oper) (i : Nat) : Prop := ∃ o, all[i]? = some o ∧ (clsOp E o.op = some 3 ∨ clsOp E o.op = some 4 ∨ (clsOp E o.op = some 2 ∧ ¬ need E all i = true))
def Bars (E : Env) (all : List Oper) (i : Nat) : Prop := ∃ o, all[i]? = some o ∧ clsOp E o.op = some 4

theorem countP_lt {p q : Nat → Bool} : ∀ (l : List Nat) {j : Nat}, (∀ i, q i = true → p i = true) → j ∈ l → p j = true → q j = false → l.countP q < l.countP p
  | x :: l, j, h, hj, hp, hq => by
    have hle : l.countP q ≤ l.countP p := List.countP_mono_left fun i _ => h i
    rw [List.countP_cons, List.countP_cons]
    by_cases hx : j = x
    · subst hx
      rw [hp, hq]
      simp
      omega
    · have hm : j ∈ l := by rcases List.mem_cons.1 hj with h' | h'; exact absurd h' hx; exact h'
      have := countP_lt l h hm hp hq
      have hc := h x
      cases hqx : q x <;> cases hpx : p x <;> simp [hqx, hpx] at hc ⊢ <;> omega

section
variable {E : Env} {P : Program} {base : Nat} {w0 : World}

theorem Sta.drew {σ : List V} {H : List Blk} {a : Act} {w : World} (h : Sta E base w0 σ H a w) : Sta E base w0 σ H a { w with drawn := w.drawn + 1 } := by
  obtain ⟨c, hst, hσ, hd⟩ := h
  have e : Ext c H w c H { w with drawn := w.drawn + 1 } := ⟨fun _ h => h, fun _ h => h, fun _ _ => rfl, fun _ _ h => ⟨h, rfl⟩, fun _ _ _ cur _ _ _ h => ⟨cur, h, rfl⟩⟩
  refine ⟨c, ⟨hst.below.drew, hst.size, fun id => (hst.blk id).keep e (fun _ => rfl) fun _ _ => rfl, hst.inj, hst.own, hst.imm, hst.sub, fun g x hx => (hst.glob g x hx).ext e⟩, hσ.ext e, hd⟩

theorem draw_ok (hG : GlobOk E.glob) (hE : EnvOk P E) (hdet : DetE E) (hm : P.follows .mixedOrders = true) : DrawOk E P := by
  intro ops id base w0 σ H K a w Q hok hs hops hQ
  obtain ⟨all, hall⟩ : ∃ all, all = ops.toList := ⟨_, rfl⟩
  rw [← hall] at hok hops
  obtain ⟨n, hn⟩ : ∃ n, n = all.length := ⟨_, rfl⟩
  have hstat := pairsJ_ok all 0 (fun k => by rw [Nat.zero_add]) hok
  obtain ⟨S, Hs, hS0, hH0, hKn, hstep⟩ := trace hdet all 0 σ H K (fun k => by rw [Nat.zero_add]) (fun o ho => by
    obtain ⟨i, hi⟩ := List.mem_iff_getElem?.1 ho
    exact (hstat i o (by omega) hi).1) hops
  rw [Nat.zero_add, ← hn] at hKn
  rw [Nat.zero_add, ← hn] at hstep
  have hget : ∀ i : Nat, ops[i]? = all[i]? := fun i => by rw [hall, Array.getElem?_toList]
  have hlt : ∀ {i : Nat} {o : Oper}, all[i]? = some o → i < n := fun h => by rw [hn]; exact (List.getElem?_eq_some_iff.1 h).1
  have hat : ∀ {k : Nat}, k < n → ∃ o, all[k]? = some o := fun {k} h => ⟨_, List.getElem?_eq_getElem (by omega)⟩
  -- what the pairs say
  have hpair : ∀ {i j : Nat} {x y : Oper}, i < j → all[i]? = some x → all[j]? = some y → Bef all i j ∨ Pair E all i x j y := fun {i j x y} hij hx hy =>
    pairOk_ok ((hstat j y (by omega) hy).2.2 i x hij hx)
  have hbar : ∀ {j : Nat} {o : Oper} (W : Nat → Prop), (∀ i, W i → ∃ x, all[i]? = some x) → all[j]? = some o → clsOp E o.op = some 4 → Cmp all W j := fun {j o} W hW ho hc i hi => by
    obtain ⟨x, hx⟩ := hW i hi
    refine ⟨fun hij => ?_, fun hij => ?_⟩
    · rcases hpair hij hx ho with h | h
      · exact h
      · exact absurd hc h.by'
    · rcases hpair hij ho hx with h | h
      · exact h
      · exact absurd hc h.bx
  have hbars : ∀ j o, all[j]? = some o → Cmp all (Bars E all) j := fun j o ho i ⟨x, hx, hc⟩ => by
    refine ⟨fun hij => ?_, fun hij => ?_⟩
    · rcases hpair hij hx ho with h | h
      · exact h
      · exact absurd hc h.bx
    · rcases hpair hij ho hx with h | h
      · exact h
      · exact absurd hc h.by'
  have hlook : ∀ {j : Nat} {o : Oper} {t : Nat}, all[j]? = some o → clsOp E o.op ≠ some 4 → t ∈ looks all o → Cmp all (Writes E all t) j := fun {j o t} ho _ ht i ⟨x, hx, hw⟩ => by
    refine ⟨fun hij => ?_, fun hij => ?_⟩
    · rcases hpair hij hx ho with h | h
      · exact h
      · rcases hw with hw | hw
        · exact absurd ht (h.a1 t hw)
        · exact absurd hw h.bx
    · rcases hpair hij ho hx with h | h
      · exact h
      · rcases hw with hw | hw
        · exact absurd ht (h.a3 t hw)
        · exact absurd hw h.by'
  have hwr : ∀ {j t : Nat}, Writes E all t j → Cmp all (Writes E all t) j := fun {j t} hj => by
    obtain ⟨o, ho, hw⟩ := hj
    rcases hw with hw | hw
    · intro i ⟨x, hx, hwi⟩
      refine ⟨fun hij => ?_, fun hij => ?_⟩
      · rcases hpair hij hx ho with h | h
        · exact h
        · rcases hwi with hwi | hwi
          · exact absurd hw (h.a2 t hwi)
          · exact absurd hwi h.bx
      · rcases hpair hij ho hx with h | h
        · exact h
        · rcases hwi with hwi | hwi
          · exact absurd hwi (h.a2 t hw)
          · exact absurd hwi h.by'
    · exact hbar _ (fun i ⟨x, hx, _⟩ => ⟨x, hx⟩) ho hw
  have hq : ∀ {i : Nat} {x : Oper}, quietB E all i x = true → all[i]? = some x → ¬ Turns E all i := fun {i x} h hx ⟨x', hx', ht⟩ => by
    have : x' = x := Option.some.inj (hx'.symm.trans hx)
    subst this
    rcases ht with ht | ht | ⟨ht, hn⟩
    · simp [quietB, ht] at h
    · simp [quietB, ht] at h
    · simp only [quietB, ht] at h
      exact hn h
  have hturn : ∀ {j : Nat} {o : Oper}, all[j]? = some o → clsOp E o.op ≠ some 0 → Cmp all (Turns E all) j := fun {j o} ho h0 i hi => by
    obtain ⟨x, hx, ht⟩ := hi
    have hi : Turns E all i := ⟨x, hx, ht⟩
    have hx0 : clsOp E x.op ≠ some 0 := fun h => by rcases ht with ht | ht | ⟨ht, _⟩ <;> rw [ht] at h <;> simp at h
    refine ⟨fun hij => ?_, fun hij => ?_⟩
    · rcases hpair hij hx ho with h | h
      · exact h
      · rcases h.q with h' | h' | h'
        · exact absurd h' hx0
        · exact absurd h' h0
        · exact absurd hi (hq h'.1 hx)
    · rcases hpair hij ho hx with h | h
      · exact h
      · rcases h.q with h' | h' | h'
        · exact absurd h' h0
        · exact absurd h' hx0
        · exact absurd hi (hq h'.2 hx)
  -- where nothing is turned, nothing turns
  have hAσ : ∀ t k, k < n → ¬ Writes E all t k → gets (S (k + 1)) t = gets (S k) t := fun t k hk hw => by
    obtain ⟨o, ho⟩ := hat hk
    obtain ⟨c, v, σ1, hc, he, h1, _⟩ := hstep k (by omega) hk _ ho
    have h4 : c ≠ 4 := fun h => hw ⟨_, ho, .inr (by rw [hc, h])⟩
    rw [he, h1 h4]
    cases hd : o.dst with
    | none => rfl
    | some d => exact gets_sets_ne v _ fun e => hw ⟨_, ho, .inl (by rw [hd, e])⟩
  have hAH : ∀ k, k < n → ¬ Turns E all k → Hs (k + 1) = Hs k := fun k hk hw => by
    obtain ⟨o, ho⟩ := hat hk
    obtain ⟨c, v, σ1, hc, he, h1, h2, h3, _⟩ := hstep k (by omega) hk _ ho
    have hle := cls_lt hc
    rcases (by omega : c ≤ 1 ∨ c = 2 ∨ c = 3 ∨ c = 4) with h | h | h | h
    · exact h2 h
    · refine h3 ?_ h
      by_cases hn : need E all k = true
      · exact hn
      · exact absurd ⟨_, ho, .inr (.inr ⟨by rw [hc, h], hn⟩)⟩ hw
    · exact absurd ⟨_, ho, .inl (by rw [hc, h])⟩ hw
    · exact absurd ⟨_, ho, .inr (.inl (by rw [hc, h]))⟩ hw
  have hAl : ∀ k, k < n → ¬ Bars E all k → (S (k + 1)).length = (S k).length := fun k hk hw => by
    obtain ⟨o, ho⟩ := hat hk
    obtain ⟨c, v, σ1, hc, he, h1, _⟩ := hstep k (by omega) hk _ ho
    rw [he, putV_length, h1 fun h => hw ⟨_, ho, by rw [hc, h]⟩]
  -- the walk, in whatever order
  have main : ∀ (fuel : Nat) (listed : Array Bool) (σ : List V) (H : List Blk) (a : Act) (w : World), listed.size = n → Clo all (fun i => listed.getD i false = true) →
      (List.range n).countP (fun i => !listed.getD i true) ≤ fuel →
      (∀ t, Trk n (fun i => listed.getD i false = true) (Writes E all t) (fun k => gets (S k) t) (gets σ t)) →
      Trk n (fun i => listed.getD i false = true) (Turns E all) Hs H →
      Trk n (fun i => listed.getD i false = true) (Bars E all) (fun k => (S k).length) σ.length →
      Sta E base w0 σ H a w → wpAny P .any ops Q fuel listed a w := by
    have hend : ∀ (listed : Array Bool) (σ : List V) (H : List Blk) (a : Act) (w : World), listed.size = n →
      (∀ t, Trk n (fun i => listed.getD i false = true) (Writes E all t) (fun k => gets (S k) t) (gets σ t)) →
      Trk n (fun i => listed.getD i false = true) (Turns E all) Hs H →
      Trk n (fun i => listed.getD i false = true) (Bars E all) (fun k => (S k).length) σ.length →
      Sta E base w0 σ H a w → Region.ready .any ops listed = [] → Q .normal a w := by
      intro listed σ H a w hsz hσ hH hl hs hr
      have hfull : ∀ j, j < n → listed.getD j false = true := by
        intro j
        induction j using Nat.strongRecOn with
        | _ j ih =>
          intro hj
          by_cases h : listed.getD j false = true
          · exact h
          · exfalso
            obtain ⟨o, ho⟩ := hat hj
            have hjs : j < listed.size := by omega
            have : j ∈ Region.ready .any ops listed := by
              rw [mem_ready]
              refine ⟨by simpa [hjs] using h, o, by rw [hget]; exact ho, fun e he _ => ?_⟩
              have := (hstat j _ (by omega) ho).2.1 e he
              exact ih e.on this (by omega)
            rw [hr] at this
            cases this
      have hge : ∀ {W : Nat → Prop}, (∀ i, W i → ∃ x, all[i]? = some x) → ∀ i, n ≤ i → W i → ¬ listed.getD i false = true := fun hW i hi hw => by
        obtain ⟨x, hx⟩ := hW i hw
        have := hlt hx
        omega
      have e1 : ∀ t, gets σ t = gets (S n) t := fun t => hσ t n (Nat.le_refl _) (fun i hi _ => hfull i hi) (hge fun i ⟨x, hx, _⟩ => ⟨x, hx⟩)
      have e2 : H = Hs n := hH n (Nat.le_refl _) (fun i hi _ => hfull i hi) (hge fun i ⟨x, hx, _⟩ => ⟨x, hx⟩)
      have e3 : σ.length = (S n).length := hl n (Nat.le_refl _) (fun i hi _ => hfull i hi) (hge fun i ⟨x, hx, _⟩ => ⟨x, hx⟩)
      have e4 : σ = S n := gets_ext e3 e1
      subst e2
      rw [e4] at hs
      exact hQ _ _ _ _ hKn hs
    intro fuel
    induction fuel with
    | zero =>
      intro listed σ H a w hsz hclo hcnt hσ hH hl hs
      have hr : Region.ready .any ops listed = [] := by
        refine List.eq_nil_iff_forall_not_mem.2 fun j hj => ?_
        obtain ⟨h0, o, ho, _⟩ := mem_ready.1 hj
        rw [hget] at ho
        have h1 : (List.range n).countP (fun i => !listed.getD i true) = 0 := by omega
        rw [List.countP_eq_zero] at h1
        have := h1 j (List.mem_range.2 (hlt ho))
        rw [h0] at this
        simp at this
      exact ⟨hr, hend listed σ H a w hsz hσ hH hl hs hr⟩
    | succ fuel ih =>
      intro listed σ H a w hsz hclo hcnt hσ hH hl hs
      refine ⟨hend listed σ H a w hsz hσ hH hl hs, fun j hj => ?_⟩
      obtain ⟨h0, o, ho, hwait⟩ := mem_ready.1 hj
      have ho' := ho
      rw [hget] at ho
      have hjn := hlt ho
      have hjs : j < listed.size := by omega
      have hnot : ¬ listed.getD j false = true := by simp [hjs] at h0 ⊢; exact h0
      have hset : ∀ i, (listed.setIfInBounds j true).getD i false = true ↔ (listed.getD i false = true ∨ i = j) := fun i => by
        by_cases hij : j = i
        · subst hij; simp [hjs]
        · rw [getD_set_ne false hij]
          constructor
          · exact .inl
          · rintro (h | h)
            · exact h
            · exact absurd h.symm hij
      have hclo' : Clo all fun i => listed.getD i false = true ∨ i = j := by
        intro k ok hk hL e he hb
        rcases hL with hL | hL
        · exact .inl (hclo k ok hk hL e he hb)
        · subst hL
          have : ok = o := Option.some.inj (hk.symm.trans ho)
          subst this
          exact .inl (hwait e he hb)
      have hfun : (fun i => (listed.setIfInBounds j true).getD i false = true) = fun i => listed.getD i false = true ∨ i = j := funext fun i => propext (hset i)
      obtain ⟨c, v, σ1, hc, heS, hσ1, hcH, hcN, hrun⟩ := hstep j (by omega) hjn o ho
      have hlenj : σ.length = (S j).length := hl.read (hbars j o ho) (by omega) hclo hclo' hnot
      have hσj : c ≠ 4 → ∀ t ∈ looks all o, gets σ t = gets (S j) t := fun h4 t ht =>
        (hσ t).read (hlook ho (fun h => h4 (by rw [hc] at h; simpa using h)) ht) (by omega) hclo hclo' hnot
      have hσ4 : c = 4 → σ = S j := fun h4 => gets_ext hlenj fun t => (hσ t).read (hbar _ (fun i ⟨x, hx, _⟩ => ⟨x, hx⟩) ho (by rw [hc, h4])) (by omega) hclo hclo' hnot
      have hHj : c ≠ 0 → H = Hs j := fun h0 => hH.read (hturn ho (fun h => h0 (by rw [hc] at h; simpa using h))) (by omega) hclo hclo' hnot
      have hat' := hrun σ H (fun σ' H' => σ' = putV (if c = 4 then σ1 else σ) o.dst v ∧ H' = if c = 0 then H else Hs (j + 1)) hσj hσ4 hHj ⟨rfl, rfl⟩
      have hnext : ∀ σ' H' a' w', (σ' = putV (if c = 4 then σ1 else σ) o.dst v ∧ H' = if c = 0 then H else Hs (j + 1)) → Sta E base w0 σ' H' a' w' → wpAny P .any ops Q fuel (listed.setIfInBounds j true) a' w' := by
        rintro σ' H' a' w' ⟨eσ, eH⟩ hs'
        have hlen' : c ≠ 4 → σ'.length = σ.length := fun h4 => by rw [eσ, putV_length, if_neg h4]
        refine ih (listed.setIfInBounds j true) σ' H' a' w' (by simp [hsz]) (by rw [hfun]; exact hclo') ?_ ?_ ?_ ?_ hs'
        · have := countP_lt (p := fun i => !listed.getD i true) (q := fun i => !(listed.setIfInBounds j true).getD i true) (List.range n) (j := j) (fun i hi => by
            by_cases hij : j = i
            · subst hij; simp [hjs] at hi
            · rw [getD_set_ne true hij] at hi; exact hi) (List.mem_range.2 hjn) (by simp [h0]) (by simp [hjs])
          omega
        · intro t
          rw [hfun]
          refine (hσ t).step hjn hclo hnot (hAσ t) (fun hw => ?_) (fun hw => ?_) fun hw => hwr hw
          · have h4 : c ≠ 4 := fun h => hw ⟨o, ho, .inr (by rw [hc, h])⟩
            rw [eσ, if_neg h4]
            cases hd : o.dst with
            | none => rfl
            | some d => exact gets_sets_ne v _ fun e => hw ⟨o, ho, .inl (by rw [hd, e])⟩
          · rw [eσ, heS]
            by_cases h4 : c = 4
            · rw [if_pos h4]
            · rw [if_neg h4, hσ1 h4]
              obtain ⟨o2, ho2, hw2⟩ := hw
              have : o2 = o := Option.some.inj (ho2.symm.trans ho)
              subst this
              rcases hw2 with hw2 | hw2
              · rw [hw2]
                exact gets_sets_len v _ _ _ hlenj
              · exact absurd (by rw [hc] at hw2; simpa using hw2) h4
        · rw [hfun]
          refine hH.step hjn hclo hnot hAH (fun hw => ?_) (fun hw => ?_) fun hw => hturn ho fun h => ?_
          · by_cases hc0 : c = 0
            · rw [eH, if_pos hc0]
            · rw [eH, if_neg hc0, hAH j hjn hw, hHj hc0]
          · have hc0 : c ≠ 0 := fun h => by
              obtain ⟨o2, ho2, ht⟩ := hw
              have : o2 = o := Option.some.inj (ho2.symm.trans ho)
              subst this
              rw [hc, h] at ht
              simp at ht
            rw [eH, if_neg hc0]
          · obtain ⟨o2, ho2, ht⟩ := hw
            have : o2 = o := Option.some.inj (ho2.symm.trans ho)
            subst this
            rw [h] at ht
            simp at ht
        · rw [hfun]
          refine hl.step hjn hclo hnot hAl (fun hw => ?_) (fun hw => ?_) fun _ => hbars j o ho
          · exact hlen' fun h => hw ⟨o, ho, by rw [hc, h]⟩
          · obtain ⟨o2, ho2, ht⟩ := hw
            have : o2 = o := Option.some.inj (ho2.symm.trans ho)
            subst this
            have h4 : c = 4 := by rw [hc] at ht; simpa using ht
            rw [eσ, heS, if_pos h4]
      have := aopAt_ok (all := ops) (Q := Q) hG hE hs (hall ▸ hat') hnext
      unfold wpOp
      rw [ho']
      exact this
  refine wp_region_any hm ?_
  have hsz : ops.size = n := by simp [hn, hall]
  have hno : ∀ i, ¬ (Array.replicate ops.size false).getD i false = true := fun i => by
    rcases Nat.lt_or_ge i ops.size with h | h
    · simp [h]
    · simp [h]
  refine main ops.size _ σ H a _ (by simp [hsz]) (fun j o _ hL => absurd hL (hno j)) ?_ (fun t k hk h1 _ => ?_) (fun k hk h1 _ => ?_) (fun k hk h1 _ => ?_) hs.drew
  · refine Nat.le_trans (List.countP_le_length) (by simp [hsz])
  · have : ∀ m, m ≤ k → gets (S m) t = gets (S 0) t := by
      intro m
      induction m with
      | zero => intro _; rfl
      | succ m ih => intro hm; rw [hAσ t m (by omega) fun hw => hno m (h1 m (by omega) hw), ih (by omega)]
    show gets σ t = gets (S k) t
    rw [this k (Nat.le_refl _), hS0]
  · have : ∀ m, m ≤ k → Hs m = Hs 0 := by
      intro m
      induction m with
      | zero => intro _; rfl
      | succ m ih => intro hm; rw [hAH m (by omega) fun hw => hno m (h1 m (by omega) hw), ih (by omega)]
    rw [this k (Nat.le_refl _), hH0]
  · have : ∀ m, m ≤ k → (S m).length = (S 0).length := by
      intro m
      induction m with
      | zero => intro _; rfl
      | succ m ih => intro hm; rw [hAl m (by omega) fun hw => hno m (h1 m (by omega) hw), ih (by omega)]
    show σ.length = (S k).length
    rw [this k (Nat.le_refl _), hS0]
end
end Go.Proofs.YtifaanbnijnbdaaDoor.Vc

namespace Go.Proofs.YtifaanbnijnbdaaDoor.Vc
open Go Go.RowKit

theorem Point.asCells {H : List Blk} {α : Type} : ∀ {t : Ty} {l : List V} {f : t.D → List V → (α → Prop) → Prop}, (∀ x l, Point (f x l)) → Point (fun K => asCells H t l fun x l => f x l K)
  | .nil, l, f, hf => hf _ _
  | .cons t ts, l, f, hf => Point.asCells (t := t) (l := l) (f := fun x l K => Vc.asCells H ts l fun y l => f (x, y) l K) fun x l => Point.asCells (t := ts) fun y l => hf (x, y) l
  | .arr _ _, l, f, hf => .fls
  | .u8, [], f, hf => .fls
  | .u8, v :: l, f, hf => .asD (f := fun x K => f x l K) fun x => hf x l
  | .int _, [], f, hf => .fls
  | .int _, v :: l, f, hf => .asD (f := fun x K => f x l K) fun x => hf x l
  | .bool, [], f, hf => .fls
  | .bool, v :: l, f, hf => .asD (f := fun x K => f x l K) fun x => hf x l
  | .str, [], f, hf => .fls
  | .str, v :: l, f, hf => .asD (f := fun x K => f x l K) fun x => hf x l
  | .sl _, [], f, hf => .fls
  | .sl _, v :: l, f, hf => .asD (f := fun x K => f x l K) fun x => hf x l

theorem Point.asArg {H : List Blk} {k : PK} {v : V} {α : Type} {f : V → (α → Prop) → Prop} (hf : ∀ x, Point (f x)) : Point (fun K => asArg H k v fun d => f d K) := by
  cases k with
  | v t =>
    cases t with
    | cons t ts =>
      cases v <;> first | exact .fls | skip
      unfold Vc.asArg
      dsimp only
      refine .asCells (f := fun x l K => match l with | [] => f (dV (.cons t ts) x) K | _ => False) fun x l => ?_
      cases l
      · exact hf _
      · exact .fls
    | bool => cases v <;> first | exact .fls | exact hf _
    | _ => unfold Vc.asArg; exact .asD (f := fun x K => f (dV _ x) K) fun x => hf (dV _ x)
  | ref t =>
    cases v <;> first | exact .fls | skip
    · unfold Vc.asArg
      dsimp only
      rename_i fr t' x o
      refine .dite fun h => ?_
      cases o
      · exact hf _
      · exact .fls
    · unfold Vc.asArg
      dsimp only
      rename_i id z i o
      generalize getB H id = b
      cases b <;> first | exact .fls | skip
      cases i <;> first | exact .fls | skip
      cases o <;> first | exact .fls | skip
      refine .asCells (f := fun x l K => match l with | [] => f (.rp false t x 0) K | _ => False) fun x l => ?_
      cases l
      · exact hf _
      · exact .fls

theorem Point.asArgs {H : List Blk} {α : Type} : ∀ {ks : List PK} {vs : List V} {f : List V → (α → Prop) → Prop}, (∀ x, Point (f x)) → Point (fun K => asArgs H ks vs fun ds => f ds K)
  | [], [], f, hf => hf _
  | [], _ :: _, f, hf => .fls
  | _ :: _, [], f, hf => .fls
  | k :: ks, v :: vs, f, hf => .asArg (f := fun d K => Vc.asArgs H ks vs fun ds => f (d :: ds) K) fun d => Point.asArgs (f := fun ds K => f (d :: ds) K) fun ds => hf _

theorem Det.pure (ks : List PK) (spec : List V → Option (Prop × V × List Blk)) : Det (pureC ks spec) := fun args H R h => by
  have hp : Point (fun K : List V → Prop => asArgs H ks args K) := .asArgs (f := fun ds K => K ds) fun ds => .ret ds
  obtain ⟨ds, h1, h2⟩ := hp _ h
  generalize hs : spec ds = r at h1
  rcases r with _ | ⟨p, v, bs⟩
  · exact h1.elim
  · exact ⟨_, _, h1.2, fun R' h' => h2 _ (by rw [hs]; exact ⟨h1.1, h'⟩)⟩

/-- A program, with the contracts that are known of it. -/
structure Known (P : Program) (E : Env) : Prop where
  glob : GlobOk E.glob
  noref : noRef E.glob
  env : EnvOk P E
  det : DetE E
  mixed : P.follows .mixedOrders = true

theorem Known.start {P : Program} {tys : List (Nat × Ty)} {G : List (Nat × V)} (hG : GlobOk G) (hN : noRef G) (hm : P.follows .mixedOrders = true) (h : ∀ T t, lk tys T = some t → TyOk P T t) : Known P ⟨[], tys, G⟩ :=
  ⟨hG, hN, .nil h, fun k c hc => by simp [lk] at hc, hm⟩

theorem Known.add {P : Program} {tys : List (Nat × Ty)} {G : List (Nat × V)} {l : List (Nat × Con)} (h : Known P ⟨l, tys, G⟩) {f : Nat} {fn : Func} (hf : P.funcs[f]? = some fn) (hent : ∀ args w, (callFunc f args).run P w = .ok (.enter f args) w)
    {ks : List PK} {spec : List V → Option (Prop × V × List Blk)} (ms : List Mode) (hb : ∀ ds p v bs, spec ds = some (p, v, bs) → p → bodyP ⟨l, tys, G⟩ fn ms ds v bs) : Known P ⟨(f, pureC ks spec) :: l, tys, G⟩ where
  glob := h.glob
  noref := h.noref
  env := .cons (holds_pure h.glob h.noref h.env (draw_ok h.glob h.env h.det h.mixed) hf hent ms hb) h.env
  det := fun k c hc => by
    simp only [lk] at hc
    cases hb : Nat.beq f k with
    | true =>
      rw [hb] at hc
      simp only [cond_true, Option.some.injEq] at hc
      subst hc
      exact .pure _ _
    | false =>
      rw [hb] at hc
      exact h.det k c hc
  mixed := h.mixed
end Go.Proofs.YtifaanbnijnbdaaDoor.Vc

namespace Go.Proofs.YtifaanbnijnbdaaDoor.Vc
open Go Go.RowKit Go.WideShapes

/-- A type, down to its parts. -/
def Deep (P : Program) : Ty → TypeId ⊕ (List Field × Nat) → Prop
  | .u8, .inl T => P.underlying T = some (.int .u8)
  | .int k, .inl T => P.underlying T = some (.int k)
  | .bool, .inl T => P.underlying T = some .bool
  | .str, .inl T => P.underlying T = some .string
  | .sl t, .inl T => ∃ e, P.underlying T = some (.slice e) ∧ P.cellsOf e = t.size ∧ 0 < t.size ∧ Deep P t (.inl e)
  | .arr n t, .inl T => ∃ e, P.underlying T = some (.array n e) ∧ P.cellsOf T = n * t.size ∧ P.cellsOf e = t.size ∧ Deep P t (.inl e)
  | .cons t ts, .inl T => ∃ fs f fs', P.underlying T = some (.struct fs) ∧ fs.toList = f :: fs' ∧ P.cellsOf T = t.size + ts.size ∧ f.offset = 0 ∧ P.cellsOf f.type = t.size ∧ Deep P t (.inl f.type) ∧ Deep P ts (.inr (fs', t.size))
  | .cons t ts, .inr (f :: fs, o) => f.offset = o ∧ P.cellsOf f.type = t.size ∧ Deep P t (.inl f.type) ∧ Deep P ts (.inr (fs, o + t.size))
  | .nil, .inr ([], _) => True
  | _, _ => False

/-- How much there is in it. -/
def wt : (t : Ty) → t.D → Nat
  | .str, s => s.length + 1
  | .sl t, xs => (xs.map (wt t)).sum + 1
  | .cons t ts, x => wt t x.1 + wt ts x.2
  | .arr _ t, xs => (xs.map (wt t)).sum
  | .nil, _ => 0
  | _, _ => 1

/-- Every number fits its kind. -/
def WfD : (t : Ty) → t.D → Prop
  | .int k, n => k.min ≤ n ∧ n ≤ k.max
  | .sl t, xs => ∀ x ∈ (xs : List t.D), WfD t x
  | .arr _ t, xs => ∀ x ∈ (xs : List t.D), WfD t x
  | .cons t ts, x => WfD t x.1 ∧ WfD ts x.2
  | _, _ => True
theorem DRel.wf {w : World} {M : Nat → Prop} : ∀ (t : Ty) (x : t.D) (cs : List Value), DRel w M t x cs → WfD t x
  | .u8, _, _, _ => trivial
  | .int _, _, _, h => h.2
  | .bool, _, _, _ => trivial
  | .str, _, _, _ => trivial
  | .nil, _, _, _ => trivial
  | .sl t, xs, cs, h => fun x hx => by
    obtain ⟨a, cap, _, _, _, h4⟩ := h
    obtain ⟨i, hi, rfl⟩ := List.mem_iff_getElem.1 hx
    obtain ⟨g, o, _, _, h5⟩ := h4 (List.ne_nil_of_mem hx)
    obtain ⟨es, he, _⟩ := h5 i _ (List.getElem?_eq_getElem hi)
    exact DRel.wf t _ es he
  | .arr n t, xs, cs, h => fun x hx => by
    obtain ⟨h0, ess, h1, h2, h3⟩ := h
    obtain ⟨i, hi, rfl⟩ := List.mem_iff_getElem.1 hx
    exact DRel.wf t _ _ (h3 i _ _ (List.getElem?_eq_getElem hi) (List.getElem?_eq_getElem (by omega)))
  | .cons t ts, x, cs, h => by
    obtain ⟨c1, c2, _, h1, h2⟩ := h
    exact ⟨DRel.wf t _ _ h1, DRel.wf ts _ _ h2⟩
theorem wt_bytes (xs : List UInt8) : wt (.sl .u8) xs = xs.length + 1 := by
  show (xs.map fun _ => 1).sum + 1 = _
  induction xs with
  | nil => rfl
  | cons x xs ih => simp only [List.map_cons, List.sum_cons, List.length_cons]; omega
theorem wt_ints (k : IntKind) (xs : List Int) : wt (.sl (.int k)) xs = xs.length + 1 := by
  show (xs.map fun _ => 1).sum + 1 = _
  induction xs with
  | nil => rfl
  | cons x xs ih => simp only [List.map_cons, List.sum_cons, List.length_cons]; omega
structure Bulk {H : Type} (bk : DataW H → Nat) : Prop where
  one : ∀ d, 1 ≤ bk d
  str : ∀ b, b.length + 1 ≤ bk (.lit (.string b))
  sl : ∀ es sp, (es.map bk).sum + 1 ≤ bk (.slice es sp)
  agg : ∀ ps, (ps.map bk).sum ≤ bk (.agg ps)

theorem pick_list {α : Type} {Q : Nat → α → Prop} : ∀ {n : Nat}, (∀ i, i < n → ∃ x, Q i x) → ∃ xs : List α, xs.length = n ∧ ∀ i x, xs[i]? = some x → Q i x
  | 0, _ => ⟨[], rfl, fun i x h => by simp at h⟩
  | n + 1, h => by
    obtain ⟨xs, h1, h2⟩ := pick_list (Q := fun i => Q i) (n := n) fun i hi => h i (by omega)
    obtain ⟨y, hy⟩ := h n (by omega)
    refine ⟨xs ++ [y], by simp [h1], fun i x hx => ?_⟩
    rcases Nat.lt_or_ge i n with g | g
    · rw [List.getElem?_append_left (by omega)] at hx
      exact h2 i x hx
    · by_cases e : i = n
      · subst e
        rw [List.getElem?_append_right (by omega), h1, Nat.sub_self] at hx
        simp at hx
        subst hx
        exact hy
      · rw [List.getElem?_eq_none (by simp [h1]; omega)] at hx
        cases hx
theorem sum_le {α β : Type} (f : α → Nat) (g : β → Nat) : ∀ (xs : List α) (ys : List β), xs.length = ys.length → (∀ (i : Nat) (x : α) (y : β), xs[i]? = some x → ys[i]? = some y → f x ≤ g y) → (xs.map f).sum ≤ (ys.map g).sum
  | [], [], _, _ => Nat.le_refl _
  | x :: xs, y :: ys, hl, h => by
    have h0 := h 0 x y rfl rfl
    have := sum_le f g xs ys (by simpa using hl) fun i a b ha hb => h (i + 1) a b ha hb
    simp only [List.map_cons, List.sum_cons]
    omega
  | [], _ :: _, hl, _ => by simp at hl
  | _ :: _, [], hl, _ => by simp at hl

section
variable {H : Type} {enc : TypeId × Value → H} {P : Program} {w : World} {sp : Nat → Bool} {held : Bool} {bk : DataW H → Nat}

def Inh (w : World) (g : Nat) : Prop := g < w.heap.size

theorem cells_at {a : Addr} {n : Nat} {es : List Value} (h : w.cells? 0 a n = some es) : es.length = n ∧ ∀ j v, es[j]? = some v → w.cell? (a.add j) = some v := by
  obtain ⟨_, hl, hc⟩ := World.cells?_some h
  refine ⟨hl, fun j v hj => ?_⟩
  have hjn : j < n := by
    rcases Nat.lt_or_ge j es.length with g | g
    · omega
    · rw [List.getElem?_eq_none g] at hj; cases hj
  have := hc j hjn
  rw [hj] at this
  exact this
theorem add_none {a : Addr} (h : a.spot = none) (n : Nat) : a.add n = ⟨a.block, a.off + n, none⟩ := by
  unfold Addr.add
  split
  · rename_i h0
    subst h0
    cases a; simp at h; subst h; rfl
  · rfl
theorem add_zero (a : Addr) : a.add 0 = a := by simp [Addr.add]
theorem spot_none {a : Addr} {v : Value} (h : w.cell? a = some v) : a.spot = none ∧ a.block < w.heap.size := by
  unfold World.cell? at h
  split at h
  · rename_i c _ _ hh
    cases hs : a.spot with
    | none => exact ⟨rfl, (Array.getElem?_eq_some_iff.1 hh).1⟩
    | some s => rw [hs] at h; simp at h
  · cases h

/-- The fields of a struct, read one by one. -/
def FieldsRead (enc : TypeId × Value → H) (P : Program) (w : World) (sp : Nat → Bool) (held : Bool) (n : Nat) (fs : List Field) (cs : List Value) (xs : List (DataW H × List MemPlace)) : Prop :=
  xs.length = fs.length ∧ ∀ (i : Nat) (f : Field), fs[i]? = some f → DataW.trod enc P w 0 sp held n f.type ((cs.drop f.offset).take (P.cellsOf f.type)) = xs[i]?

theorem read_ok (hb : Bulk bk) : ∀ (t : Ty) (s : TypeId ⊕ (List Field × Nat)), Deep P t s → (match s with
    | .inl T => ∀ fuel cs d ps, DataW.trod enc P w 0 sp held fuel T cs = some (d, ps) → ∃ x : t.D, DRel w (Inh w) t x cs ∧ wt t x ≤ bk d
    | .inr (fs, o) => ∀ n cs xs, FieldsRead enc P w sp held n fs cs xs → cs.length = o + t.size → ∃ x : t.D, DRel w (Inh w) t x (cs.drop o) ∧ wt t x ≤ (xs.map fun y => bk y.1).sum)
  | .u8, .inl T, h => fun fuel cs d ps hd => by
    obtain ⟨n, rfl, hx, hw⟩ := DataW.trod_int h hd
    have hn : 0 ≤ n ∧ n ≤ 255 := by
      simp [Lit.wf, IntKind.min, IntKind.max, IntKind.signed, IntKind.bits] at hw
      omega
    refine ⟨UInt8.ofNat n.toNat, ?_, hb.one _⟩
    show [Value.int .u8 n] = [.int .u8 ((UInt8.ofNat n.toNat).toNat : Int)]
    rw [UInt8.toNat_ofNat_of_lt' (by show n.toNat < 256; omega)]
    congr 2
    omega
  | .int k, .inl T, h => fun fuel cs d ps hd => by
    obtain ⟨n, rfl, hx, hw⟩ := DataW.trod_int h hd
    refine ⟨n, ⟨rfl, ?_⟩, hb.one _⟩
    simpa [Lit.wf] using hw
  | .bool, .inl T, h => fun fuel cs d ps hd => by
    obtain ⟨b, rfl, hx⟩ := DataW.trod_bool h hd
    exact ⟨b, rfl, hb.one _⟩
  | .str, .inl T, h => fun fuel cs d ps hd => by
    obtain ⟨s, rfl, hx, hs⟩ := DataW.trod_string h hd
    obtain ⟨rfl, rfl⟩ := Prod.mk.inj hx
    exact ⟨s.data.toList, ⟨rfl, hs⟩, hb.str _⟩
  | .sl t, .inl T, h => fun fuel cs d ps hd => by
    obtain ⟨e, hu, hce, hpos, hdeep⟩ := h
    rcases DataW.trod_slice hu hd with ⟨rfl, hx⟩ | ⟨a, len, cap, elems, rest, n, rfl, rfl, hx, _, h2, h3, h4, h5, _⟩
    · exact ⟨[], ⟨none, 0, rfl, Nat.le_refl _, Nat.zero_le _, fun h => absurd rfl h⟩, hb.one _⟩
    · obtain ⟨rfl, _⟩ := Prod.mk.inj hx
      have key : ∀ i, i < len → ∃ x : t.D, (∃ es, DRel w (Inh w) t x es ∧ es.length = t.size ∧ (∀ j v, es[j]? = some v → w.cell? ((a.add (i * t.size)).add j) = some v)) ∧ ∃ y, elems[i]? = some y ∧ wt t x ≤ bk y.1 := fun i hi => by
        have h6 := h5 i hi
        obtain ⟨y, hy⟩ : ∃ y, elems[i]? = some y := ⟨_, List.getElem?_eq_getElem (by omega)⟩
        rw [hy, Option.bind_eq_some_iff] at h6
        obtain ⟨es, he, ht⟩ := h6
        obtain ⟨x, h7, h8⟩ := read_ok hb t (.inl e) hdeep n es y.1 y.2 ht
        rw [hce] at he
        obtain ⟨hl, hc⟩ := cells_at he
        exact ⟨x, ⟨es, h7, hl, fun j v hj => hc j v hj⟩, y, hy, h8⟩
      obtain ⟨xs, hl, hxs⟩ := pick_list key
      refine ⟨xs, ⟨some a, cap, by rw [hl], by omega, h3, fun hne => ?_⟩, ?_⟩
      · have h0 : 0 < xs.length := List.length_pos_iff.2 hne
        obtain ⟨⟨es, _, hel, hcell⟩, _⟩ := hxs 0 xs[0] (List.getElem?_eq_getElem h0)
        have hs := hcell 0 es[0] (List.getElem?_eq_getElem (by omega))
        rw [Nat.zero_mul, add_zero, add_zero] at hs
        have hs := spot_none hs
        refine ⟨a.block, a.off, ?_, hs.2, fun i x hi => ?_⟩
        · have hsp : a.spot = none := hs.1
          cases a; simp at hsp; subst hsp; rfl
        · obtain ⟨⟨es, h1, _, hcell⟩, _⟩ := hxs i x hi
          have hsp : a.spot = none := hs.1
          exact ⟨es, h1, fun j v hj => by have := hcell j v hj; rwa [add_none hsp, add_none rfl] at this⟩
      · show (xs.map (wt t)).sum + 1 ≤ _
        have := sum_le (wt t) (fun y : DataW H × List MemPlace => bk y.1) xs elems (by omega) fun i x y hx hy => by
          obtain ⟨_, y', hy', hw⟩ := hxs i x hx
          rw [hy] at hy'; cases hy'; exact hw
        have h6 := hb.sl (elems.map (·.1)) (rest.map (·.1))
        rw [List.map_map] at h6
        exact Nat.le_trans (Nat.succ_le_succ this) h6
  | .arr n t, .inl T, h => fun fuel cs d ps hd => by
    obtain ⟨e, hu, hcT, hce, hdeep⟩ := h
    obtain ⟨ys, m, rfl, hx, hcl, hyl, hel⟩ := DataW.trod_array hu hd
    obtain ⟨rfl, _⟩ := Prod.mk.inj hx
    have key : ∀ i, i < n → ∃ x : t.D, DRel w (Inh w) t x ((cs.drop (i * t.size)).take t.size) ∧ ∃ y, ys[i]? = some y ∧ wt t x ≤ bk y.1 := fun i hi => by
      have h6 := hel i hi
      obtain ⟨y, hy⟩ : ∃ y, ys[i]? = some y := ⟨_, List.getElem?_eq_getElem (by omega)⟩
      rw [hy, hce] at h6
      obtain ⟨x, h7, h8⟩ := read_ok hb t (.inl e) hdeep m _ y.1 y.2 h6
      exact ⟨x, h7, y, hy, h8⟩
    obtain ⟨xs, hl, hxs⟩ := pick_list key
    refine ⟨xs, ⟨hl, (List.range n).map fun i => (cs.drop (i * t.size)).take t.size, ?_, by simp, fun i x es hi he => ?_⟩, ?_⟩
    · have hcut : ∀ (n : Nat) (cs : List Value), cs.length = n * t.size → cs = ((List.range n).map fun i => (cs.drop (i * t.size)).take t.size).flatten := fun n => by
        induction n with
        | zero => intro cs h; simpa using h
        | succ n ih =>
          intro cs h
          rw [Nat.succ_mul] at h
          have h1 := ih (cs.drop t.size) (by rw [List.length_drop]; omega)
          rw [List.range_succ_eq_map, List.map_cons, List.flatten_cons, List.map_map]
          have e : ((fun i => List.take t.size (List.drop (i * t.size) cs)) ∘ Nat.succ) = fun i => List.take t.size (List.drop (i * t.size) (cs.drop t.size)) := by
            funext i
            simp only [Function.comp, List.drop_drop]
            congr 2
            rw [Nat.succ_mul, Nat.add_comm]
          rw [e, ← h1]
          simp
      exact hcut n cs (by rw [hcl, hcT])
    · rw [List.getElem?_map] at he
      have hin : i < n := by
        rcases Nat.lt_or_ge i xs.length with g | g
        · omega
        · rw [List.getElem?_eq_none g] at hi; cases hi
      rw [List.getElem?_range hin] at he
      simp only [Option.map_some, Option.some.injEq] at he
      subst he
      exact (hxs i x hi).1
    · show (xs.map (wt t)).sum ≤ _
      have := sum_le (wt t) (fun y : DataW H × List MemPlace => bk y.1) xs ys (by omega) fun i x y hx hy => by
        obtain ⟨_, y', hy', hw⟩ := hxs i x hx
        rw [hy] at hy'; cases hy'; exact hw
      have h6 := hb.agg (ys.map (·.1))
      rw [List.map_map] at h6
      exact Nat.le_trans this h6
  | .cons t ts, .inl T, h => fun fuel cs d ps hd => by
    obtain ⟨fs, f, fs', hu, hfs, hcT, hf0, hcf, hd1, hd2⟩ := h
    obtain ⟨ys, m, rfl, hx, hcl, hyl, hel⟩ := DataW.trod_struct hu hd
    obtain ⟨rfl, _⟩ := Prod.mk.inj hx
    have hread : ∀ (i : Nat) (g : Field), (f :: fs')[i]? = some g → DataW.trod enc P w 0 sp held m g.type ((cs.drop g.offset).take (P.cellsOf g.type)) = ys[i]? := fun i g hg => by
      rw [← hfs] at hg
      exact hel i g (by simpa using hg)
    cases ys with
    | nil =>
      have : fs.size = (f :: fs').length := by rw [← hfs]; simp
      simp [this] at hyl
    | cons y ys =>
      have h0 := hread 0 f rfl
      rw [hf0, hcf] at h0
      obtain ⟨x, hx1, hx2⟩ := read_ok hb t (.inl f.type) hd1 m _ y.1 y.2 h0
      obtain ⟨x', hy1, hy2⟩ := read_ok hb ts (.inr (fs', t.size)) hd2 m cs ys ⟨by
        have : fs.size = (f :: fs').length := by rw [← hfs]; simp
        rw [this] at hyl; simpa using hyl, fun i g hg => hread (i + 1) g hg⟩ (by rw [hcl, hcT])
      refine ⟨(x, x'), ⟨cs.take t.size, cs.drop t.size, (List.take_append_drop _ _).symm, hx1, hy1⟩, ?_⟩
      show wt t x + wt ts x' ≤ _
      have h6 := hb.agg ((y :: ys).map (·.1))
      rw [List.map_map] at h6
      refine Nat.le_trans ?_ h6
      simp only [List.map_cons, List.sum_cons, Function.comp]
      exact Nat.add_le_add hx2 hy2
  | .cons t ts, .inr (f :: fs, o), h => fun n cs xs hr hl => by
    obtain ⟨hf0, hcf, hd1, hd2⟩ := h
    obtain ⟨h1, h2⟩ := hr
    cases xs with
    | nil => simp at h1
    | cons y ys =>
      have h0 := h2 0 f rfl
      rw [hf0, hcf] at h0
      obtain ⟨x, hx1, hx2⟩ := read_ok hb t (.inl f.type) hd1 n _ y.1 y.2 h0
      obtain ⟨x', hy1, hy2⟩ := read_ok hb ts (.inr (fs, o + t.size)) hd2 n cs ys ⟨by simpa using h1, fun i g hg => h2 (i + 1) g hg⟩ (by rw [hl]; show o + (t.size + ts.size) = _; omega)
      refine ⟨(x, x'), ⟨(cs.drop o).take t.size, (cs.drop o).drop t.size, (List.take_append_drop _ _).symm, hx1, ?_⟩, ?_⟩
      · rw [List.drop_drop]; exact hy1
      · show wt t x + wt ts x' ≤ _
        simp only [List.map_cons, List.sum_cons]
        exact Nat.add_le_add hx2 hy2
  | .nil, .inr ([], o), h => fun n cs xs hr hl => by
    refine ⟨(), ?_, Nat.zero_le _⟩
    show cs.drop o = []
    exact List.drop_eq_nil_of_le (by rw [hl]; exact Nat.le_refl _)
  | .cons _ _, .inr ([], _), h => h.elim
  | .nil, .inl _, h => h.elim
  | .nil, .inr (_ :: _, _), h => h.elim
  | .u8, .inr _, h => h.elim
  | .int _, .inr _, h => h.elim
  | .bool, .inr _, h => h.elim
  | .str, .inr _, h => h.elim
  | .sl _, .inr _, h => h.elim
  | .arr _ _, .inr _, h => h.elim

/-- All that came in stays as it is. -/
def c0 (w : World) : Cx := ⟨Inh w, fun _ => False, fun _ => none⟩
theorem st0 {G : List (Nat × V)} (hg : ∀ g x, lk G g = some x → VRel (c0 w) [] w x (.pointer (some ⟨g, 0, none⟩))) : St G w.heap.size w (c0 w) [] w where
  below := .refl _ _
  size := Nat.le_refl _
  blk _ := trivial
  inj _ _ _ h := by cases h
  own _ _ h := by cases h
  imm _ h := h
  sub _ h := h.elim
  glob := hg

theorem arg_ok (hb : Bulk bk) {t : Ty} {T : TypeId} {v : Value} {d : DataW H} {ps : List MemPlace} {r : Reach} {b : Nat} (hd : Deep P t (.inl T)) (hval : Value.okWide P w r b T v) (h : DataW.Trod enc P w 0 sp held T v d ps) :
    ∃ x : t.D, VRel (c0 w) [] w (dV t x) v ∧ wt t x ≤ bk d ∧ WfD t x := by
  obtain ⟨fuel, hf⟩ := h
  obtain ⟨x, hx, hw⟩ := read_ok hb t (.inl T) hd fuel _ d ps hf
  refine ⟨x, ?_, hw, DRel.wf _ _ _ hx⟩
  cases t with
  | u8 =>
    obtain ⟨n, rfl⟩ := okWide_int hd hval
    have hx : [Value.int .u8 n] = [.int .u8 (x.toNat : Int)] := hx
    simp only [List.cons.injEq, Value.int.injEq, true_and, and_true] at hx
    subst hx
    exact .u8 x
  | int k =>
    obtain ⟨n, rfl⟩ := okWide_int hd hval
    obtain ⟨hx, h1, h2⟩ := hx
    have hx : [Value.int k n] = [.int k x] := hx
    simp only [List.cons.injEq, Value.int.injEq, true_and, and_true] at hx
    subst hx
    exact .int k _ h1 h2
  | bool =>
    obtain ⟨n, rfl⟩ := okWide_bool hd hval
    have hx : [Value.bool n] = [.bool x] := hx
    simp only [List.cons.injEq, Value.bool.injEq, and_true] at hx
    subst hx
    exact .b _ _ Iff.rfl
  | str =>
    obtain ⟨s, rfl⟩ := okWide_string hd hval
    obtain ⟨hx, h1⟩ := hx
    have hx : [Value.string s] = [.string ⟨x.toArray⟩] := hx
    simp only [List.cons.injEq, Value.string.injEq, and_true] at hx
    subst hx
    exact .str x h1
  | sl t =>
    obtain ⟨e, hu, _⟩ := hd
    obtain ⟨a, len, cap, rfl⟩ := okWide_slice hu hval
    exact .sl false t x _ hx
  | nil => exact hd.elim
  | arr n t =>
    obtain ⟨e, hu, _⟩ := hd
    unfold Value.okWide at hval
    rw [hu] at hval
    obtain ⟨cs, rfl, hsz, _⟩ := hval
    have hl := DRel.length _ _ _ hx
    have := getCells_ok (c := c0 w) (H := []) (fr := false) hx (Ty.arr n t).size 0 (by rw [Nat.zero_add, hl]; exact Nat.le_refl _)
    rw [List.drop_zero, List.take_of_length_le (by rw [hl]; exact Nat.le_refl _)] at this
    have := VRel.agg _ _ this
    exact id (α := VRel (c0 w) [] w (.agg (getCells false _ x 0 _)) (.agg cs)) (by simpa [Value.cells] using this)
  | cons t ts =>
    obtain ⟨fs, f, fs', hu, _⟩ := hd
    obtain ⟨cs, rfl, hsz⟩ := okWide_struct hu hval
    have hl := DRel.length _ _ _ hx
    have := getCells_ok (c := c0 w) (H := []) (fr := false) hx (Ty.cons t ts).size 0 (by rw [Nat.zero_add, hl]; exact Nat.le_refl _)
    rw [List.drop_zero, List.take_of_length_le (by rw [hl]; exact Nat.le_refl _)] at this
    have := VRel.agg _ _ this
    exact id (α := VRel (c0 w) [] w (.agg (getCells false _ x 0 _)) (.agg cs)) (by simpa [Value.cells] using this)

/-- A law whose body comes to true, called. -/
theorem law_ok {E : Env} {f : FuncId} {fn : Func} {args : List V} {vs : List Value} (hk : Known P E) (hf : P.funcs[f]? = some fn) (hV : VRels (c0 w) [] w args vs)
    (hg : ∀ g x, lk E.glob g = some x → VRel (c0 w) [] w x (.pointer (some ⟨g, 0, none⟩))) (hb : bodyP E fn [.k] args (.b True) []) :
    Calls P f vs.toArray w fun e w' => e = .returned (.bool true) ∧ Below w.heap.size w w' := by
  refine (body_ok hk.glob hk.noref hk.env (draw_ok hk.glob hk.env hk.det hk.mixed) hf (st0 hg) hV hb).mono ?_
  rintro e w' ⟨x, v, H', c', rfl, hq, hx, hst⟩
  obtain ⟨c2, v2, H2, ⟨_, rfl, _⟩, hst2, hx2⟩ := retK_ok hk.glob hk.noref hst hx hq
  cases hx2 with | b _ y hy =>
  have : y = true := hy.2 trivial
  subst this
  exact ⟨rfl, hst.below⟩

/-- A table of bytes at a package's variable. -/
theorem tab_ok {g : Nat} {zs : List UInt8} (hsz : g < w.heap.size) (h : ∀ i, i < zs.length → w.cell? ⟨g, i, none⟩ = some (.int .u8 ((zs.getD i 0).toNat : Int))) {n : Nat} (hn : zs.length = n) : VRel (c0 w) [] w (.rp false (.arr n .u8) zs 0) (.pointer (some ⟨g, 0, none⟩)) := by
  refine .rp false (.arr n .u8) zs 0 g 0 (zs.map fun z => .int .u8 (z.toNat : Int)) hsz ⟨hn, zs.map fun z => [.int .u8 (z.toNat : Int)], ?_, by simp [hn], fun i x es hi he => ?_⟩ fun j v hj => ?_
  · clear h hn
    induction zs with
    | nil => rfl
    | cons z zs ih => simp only [List.map_cons, List.flatten_cons, ← ih]; rfl
  · rw [List.getElem?_map, hi] at he
    simp only [Option.map_some, Option.some.injEq] at he
    exact he.symm
  · rw [List.getElem?_map] at hj
    rcases Nat.lt_or_ge j zs.length with g1 | g1
    · rw [List.getElem?_eq_getElem g1] at hj
      simp only [Option.map_some, Option.some.injEq] at hj
      have := h j g1
      rw [List.getD_eq_getElem?_getD, List.getElem?_eq_getElem g1, Option.getD_some, hj] at this
      rwa [Nat.zero_add]
    · rw [List.getElem?_eq_none g1] at hj; cases hj
end
end Go.Proofs.YtifaanbnijnbdaaDoor.Vc

/- Texts of this claim: Vc.V, Vc.VB, Vc.VC, Vc.VD. -/
import Derived.Test.YtgljcfnplkcfhaaVc3
set_option linter.unusedVariables false
set_option linter.unusedSimpArgs false
namespace Go.Proofs.Ytgljcfnplkcfhaa.Vc
open Go Go.RowKit

/-- A transformer that comes out in one way. -/
def Point {α : Type} (f : (α → Prop) → Prop) : Prop := ∀ K, f K → ∃ v, K v ∧ ∀ K' : α → Prop, K' v → f K'

section
variable {α β : Type}
theorem Point.fls : Point (fun _ : α → Prop => False) := fun _ h => h.elim
theorem Point.ret (v : α) : Point (fun K : α → Prop => K v) := fun _ h => ⟨v, h, fun _ h => h⟩
theorem Point.and {c : Prop} {f : (α → Prop) → Prop} (hf : Point f) : Point (fun K => c ∧ f K) := fun K h =>
  let ⟨v, h1, h2⟩ := hf K h.2
  ⟨v, h1, fun K' h' => ⟨h.1, h2 K' h'⟩⟩
theorem Point.or {c d : Prop} {f g : (α → Prop) → Prop} (hf : Point f) (hg : Point g) : Point (fun K => (c ∧ f K) ∨ (d ∧ g K)) := fun K h => by
  rcases h with h | h
  · obtain ⟨v, h1, h2⟩ := hf K h.2
    exact ⟨v, h1, fun K' h' => .inl ⟨h.1, h2 K' h'⟩⟩
  · obtain ⟨v, h1, h2⟩ := hg K h.2
    exact ⟨v, h1, fun K' h' => .inr ⟨h.1, h2 K' h'⟩⟩
theorem Point.imps {c : Prop} {f g : (α → Prop) → Prop} (hf : Point f) (hg : Point g) : Point (fun K => (c → f K) ∧ (¬c → g K)) := fun K h => by
  by_cases hc : c
  · obtain ⟨v, h1, h2⟩ := hf K (h.1 hc)
    exact ⟨v, h1, fun K' h' => ⟨fun _ => h2 K' h', fun hn => absurd hc hn⟩⟩
  · obtain ⟨v, h1, h2⟩ := hg K (h.2 hc)
    exact ⟨v, h1, fun K' h' => ⟨fun h => absurd h hc, fun _ => h2 K' h'⟩⟩
theorem Point.ex {ι : Type} {p : ι → Prop} {f : ι → (α → Prop) → Prop} (hf : ∀ i, Point (f i)) : Point (fun K => ∃ i, p i ∧ f i K) := fun K ⟨i, hp, h⟩ => by
  obtain ⟨a, h1, h2⟩ := hf i K h
  exact ⟨a, h1, fun K' h' => ⟨i, hp, h2 K' h'⟩⟩
theorem Point.bif {b : Bool} {f g : (α → Prop) → Prop} (hf : Point f) (hg : Point g) : Point (fun K => bif b then f K else g K) := by
  cases b
  · exact hg
  · exact hf
theorem Point.bind {f : (α → Prop) → Prop} {g : α → (β → Prop) → Prop} (hf : Point f) (hg : ∀ x, Point (g x)) : Point (fun K => f fun x => g x K) := fun K h => by
  obtain ⟨x, h1, h2⟩ := hf _ h
  obtain ⟨v, h3, h4⟩ := hg x K h1
  exact ⟨v, h3, fun K' h' => h2 _ (h4 K' h')⟩
theorem Point.forceV {v : V} {f : V → (α → Prop) → Prop} (hf : ∀ v, Point (f v)) : Point (fun K => Vc.forceV v fun v => f v K) := fun K h => by
  obtain ⟨u, h1, h2⟩ := hf v K ((forceV_eq v _).1 h)
  exact ⟨u, h1, fun K' h' => (forceV_eq v _).2 (h2 K' h')⟩
theorem Point.dite {c : Prop} [Decidable c] {f : c → (α → Prop) → Prop} (hf : ∀ h, Point (f h)) : Point (fun K => if h : c then f h K else False) := fun K h => by
  dsimp only at h
  by_cases hc : c
  · rw [dif_pos hc] at h
    obtain ⟨v, h1, h2⟩ := hf hc K h
    exact ⟨v, h1, fun K' h' => by dsimp only; rw [dif_pos hc]; exact h2 K' h'⟩
  · rw [dif_neg hc] at h
    exact h.elim
end
/-- The same, where what is asked goes on with something of the lower universe. -/
theorem Point.forceL {α : Type} {β : Type} {l : List β} {f : List β → (α → Prop) → Prop} (hf : ∀ l, Point (f l)) : Point (fun K => Vc.forceL l fun l => f l K) := fun K h => by
  obtain ⟨u, h1, h2⟩ := hf l K ((forceL_eq l _).1 h)
  exact ⟨u, h1, fun K' h' => (forceL_eq l _).2 (h2 K' h')⟩

theorem Point.abounds {n : Nat} {lo hi : Option V} {f : Nat → Nat → (V → Prop) → Prop} (hf : ∀ l h, Point (f l h)) : Point (fun K => abounds n lo hi fun l h => f l h K) := by
  unfold Vc.abounds
  cases lo with
  | none => cases hi with
    | none => exact hf _ _
    | some v => cases v <;> first | exact .fls | exact .and (hf _ _)
  | some u => cases u <;> first
    | (cases hi with
      | none => exact .fls
      | some v => cases v <;> exact .fls)
    | (cases hi with
      | none => exact .and (hf _ _)
      | some v => cases v <;> first | exact .fls | exact .and (hf _ _))

theorem Point.inRK {k : IntKind} {n : Int} {α : Type} {f : (α → Prop) → Prop} (hf : Point f) : Point (fun K => inRK k n (f K)) := by
  cases k <;> first | exact .fls | exact .and hf
theorem Point.shRK {k : IntKind} {n : Int} {α : Type} {f : (α → Prop) → Prop} (hf : Point f) : Point (fun K => shRK k n (f K)) := by
  cases k <;> first | exact .fls | exact .and hf

theorem Point.or3 {α : Type} {c1 c2 c3 : Prop} (x y z : α) : Point (fun K : α → Prop => (c1 ∧ K x) ∨ (c2 ∧ K y) ∨ (c3 ∧ K z)) := fun K h => by
  rcases h with h | h | h
  · exact ⟨x, h.2, fun K' h' => .inl ⟨h.1, h'⟩⟩
  · exact ⟨y, h.2, fun K' h' => .inr (.inl ⟨h.1, h'⟩)⟩
  · exact ⟨z, h.2, fun K' h' => .inr (.inr ⟨h.1, h'⟩)⟩
theorem Point.abinI (op : BinOp) (k : IntKind) (a b : Int) : Point (abinI op k a b) := by
  cases op <;> unfold Vc.abinI <;> dsimp only <;> first
    | exact .fls | exact .ret _ | exact .inRK (.ret _) | exact .and (.ret _) | exact .or (.ret _) (.ret _) | exact .or3 _ _ _
theorem Point.abinB (op : BinOp) (a b : UInt8) : Point (abinB op a b) := by
  cases op <;> unfold Vc.abinB <;> dsimp only <;> first | exact .fls | exact .ret _
theorem Point.abinS (op : BinOp) (a b : List UInt8) : Point (abinS op a b) := by
  cases op <;> unfold Vc.abinS <;> dsimp only <;> first | exact .fls | exact .ret _ | exact .and (.ret _)

/-- Values that are no slices. -/
def V.plain : V → Bool
  | .nils | .sl _ _ _ | .own _ _ | .fn _ _ => false
  | _ => true

theorem Point.abin {op : BinOp} {H : List Blk} {x y : V} (hx : x.plain = true) : Point (abin op H x y) := by
  cases x <;> first | (simp [V.plain] at hx; done) | skip
  all_goals cases y <;> unfold Vc.abin <;> dsimp only
  all_goals first | exact .fls | exact .abinB _ _ _ | exact .abinS _ _ _ | skip
  · cases op <;> dsimp only <;> first | exact .shRK (.inRK (.ret _)) | exact .shRK (.ret _) | exact .bif (.abinI _ _ _ _) .fls
  · cases op <;> dsimp only <;> first | exact .fls | exact .and (.ret _)
  · cases op <;> dsimp only <;> first | exact .fls | exact .ret _
theorem abin_H {op : BinOp} {H H2 : List Blk} {x y : V} (hx : x.plain = true) (K : V → Prop) : abin op H x y K = abin op H2 x y K := by
  cases x <;> first | (simp [V.plain] at hx; done) | skip
  all_goals cases y <;> rfl

theorem Point.abinT {E : Env} {T : TypeId} {op : BinOp} {H : List Blk} {x y : V} (hT : ∀ t, lk E.ty T ≠ some (.sl t)) : Point (abinT E T op H x y) := by
  have hs : ∀ g : (V → Prop) → Prop, Point (fun K => match lk E.ty T with | some (.sl _) => g K | _ => False) := by
    intro g
    generalize lk E.ty T = r at hT
    rcases r with _ | t
    · exact .fls
    · cases t <;> first | exact .fls | exact absurd rfl (hT _)
  have hb : ∀ {g : (V → Prop) → Prop}, Point g → Point (fun K => match lk E.ty T with | some .bool => g K | _ => False) := by
    intro g hg
    generalize lk E.ty T = r
    rcases r with _ | t
    · exact .fls
    · cases t <;> first | exact .fls | exact hg
  cases x <;> unfold Vc.abinT <;> dsimp only <;> first | exact .fls | exact .abin rfl | exact hs _ | exact hb (.abin rfl)
theorem abinT_H {E : Env} {T : TypeId} {op : BinOp} {H H2 : List Blk} {x y : V} (hT : ∀ t, lk E.ty T ≠ some (.sl t)) (K : V → Prop) : abinT E T op H x y K = abinT E T op H2 x y K := by
  have hs : ∀ g g' : Prop, (match lk E.ty T with | some (.sl _) => g | _ => False) = (match lk E.ty T with | some (.sl _) => g' | _ => False) := by
    intro g g'
    generalize lk E.ty T = r at hT
    rcases r with _ | t
    · rfl
    · cases t <;> first | rfl | exact absurd rfl (hT _)
  cases x <;> unfold Vc.abinT <;> dsimp only <;> first | rfl | exact abin_H rfl K | exact hs _ _ | (rw [abin_H (H2 := H2) rfl K])

theorem Point.alen {H : List Blk} {v : V} : Point (alen H v) := by
  cases v <;> unfold Vc.alen <;> dsimp only <;> first | exact .fls | exact .ret _ | (generalize getB H _ = b; cases b <;> first | exact .fls | exact .ret _)
theorem Point.alenT {E : Env} {H : List Blk} {T : TypeId} {v : V} : Point (alenT E H T v) := by
  unfold Vc.alenT
  generalize lk E.ty T = r
  rcases r with _ | t
  · exact .fls
  · cases t <;> first | exact .fls | skip
    · cases v <;> first | exact .fls | exact .ret _
    · cases v <;> first | exact .fls | exact .alen
theorem Point.asIdx {v : V} {α : Type} {f : Int → (α → Prop) → Prop} (hf : ∀ i, Point (f i)) : Point (fun K => asIdx v fun i => f i K) := by
  cases v <;> first | exact .fls | exact hf _

theorem Point.aindexAddr {E : Env} {H : List Blk} {T : TypeId} {v ix : V} : Point (aindexAddr E H T v ix) := by
  unfold Vc.aindexAddr
  generalize lk E.ty T = r
  rcases r with _ | t
  · exact .fls
  · cases t <;> dsimp only <;> first | exact .fls | skip
    · cases v <;> dsimp only <;> first
        | exact .fls
        | exact .bif (.asIdx fun _ => .and (.ret _)) .fls
        | (generalize getB H _ = b; cases b <;> dsimp only <;> first | exact .fls | exact .bif (.asIdx fun _ => .and (.ret _)) .fls)
    · cases v <;> dsimp only <;> first
        | exact .fls
        | (generalize getB H _ = b; cases b <;> dsimp only <;> first | exact .fls | exact .bif (.asIdx fun _ => .and (.ret _)) (.bif (.asIdx fun _ => .and (.ret _)) .fls))
        | (rename_i fr t x o; cases t <;> dsimp only <;> first | exact .fls | exact .bif (.asIdx fun _ => .and (.ret _)) .fls)

theorem Point.aload {E : Env} {H : List Blk} {T : TypeId} {p : V} : Point (aload E H T p) := by
  unfold Vc.aload
  generalize lk E.ty T = r
  rcases r with _ | t
  · exact .fls
  · cases t <;> dsimp only <;> first | exact .fls | skip
    all_goals cases p <;> dsimp only <;> first
        | exact .fls
        | exact .bif (.forceV fun _ => .ret _) .fls
        | exact .bif (.forceL fun _ => .ret _) .fls
        | exact .bif (.ret _) .fls
        | (generalize getB H _ = b; cases b <;> (try dsimp only) <;> first | exact .fls | exact .forceV fun _ => .ret _ | exact .bif (.forceV fun _ => .ret _) .fls | exact .bif (.forceL fun _ => .ret _) .fls | exact .bif (.ret _) (.bif (.and (.ret _)) .fls))

theorem Point.afield {E : Env} {H : List Blk} {S : TypeId} {v : V} {f : Nat} : Point (afield E H S v f) := by
  unfold Vc.afield
  generalize lk E.ty S = r
  rcases r with _ | t
  · exact .fls
  · cases t <;> dsimp only <;> first | exact .fls | skip
    generalize getO _ f = q
    rcases q with _ | ⟨o, z⟩ <;> dsimp only
    · exact .fls
    · refine .bif ?_ .fls
      cases v <;> dsimp only <;> first
        | exact .fls | exact .ret _
        | (generalize getB H _ = b; cases b <;> dsimp only <;> first | exact .fls | exact .bif (.ret _) .fls)

theorem Point.aslice {E : Env} {H : List Blk} {T : TypeId} {v : V} {lo hi : Option V} : Point (aslice E H T v lo hi) := by
  unfold Vc.aslice
  generalize lk E.ty T = r
  rcases r with _ | t
  · exact .fls
  · cases t <;> dsimp only <;> first | exact .fls | skip
    all_goals cases v <;> dsimp only <;> first
        | exact .fls
        | exact .bif (.abounds fun _ _ => .ret _) .fls
        | exact .abounds fun _ _ => .ret _
        | (generalize getB H _ = b; cases b <;> dsimp only <;> first | exact .fls | exact .bif (.abounds fun _ _ => .ret _) .fls)

theorem Point.aconv {E : Env} {S T : TypeId} {v : V} : Point (aconv E S T v) := by
  unfold Vc.aconv
  generalize lk E.ty S = r
  generalize lk E.ty T = q
  rcases r with _ | t
  · exact .fls
  · dsimp only
    rcases q with _ | t
    · exact .fls
    · cases t <;> first | exact .fls | skip
      all_goals first
        | (cases v <;> dsimp only <;> first | exact .fls | exact .ret _)
        | (rename_i k; cases k <;> cases v <;> dsimp only <;> first | exact .fls | exact .ret _ | exact .inRK (.ret _))

theorem Point.evs {E : Env} {σ : List V} {α : Type} : ∀ {l : List Operand} {f : List V → (α → Prop) → Prop}, (∀ vs, Point (f vs)) → Point (fun K => evs E σ l fun vs => f vs K)
  | [], f, hf => hf []
  | x :: l, f, hf => .forceV fun v => Point.evs (l := l) (f := fun vs => f (v :: vs)) fun vs => hf _
theorem evs_agree {E : Env} {σ σ2 : List V} : ∀ {l : List Operand}, (∀ x ∈ l, ev E σ2 x = ev E σ x) → ∀ K, evs E σ2 l K = evs E σ l K
  | [], h, K => rfl
  | x :: l, h, K => by
    unfold evs
    rw [h x (by simp)]
    exact congrArg _ (funext fun v => evs_agree (fun x hx => h x (by simp [hx])) _)

theorem Point.castK {t t' : Ty} {xs : List t'.D} {α : Type} {f : List t.D → (α → Prop) → Prop} (hf : ∀ l, Point (f l)) : Point (fun K => castK xs fun l => f l K) := fun K h => by
  obtain ⟨e, h⟩ := castK_iff.1 h
  obtain ⟨v, h1, h2⟩ := hf _ K h
  exact ⟨v, h1, fun K' h' => castK_iff.2 ⟨e, h2 K' h'⟩⟩
theorem Point.asRow {H : List Blk} {t : Ty} {v : V} {α : Type} {f : Bool → List t.D → (α → Prop) → Prop} (hf : ∀ b l, Point (f b l)) : Point (fun K => asRow H t v fun b l => f b l K) := by
  cases v <;> unfold Vc.asRow <;> dsimp only <;> first
    | exact .fls | exact hf _ _ | exact .castK fun _ => hf _ _
    | (generalize getB H _ = b; cases b <;> dsimp only <;> first | exact .fls | exact .castK fun _ => hf _ _)
theorem Point.asRows {H : List Blk} {t : Ty} {α : Type} : ∀ {l : List V} {f : List (List t.D) → (α → Prop) → Prop}, (∀ vs, Point (f vs)) → Point (fun K => asRows H t l fun vs => f vs K)
  | [], f, hf => hf []
  | x :: l, f, hf => .asRow fun _ v => Point.asRows (l := l) (f := fun vs => f (v :: vs)) fun vs => hf _
theorem Point.asD {H : List Blk} {t : Ty} {v : V} {α : Type} {f : t.D → (α → Prop) → Prop} (hf : ∀ x, Point (f x)) : Point (fun K => asD H t v fun x => f x K) := by
  cases t with
  | sl t =>
    cases t with
    | sl t =>
      cases v <;> first
        | exact .asRow (f := fun _ xs K => f xs K) fun _ xs => hf xs
        | (unfold Vc.asD; exact .asRow (f := fun _ xs K => f xs K) fun _ xs => hf xs)
        | (unfold Vc.asD; (try dsimp only); generalize getB H _ = b; cases b <;> (try dsimp only) <;> first | exact .fls | exact .asRows fun xs => hf xs | exact .castK fun xs => hf xs)
    | _ => exact .asRow (f := fun _ xs K => f xs K) fun _ xs => hf xs
  | bool => cases v <;> first | exact .fls | exact .ex fun _ => hf _
  | _ => cases v <;> first | exact .fls | exact hf _ | exact .and (hf _)
theorem Point.asCellsN {α : Type} : ∀ {t : Ty} {l : List V} {f : Bool → t.D → List V → (α → Prop) → Prop}, (∀ b x l, Point (f b x l)) → Point (fun K => asCellsN t l fun b x l => f b x l K)
  | .nil, l, f, hf => hf _ _ _
  | .cons t ts, l, f, hf => Point.asCellsN (t := t) (l := l) (f := fun b x l K => Vc.asCellsN ts l fun g y l => f (b && g) (x, y) l K) fun b x l => Point.asCellsN (t := ts) fun g y l => hf (b && g) (x, y) l
  | .arr _ _, l, f, hf => .fls
  | .sl t, l, f, hf => by
    cases l with
    | nil => exact .fls
    | cons v l => cases v <;> first | exact .fls | exact hf _ _ _ | exact .castK fun xs => hf _ xs _
  | .u8, [], f, hf => .fls
  | .u8, v :: l, f, hf => .asD (H := []) (f := fun x K => f true x l K) fun x => hf true x l
  | .int _, [], f, hf => .fls
  | .int _, v :: l, f, hf => .asD (H := []) (f := fun x K => f true x l K) fun x => hf true x l
  | .bool, [], f, hf => .fls
  | .bool, v :: l, f, hf => .asD (H := []) (f := fun x K => f true x l K) fun x => hf true x l
  | .str, [], f, hf => .fls
  | .str, v :: l, f, hf => .asD (H := []) (f := fun x K => f true x l K) fun x => hf true x l
theorem Point.asEl {t : Ty} {v : V} {α : Type} {f : Bool → t.D → (α → Prop) → Prop} (hf : ∀ b x, Point (f b x)) : Point (fun K => asEl t v fun b x => f b x K) := by
  cases t with
  | cons t ts =>
    cases v <;> first | exact .fls | skip
    refine .asCellsN (t := .cons t ts) (f := fun b x l K => match l with | [] => f b x K | _ => False) fun b x l => ?_
    cases l
    · exact hf _ _
    · exact .fls
  | sl t => exact .fls
  | nil => cases v <;> exact .fls
  | _ => exact .asD (H := []) (v := v) (f := fun x K => f true x K) fun x => hf true x
theorem Point.asEls {t : Ty} {α : Type} : ∀ {l : List V} {f : Bool → List t.D → (α → Prop) → Prop}, (∀ b vs, Point (f b vs)) → Point (fun K => asEls t l fun b vs => f b vs K)
  | [], f, hf => hf true []
  | x :: l, f, hf => .asEl (f := fun b y K => Vc.asEls t l fun g ys => f (b && g) (y :: ys) K) fun b y => Point.asEls (l := l) (f := fun g ys => f (b && g) (y :: ys)) fun g ys => hf _ _
theorem Point.asArr {t : Ty} {v : V} {α : Type} {f : Nat → Bool → List t.D → (α → Prop) → Prop} (hf : ∀ n b x, Point (f n b x)) : Point (fun K => asArr t v fun n b x => f n b x K) := by
  cases v <;> first | exact .fls | skip
  rename_i fr t' ys
  cases t' <;> first | exact .fls | exact .castK fun xs => hf _ _ xs
theorem Point.setD {t : Ty} {v : V} {α : Type} {f : t.D → (α → Prop) → Prop} (hf : ∀ x, Point (f x)) : Point (fun K => setD t v fun x => f x K) := by
  cases t <;> cases v <;> first | exact .fls | exact hf _ | exact .and (hf _)

theorem Point.setF {v : V} {α : Type} : ∀ {t : Ty} {x : t.D} {o : Nat} {f : t.D → (α → Prop) → Prop}, (∀ x, Point (f x)) → Point (fun K => setF t x o v fun x => f x K)
  | .cons t ts, x, o, f, hf => .bif (Point.setF (t := t) (f := fun y K => f (y, x.2) K) fun y => hf _) (Point.setF (t := ts) (f := fun y K => f (x.1, y) K) fun y => hf _)
  | .arr _ t, xs, o, f, hf => .bif (Point.setF (t := t) (f := fun y K => f ((xs : List t.D).set o y) K) fun y => hf _) (Point.setF (t := t) (f := fun y K => f ((xs : List t.D).set (o / t.size) y) K) fun y => hf _)
  | .u8, x, o, f, hf => by cases o; exact .setD hf; exact .fls
  | .int _, x, o, f, hf => by cases o; exact .setD hf; exact .fls
  | .bool, x, o, f, hf => by cases o; exact .setD hf; exact .fls
  | .str, x, o, f, hf => by cases o; exact .setD hf; exact .fls
  | .nil, x, o, f, hf => .fls
  | .sl _, x, o, f, hf => .fls

theorem Point.abuildF {t : Ty} : ∀ {l : List (Nat × V)} {cs : List V}, Point (abuildF t l cs)
  | [], cs => .ret _
  | (i, v) :: l, cs => by
    show Point fun K => match getO (offs t 0) i with
      | some (o, z) => bif v.isPart && Nat.beq (cellsOfV v).length z && Nat.ble (o + z) cs.length then Vc.forceL (setAt cs o (cellsOfV v)) fun cs => Vc.abuildF t l cs K else False
      | none => False
    generalize getO (offs t 0) i = q
    rcases q with _ | ⟨o, z⟩ <;> dsimp only
    · exact .fls
    · exact .bif (.forceL fun cs => Point.abuildF (l := l)) .fls
theorem Point.abuild {E : Env} {T : TypeId} {ps : List (Nat × V)} : Point (abuild E T ps) := by
  unfold Vc.abuild
  generalize lk E.ty T = r
  rcases r with _ | t
  · exact .fls
  · cases t <;> dsimp only <;> first | exact .fls | exact .forceL fun _ => .abuildF

theorem Point.aalloc {E : Env} {H : List Blk} {T : TypeId} : Point (fun K : V × List Blk → Prop => aalloc E H T fun v H => K (v, H)) := by
  unfold Vc.aalloc
  generalize lk E.ty T = r
  rcases r with _ | t
  · exact .fls
  · cases t <;> dsimp only <;> first
      | exact .bif (.forceL fun _ => .ret _) .fls
      | exact .bif (.forceL fun _ => .forceL fun _ => .ret _) .fls
theorem Point.abox {E : Env} {H : List Blk} {T : TypeId} {v : V} : Point (fun K : V × List Blk → Prop => abox E H T v fun v H => K (v, H)) := by
  unfold Vc.abox
  generalize lk E.ty T = r
  rcases r with _ | t
  · exact .fls
  · cases t <;> dsimp only <;> first
      | exact .bif (.asArr fun _ _ _ => .and (.forceL fun _ => .ret _)) .fls
      | (cases v <;> dsimp only <;> exact .bif (.forceL fun _ => .ret _) .fls)
theorem Point.abuildSlice {E : Env} {H : List Blk} {T : TypeId} {vs : List V} : Point (fun K : V × List Blk → Prop => abuildSlice E H T vs fun v H => K (v, H)) := by
  unfold Vc.abuildSlice
  generalize lk E.ty T = r
  rcases r with _ | t
  · exact .fls
  · cases t <;> dsimp only <;> first | exact .fls | skip
    rename_i t
    cases t <;> dsimp only <;> first
      | exact .bif (.asEls fun _ _ => .forceL fun _ => .ret _) .fls
      | exact .bif (.forceL fun _ => .ret _) .fls
theorem Point.astore {E : Env} {H : List Blk} {T : TypeId} {p v : V} : Point (fun K : List Blk → Prop => astore E H T p v K) := by
  unfold Vc.astore
  generalize lk E.ty T = r
  rcases r with _ | t
  · cases p <;> exact .fls
  · cases p <;> (try dsimp only) <;> first | exact .fls | skip
    generalize getB H _ = b
    cases b <;> dsimp only <;> first
      | exact .fls
      | (cases v <;> (try dsimp only) <;> first
          | exact .setF fun _ => .and (.forceL fun _ => .ret _)
          | exact .asArr fun _ _ _ => .and (.forceL fun _ => .ret _)
          | exact .asEl fun _ _ => .and (.forceL fun _ => .ret _))
      | (cases v <;> dsimp only <;> exact .and (.forceL fun _ => .forceL fun _ => .ret _))
theorem Point.aappend {E : Env} {σ : List V} {H : List Blk} {T : TypeId} {x y : V} : Point (fun K : V × List V × List Blk → Prop => aappend E σ H T x y fun v σ H => K (v, σ, H)) := by
  unfold Vc.aappend
  generalize lk E.ty T = r
  rcases r with _ | t
  · exact .fls
  · cases t <;> dsimp only <;> first | exact .fls | skip
    cases x <;> dsimp only <;> first
      | exact .fls
      | exact .asRow fun _ _ => .and (.forceL fun _ => .ret _)
      | (generalize getB H _ = b; cases b <;> dsimp only <;> first
          | exact .fls
          | exact .and (.castK fun _ => .asRow fun _ _ => .and (.forceL fun _ => .forceL fun _ => .ret _)))
end Go.Proofs.Ytgljcfnplkcfhaa.Vc

namespace Go.Proofs.Ytgljcfnplkcfhaa.Vc
open Go Go.RowKit

def Agree (E : Env) (o : Op) (σ σ2 : List V) : Prop := ∀ x ∈ o.operands.toList, evr E σ2 x = evr E σ x
theorem ev_of_evr {E : Env} {σ σ2 : List V} {x : Operand} (h : evr E σ2 x = evr E σ x) : ev E σ2 x = ev E σ x := by
  cases x with
  | tmp t => exact congrArg V.nb h
  | _ => rfl
theorem Agree.ev {E : Env} {o : Op} {σ σ2 : List V} (h : Agree E o σ σ2) : ∀ x ∈ o.operands.toList, Vc.ev E σ2 x = Vc.ev E σ x := fun x hx => ev_of_evr (h x hx)


/-- A contract comes out in one way, and only adds to the own blocks. -/
def DetP (c : Con) : Prop := ∀ args H R, c args H R → ∃ v bs, R v (H ++ bs) ∧ ∀ R' : V → List Blk → Prop, R' v (H ++ bs) → c args H R'
/-- All that is there is there as well. -/
def HLe (H H2 : List Blk) : Prop := ∀ id, getB H id ≠ .dead → getB H2 id = getB H id
/-- Where it hands back no new block, more blocks turn nothing. -/
def MonoC (c : Con) : Prop := ∀ args H H2 v0, HLe H H2 → V.noIds v0 = true → c args H (fun v H' => v = v0 ∧ H' = H) → c args H2 fun v H' => v = v0 ∧ H' = H2
structure Det (c : Con) : Prop where
  det : DetP c
  mono : MonoC c
def DetE (E : Env) : Prop := ∀ k c, lk E.con k = some c → Det c

theorem Det.point {c : Con} (h : Det c) (args : List V) (H : List Blk) : Point (fun K : V × List Blk → Prop => c args H fun v H => K (v, H)) := fun K hk => by
  obtain ⟨v, bs, h1, h2⟩ := h.det args H _ hk
  exact ⟨(v, H ++ bs), h1, fun K' h' => h2 _ h'⟩

theorem cls0 {E : Env} {o : Op} (h : clsOp E o = some 0) (σ : List V) : ∃ F : (V → Prop) → Prop, Point F ∧ ∀ σ2 H2 (K : V → List V → List Blk → Prop), Agree E o σ σ2 → aop E σ2 H2 o K = F fun v => K v σ2 H2 := by
  cases o <;> first | (simp [clsOp] at h; done) | skip
  case move x =>
    refine ⟨fun K => forceV (evr E σ x) K, .forceV fun _ => .ret _, fun σ2 H2 K ha => ?_⟩
    unfold aop
    try dsimp only
    rw [ha x (by simp [Op.operands])]
  case assign x =>
    refine ⟨fun K => forceV (evr E σ x) K, .forceV fun _ => .ret _, fun σ2 H2 K ha => ?_⟩
    unfold aop
    try dsimp only
    rw [ha x (by simp [Op.operands])]
  case pick c a b =>
    refine ⟨fun K => match evr E σ c with | .b p => (p → forceV (evr E σ a) K) ∧ (¬p → forceV (evr E σ b) K) | .bt true => forceV (evr E σ a) K | .bt false => forceV (evr E σ b) K | _ => False, ?_, fun σ2 H2 K ha => ?_⟩
    · generalize evr E σ c = vc
      cases vc <;> first | exact .fls | exact .imps (.forceV fun _ => .ret _) (.forceV fun _ => .ret _) | (rename_i x; cases x <;> exact .forceV fun _ => .ret _)
    · unfold aop
      try dsimp only
      rw [ha c (by simp [Op.operands]), ha a (by simp [Op.operands]), ha b (by simp [Op.operands])]
      rfl
  case build T ps =>
    refine ⟨fun K => evs E σ (ps.toList.map (·.2)) fun vs => abuild E T ((ps.toList.map (·.1)).zip vs) K, .evs fun _ => .abuild, fun σ2 H2 K ha => ?_⟩
    unfold aop
    try dsimp only
    rw [evs_agree fun x hx => ha.ev x (by simpa [Op.operands] using hx)]
  case unOp op T x =>
    cases op <;> first
      | (refine ⟨fun _ => False, .fls, fun σ2 H2 K ha => ?_⟩; unfold aop; rfl)
      | skip
    refine ⟨fun K => match evr E σ x with | .b p => K (.b (¬p)) | .bt true => K (.bt false) | .bt false => K (.bt true) | _ => False, ?_, fun σ2 H2 K ha => ?_⟩
    · generalize evr E σ x = vc
      cases vc <;> first | exact .fls | exact .ret _ | (rename_i x; cases x <;> exact .ret _)
    · unfold aop
      try dsimp only
      rw [ha x (by simp [Op.operands])]
      rfl
  case convert S T x =>
    refine ⟨fun K => aconv E S T (ev E σ x) K, .aconv, fun σ2 H2 K ha => ?_⟩
    unfold aop
    try dsimp only
    rw [ha.ev x (by simp [Op.operands])]
  case makeFunc f fst caps =>
    cases f <;> first
      | (refine ⟨fun _ => False, .fls, fun σ2 H2 K ha => ?_⟩; unfold aop; rfl)
      | skip
    rename_i f
    refine ⟨fun K => match fst.toList with | [] => evs E σ caps.toList fun vs => K (.fn f vs) | _ => False, ?_, fun σ2 H2 K ha => ?_⟩
    · generalize fst.toList = l
      cases l
      · exact .evs fun _ => .ret _
      · exact .fls
    · unfold aop
      try dsimp only
      have hev := evs_agree (E := E) (σ := σ) (σ2 := σ2) (l := caps.toList) (fun x hx => ha.ev x (by simp [Op.operands]; right; simpa using hx))
      generalize fst.toList = l
      cases l
      · exact hev _
      · rfl
  case index T x i =>
    refine ⟨fun K => match lk E.ty T, ev E σ x, ev E σ i with | some .str, .str s, .int _ j => (0 ≤ j ∧ j < s.length) ∧ K (.u8 (s.getD j.toNat 0)) | some (.arr n te), .dat fr t' x, .int _ j => bif decide (t' = .arr n te) && (Nat.beq te.size 1 && !isAggB te) then (0 ≤ j ∧ j < n) ∧ forceV (getCell fr t' x j.toNat) K else False | _, _, _ => False, ?_, fun σ2 H2 K ha => ?_⟩
    · generalize ev E σ x = vc
      generalize ev E σ i = vi
      generalize lk E.ty T = r
      rcases r with _ | t
      · exact .fls
      · cases t <;> first | exact .fls | skip
        all_goals
          cases vc <;> first | exact .fls | skip
          cases vi <;> first | exact .fls | exact .and (.ret _) | exact .bif (.and (.forceV fun _ => .ret _)) .fls
    · unfold aop
      try dsimp only
      rw [ha.ev x (by simp [Op.operands]), ha.ev i (by simp [Op.operands])]
      rfl
  case extract x i =>
    refine ⟨fun K => match ev E σ x with | .tup vs => bif Nat.blt i vs.length then forceV (gets vs i) K else False | _ => False, ?_, fun σ2 H2 K ha => ?_⟩
    · generalize ev E σ x = vc
      cases vc <;> first | exact .fls | exact .bif (.forceV fun _ => .ret _) .fls
    · unfold aop
      try dsimp only
      rw [ha.ev x (by simp [Op.operands])]
      rfl
  case binOp op T x y yT =>
    have hT : ∀ t, lk E.ty T ≠ some (.sl t) := fun t ht => by simp [clsOp, ht] at h
    refine ⟨fun K => abinT E T op [] (ev E σ x) (ev E σ y) K, .abinT hT, fun σ2 H2 K ha => ?_⟩
    unfold aop
    try dsimp only
    rw [ha.ev x (by simp [Op.operands]), ha.ev y (by simp [Op.operands])]
    exact abinT_H hT _
  case call c =>
    obtain ⟨callee, args, tys⟩ := c
    cases callee <;> first | (simp [clsOp] at h; done) | skip
    rename_i b
    have key : ∀ mx : Bool, ∃ F : (V → Prop) → Prop, Point F ∧ ∀ σ2 H2 (K : V → List V → List Blk → Prop), Agree E (.call { callee := .builtin b, args, argTypes := tys }) σ σ2 →
        (match args.toList with | [x, y] => amm mx (ev E σ2 x) (ev E σ2 y) fun v => K v σ2 H2 | _ => False) = F fun v => K v σ2 H2 := fun mx => by
      refine ⟨fun K => match args.toList with | [x, y] => amm mx (ev E σ x) (ev E σ y) K | _ => False, ?_, fun σ2 H2 K ha => ?_⟩
      · generalize args.toList = l
        rcases l with _ | ⟨x, _ | ⟨y, _ | ⟨z, l⟩⟩⟩ <;> try exact .fls
        dsimp only
        generalize ev E σ x = vx
        generalize ev E σ y = vy
        cases vx <;> first | exact .fls | skip
        cases vy <;> first | exact .fls | (cases mx <;> exact .bif (.ret _) .fls)
      · have hx : ∀ x ∈ args.toList, ev E σ2 x = ev E σ x := fun x hx => ha.ev x (by simpa [Op.operands, Call.operands] using hx)
        generalize args.toList = l at hx
        rcases l with _ | ⟨x, _ | ⟨y, _ | ⟨z, l⟩⟩⟩ <;> try rfl
        dsimp only
        rw [hx x (by simp), hx y (by simp)]
    cases b <;> first | (simp [clsOp] at h; done) | exact key true | exact key false

theorem cls1 {E : Env} {o : Op} (h : clsOp E o = some 1) (σ : List V) (H : List Blk) : ∃ F : (V → Prop) → Prop, Point F ∧ ∀ σ2 (K : V → List V → List Blk → Prop), Agree E o σ σ2 → aop E σ2 H o K = F fun v => K v σ2 H := by
  cases o <;> first | (simp [clsOp] at h; done) | skip
  case load T p =>
    refine ⟨fun K => aload E H T (ev E σ p) K, .aload, fun σ2 K ha => ?_⟩
    unfold aop
    try dsimp only
    rw [ha.ev p (by simp [Op.operands])]
  case indexAddr T x i =>
    refine ⟨fun K => aindexAddr E H T (ev E σ x) (ev E σ i) K, .aindexAddr, fun σ2 K ha => ?_⟩
    unfold aop
    try dsimp only
    rw [ha.ev x (by simp [Op.operands]), ha.ev i (by simp [Op.operands])]
  case fieldAddr T x f =>
    refine ⟨fun K => afield E H T (ev E σ x) f K, .afield, fun σ2 K ha => ?_⟩
    unfold aop
    try dsimp only
    rw [ha.ev x (by simp [Op.operands])]
  case slice T x lo hi mx =>
    cases mx with
    | some m => exact ⟨fun _ => False, .fls, fun σ2 K ha => by unfold aop; rfl⟩
    | none =>
      refine ⟨fun K => aslice E H T (ev E σ x) (lo.map (ev E σ)) (hi.map (ev E σ)) K, .aslice, fun σ2 K ha => ?_⟩
      unfold aop
      try dsimp only
      have h1 : lo.map (ev E σ2) = lo.map (ev E σ) := by
        cases lo with
        | none => rfl
        | some l => simp only [Option.map_some]; rw [ha.ev l (by simp [Op.operands])]
      have h2 : hi.map (ev E σ2) = hi.map (ev E σ) := by
        cases hi with
        | none => rfl
        | some l => simp only [Option.map_some]; rw [ha.ev l (by simp [Op.operands])]
      rw [ha.ev x (by simp [Op.operands]), h1, h2]
  case binOp op T x y yT =>
    exfalso
    simp only [clsOp] at h
    split at h <;> simp at h
  case call c =>
    obtain ⟨callee, args, tys⟩ := c
    cases callee <;> first | (simp [clsOp] at h; done) | skip
    rename_i b
    cases b <;> first | (simp [clsOp] at h; done) | skip
    refine ⟨fun K => match args.toList, tys.toList with | [x], [T] => alenT E H T (ev E σ x) K | _, _ => False, ?_, fun σ2 K ha => ?_⟩
    · generalize args.toList = l
      generalize tys.toList = l'
      rcases l with _ | ⟨x, _ | ⟨y, l⟩⟩ <;> try exact .fls
      rcases l' with _ | ⟨T, _ | ⟨T', l'⟩⟩ <;> first | exact .fls | exact .alenT
    · unfold aop
      try dsimp only
      have hx : ∀ x ∈ args.toList, ev E σ2 x = ev E σ x := fun x hx => ha.ev x (by simpa [Op.operands, Call.operands] using hx)
      generalize args.toList = l at hx
      generalize tys.toList = l'
      rcases l with _ | ⟨x, _ | ⟨y, l⟩⟩ <;> try rfl
      rcases l' with _ | ⟨T, _ | ⟨T', l'⟩⟩ <;> try rfl
      dsimp only
      rw [hx x (by simp)]

/-- What an operand leads to at once. -/
def V.top : V → Nat → Prop
  | .own _ i, id => i = id
  | .slc _ i _ _, id => i = id
  | .ptr i _ _ _, id => i = id
  | _, _ => False
/-- What an operation looks at is the same. -/
def Agr1 (E : Env) (o : Op) (σ : List V) (H H2 : List Blk) : Prop := ∀ x ∈ o.operands.toList, ∀ id, (ev E σ x).top id → getB H id ≠ .dead → getB H2 id = getB H id

theorem read_H {E : Env} {o : Op} (h : clsOp E o = some 1) {σ : List V} {H H2 : List Blk} (ha : Agr1 E o σ H H2) {k : V → Prop} (hk : aop E σ H o fun v _ _ => k v) : aop E σ H2 o fun v _ _ => k v := by
  have key : ∀ x ∈ o.operands.toList, ∀ id, (ev E σ x).top id → getB H id = .dead ∨ getB H2 id = getB H id := fun x hx id ht => by
    by_cases hd : getB H id = .dead
    · exact .inl hd
    · exact .inr (ha x hx id ht hd)
  cases o <;> first | (simp [clsOp] at h; done) | skip
  case load T p =>
    have hp := key p (by simp [Op.operands])
    unfold aop at hk ⊢
    dsimp only at hk ⊢
    unfold aload at hk ⊢
    generalize ev E σ p = vp at hk hp ⊢
    generalize lk E.ty T = r at hk ⊢
    cases vp <;> first | exact hk | skip
    rename_i id z i o
    rcases r with _ | t
    · exact hk.elim
    · rcases hp id rfl with hd | he
      · cases t <;> dsimp only at hk <;> rw [hd] at hk <;> exact hk.elim
      · cases t <;> dsimp only at hk ⊢ <;> first | exact hk.elim | (rw [he]; exact hk)
  case indexAddr T x i =>
    have hp := key x (by simp [Op.operands])
    unfold aop at hk ⊢
    dsimp only at hk ⊢
    unfold aindexAddr at hk ⊢
    generalize ev E σ x = vp at hk hp ⊢
    generalize ev E σ i = vi at hk ⊢
    generalize lk E.ty T = r at hk ⊢
    rcases r with _ | t
    · exact hk.elim
    · cases vp <;> first | exact hk | skip
      case own t0 id =>
        rcases hp id rfl with hd | he
        · cases t <;> dsimp only at hk <;> first | exact hk.elim | (rw [hd] at hk; exact hk.elim)
        · cases t <;> dsimp only at hk ⊢ <;> first | exact hk.elim | (rw [he]; exact hk)
      case slc t0 id off n =>
        rcases hp id rfl with hd | he
        · cases t <;> dsimp only at hk <;> first | exact hk.elim | (rw [hd] at hk; exact hk.elim)
        · cases t <;> dsimp only at hk ⊢ <;> first | exact hk.elim | (rw [he]; exact hk)
      case ptr id z j o =>
        rcases hp id rfl with hd | he
        · cases t <;> dsimp only at hk <;> first | exact hk.elim | (rw [hd] at hk; exact hk.elim)
        · cases t <;> dsimp only at hk ⊢ <;> first | exact hk.elim | (rw [he]; exact hk)
  case fieldAddr S x f =>
    have hp := key x (by simp [Op.operands])
    unfold aop at hk ⊢
    dsimp only at hk ⊢
    unfold afield at hk ⊢
    generalize ev E σ x = vp at hk hp ⊢
    generalize lk E.ty S = r at hk ⊢
    cases vp <;> first | exact hk | skip
    rename_i id z i o
    rcases r with _ | t
    · exact hk.elim
    · cases t <;> dsimp only at hk ⊢ <;> first | exact hk.elim | skip
      rename_i t ts
      generalize getO (offs (t.cons ts) 0) f = q at hk ⊢
      rcases q with _ | ⟨o1, z1⟩
      · exact hk.elim
      · dsimp only at hk ⊢
        rcases hp id rfl with hd | he
        · rw [hd] at hk
          obtain ⟨_, hk⟩ := bif_ok hk
          exact hk.elim
        · rw [he]; exact hk
  case slice T x lo hi mx =>
    cases mx with
    | some m => exact hk.elim
    | none =>
      have hp := key x (by simp [Op.operands])
      unfold aop at hk ⊢
      dsimp only at hk ⊢
      unfold aslice at hk ⊢
      generalize ev E σ x = vp at hk hp ⊢
      generalize lk E.ty T = r at hk ⊢
      rcases r with _ | t
      · exact hk.elim
      · cases vp <;> first | exact hk | skip
        rename_i t0 id
        rcases hp id rfl with hd | he
        · cases t <;> dsimp only at hk <;> first | exact hk.elim | (rw [hd] at hk; exact hk.elim)
        · cases t <;> dsimp only at hk ⊢ <;> first | exact hk.elim | (rw [he]; exact hk)
  case binOp op T x y yT =>
    exfalso
    simp only [clsOp] at h
    split at h <;> simp at h
  case call c =>
    obtain ⟨callee, args, tys⟩ := c
    cases callee <;> first | (simp [clsOp] at h; done) | skip
    rename_i b
    cases b <;> first | (simp [clsOp] at h; done) | skip
    have hl : ∀ x ∈ args.toList, ∀ id, (ev E σ x).top id → getB H id = .dead ∨ getB H2 id = getB H id := fun x hx => key x (by simpa [Op.operands, Call.operands] using hx)
    unfold aop at hk ⊢
    dsimp only at hk ⊢
    generalize args.toList = l at hk hl ⊢
    generalize tys.toList = l' at hk ⊢
    rcases l with _ | ⟨x, _ | ⟨y, l⟩⟩ <;> try exact hk.elim
    rcases l' with _ | ⟨T, _ | ⟨T', l'⟩⟩ <;> first | exact hk.elim | skip
    have hp := hl x (by simp)
    dsimp only at hk ⊢
    unfold alenT at hk ⊢
    generalize ev E σ x = vp at hk hp ⊢
    generalize lk E.ty T = r at hk ⊢
    rcases r with _ | t
    · exact hk.elim
    · cases t <;> first | exact hk.elim | skip
      · cases vp <;> exact hk
      · cases vp <;> first | exact hk | skip
        rename_i t0 id
        unfold alen at hk ⊢
        dsimp only at hk ⊢
        rcases hp id rfl with hd | he
        · rw [hd] at hk
          exact hk.elim
        · rw [he]; exact hk

theorem cls1b {E : Env} {o : Op} (h : clsOp E o = some 1) {σ : List V} {H : List Blk} {K : V → List V → List Blk → Prop} (hk : aop E σ H o K) :
    ∃ v, K v σ H ∧ ∀ σ2 H2 (K' : V → List V → List Blk → Prop), Agree E o σ σ2 → Agr1 E o σ H H2 → K' v σ2 H2 → aop E σ2 H2 o K' := by
  obtain ⟨F, hF, he⟩ := cls1 h σ H
  rw [he σ K (fun _ _ => rfl)] at hk
  obtain ⟨v, h1, h2⟩ := hF _ hk
  refine ⟨v, h1, fun σ2 H2 K' ha hr hk' => ?_⟩
  have e1 : aop E σ H o fun v _ _ => K' v σ2 H2 := by
    rw [he σ _ (fun _ _ => rfl)]
    exact h2 _ hk'
  have e2 := read_H h hr e1
  obtain ⟨F2, _, he2⟩ := cls1 h σ H2
  rw [he2 σ _ (fun _ _ => rfl)] at e2
  rw [he2 σ2 K' ha]
  exact e2

/-- A call that hands back no new block, where more blocks are. -/
theorem cls2b {E : Env} (hd : DetE E) {o : Op} (h : clsOp E o = some 2) {σ : List V} {H : List Blk} {v : V} (hv : v.noIds = true) (hk : aop E σ H o fun v' σ' H' => v' = v ∧ H' = H) :
    ∀ σ2 H2 (K' : V → List V → List Blk → Prop), Agree E o σ σ2 → HLe H H2 → K' v σ2 H2 → aop E σ2 H2 o K' := by
  intro σ2 H2 K' ha hle hk'
  cases o <;> first | (simp [clsOp] at h; done) | skip
  case binOp op T x y yT =>
    exfalso
    simp only [clsOp] at h
    split at h <;> simp at h
  case call c =>
    obtain ⟨callee, args, tys⟩ := c
    cases callee <;> first | (simp [clsOp] at h; done) | skip
    case builtin b => cases b <;> simp [clsOp] at h
    rename_i f
    have hef := ha.ev f (by simp [Op.operands, Call.operands])
    have hev := evs_agree (E := E) (σ := σ) (σ2 := σ2) (l := args.toList) (fun x hx => ha.ev x (by simp [Op.operands, Call.operands]; right; simpa using hx))
    unfold aop at hk ⊢
    dsimp only at hk ⊢
    rw [hef]
    generalize ev E σ f = vf at hk
    cases vf <;> first | exact hk.elim | skip
    rename_i k caps
    dsimp only at hk ⊢
    generalize hlk : lk E.con k = r at hk
    rcases r with _ | c
    · exact hk.elim
    · dsimp only at hk ⊢
      rw [hev]
      have hp : Point (fun K : List V → Prop => evs E σ args.toList K) := .evs (f := fun vs K => K vs) fun vs => .ret vs
      obtain ⟨vs, h1, h2⟩ := hp _ hk
      refine h2 _ ?_
      obtain ⟨hdet, hmono⟩ := hd k c hlk
      obtain ⟨v1, bs, h3, h4⟩ := hdet _ _ _ h1
      have h3 := (forceL_eq _ _).1 ((forceV_eq _ _).1 h3)
      have e1 : c (vs ++ caps) H fun v' H' => v' = v ∧ H' = H := h4 _ h3
      have e2 := hmono _ _ _ _ hle hv e1
      obtain ⟨v2, bs2, ⟨h5, h6⟩, h7⟩ := hdet _ _ _ e2
      refine h7 _ ?_
      rw [h6, h5]
      exact (forceV_eq _ _).2 ((forceL_eq _ _).2 hk')

theorem cls2 {E : Env} (hd : DetE E) {o : Op} (h : clsOp E o = some 2) (σ : List V) (H : List Blk) : ∃ F : (V × List Blk → Prop) → Prop, Point F ∧ (∀ K, F K → ∃ v bs, K (v, H ++ bs) ∧ ∀ K' : V × List Blk → Prop, K' (v, H ++ bs) → F K') ∧ ∀ σ2 (K : V → List V → List Blk → Prop), Agree E o σ σ2 → aop E σ2 H o K = F fun p => K p.1 σ2 p.2 := by
  cases o <;> first | (simp [clsOp] at h; done) | skip
  case binOp op T x y yT =>
    exfalso
    simp only [clsOp] at h
    split at h <;> simp at h
  case call c =>
    obtain ⟨callee, args, tys⟩ := c
    cases callee <;> first | (simp [clsOp] at h; done) | skip
    case builtin b => cases b <;> simp [clsOp] at h
    rename_i f
    let F : (V × List Blk → Prop) → Prop := fun K => match ev E σ f with
      | .fn k caps => match lk E.con k with
        | some c => evs E σ args.toList fun vs => c (vs ++ caps) H fun v H => forceV v fun v => forceL H fun H => K (v, H)
        | none => False
      | _ => False
    have key : ∀ K, F K → ∃ v bs, K (v, H ++ bs) ∧ ∀ K' : V × List Blk → Prop, K' (v, H ++ bs) → F K' := by
      intro K hF
      simp only [F] at hF ⊢
      generalize ev E σ f = vf at hF
      cases vf <;> first | exact hF.elim | skip
      rename_i k caps
      dsimp only at hF ⊢
      generalize hk : lk E.con k = r at hF
      rcases r with _ | c
      · exact hF.elim
      · dsimp only at hF ⊢
        have hp : Point (fun K : List V → Prop => evs E σ args.toList K) := .evs (f := fun vs K => K vs) fun vs => .ret vs
        obtain ⟨vs, h1, h2⟩ := hp _ hF
        obtain ⟨v, bs, h3, h4⟩ := (hd k c hk).det _ _ _ h1
        exact ⟨v, bs, (forceL_eq _ _).1 ((forceV_eq _ _).1 h3), fun K' h' => h2 _ (h4 _ ((forceV_eq _ _).2 ((forceL_eq _ _).2 h')))⟩
    refine ⟨F, fun K hF => ?_, key, fun σ2 K ha => ?_⟩
    · obtain ⟨v, bs, h1, h2⟩ := key K hF
      exact ⟨_, h1, h2⟩
    · unfold aop
      try dsimp only
      rw [ha.ev f (by simp [Op.operands, Call.operands])]
      simp only [F]
      have hev := evs_agree (E := E) (σ := σ) (σ2 := σ2) (l := args.toList) (fun x hx => ha.ev x (by simp [Op.operands, Call.operands]; right; simpa using hx))
      generalize ev E σ f = vf
      cases vf <;> first | rfl | skip
      rename_i k caps
      dsimp only
      generalize lk E.con k = r
      rcases r with _ | c
      · rfl
      · exact hev _

theorem cls3 {E : Env} {o : Op} (h : clsOp E o = some 3 ∨ clsOp E o = some 5) (σ : List V) (H : List Blk) : ∃ F : (V × List Blk → Prop) → Prop, Point F ∧ ∀ σ2 (K : V → List V → List Blk → Prop), Agree E o σ σ2 → aop E σ2 H o K = F fun p => K p.1 σ2 p.2 := by
  cases o <;> first | (simp [clsOp] at h; done) | skip
  case alloc T =>
    exact ⟨fun K => aalloc E H T fun v H => K (v, H), .aalloc, fun σ2 K ha => by unfold aop; rfl⟩
  case box T x =>
    refine ⟨fun K => forceV (ev E σ x) fun v => abox E H T v fun v H => K (v, H), .forceV fun _ => .abox, fun σ2 K ha => ?_⟩
    unfold aop
    try dsimp only
    rw [ha.ev x (by simp [Op.operands])]
  case buildSlice T n ps =>
    refine ⟨fun K => bif idxOk ps.toList 0 n && Nat.ble n 1000 then evs E σ (ps.toList.map (·.2)) fun vs => abuildSlice E H T vs fun v H => K (v, H) else False, .bif (.evs fun _ => .abuildSlice) .fls, fun σ2 K ha => ?_⟩
    unfold aop
    try dsimp only
    rw [evs_agree fun x hx => ha.ev x (by simpa [Op.operands] using hx)]
  case store T p x =>
    refine ⟨fun K => forceV (ev E σ x) fun v => astore E H T (ev E σ p) v fun H => K (.undef, H), .forceV fun v => ?_, fun σ2 K ha => ?_⟩
    · exact Point.bind (g := fun H K => K (V.undef, H)) .astore fun H => .ret _
    · unfold aop
      try dsimp only
      rw [ha.ev x (by simp [Op.operands]), ha.ev p (by simp [Op.operands])]
  case makeSlice T l c =>
    refine ⟨fun K => match lk E.ty T, ev E σ l, ev E σ c with
      | some (.sl t), .int _ n, .int _ m => (n = m ∧ 0 ≤ n ∧ n ≤ 1000000000) ∧ forceL (H ++ [.row true t (List.replicate n.toNat t.dflt)]) fun H' => K (.own t H.length, H')
      | _, _, _ => False, ?_, fun σ2 K ha => ?_⟩
    · generalize ev E σ l = vc
      generalize ev E σ c = vi
      generalize lk E.ty T = r
      rcases r with _ | t
      · exact .fls
      · cases t <;> first | exact .fls | skip
        cases vc <;> first | exact .fls | skip
        cases vi <;> first | exact .fls | exact .and (.forceL fun _ => .ret _)
    · unfold aop
      try dsimp only
      rw [ha.ev l (by simp [Op.operands]), ha.ev c (by simp [Op.operands])]
      rfl
  case binOp op T x y yT =>
    exfalso
    simp only [clsOp] at h
    split at h <;> simp at h
  case call c =>
    obtain ⟨callee, args, tys⟩ := c
    cases callee <;> first | (simp [clsOp] at h; done) | skip
    rename_i b
    cases b <;> simp [clsOp] at h

theorem cls4 {E : Env} {o : Op} (h : clsOp E o = some 4) (σ : List V) (H : List Blk) : Point (fun K : V × List V × List Blk → Prop => aop E σ H o fun v σ H => K (v, σ, H)) := by
  cases o <;> first | (simp [clsOp] at h; done) | skip
  case binOp op T x y yT =>
    exfalso
    simp only [clsOp] at h
    split at h <;> simp at h
  case call c =>
    obtain ⟨callee, args, tys⟩ := c
    cases callee <;> first | (simp [clsOp] at h; done) | skip
    rename_i b
    cases b <;> first | (simp [clsOp] at h; done) | skip
    unfold aop
    try dsimp only
    generalize args.toList = l
    generalize tys.toList = l'
    rcases l with _ | ⟨x, _ | ⟨y, _ | ⟨z, l⟩⟩⟩ <;> first | exact .fls | skip
    rcases l' with _ | ⟨T, _ | ⟨T', _ | ⟨T'', l'⟩⟩⟩ <;> first | exact .fls | exact .bif .aappend .fls
theorem cls_lt {E : Env} {o : Op} {k : Nat} (h : clsOp E o = some k) : k ≤ 5 := by
  unfold clsOp at h
  split at h <;> first | (split at h <;> simp at h <;> omega) | (simp at h <;> omega)
end Go.Proofs.Ytgljcfnplkcfhaa.Vc

namespace Go.Proofs.Ytgljcfnplkcfhaa.Vc
open Go Go.RowKit

def putV (σ : List V) (d : Option Nat) (v : V) : List V := match d with | none => σ | some d => sets σ d v
theorem setDst_eq (σ : List V) (d : Option Nat) (v : V) (K : List V → Prop) : setDst σ d v K ↔ K (putV σ d v) := by
  cases d with
  | none => exact Iff.rfl
  | some d => exact (normV_eq v fun v => forceL (sets σ d v) K).trans (forceL_eq _ _)

/-- A new block is behind the others. -/
theorem fresh_ext {E : Env} {o : Op} (h : clsOp E o = some 5) {σ : List V} {H : List Blk} {K : V → List V → List Blk → Prop} (hk : aop E σ H o K) : aop E σ H o fun v σ' H' => K v σ' H' ∧ ∃ bs, H' = H ++ bs := by
  cases o <;> first | (simp [clsOp] at h; done) | skip
  case alloc T =>
    unfold aop at hk ⊢
    dsimp only at hk ⊢
    unfold aalloc at hk ⊢
    generalize lk E.ty T = r at hk ⊢
    rcases r with _ | t
    · exact hk.elim
    · cases t <;> dsimp only at hk ⊢ <;> obtain ⟨hb, hk⟩ := bif_ok hk <;> rw [hb] <;> simp only [cond_true, forceL_eq] at hk ⊢ <;> exact ⟨hk, _, rfl⟩
  case box T x =>
    unfold aop at hk ⊢
    dsimp only at hk ⊢
    simp only [forceV_eq] at hk ⊢
    unfold abox at hk ⊢
    generalize ev E σ x = v at hk ⊢
    generalize lk E.ty T = r at hk ⊢
    rcases r with _ | t
    · exact hk.elim
    · have other : (bif v.isCell && Nat.beq t.size 1 then forceL (H ++ [.cells [v]]) (K (.ptr H.length 1 0 0) σ) else False) → (bif v.isCell && Nat.beq t.size 1 then forceL (H ++ [.cells [v]]) (fun H' => K (.ptr H.length 1 0 0) σ H' ∧ ∃ bs, H' = H ++ bs) else False) := fun hk => by
        obtain ⟨hb, hk⟩ := bif_ok hk
        rw [hb]
        simp only [cond_true, forceL_eq] at hk ⊢
        exact ⟨hk, _, rfl⟩
      have agg : ∀ cs, (bif Nat.blt 0 t.size && allCells cs && Nat.beq cs.length t.size then forceL (H ++ [.cells cs]) (K (.ptr H.length 1 0 0) σ) else False) → (bif Nat.blt 0 t.size && allCells cs && Nat.beq cs.length t.size then forceL (H ++ [.cells cs]) (fun H' => K (.ptr H.length 1 0 0) σ H' ∧ ∃ bs, H' = H ++ bs) else False) := fun cs hk => by
        obtain ⟨hb, hk⟩ := bif_ok hk
        rw [hb]
        simp only [cond_true, forceL_eq] at hk ⊢
        exact ⟨hk, _, rfl⟩
      cases t <;> dsimp only at hk ⊢ <;> first
        | (cases v <;> first | exact agg _ hk | exact other hk)
        | skip
      obtain ⟨hb, hk⟩ := bif_ok hk
      rw [hb]
      simp only [cond_true]
      unfold asArr at hk ⊢
      split at hk <;> first | exact hk.elim | skip
      rw [castK_iff] at hk ⊢
      obtain ⟨e, h1, h2⟩ := hk
      refine ⟨e, h1, ?_⟩
      simp only [forceL_eq] at h2 ⊢
      exact ⟨h2, _, rfl⟩
  case buildSlice T n ps =>
    unfold aop at hk ⊢
    dsimp only at hk ⊢
    obtain ⟨hb, hk⟩ := bif_ok hk
    rw [hb]
    simp only [cond_true]
    have hp : Point (fun K : List V → Prop => evs E σ (ps.toList.map (·.2)) K) := .evs (f := fun vs K => K vs) fun vs => .ret vs
    obtain ⟨vs, h1, h2⟩ := hp _ hk
    refine h2 _ ?_
    unfold abuildSlice at h1 ⊢
    generalize lk E.ty T = r at h1 ⊢
    rcases r with _ | t
    · exact h1.elim
    · cases t <;> first | exact h1.elim | skip
      rename_i t
      have other : (bif Nat.ble (vs.length * t.size) 16777216 then asEls t vs fun f xs => forceL (H ++ [.row (t.flat || f) t xs]) (K (.own t H.length) σ) else False) → (bif Nat.ble (vs.length * t.size) 16777216 then asEls t vs fun f xs => forceL (H ++ [.row (t.flat || f) t xs]) (fun H' => K (.own t H.length) σ H' ∧ ∃ bs, H' = H ++ bs) else False) := fun hk => by
        obtain ⟨hb, hk⟩ := bif_ok hk
        rw [hb]
        simp only [cond_true]
        have hp : Point (fun K : Bool × List t.D → Prop => asEls t vs fun f xs => K (f, xs)) := .asEls (f := fun f xs K => K (f, xs)) fun f xs => .ret _
        obtain ⟨⟨f, xs⟩, h3, h4⟩ := hp (fun p => forceL (H ++ [.row (t.flat || p.1) t p.2]) (K (.own t H.length) σ)) hk
        refine h4 (fun p => forceL (H ++ [.row (t.flat || p.1) t p.2]) (fun H' => K (.own t H.length) σ H' ∧ ∃ bs, H' = H ++ bs)) ?_
        simp only [forceL_eq] at h3 ⊢
        exact ⟨h3, _, rfl⟩
      cases t <;> first | exact other h1 | skip
      dsimp only at h1 ⊢
      obtain ⟨hb, h1⟩ := bif_ok h1
      rw [hb]
      simp only [cond_true, forceL_eq] at h1 ⊢
      exact ⟨h1, _, rfl⟩
  case makeSlice T l c =>
    unfold aop at hk ⊢
    dsimp only at hk ⊢
    split at hk <;> first | exact hk.elim | skip
    refine ⟨hk.1, ?_⟩
    have hk := hk.2
    simp only [forceL_eq] at hk ⊢
    exact ⟨hk, _, rfl⟩
  case binOp op T x y yT =>
    exfalso
    simp only [clsOp] at h
    split at h <;> simp at h
  case call c =>
    obtain ⟨callee, args, tys⟩ := c
    cases callee <;> first | (simp [clsOp] at h; done) | skip
    rename_i b
    cases b <;> simp [clsOp] at h

/-- Where an operation of this class can be done elsewhere: on the same blocks, or on others that agree in what it looks at. -/
def Else (E : Env) (o : Op) (c : Nat) (qt : Prop) (σ : List V) (H H1 H2 H3 : List Blk) : Prop :=
  (H2 = H ∧ (2 ≤ c → H3 = H1) ∧ (c ≤ 1 → H3 = H2)) ∨ (c = 0 ∧ H3 = H2) ∨ (c = 1 ∧ Agr1 E o σ H H2 ∧ H3 = H2) ∨ (c = 2 ∧ qt ∧ HLe H H2 ∧ H3 = H2)

theorem op_pt {E : Env} (hd : DetE E) {o : Op} {c : Nat} (hc : clsOp E o = some c) {σ : List V} {H : List Blk} {K : V → List V → List Blk → Prop} (h : aop E σ H o K) :
    ∃ v σ1 H1, K v σ1 H1 ∧ (c ≠ 4 → σ1 = σ) ∧ (c ≤ 1 → H1 = H) ∧ (c = 2 → ∃ bs, H1 = H ++ bs) ∧ (c = 5 → ∃ bs, H1 = H ++ bs) ∧
      ∀ σ2 H2 H3 (K' : V → List V → List Blk → Prop), (c ≠ 4 → Agree E o σ σ2) → (c = 4 → σ2 = σ) → Else E o c (H1 = H ∧ v.noIds = true) σ H H1 H2 H3 → K' v (if c = 4 then σ1 else σ2) H3 → aop E σ2 H2 o K' := by
  have hself : Agree E o σ σ := fun _ _ => rfl
  have hle := cls_lt hc
  rcases (by omega : c = 0 ∨ c = 1 ∨ c = 2 ∨ (c = 3 ∨ c = 5) ∨ c = 4) with h0 | h0 | h0 | h0 | h0
  · subst h0
    obtain ⟨F, hF, he⟩ := cls0 hc σ
    rw [he σ H K hself] at h
    obtain ⟨v, h1, h2⟩ := hF _ h
    refine ⟨v, σ, H, h1, fun _ => rfl, fun _ => rfl, by simp, by simp, fun σ2 H2 H3 K' ha _ hel hk => ?_⟩
    have e : H3 = H2 := by
      rcases hel with ⟨_, _, h⟩ | ⟨_, h⟩ | ⟨h, _⟩ | ⟨h, _⟩
      · exact h (by omega)
      · exact h
      · omega
      · omega
    subst e
    rw [he σ2 H3 K' (ha (by simp))]
    exact h2 _ (by simpa using hk)
  · subst h0
    obtain ⟨v, h1, h2⟩ := cls1b hc h
    refine ⟨v, σ, H, h1, fun _ => rfl, fun _ => rfl, by simp, by simp, fun σ2 H2 H3 K' ha _ hel hk => ?_⟩
    have e : H3 = H2 ∧ Agr1 E o σ H H2 := by
      rcases hel with ⟨h, _, h'⟩ | ⟨h, _⟩ | ⟨_, h, h'⟩ | ⟨h, _⟩
      · exact ⟨h' (by omega), by rw [h]; exact fun _ _ _ _ _ => rfl⟩
      · omega
      · exact ⟨h', h⟩
      · omega
    obtain ⟨rfl, hr⟩ := e
    exact h2 σ2 _ K' (ha (by simp)) hr (by simpa using hk)
  · subst h0
    have hh := h
    obtain ⟨F, _, hF, he⟩ := cls2 hd hc σ H
    rw [he σ K hself] at h
    obtain ⟨v, bs, h1, h2⟩ := hF _ h
    refine ⟨v, σ, H ++ bs, h1, fun _ => rfl, by simp, fun _ => ⟨bs, rfl⟩, by simp, fun σ2 H2 H3 K' ha _ hel hk => ?_⟩
    rcases hel with ⟨e, h3, _⟩ | ⟨h, _⟩ | ⟨h, _⟩ | ⟨_, ⟨hq, hv⟩, hle, e⟩
    · subst e
      have := h3 (by omega)
      subst this
      rw [he σ2 K' (ha (by simp))]
      exact h2 _ (by simpa using hk)
    · omega
    · omega
    · subst e
      have e1 : aop E σ H o fun v' σ' H' => v' = v ∧ H' = H := by
        rw [he σ _ hself]
        exact h2 _ ⟨rfl, hq⟩
      exact cls2b hd hc hv e1 σ2 _ K' (ha (by simp)) hle (by simpa using hk)
  · have hc' : clsOp E o = some 3 ∨ clsOp E o = some 5 := by rcases h0 with h0 | h0 <;> subst h0 <;> simp [hc]
    have hh : ∃ (v : V) (H1 : List Blk), K v σ H1 ∧ (c = 5 → ∃ bs, H1 = H ++ bs) ∧ ∀ σ2 (K' : V → List V → List Blk → Prop), Agree E o σ σ2 → K' v σ2 H1 → aop E σ2 H o K' := by
      obtain ⟨F, hF, he⟩ := cls3 hc' σ H
      rcases h0 with h0 | h0
      · rw [he σ K hself] at h
        obtain ⟨⟨v, H1⟩, h1, h2⟩ := hF _ h
        exact ⟨v, H1, h1, fun e => by omega, fun σ2 K' ha hk => by rw [he σ2 K' ha]; exact h2 _ hk⟩
      · subst h0
        have h := fresh_ext hc h
        rw [he σ _ hself] at h
        obtain ⟨⟨v, H1⟩, h1, h2⟩ := hF _ h
        exact ⟨v, H1, h1.1, fun _ => h1.2, fun σ2 K' ha hk => by rw [he σ2 K' ha]; exact h2 _ hk⟩
    obtain ⟨v, H1, h1, h5, h2⟩ := hh
    refine ⟨v, σ, H1, h1, fun _ => rfl, fun hx => by omega, fun hx => by omega, h5, fun σ2 H2 H3 K' ha _ hel hk => ?_⟩
    rcases hel with ⟨e, h3, _⟩ | ⟨h, _⟩ | ⟨h, _⟩ | ⟨h, _⟩ <;> try omega
    subst e
    have := h3 (by omega)
    subst this
    exact h2 σ2 K' (ha (by omega)) (by rw [if_neg (by omega)] at hk; exact hk)
  · subst h0
    obtain ⟨⟨v, σ1, H1⟩, h1, h2⟩ := cls4 hc σ H (fun p => K p.1 p.2.1 p.2.2) h
    refine ⟨v, σ1, H1, h1, by simp, by simp, by simp, by simp, fun σ2 H2 H3 K' _ hσ hel hk => ?_⟩
    rcases hel with ⟨e, h3, _⟩ | ⟨h, _⟩ | ⟨h, _⟩ | ⟨h, _⟩ <;> try omega
    subst e
    have := h3 (by omega)
    subst this
    have := hσ rfl
    subst this
    exact h2 (fun p => K' p.1 p.2.1 p.2.2) (by simpa using hk)

theorem mem_tmpsOf {t : Nat} : ∀ {l : List Operand}, Operand.tmp t ∈ l → t ∈ tmpsOf l
  | x :: l, h => by
    rcases List.mem_cons.1 h with h | h
    · subst h; simp [tmpsOf]
    · have := mem_tmpsOf h
      cases x <;> simp [tmpsOf, this]
theorem Agree.of {E : Env} {all : List Oper} {o : Oper} {σ σ2 : List V} (h : ∀ t ∈ looks all o, gets σ2 t = gets σ t) : Agree E o.op σ σ2 := fun x hx => by
  cases x with
  | tmp t =>
    refine h t ?_
    have := mem_tmpsOf hx
    unfold looks
    split
    · split
      · exact List.mem_cons_of_mem _ this
      · exact this
    · exact this
  | const v => cases v <;> rfl
  | _ => rfl

theorem oper_pt {E : Env} (hd : DetE E) {all : List Oper} {o : Oper} {c : Nat} (hc : clsOp E o.op = some c) {σ : List V} {H : List Blk} {K : V → List V → List Blk → Prop} {N : Prop} (hN : N → K .nope σ H)
    (h : aguard all σ o.guard (aop E σ H o.op K) N) :
    ∃ v σ1 H1, K v σ1 H1 ∧ (c ≠ 4 → σ1 = σ) ∧ (c ≤ 1 → H1 = H) ∧ (c = 2 → ∃ bs, H1 = H ++ bs) ∧ (c = 5 → ∃ bs, H1 = H ++ bs) ∧
      ∀ σ2 H2 H3 (K' : V → List V → List Blk → Prop), (c ≠ 4 → ∀ t ∈ looks all o, gets σ2 t = gets σ t) → (c = 4 → σ2 = σ) → Else E o.op c (H1 = H ∧ v.noIds = true) σ H H1 H2 H3 → K' v (if c = 4 then σ1 else σ2) H3 →
        aguard all σ2 o.guard (aop E σ2 H2 o.op K') (K' .nope σ2 H2) := by
  have yes : aop E σ H o.op K → ∃ v σ1 H1, K v σ1 H1 ∧ (c ≠ 4 → σ1 = σ) ∧ (c ≤ 1 → H1 = H) ∧ (c = 2 → ∃ bs, H1 = H ++ bs) ∧ (c = 5 → ∃ bs, H1 = H ++ bs) ∧
      ∀ σ2 H2 H3 (K' : V → List V → List Blk → Prop), (c ≠ 4 → ∀ t ∈ looks all o, gets σ2 t = gets σ t) → (c = 4 → σ2 = σ) → Else E o.op c (H1 = H ∧ v.noIds = true) σ H H1 H2 H3 → K' v (if c = 4 then σ1 else σ2) H3 → aop E σ2 H2 o.op K' := fun h => by
    obtain ⟨v, σ1, H1, h1, h2, h3, h4, h6, h5⟩ := op_pt hd hc h
    exact ⟨v, σ1, H1, h1, h2, h3, h4, h6, fun σ2 H2 H3 K' ha => h5 σ2 H2 H3 K' fun hn => Agree.of (ha hn)⟩
  have no : N → ∃ v σ1 H1, K v σ1 H1 ∧ (c ≠ 4 → σ1 = σ) ∧ (c ≤ 1 → H1 = H) ∧ (c = 2 → ∃ bs, H1 = H ++ bs) ∧ (c = 5 → ∃ bs, H1 = H ++ bs) ∧
      ∀ σ2 H2 H3 (K' : V → List V → List Blk → Prop), (c ≠ 4 → ∀ t ∈ looks all o, gets σ2 t = gets σ t) → (c = 4 → σ2 = σ) → Else E o.op c (H1 = H ∧ v.noIds = true) σ H H1 H2 H3 → K' v (if c = 4 then σ1 else σ2) H3 → K' .nope σ2 H2 := fun h => by
    refine ⟨.nope, σ, H, hN h, fun _ => rfl, fun _ => rfl, fun _ => ⟨[], by simp⟩, fun _ => ⟨[], by simp⟩, fun σ2 H2 H3 K' _ h1 hel hk => ?_⟩
    have e1 : (if c = 4 then σ else σ2) = σ2 := by split <;> simp_all
    have e2 : H3 = H2 := by
      rcases hel with ⟨e, h3, h4⟩ | ⟨_, h⟩ | ⟨_, _, h⟩ | ⟨_, _, _, h⟩
      · by_cases hc2 : 2 ≤ c
        · rw [h3 hc2, e]
        · exact h4 (by omega)
      · exact h
      · exact h
      · exact h
    rwa [e1, e2] at hk
  unfold aguard at h ⊢
  cases hg : o.guard with
  | none => rw [hg] at h; exact yes h
  | some g =>
    obtain ⟨j, w⟩ := g
    rw [hg] at h
    dsimp only at h ⊢
    cases hj : (all[j]?).bind (·.dst) with
    | none => rw [hj] at h; exact h.elim
    | some t =>
      rw [hj] at h
      dsimp only at h ⊢
      have hlook : t ∈ looks all o := by unfold looks; rw [hg]; dsimp only; rw [hj]; exact List.mem_cons_self
      generalize ht : gets σ t = vt at h
      cases vt <;> first | exact h.elim | skip
      case nope =>
        have same : ∀ σ2, (c ≠ 4 → ∀ t ∈ looks all o, gets σ2 t = gets σ t) → (c = 4 → σ2 = σ) → gets σ2 t = .nope := fun σ2 h1 h2 => by
          by_cases h4 : c = 4
          · rw [h2 h4, ht]
          · rw [h1 h4 t hlook, ht]
        obtain ⟨v, σ1, H1, h1, h2, h3, h4, h6, h5⟩ := no h
        exact ⟨v, σ1, H1, h1, h2, h3, h4, h6, fun σ2 H2 H3 K' a b c d => by rw [same σ2 a b]; exact h5 σ2 H2 H3 K' a b c d⟩
      case bt x =>
        have same : ∀ σ2, (c ≠ 4 → ∀ t ∈ looks all o, gets σ2 t = gets σ t) → (c = 4 → σ2 = σ) → gets σ2 t = .bt x := fun σ2 h1 h2 => by
          by_cases h4 : c = 4
          · rw [h2 h4, ht]
          · rw [h1 h4 t hlook, ht]
        cases x <;> cases w <;> dsimp only at h
        · obtain ⟨v, σ1, H1, h1, h2, h3, h4, h6, h5⟩ := yes h
          exact ⟨v, σ1, H1, h1, h2, h3, h4, h6, fun σ2 H2 H3 K' a b c d => by rw [same σ2 a b]; exact h5 σ2 H2 H3 K' a b c d⟩
        · obtain ⟨v, σ1, H1, h1, h2, h3, h4, h6, h5⟩ := no h
          exact ⟨v, σ1, H1, h1, h2, h3, h4, h6, fun σ2 H2 H3 K' a b c d => by rw [same σ2 a b]; exact h5 σ2 H2 H3 K' a b c d⟩
        · obtain ⟨v, σ1, H1, h1, h2, h3, h4, h6, h5⟩ := no h
          exact ⟨v, σ1, H1, h1, h2, h3, h4, h6, fun σ2 H2 H3 K' a b c d => by rw [same σ2 a b]; exact h5 σ2 H2 H3 K' a b c d⟩
        · obtain ⟨v, σ1, H1, h1, h2, h3, h4, h6, h5⟩ := yes h
          exact ⟨v, σ1, H1, h1, h2, h3, h4, h6, fun σ2 H2 H3 K' a b c d => by rw [same σ2 a b]; exact h5 σ2 H2 H3 K' a b c d⟩
      rename_i p
      have same : ∀ σ2, (c ≠ 4 → ∀ t ∈ looks all o, gets σ2 t = gets σ t) → (c = 4 → σ2 = σ) → gets σ2 t = .b p := fun σ2 h1 h2 => by
        by_cases h4 : c = 4
        · rw [h2 h4, ht]
        · rw [h1 h4 t hlook, ht]
      by_cases hp : p <;> cases w <;> dsimp only at h
      · obtain ⟨v, σ1, H1, h1, h2, h3, h4, h6, h5⟩ := no (h.2 hp)
        exact ⟨v, σ1, H1, h1, h2, h3, h4, h6, fun σ2 H2 H3 K' a b c d => by rw [same σ2 a b]; exact ⟨fun hn => absurd hp hn, fun _ => h5 σ2 H2 H3 K' a b c d⟩⟩
      · obtain ⟨v, σ1, H1, h1, h2, h3, h4, h6, h5⟩ := yes (h.1 hp)
        exact ⟨v, σ1, H1, h1, h2, h3, h4, h6, fun σ2 H2 H3 K' a b c d => by rw [same σ2 a b]; exact ⟨fun _ => h5 σ2 H2 H3 K' a b c d, fun hn => absurd hp hn⟩⟩
      · obtain ⟨v, σ1, H1, h1, h2, h3, h4, h6, h5⟩ := yes (h.1 hp)
        exact ⟨v, σ1, H1, h1, h2, h3, h4, h6, fun σ2 H2 H3 K' a b c d => by rw [same σ2 a b]; exact ⟨fun _ => h5 σ2 H2 H3 K' a b c d, fun hn => absurd hn hp⟩⟩
      · obtain ⟨v, σ1, H1, h1, h2, h3, h4, h6, h5⟩ := no (h.2 hp)
        exact ⟨v, σ1, H1, h1, h2, h3, h4, h6, fun σ2 H2 H3 K' a b c d => by rw [same σ2 a b]; exact ⟨fun hn => absurd hn hp, fun _ => h5 σ2 H2 H3 K' a b c d⟩⟩

/-- One step of the lexical walk, and that it can be done elsewhere. -/
def LStep (E : Env) (all : List Oper) (k : Nat) (σ : List V) (H : List Blk) (σ' : List V) (H' : List Blk) : Prop := ∀ o, all[k]? = some o → ∃ c v σ1, clsOp E o.op = some c ∧ σ' = putV σ1 o.dst v ∧ (c ≠ 4 → σ1 = σ) ∧ (c ≤ 1 → H' = H) ∧ (need E all k = true → c = 2 → H' = H) ∧ (c = 5 → ∃ bs, H' = H ++ bs) ∧
  ∀ σ2 H2 H3 (K' : List V → List Blk → Prop), (c ≠ 4 → ∀ t ∈ looks all o, gets σ2 t = gets σ t) → (c = 4 → σ2 = σ) → Else E o.op c (need E all k = true) σ H H' H2 H3 → K' (putV (if c = 4 then σ1 else σ2) o.dst v) H3 → aopAt E all o σ2 H2 K'

theorem trace {E : Env} (hd : DetE E) {all : List Oper} : ∀ (l : List Oper) (k : Nat) (σ : List V) (H : List Blk) (K : List V → List Blk → Prop), (∀ j, l[j]? = all[k + j]?) → (∀ o ∈ l, clsOp E o.op ≠ none) → aopsD E all k l σ H K →
    ∃ (S : Nat → List V) (Hs : Nat → List Blk), S k = σ ∧ Hs k = H ∧ K (S (k + l.length)) (Hs (k + l.length)) ∧ ∀ j, k ≤ j → j < k + l.length → LStep E all j (S j) (Hs j) (S (j + 1)) (Hs (j + 1))
  | [], k, σ, H, K, _, _, h => ⟨fun _ => σ, fun _ => H, rfl, rfl, h, fun j h1 h2 => by simp at h2; omega⟩
  | o :: l, k, σ, H, K, hl, hcl, h => by
    have h0 : all[k]? = some o := by simpa using (hl 0).symm
    cases hc : clsOp E o.op with
    | none => exact absurd hc (hcl o (by simp))
    | some c =>
    have hstep : ∃ v σ1 H1, aopsD E all (k + 1) l (putV σ1 o.dst v) H1 K ∧ LStep E all k σ H (putV σ1 o.dst v) H1 := by
      unfold aopsD at h
      rw [hc] at h
      by_cases h2 : c = 2
      · subst h2
        have h' : aguard all σ o.guard (aop E σ H o.op fun v σ H' => (bif !(need E all k) || (Nat.beq H'.length H.length && v.noIds) then setDst σ o.dst v fun σ => aopsD E all (k + 1) l σ H' K else False)) (setDst σ o.dst .nope fun σ => aopsD E all (k + 1) l σ H K) := h
        obtain ⟨v, σ1, H1, h1, h2, h3, h4, h6, h5⟩ := oper_pt hd hc (fun hn => by simpa [V.noIds] using hn) h'
        obtain ⟨bs, hbs⟩ := h4 rfl
        have hb := bif_ok h1
        obtain ⟨hb, hk⟩ := hb
        have hq : need E all k = true → H1 = H ∧ v.noIds = true := fun hn => by
          rw [hn] at hb
          simp only [Bool.not_true, Bool.false_or, Bool.and_eq_true] at hb
          have := beq_ok hb.1
          rw [hbs, List.length_append] at this
          have : bs = [] := List.eq_nil_of_length_eq_zero (by omega)
          exact ⟨by rw [hbs, this, List.append_nil], hb.2⟩
        refine ⟨v, σ1, H1, (setDst_eq _ _ _ _).1 hk, fun o' ho' => ?_⟩
        have : o' = o := Option.some.inj (ho'.symm.trans h0)
        subst this
        refine ⟨2, v, σ1, hc, rfl, h2, h3, fun hn _ => (hq hn).1, h6, fun σ2 H2 H3 K' a b c' d => ?_⟩
        unfold aopAt
        refine h5 σ2 H2 H3 (fun v σ H => setDst σ o'.dst v fun σ => K' σ H) a b ?_ ?_
        · rcases c' with c' | c' | c' | ⟨c1, c2, c3⟩
          · exact .inl c'
          · exact .inr (.inl c')
          · exact .inr (.inr (.inl c'))
          · exact .inr (.inr (.inr ⟨c1, hq c2, c3⟩))
        · exact (setDst_eq _ _ _ _).2 d
      · have h' : aguard all σ o.guard (aop E σ H o.op fun v σ H' => setDst σ o.dst v fun σ => aopsD E all (k + 1) l σ H' K) (setDst σ o.dst .nope fun σ => aopsD E all (k + 1) l σ H K) := by
          have hle := cls_lt hc
          rcases (by omega : c = 0 ∨ c = 1 ∨ c = 3 ∨ c = 4 ∨ c = 5) with h0 | h0 | h0 | h0 | h0 <;> subst h0 <;> exact h
        obtain ⟨v, σ1, H1, h1, h2', h3, h4, h6, h5⟩ := oper_pt hd hc (fun hn => hn) h'
        refine ⟨v, σ1, H1, (setDst_eq _ _ _ _).1 h1, fun o' ho' => ?_⟩
        have : o' = o := Option.some.inj (ho'.symm.trans h0)
        subst this
        refine ⟨c, v, σ1, hc, rfl, h2', h3, fun _ hx => absurd hx h2, h6, fun σ2 H2 H3 K' a b c' d => ?_⟩
        unfold aopAt
        refine h5 σ2 H2 H3 (fun v σ H => setDst σ o'.dst v fun σ => K' σ H) a b ?_ ?_
        · rcases c' with c' | c' | c' | ⟨c1, _⟩
          · exact .inl c'
          · exact .inr (.inl c')
          · exact .inr (.inr (.inl c'))
          · exact absurd c1 h2
        · exact (setDst_eq _ _ _ _).2 d
    obtain ⟨v, σ1, H1, hr, hs⟩ := hstep
    obtain ⟨S, Hs, e1, e2, e3, e4⟩ := trace hd l (k + 1) _ _ K (fun j => by have := hl (j + 1); simpa [Nat.add_assoc, Nat.add_comm 1 j] using this) (fun o ho => hcl o (by simp [ho])) hr
    refine ⟨fun j => if j ≤ k then σ else S j, fun j => if j ≤ k then H else Hs j, by simp, by simp, ?_, fun j h1 h2 => ?_⟩
    · have : ¬ (k + (o :: l).length ≤ k) := by simp
      dsimp only
      rw [if_neg this, if_neg this]
      have e : k + (o :: l).length = k + 1 + l.length := by simp; omega
      rw [e]
      exact e3
    · by_cases hj : j = k
      · subst hj
        simp only [Nat.le_refl, if_true]
        rw [if_neg (by omega), if_neg (by omega), e1, e2]
        exact hs
      · dsimp only
        rw [if_neg (by omega), if_neg (by omega), if_neg (by omega), if_neg (by omega)]
        exact e4 j (by omega) (by simp at h2; omega)

/-! ### The check -/
/-- Closed under what an operation waits for. -/
def Clo (all : List Oper) (L : Nat → Prop) : Prop := ∀ j o, all[j]? = some o → L j → ∀ e ∈ o.after, Region.binds .any e = true → L e.on
def Bef (all : List Oper) (i j : Nat) : Prop := ∀ L, Clo all L → L j → L i

theorem edgeM_ok {all : List Oper} {acc : List Nat} (ha : ∀ j i, Nat.testBit (getN acc j) i = true → Bef all i j) {k : Nat} {o : Oper} (ho : all[k]? = some o) : ∀ (l : List Edge), (∀ e ∈ l, e ∈ o.after) → ∀ i, Nat.testBit (edgeM acc l) i = true → Bef all i k
  | [], _, i, h => by simp [edgeM] at h
  | e :: l, hl, i, h => by
    unfold edgeM at h
    cases hb : Region.binds .any e with
    | false => rw [hb] at h; exact edgeM_ok ha ho l (fun e he => hl e (by simp [he])) i h
    | true =>
      rw [hb] at h
      simp only [cond_true] at h
      have h' : Nat.testBit ((2 ^ e.on ||| getN acc e.on) ||| edgeM acc l) i = true := h
      rw [Nat.testBit_or, Nat.testBit_or, Bool.or_eq_true, Bool.or_eq_true] at h'
      have hon : Bef all e.on k := fun L hL hk => hL k o ho hk e (hl e (by simp)) hb
      rcases h' with (h' | h') | h'
      · have : e.on = i := by
          by_cases hh : e.on = i
          · exact hh
          · rw [Nat.testBit_two_pow_of_ne hh] at h'; cases h'
        subst this
        exact hon
      · exact fun L hL hk => ha _ _ h' L hL (hon L hL hk)
      · exact edgeM_ok ha ho l (fun e he => hl e (by simp [he])) i h'

theorem getN_append (l : List Nat) (x : Nat) : ∀ j, getN (l ++ [x]) j = if j = l.length then x else getN l j := by
  induction l with
  | nil => intro j; cases j <;> simp [getN]
  | cons y l ih => intro j; cases j with
    | zero => simp [getN]
    | succ j => simp [getN, ih]

theorem masksGo_ok {all : List Oper} : ∀ (l : List Oper) (acc : List Nat), (∀ j, l[j]? = all[acc.length + j]?) → (∀ j i, Nat.testBit (getN acc j) i = true → Bef all i j) → ∀ j i, Nat.testBit (getN (masksGo l acc) j) i = true → Bef all i j
  | [], acc, _, ha => ha
  | o :: l, acc, hl, ha => by
    have h0 : all[acc.length]? = some o := by simpa using (hl 0).symm
    refine masksGo_ok l _ (fun j => by have := hl (j + 1); simpa [Nat.add_assoc, Nat.add_comm 1 j] using this) fun j i h => ?_
    rw [getN_append] at h
    by_cases hj : j = acc.length
    · subst hj
      rw [if_pos rfl] at h
      exact edgeM_ok ha h0 _ (fun e he => by simpa using he) i h
    · rw [if_neg hj] at h
      exact ha j i h
theorem bef_ok {all : List Oper} {i j : Nat} (h : bef (masksGo all []) i j = true) : Bef all i j :=
  masksGo_ok all [] (by simp) (fun j i h => by cases j <;> simp [getN] at h) j i h

theorem inL_ok {l : List Nat} {n : Nat} : inL l n = false → n ∉ l := by
  induction l with
  | nil => simp
  | cons x l ih =>
    intro h
    simp only [inL, Bool.or_eq_false_iff] at h
    have h2 := ih h.2
    intro hm
    rcases List.mem_cons.1 hm with e | e
    · subst e
      rw [Nat.beq_refl] at h
      simp at h
    · exact h2 e

structure Pair (E : Env) (all : List Oper) (i : Nat) (x : Oper) (j : Nat) (y : Oper) : Prop where
  bx : clsOp E x.op ≠ some 4
  by' : clsOp E y.op ≠ some 4
  q : clsOp E x.op = some 0 ∨ clsOp E y.op = some 0 ∨ (quietB E all i x = true ∧ quietB E all j y = true) ∨ (quietB E all i x = true ∧ clsOp E y.op = some 5) ∨ (clsOp E x.op = some 5 ∧ clsOp E y.op = some 1)
  a1 : ∀ d, x.dst = some d → d ∉ looks all y
  a2 : ∀ d, x.dst = some d → y.dst ≠ some d
  a3 : ∀ d, y.dst = some d → d ∉ looks all x

theorem pairOk_ok {E : Env} {all : List Oper} {i j : Nat} {x y : Oper} (h : pairOk E all (masksGo all []) i x j y = true) : Bef all i j ∨ Pair E all i x j y := by
  unfold pairOk at h
  rw [Bool.or_eq_true] at h
  rcases h with h | h
  · exact .inl (bef_ok h)
  · simp only [Bool.and_eq_true, Bool.or_eq_true, Bool.not_eq_true'] at h
    obtain ⟨⟨⟨h1, h2⟩, h3⟩, h4⟩ := h
    have hT : ∀ {o : Oper}, isT E o = true → clsOp E o.op = some 0 := fun {o} h => by
      unfold isT at h
      split at h
      · assumption
      · cases h
    have hB : ∀ {o : Oper}, isBar E o = false → clsOp E o.op ≠ some 4 := fun {o} h h' => by simp [isBar, h'] at h
    unfold apartB at h4
    rw [Bool.and_eq_true] at h4
    obtain ⟨h4, h5⟩ := h4
    refine .inr ⟨hB h1, hB h2, ?_, fun d hx => ?_, fun d hx hy => ?_, fun d hy => ?_⟩
    · have hF : ∀ {o : Oper}, isF E o = true → clsOp E o.op = some 5 := fun {o} h => by
        unfold isF at h
        split at h
        · assumption
        · cases h
      have h1' : ∀ {o : Oper}, is1 E o = true → clsOp E o.op = some 1 := fun {o} h => by
        unfold is1 at h
        split at h
        · assumption
        · cases h
      rcases h3 with (((h3 | h3) | h3) | h3) | h3
      · exact .inl (hT h3)
      · exact .inr (.inl (hT h3))
      · exact .inr (.inr (.inl h3))
      · exact .inr (.inr (.inr (.inl ⟨h3.1, hF h3.2⟩)))
      · exact .inr (.inr (.inr (.inr ⟨hF h3.1, h1' h3.2⟩)))
    · rw [hx] at h4
      simp only [Bool.and_eq_true, Bool.not_eq_true'] at h4
      exact inL_ok h4.1
    · rw [hx, hy] at h4
      simp only [Bool.and_eq_true, Bool.not_eq_true'] at h4
      rw [Nat.beq_refl] at h4
      simp at h4
    · rw [hy] at h5
      simp only [Bool.not_eq_true'] at h5
      exact inL_ok h5

theorem pairsI_ok {E : Env} {all : List Oper} {ms : List Nat} {j : Nat} {y : Oper} : ∀ (l : List Oper) (i0 : Nat), (∀ k, l[k]? = all[i0 + k]?) → pairsI E all ms j y i0 l = true → ∀ i x, i0 ≤ i → i < j → all[i]? = some x → pairOk E all ms i x j y = true
  | [], i0, hl, _, i, x, h1, h2, hx => by
    have := hl (i - i0)
    rw [show i0 + (i - i0) = i by omega, hx] at this
    simp at this
  | z :: l, i0, hl, h, i, x, h1, h2, hx => by
    unfold pairsI at h
    cases hb : Nat.beq i0 j with
    | true => have := beq_ok hb; omega
    | false =>
      rw [hb] at h
      simp only [cond_false, Bool.and_eq_true] at h
      by_cases hi : i = i0
      · subst hi
        have : all[i]? = some z := by simpa using (hl 0).symm
        have : x = z := Option.some.inj (hx.symm.trans this)
        subst this
        exact h.1
      · exact pairsI_ok l (i0 + 1) (fun k => by have := hl (k + 1); simpa [Nat.add_assoc, Nat.add_comm 1 k] using this) h.2 i x (by omega) h2 hx

theorem edgesOk_ok {j : Nat} : ∀ {l : List Edge}, edgesOk j l = true → ∀ e ∈ l, e.on < j
  | e :: l, h, e', he => by
    simp only [edgesOk, Bool.and_eq_true] at h
    rcases List.mem_cons.1 he with h' | h'
    · subst h'; simpa [Nat.blt_eq] using h.1
    · exact edgesOk_ok h.2 e' h'

theorem pairsJ_ok {E : Env} {all : List Oper} {ms : List Nat} : ∀ (l : List Oper) (j0 : Nat), (∀ k, l[k]? = all[j0 + k]?) → pairsJ E all ms j0 l = true → ∀ j y, j0 ≤ j → all[j]? = some y →
    clsOp E y.op ≠ none ∧ (∀ e ∈ y.after, e.on < j) ∧ ∀ i x, i < j → all[i]? = some x → pairOk E all ms i x j y = true
  | [], j0, hl, _, j, y, h1, hy => by
    have := hl (j - j0)
    rw [show j0 + (j - j0) = j by omega, hy] at this
    simp at this
  | z :: l, j0, hl, h, j, y, h1, hy => by
    unfold pairsJ at h
    simp only [Bool.and_eq_true] at h
    obtain ⟨⟨⟨ha, hb⟩, hc⟩, hd⟩ := h
    by_cases hj : j = j0
    · subst hj
      have : all[j]? = some z := by simpa using (hl 0).symm
      have : y = z := Option.some.inj (hy.symm.trans this)
      subst this
      exact ⟨fun hn => by rw [hn] at ha; simp at ha, fun e he => edgesOk_ok hb e (by simpa using he), fun i x hi hx => pairsI_ok all 0 (by simp) hc i x (by omega) hi hx⟩
    · exact pairsJ_ok l (j0 + 1) (fun k => by have := hl (k + 1); simpa [Nat.add_assoc, Nat.add_comm 1 k] using this) hd j y (by omega) hy
end Go.Proofs.Ytgljcfnplkcfhaa.Vc

namespace Go.Proofs.Ytgljcfnplkcfhaa.Vc
open Go Go.RowKit

/-- What is known of a part of the state, of which only some operations turn anything. -/
def Trk {α : Type} (n : Nat) (L W : Nat → Prop) (A : Nat → α) (cur : α) : Prop := ∀ k, k ≤ n → (∀ i, i < k → W i → L i) → (∀ i, k ≤ i → W i → ¬ L i) → cur = A k

/-- All that turn it are ordered as to this one. -/
def Cmp (all : List Oper) (W : Nat → Prop) (j : Nat) : Prop := ∀ i, W i → (i < j → Bef all i j) ∧ (j < i → Bef all j i)

section
variable {α : Type} {all : List Oper} {n : Nat} {L L' W : Nat → Prop} {A : Nat → α} {cur cur' : α} {j : Nat}

theorem Trk.read (h : Trk n L W A cur) (hc : Cmp all W j) (hj : j ≤ n) (hcl : Clo all L) (hcl' : Clo all fun i => L i ∨ i = j) (hn : ¬ L j) : cur = A j := by
  refine h j hj (fun i hi hw => ?_) fun i hi hw hL => ?_
  · rcases (hc i hw).1 hi _ hcl' (.inr rfl) with h' | h'
    · exact h'
    · omega
  · rcases Nat.lt_or_ge j i with h' | h'
    · exact hn ((hc i hw).2 h' L hcl hL)
    · have : i = j := by omega
      subst this
      exact hn hL

theorem Trk.step (h : Trk n L W A cur) (hj : j < n) (hcl : Clo all L) (hn : ¬ L j) (hA : ∀ k, k < n → ¬ W k → A (k + 1) = A k) (h1 : ¬ W j → cur' = cur) (h2 : W j → cur' = A (j + 1)) (hc : W j → Cmp all W j) : Trk n (fun i => L i ∨ i = j) W A cur' := by
  intro k hk ha hb
  by_cases hw : W j
  · have hjk : j < k := by
      rcases Nat.lt_or_ge j k with h' | h'
      · exact h'
      · exact absurd (.inr rfl) (hb j h' hw)
    have hno : ∀ i, j < i → i < k → ¬ W i := fun i h3 h4 hwi => by
      rcases ha i h4 hwi with h' | h'
      · exact hn ((hc hw i hwi).2 h3 L hcl h')
      · omega
    rw [h2 hw]
    have : ∀ d, j + 1 + d ≤ k → A (j + 1 + d) = A (j + 1) := by
      intro d
      induction d with
      | zero => intro _; rfl
      | succ d ih =>
        intro hd
        rw [← ih (by omega)]
        exact hA (j + 1 + d) (by omega) (hno _ (by omega) (by omega))
    have := this (k - (j + 1)) (by omega)
    rw [show j + 1 + (k - (j + 1)) = k by omega] at this
    exact this.symm
  · rw [h1 hw]
    refine h k hk (fun i hi hwi => ?_) fun i hi hwi hL => hb i hi hwi (.inl hL)
    rcases ha i hi hwi with h' | h'
    · exact h'
    · subst h'; exact absurd hwi hw
end

theorem gets_ext : ∀ {l l' : List V}, l.length = l'.length → (∀ t, gets l t = gets l' t) → l = l'
  | [], [], _, _ => rfl
  | x :: l, y :: l', h, hg => by
    have h0 : x = y := hg 0
    subst h0
    rw [gets_ext (l := l) (l' := l') (by simpa using h) fun t => hg (t + 1)]
  | [], _ :: _, h, _ => by simp at h
  | _ :: _, [], h, _ => by simp at h
theorem putV_length (σ : List V) (d : Option Nat) (v : V) : (putV σ d v).length = σ.length := by
  cases d with
  | none => rfl
  | some d => simp [putV, sets_eq]
theorem gets_sets_ne (v : V) : ∀ (σ : List V) {d t : Nat}, d ≠ t → gets (sets σ d v) t = gets σ t
  | [], d, t, _ => by cases d <;> rfl
  | x :: l, 0, 0, h => absurd rfl h
  | x :: l, 0, t + 1, _ => rfl
  | x :: l, d + 1, 0, _ => rfl
  | x :: l, d + 1, t + 1, h => gets_sets_ne v l (by omega)
theorem gets_sets_len (v : V) : ∀ (σ σ' : List V) (d : Nat), σ.length = σ'.length → gets (sets σ d v) d = gets (sets σ' d v) d
  | [], [], d, _ => rfl
  | x :: l, y :: l', 0, _ => rfl
  | x :: l, y :: l', d + 1, h => gets_sets_len v l l' d (by simpa using h)
  | [], _ :: _, _, h => by simp at h
  | _ :: _, [], _, h => by simp at h

def Writes (E : Env) (all : List Oper) (t i : Nat) : Prop := ∃ o, all[i]? = some o ∧ (o.dst = some t ∨ clsOp E o.op = some 4)
def Turns (E : Env) (all : List Oper) (i : Nat) : Prop := ∃ o, all[i]? = some o ∧ (clsOp E o.op = some 3 ∨ clsOp E o.op = some 4 ∨ clsOp E o.op = some 5 ∨ (clsOp E o.op = some 2 ∧ ¬ need E all i = true))
/-- All of these but the new blocks. -/
def TurnsR (E : Env) (all : List Oper) (i : Nat) : Prop := ∃ o, all[i]? = some o ∧ (clsOp E o.op = some 3 ∨ clsOp E o.op = some 4 ∨ (clsOp E o.op = some 2 ∧ ¬ need E all i = true))
theorem least {p : Nat → Prop} (h : ∃ i, p i) : ∃ k, p k ∧ ∀ i, i < k → ¬ p i := by
  obtain ⟨i, hi⟩ := h
  induction i using Nat.strongRecOn with
  | _ i ih =>
    by_cases hx : ∃ m, m < i ∧ p m
    · obtain ⟨m, h1, h2⟩ := hx; exact ih m h1 h2
    · exact ⟨i, hi, fun m hm hp => hx ⟨m, hm, hp⟩⟩
theorem getB_left : ∀ (A X : List Blk) (id : Nat), id < A.length → getB (A ++ X) id = getB A id
  | [], X, id, h => by simp at h
  | a :: A, X, 0, h => rfl
  | a :: A, X, id + 1, h => getB_left A X id (by simpa using h)
theorem lt_of_alive {A : List Blk} {id : Nat} (h : getB A id ≠ .dead) : id < A.length := by
  rcases Nat.lt_or_ge id A.length with g | g
  · exact g
  · exact absurd (getB_ge A id g) h
theorem HLe.app (A X : List Blk) : HLe A (A ++ X) := fun id h => getB_left A X id (lt_of_alive h)
theorem top_lt {c : Cx} {H : List Blk} {w : World} {x : V} {v : Value} {id : Nat} (h : VRel c H w x v) (ht : x.top id) : id < H.length := by
  cases h <;> first | exact ht.elim | skip
  · rename_i hs _ _ _
    have e := ht
    simp only [V.top] at e
    subst e
    exact shape_lt hs
  · rename_i hs _ _ _ _
    have e := ht
    simp only [V.top] at e
    subst e
    exact shape_lt hs
  · rename_i hs _ _ _
    have e := ht
    simp only [V.top] at e
    subst e
    exact shape_lt hs
def Bars (E : Env) (all : List Oper) (i : Nat) : Prop := ∃ o, all[i]? = some o ∧ clsOp E o.op = some 4

theorem countP_lt {p q : Nat → Bool} : ∀ (l : List Nat) {j : Nat}, (∀ i, q i = true → p i = true) → j ∈ l → p j = true → q j = false → l.countP q < l.countP p
  | x :: l, j, h, hj, hp, hq => by
    have hle : l.countP q ≤ l.countP p := List.countP_mono_left fun i _ => h i
    rw [List.countP_cons, List.countP_cons]
    by_cases hx : j = x
    · subst hx
      rw [hp, hq]
      simp
      omega
    · have hm : j ∈ l := by rcases List.mem_cons.1 hj with h' | h'; exact absurd h' hx; exact h'
      have := countP_lt l h hm hp hq
      have hc := h x
      cases hqx : q x <;> cases hpx : p x <;> simp [hqx, hpx] at hc ⊢ <;> omega

section
variable {E : Env} {P : Program} {S : Ses} {ro : Option Nat}

theorem Sta.drew {σ : List V} {H : List Blk} {a : Act} {w : World} (h : Sta E S σ H a w) : Sta E S σ H a { w with drawn := w.drawn + 1 } := by
  obtain ⟨c, b, v, hS, hst, hσ, hd⟩ := h
  have e : Ext c H w c H { w with drawn := w.drawn + 1 } := ⟨fun _ h => h, fun _ h => h, fun _ _ => rfl, fun _ _ h => ⟨h, rfl⟩, fun _ _ _ cur _ _ _ h => ⟨cur, h, rfl⟩, rfl, rfl⟩
  refine ⟨c, b, v, hS, ⟨hst.below.drew, ⟨hst.xk.keep, hst.xk.siz, hst.xk.cnt, hst.xk.gh, hst.xk.l, hst.xk.dis, hst.xk.xb, hst.xk.mks, hst.xk.gi⟩, hst.size, fun id => (hst.blk id).keep e (fun _ => rfl) fun _ _ => rfl, hst.inj, hst.own, hst.imm, hst.sub, fun g x hx => (hst.glob g x hx).ext e⟩, hσ.ext e, hd⟩

theorem draw_ok (hG : GlobOk E.glob) (hE : EnvOk P E) (hdet : DetE E) (hm : P.follows .mixedOrders = true) : DrawOk E P := by
  intro ops id Ss ro σ H K a w Q hok hs hops hQ
  obtain ⟨all, hall⟩ : ∃ all, all = ops.toList := ⟨_, rfl⟩
  rw [← hall] at hok hops
  obtain ⟨n, hn⟩ : ∃ n, n = all.length := ⟨_, rfl⟩
  have hstat := pairsJ_ok all 0 (fun k => by rw [Nat.zero_add]) hok
  obtain ⟨S, Hs, hS0, hH0, hKn, hstep⟩ := trace hdet all 0 σ H K (fun k => by rw [Nat.zero_add]) (fun o ho => by
    obtain ⟨i, hi⟩ := List.mem_iff_getElem?.1 ho
    exact (hstat i o (by omega) hi).1) hops
  rw [Nat.zero_add, ← hn] at hKn
  rw [Nat.zero_add, ← hn] at hstep
  have hget : ∀ i : Nat, ops[i]? = all[i]? := fun i => by rw [hall, Array.getElem?_toList]
  have hlt : ∀ {i : Nat} {o : Oper}, all[i]? = some o → i < n := fun h => by rw [hn]; exact (List.getElem?_eq_some_iff.1 h).1
  have hat : ∀ {k : Nat}, k < n → ∃ o, all[k]? = some o := fun {k} h => ⟨_, List.getElem?_eq_getElem (by omega)⟩
  -- what the pairs say
  have hpair : ∀ {i j : Nat} {x y : Oper}, i < j → all[i]? = some x → all[j]? = some y → Bef all i j ∨ Pair E all i x j y := fun {i j x y} hij hx hy =>
    pairOk_ok ((hstat j y (by omega) hy).2.2 i x hij hx)
  have hbar : ∀ {j : Nat} {o : Oper} (W : Nat → Prop), (∀ i, W i → ∃ x, all[i]? = some x) → all[j]? = some o → clsOp E o.op = some 4 → Cmp all W j := fun {j o} W hW ho hc i hi => by
    obtain ⟨x, hx⟩ := hW i hi
    refine ⟨fun hij => ?_, fun hij => ?_⟩
    · rcases hpair hij hx ho with h | h
      · exact h
      · exact absurd hc h.by'
    · rcases hpair hij ho hx with h | h
      · exact h
      · exact absurd hc h.bx
  have hbars : ∀ j o, all[j]? = some o → Cmp all (Bars E all) j := fun j o ho i ⟨x, hx, hc⟩ => by
    refine ⟨fun hij => ?_, fun hij => ?_⟩
    · rcases hpair hij hx ho with h | h
      · exact h
      · exact absurd hc h.bx
    · rcases hpair hij ho hx with h | h
      · exact h
      · exact absurd hc h.by'
  have hlook : ∀ {j : Nat} {o : Oper} {t : Nat}, all[j]? = some o → clsOp E o.op ≠ some 4 → t ∈ looks all o → Cmp all (Writes E all t) j := fun {j o t} ho _ ht i ⟨x, hx, hw⟩ => by
    refine ⟨fun hij => ?_, fun hij => ?_⟩
    · rcases hpair hij hx ho with h | h
      · exact h
      · rcases hw with hw | hw
        · exact absurd ht (h.a1 t hw)
        · exact absurd hw h.bx
    · rcases hpair hij ho hx with h | h
      · exact h
      · rcases hw with hw | hw
        · exact absurd ht (h.a3 t hw)
        · exact absurd hw h.by'
  have hwr : ∀ {j t : Nat}, Writes E all t j → Cmp all (Writes E all t) j := fun {j t} hj => by
    obtain ⟨o, ho, hw⟩ := hj
    rcases hw with hw | hw
    · intro i ⟨x, hx, hwi⟩
      refine ⟨fun hij => ?_, fun hij => ?_⟩
      · rcases hpair hij hx ho with h | h
        · exact h
        · rcases hwi with hwi | hwi
          · exact absurd hw (h.a2 t hwi)
          · exact absurd hwi h.bx
      · rcases hpair hij ho hx with h | h
        · exact h
        · rcases hwi with hwi | hwi
          · exact absurd hwi (h.a2 t hw)
          · exact absurd hwi h.by'
    · exact hbar _ (fun i ⟨x, hx, _⟩ => ⟨x, hx⟩) ho hw
  have hq : ∀ {i : Nat} {x : Oper}, quietB E all i x = true → all[i]? = some x → ¬ Turns E all i := fun {i x} h hx ⟨x', hx', ht⟩ => by
    have : x' = x := Option.some.inj (hx'.symm.trans hx)
    subst this
    rcases ht with ht | ht | ht | ⟨ht, hn⟩
    · simp [quietB, ht] at h
    · simp [quietB, ht] at h
    · simp [quietB, ht] at h
    · simp only [quietB, ht] at h
      exact hn h
  have hT0 : ∀ {i : Nat} {x : Oper}, all[i]? = some x → Turns E all i → clsOp E x.op ≠ some 0 ∧ clsOp E x.op ≠ some 1 := fun {i x} hx ⟨x', hx', ht⟩ => by
    have : x' = x := Option.some.inj (hx'.symm.trans hx)
    subst this
    rcases ht with ht | ht | ht | ⟨ht, _⟩ <;> rw [ht] <;> simp
  have hR5 : ∀ {i : Nat} {x : Oper}, all[i]? = some x → TurnsR E all i → clsOp E x.op ≠ some 5 := fun {i x} hx ⟨x', hx', ht⟩ => by
    have : x' = x := Option.some.inj (hx'.symm.trans hx)
    subst this
    rcases ht with ht | ht | ⟨ht, _⟩ <;> rw [ht] <;> simp
  have hRT : ∀ {i : Nat}, TurnsR E all i → Turns E all i := fun {i} ⟨x, hx, ht⟩ => ⟨x, hx, by
    rcases ht with ht | ht | ht
    · exact .inl ht
    · exact .inr (.inl ht)
    · exact .inr (.inr (.inr ht))⟩
  have hturn : ∀ {j : Nat}, Turns E all j → Cmp all (Turns E all) j := fun {j} hj i hi => by
    obtain ⟨o, ho, _⟩ := _root_.id hj
    obtain ⟨x, hx, _⟩ := _root_.id hi
    have h1 := hT0 ho hj
    have h2 := hT0 hx hi
    refine ⟨fun hij => ?_, fun hij => ?_⟩
    · rcases hpair hij hx ho with h | h
      · exact h
      · rcases h.q with h' | h' | h' | h' | h'
        · exact absurd h' h2.1
        · exact absurd h' h1.1
        · exact absurd hi (hq h'.1 hx)
        · exact absurd hi (hq h'.1 hx)
        · exact absurd h'.2 h1.2
    · rcases hpair hij ho hx with h | h
      · exact h
      · rcases h.q with h' | h' | h' | h' | h'
        · exact absurd h' h1.1
        · exact absurd h' h2.1
        · exact absurd hj (hq h'.1 ho)
        · exact absurd hj (hq h'.1 ho)
        · exact absurd h'.2 h2.2
  have hread : ∀ {j : Nat} {o : Oper}, all[j]? = some o → quietB E all j o = true → Cmp all (TurnsR E all) j := fun {j o} ho hj i hi => by
    obtain ⟨x, hx, _⟩ := _root_.id hi
    have hi' := hRT hi
    have h2 := hT0 hx hi'
    have h5 := hR5 hx hi
    have hj0 : clsOp E o.op ≠ some 0 := fun h => by simp [quietB, h] at hj
    have hj5 : clsOp E o.op ≠ some 5 := fun h => by simp [quietB, h] at hj
    refine ⟨fun hij => ?_, fun hij => ?_⟩
    · rcases hpair hij hx ho with h | h
      · exact h
      · rcases h.q with h' | h' | h' | h' | h'
        · exact absurd h' h2.1
        · exact absurd h' hj0
        · exact absurd hi' (hq h'.1 hx)
        · exact absurd hi' (hq h'.1 hx)
        · exact absurd h'.1 h5
    · rcases hpair hij ho hx with h | h
      · exact h
      · rcases h.q with h' | h' | h' | h' | h'
        · exact absurd h' hj0
        · exact absurd h' h2.1
        · exact absurd hi' (hq h'.2 hx)
        · exact absurd h'.2 h5
        · exact absurd h'.1 hj5
  have hcall : ∀ {i j : Nat} {o : Oper}, all[j]? = some o → clsOp E o.op = some 2 → i < j → Turns E all i → Bef all i j ∨ ¬ quietB E all j o = true := fun {i j o} ho h2 hij hi => by
    obtain ⟨x, hx, _⟩ := _root_.id hi
    have h3 := hT0 hx hi
    rcases hpair hij hx ho with h | h
    · exact .inl h
    · rcases h.q with h' | h' | h' | h' | h'
      · exact absurd h' h3.1
      · rw [h2] at h'; simp at h'
      · exact absurd hi (hq h'.1 hx)
      · exact absurd hi (hq h'.1 hx)
      · rw [h2] at h'; simp at h'
  -- where nothing is turned, nothing turns
  have hAσ : ∀ t k, k < n → ¬ Writes E all t k → gets (S (k + 1)) t = gets (S k) t := fun t k hk hw => by
    obtain ⟨o, ho⟩ := hat hk
    obtain ⟨c, v, σ1, hc, he, h1, _⟩ := hstep k (by omega) hk _ ho
    have h4 : c ≠ 4 := fun h => hw ⟨_, ho, .inr (by rw [hc, h])⟩
    rw [he, h1 h4]
    cases hd : o.dst with
    | none => rfl
    | some d => exact gets_sets_ne v _ fun e => hw ⟨_, ho, .inl (by rw [hd, e])⟩
  have hAH : ∀ k, k < n → ¬ Turns E all k → Hs (k + 1) = Hs k := fun k hk hw => by
    obtain ⟨o, ho⟩ := hat hk
    obtain ⟨c, v, σ1, hc, he, h1, h2, h3, _⟩ := hstep k (by omega) hk _ ho
    have hle := cls_lt hc
    rcases (by omega : c ≤ 1 ∨ c = 2 ∨ c = 3 ∨ c = 4 ∨ c = 5) with h | h | h | h | h
    · exact h2 h
    · refine h3 ?_ h
      by_cases hn : need E all k = true
      · exact hn
      · exact absurd ⟨_, ho, .inr (.inr (.inr ⟨by rw [hc, h], hn⟩))⟩ hw
    · exact absurd ⟨_, ho, .inl (by rw [hc, h])⟩ hw
    · exact absurd ⟨_, ho, .inr (.inl (by rw [hc, h]))⟩ hw
    · exact absurd ⟨_, ho, .inr (.inr (.inl (by rw [hc, h])))⟩ hw
  have hA5 : ∀ k, k < n → ¬ TurnsR E all k → ∃ X, Hs (k + 1) = Hs k ++ X := fun k hk hw => by
    by_cases ht : Turns E all k
    · obtain ⟨o, ho, ht⟩ := ht
      obtain ⟨c, v, σ1, hc, he, h1, h2, h3, h4, _⟩ := hstep k (by omega) hk _ ho
      rcases ht with ht | ht | ht | ht
      · exact absurd ⟨o, ho, .inl ht⟩ hw
      · exact absurd ⟨o, ho, .inr (.inl ht)⟩ hw
      · exact h4 (by rw [hc] at ht; simpa using ht)
      · exact absurd ⟨o, ho, .inr (.inr ht)⟩ hw
    · exact ⟨[], by rw [hAH k hk ht, List.append_nil]⟩
  have hext : ∀ a d, a + d ≤ n → (∀ i, a ≤ i → i < a + d → ¬ TurnsR E all i) → ∃ X, Hs (a + d) = Hs a ++ X := by
    intro a d
    induction d with
    | zero => intro _ _; exact ⟨[], by simp⟩
    | succ d ih =>
      intro h1 h2
      obtain ⟨X, hX⟩ := ih (by omega) fun i g1 g2 => h2 i g1 (by omega)
      obtain ⟨Y, hY⟩ := hA5 (a + d) (by omega) (h2 (a + d) (by omega) (by omega))
      exact ⟨X ++ Y, by rw [← Nat.add_assoc, hY, hX, List.append_assoc]⟩
  have hsame : ∀ a d, a + d ≤ n → (∀ i, a ≤ i → i < a + d → ¬ Turns E all i) → Hs (a + d) = Hs a := by
    intro a d
    induction d with
    | zero => intro _ _; rfl
    | succ d ih =>
      intro h1 h2
      rw [← Nat.add_assoc, hAH (a + d) (by omega) (h2 (a + d) (by omega) (by omega))]
      exact ih (by omega) fun i g1 g2 => h2 i g1 (by omega)
  have hAl : ∀ k, k < n → ¬ Bars E all k → (S (k + 1)).length = (S k).length := fun k hk hw => by
    obtain ⟨o, ho⟩ := hat hk
    obtain ⟨c, v, σ1, hc, he, h1, _⟩ := hstep k (by omega) hk _ ho
    rw [he, putV_length, h1 fun h => hw ⟨_, ho, by rw [hc, h]⟩]
  -- the walk, in whatever order
  have main : ∀ (fuel : Nat) (listed : Array Bool) (σ : List V) (H : List Blk) (a : Act) (w : World), listed.size = n → Clo all (fun i => listed.getD i false = true) →
      (List.range n).countP (fun i => !listed.getD i true) ≤ fuel →
      (∀ t, Trk n (fun i => listed.getD i false = true) (Writes E all t) (fun k => gets (S k) t) (gets σ t)) →
      Trk n (fun i => listed.getD i false = true) (Turns E all) Hs H →
      Trk n (fun i => listed.getD i false = true) (Bars E all) (fun k => (S k).length) σ.length →
      Sta E Ss σ H a w → wpAnyIn (Fen ro) 0 P .any ops Q fuel listed a w := by
    have hend : ∀ (listed : Array Bool) (σ : List V) (H : List Blk) (a : Act) (w : World), listed.size = n →
      (∀ t, Trk n (fun i => listed.getD i false = true) (Writes E all t) (fun k => gets (S k) t) (gets σ t)) →
      Trk n (fun i => listed.getD i false = true) (Turns E all) Hs H →
      Trk n (fun i => listed.getD i false = true) (Bars E all) (fun k => (S k).length) σ.length →
      Sta E Ss σ H a w → Region.ready .any ops listed = [] → Q .normal a w := by
      intro listed σ H a w hsz hσ hH hl hs hr
      have hfull : ∀ j, j < n → listed.getD j false = true := by
        intro j
        induction j using Nat.strongRecOn with
        | _ j ih =>
          intro hj
          by_cases h : listed.getD j false = true
          · exact h
          · exfalso
            obtain ⟨o, ho⟩ := hat hj
            have hjs : j < listed.size := by omega
            have : j ∈ Region.ready .any ops listed := by
              rw [mem_ready]
              refine ⟨by simpa [hjs] using h, o, by rw [hget]; exact ho, fun e he _ => ?_⟩
              have := (hstat j _ (by omega) ho).2.1 e he
              exact ih e.on this (by omega)
            rw [hr] at this
            cases this
      have hge : ∀ {W : Nat → Prop}, (∀ i, W i → ∃ x, all[i]? = some x) → ∀ i, n ≤ i → W i → ¬ listed.getD i false = true := fun hW i hi hw => by
        obtain ⟨x, hx⟩ := hW i hw
        have := hlt hx
        omega
      have e1 : ∀ t, gets σ t = gets (S n) t := fun t => hσ t n (Nat.le_refl _) (fun i hi _ => hfull i hi) (hge fun i ⟨x, hx, _⟩ => ⟨x, hx⟩)
      have e2 : H = Hs n := hH n (Nat.le_refl _) (fun i hi _ => hfull i hi) (hge fun i ⟨x, hx, _⟩ => ⟨x, hx⟩)
      have e3 : σ.length = (S n).length := hl n (Nat.le_refl _) (fun i hi _ => hfull i hi) (hge fun i ⟨x, hx, _⟩ => ⟨x, hx⟩)
      have e4 : σ = S n := gets_ext e3 e1
      subst e2
      rw [e4] at hs
      exact hQ _ _ _ _ hKn hs
    intro fuel
    induction fuel with
    | zero =>
      intro listed σ H a w hsz hclo hcnt hσ hH hl hs
      have hr : Region.ready .any ops listed = [] := by
        refine List.eq_nil_iff_forall_not_mem.2 fun j hj => ?_
        obtain ⟨h0, o, ho, _⟩ := mem_ready.1 hj
        rw [hget] at ho
        have h1 : (List.range n).countP (fun i => !listed.getD i true) = 0 := by omega
        rw [List.countP_eq_zero] at h1
        have := h1 j (List.mem_range.2 (hlt ho))
        rw [h0] at this
        simp at this
      exact ⟨hr, hend listed σ H a w hsz hσ hH hl hs hr⟩
    | succ fuel ih =>
      intro listed σ H a w hsz hclo hcnt hσ hH hl hs
      refine ⟨hend listed σ H a w hsz hσ hH hl hs, fun j hj => ?_⟩
      obtain ⟨h0, o, ho, hwait⟩ := mem_ready.1 hj
      have ho' := ho
      rw [hget] at ho
      have hjn := hlt ho
      have hjs : j < listed.size := by omega
      have hnot : ¬ listed.getD j false = true := by simp [hjs] at h0 ⊢; exact h0
      have hset : ∀ i, (listed.setIfInBounds j true).getD i false = true ↔ (listed.getD i false = true ∨ i = j) := fun i => by
        by_cases hij : j = i
        · subst hij; simp [hjs]
        · rw [getD_set_ne false hij]
          constructor
          · exact .inl
          · rintro (h | h)
            · exact h
            · exact absurd h.symm hij
      have hclo' : Clo all fun i => listed.getD i false = true ∨ i = j := by
        intro k ok hk hL e he hb
        rcases hL with hL | hL
        · exact .inl (hclo k ok hk hL e he hb)
        · subst hL
          have : ok = o := Option.some.inj (hk.symm.trans ho)
          subst this
          exact .inl (hwait e he hb)
      have hfun : (fun i => (listed.setIfInBounds j true).getD i false = true) = fun i => listed.getD i false = true ∨ i = j := funext fun i => propext (hset i)
      obtain ⟨c, v, σ1, hc, heS, hσ1, hcH, hcN, _, hrun⟩ := hstep j (by omega) hjn o ho
      have hlenj : σ.length = (S j).length := hl.read (hbars j o ho) (by omega) hclo hclo' hnot
      have hσj : c ≠ 4 → ∀ t ∈ looks all o, gets σ t = gets (S j) t := fun h4 t ht =>
        (hσ t).read (hlook ho (fun h => h4 (by rw [hc] at h; simpa using h)) ht) (by omega) hclo hclo' hnot
      have hσ4 : c = 4 → σ = S j := fun h4 => gets_ext hlenj fun t => (hσ t).read (hbar _ (fun i ⟨x, hx, _⟩ => ⟨x, hx⟩) ho (by rw [hc, h4])) (by omega) hclo hclo' hnot
      have hqt : ∀ {q : Prop}, q = (c ≤ 1 ∨ (c = 2 ∧ need E all j = true)) → (q ↔ ¬ Turns E all j) := fun {q} hq' => by
        subst hq'
        have hle := cls_lt hc
        constructor
        · rintro h ⟨o2, ho2, ht⟩
          have : o2 = o := Option.some.inj (ho2.symm.trans ho)
          subst this
          rw [hc] at ht
          rcases ht with ht | ht | ht | ⟨ht, hn⟩ <;> simp only [Option.some.injEq] at ht
          · omega
          · omega
          · omega
          · rcases h with h | h
            · omega
            · exact hn h.2
        · intro h
          rcases (by omega : c ≤ 1 ∨ c = 2 ∨ c = 3 ∨ c = 4 ∨ c = 5) with h' | h' | h' | h' | h'
          · exact .inl h'
          · by_cases hn : need E all j = true
            · exact .inr ⟨h', hn⟩
            · exact absurd ⟨o, ho, .inr (.inr (.inr ⟨by rw [hc, h'], hn⟩))⟩ h
          · exact absurd ⟨o, ho, .inl (by rw [hc, h'])⟩ h
          · exact absurd ⟨o, ho, .inr (.inl (by rw [hc, h']))⟩ h
          · exact absurd ⟨o, ho, .inr (.inr (.inl (by rw [hc, h'])))⟩ h
      have hHj : Turns E all j → H = Hs j := fun ht => hH.read (hturn ht) (by omega) hclo hclo' hnot
      -- the blocks as they are
      have hk : ∃ k, k ≤ n ∧ H = Hs k ∧ (∀ i, k ≤ i → Turns E all i → ¬ listed.getD i false = true) ∧ ∀ i, i < k → Turns E all i → listed.getD i false = true := by
        by_cases hx : ∃ i, Turns E all i ∧ ¬ listed.getD i false = true
        · obtain ⟨k, ⟨h1, h2⟩, h3⟩ := least hx
          obtain ⟨x, hx', _⟩ := _root_.id h1
          have hkn := hlt hx'
          have ha : ∀ i, i < k → Turns E all i → listed.getD i false = true := fun i hi ht => Classical.byContradiction fun hnl => h3 i hi ⟨ht, hnl⟩
          have hb : ∀ i, k ≤ i → Turns E all i → ¬ listed.getD i false = true := fun i hi ht hL => by
            rcases Nat.lt_or_ge k i with g | g
            · exact h2 ((hturn ht k h1).1 g _ hclo hL)
            · have : i = k := by omega
              subst this
              exact h2 hL
          exact ⟨k, by omega, hH k (by omega) ha hb, hb, ha⟩
        · have ha : ∀ i, i < n → Turns E all i → listed.getD i false = true := fun i hi ht => Classical.byContradiction fun hnl => hx ⟨i, ht, hnl⟩
          have hb : ∀ i, n ≤ i → Turns E all i → ¬ listed.getD i false = true := fun i hi ht => by
            obtain ⟨x, hx', _⟩ := ht
            have := hlt hx'
            omega
          exact ⟨n, Nat.le_refl _, hH n (Nat.le_refl _) ha hb, hb, ha⟩
      obtain ⟨k, hkn, hHk, hkb, hka⟩ := hk
      have hrel : quietB E all j o = true → (k ≤ j ∧ ∃ X, Hs j = H ++ X) ∨ (∃ X, H = Hs j ++ X) := fun hqj => by
        rcases Nat.lt_or_ge j k with hlt' | hge'
        · refine .inr ?_
          obtain ⟨X, hX⟩ := hext j (k - j) (by omega) fun i h1 h2 hR => by
            rcases Nat.lt_or_ge j i with g | g
            · exact hnot (((hread ho hqj i hR).2 g) _ hclo (hka i (by omega) (hRT hR)))
            · have : i = j := by omega
              subst this
              exact hq hqj ho (hRT hR)
          exact ⟨X, by rw [hHk, ← hX]; congr 1; omega⟩
        · refine .inl ⟨hge', ?_⟩
          obtain ⟨X, hX⟩ := hext k (j - k) (by omega) fun i h1 h2 hR => by
            rcases ((hread ho hqj i hR).1 (by omega)) _ hclo' (.inr rfl) with g | g
            · exact hkb i h1 (hRT hR) g
            · omega
          exact ⟨X, by rw [hHk, ← hX]; congr 1; omega⟩
      have hq1 : c = 1 → quietB E all j o = true := fun h => by unfold quietB; rw [hc, h]; rfl
      have hq2 : c = 2 → need E all j = true → quietB E all j o = true := fun h hn => by unfold quietB; rw [hc, h]; exact hn
      obtain ⟨H3, hH3a, hH3b⟩ : ∃ H3, ((c ≤ 1 ∨ (c = 2 ∧ need E all j = true)) → H3 = H) ∧ (¬ (c ≤ 1 ∨ (c = 2 ∧ need E all j = true)) → H3 = Hs (j + 1)) := by
        by_cases h : c ≤ 1 ∨ (c = 2 ∧ need E all j = true)
        · exact ⟨H, fun _ => rfl, fun h' => absurd h h'⟩
        · exact ⟨Hs (j + 1), fun h' => absurd h' h, fun _ => rfl⟩
      obtain ⟨cc, b0, v0, hS0', hst0, hσ0, hd0⟩ := _root_.id hs
      have hel : Else E o.op c (need E all j = true) (S j) (Hs j) (Hs (j + 1)) H H3 := by
        by_cases hquiet : c ≤ 1 ∨ (c = 2 ∧ need E all j = true)
        · have e3 := hH3a hquiet
          have h3 : c = 0 ∨ c = 1 ∨ (c = 2 ∧ need E all j = true) := by
            rcases hquiet with h | h
            · omega
            · exact .inr (.inr h)
          rcases h3 with h | h | ⟨h, hn⟩
          · exact .inr (.inl ⟨h, e3⟩)
          · refine .inr (.inr (.inl ⟨h, fun x hx id ht hd => ?_, e3⟩))
            rcases hrel (hq1 h) with ⟨_, X, hX⟩ | ⟨X, hX⟩
            · have hag : Agree E o.op (S j) σ := Agree.of (hσj (by omega))
              have hev : ev E σ x = ev E (S j) x := ev_of_evr (hag x hx)
              have hr := ev_ok hst0 hσ0 x
              rw [hev] at hr
              rw [hX, getB_left H X id (top_lt hr ht)]
            · rw [hX]
              exact getB_left _ X id (lt_of_alive hd)
          · refine .inr (.inr (.inr ⟨h, hn, ?_, e3⟩))
            rcases hrel (hq2 h hn) with ⟨hkj, _⟩ | ⟨X, hX⟩
            · have e : Hs (k + (j - k)) = Hs k := hsame k (j - k) (by omega) fun i h1 h2 ht => by
                rcases hcall ho (by rw [hc, h]) (by omega : i < j) ht with hb | hb
                · rcases hb _ hclo' (.inr rfl) with g | g
                  · exact hkb i h1 ht g
                  · omega
                · exact hb (hq2 h hn)
              rw [show k + (j - k) = j by omega] at e
              rw [hHk, e]
              exact fun _ _ => rfl
            · rw [hX]; exact .app _ _
        · have ht : Turns E all j := Classical.byContradiction fun hn => hquiet ((hqt rfl).2 hn)
          exact .inl ⟨hHj ht, fun _ => hH3b hquiet, fun h => absurd (.inl h) hquiet⟩
      have hat' := hrun σ H H3 (fun σ' H' => σ' = putV (if c = 4 then σ1 else σ) o.dst v ∧ H' = H3) hσj hσ4 hel ⟨rfl, rfl⟩
      have hnext : ∀ σ' H' a' w', (σ' = putV (if c = 4 then σ1 else σ) o.dst v ∧ H' = H3) → Sta E Ss σ' H' a' w' → wpAnyIn (Fen ro) 0 P .any ops Q fuel (listed.setIfInBounds j true) a' w' := by
        rintro σ' H' a' w' ⟨eσ, eH⟩ hs'
        have hlen' : c ≠ 4 → σ'.length = σ.length := fun h4 => by rw [eσ, putV_length, if_neg h4]
        refine ih (listed.setIfInBounds j true) σ' H' a' w' (by simp [hsz]) (by rw [hfun]; exact hclo') ?_ ?_ ?_ ?_ hs'
        · have := countP_lt (p := fun i => !listed.getD i true) (q := fun i => !(listed.setIfInBounds j true).getD i true) (List.range n) (j := j) (fun i hi => by
            by_cases hij : j = i
            · subst hij; simp [hjs] at hi
            · rw [getD_set_ne true hij] at hi; exact hi) (List.mem_range.2 hjn) (by simp [h0]) (by simp [hjs])
          omega
        · intro t
          rw [hfun]
          refine (hσ t).step hjn hclo hnot (hAσ t) (fun hw => ?_) (fun hw => ?_) fun hw => hwr hw
          · have h4 : c ≠ 4 := fun h => hw ⟨o, ho, .inr (by rw [hc, h])⟩
            rw [eσ, if_neg h4]
            cases hd : o.dst with
            | none => rfl
            | some d => exact gets_sets_ne v _ fun e => hw ⟨o, ho, .inl (by rw [hd, e])⟩
          · rw [eσ, heS]
            by_cases h4 : c = 4
            · rw [if_pos h4]
            · rw [if_neg h4, hσ1 h4]
              obtain ⟨o2, ho2, hw2⟩ := hw
              have : o2 = o := Option.some.inj (ho2.symm.trans ho)
              subst this
              rcases hw2 with hw2 | hw2
              · rw [hw2]
                exact gets_sets_len v _ _ _ hlenj
              · exact absurd (by rw [hc] at hw2; simpa using hw2) h4
        · rw [hfun]
          refine hH.step hjn hclo hnot hAH (fun hw => ?_) (fun hw => ?_) hturn
          · rw [eH]; exact hH3a ((hqt rfl).2 hw)
          · rw [eH]; exact hH3b fun h => (hqt rfl).1 h hw
        · rw [hfun]
          refine hl.step hjn hclo hnot hAl (fun hw => ?_) (fun hw => ?_) fun _ => hbars j o ho
          · exact hlen' fun h => hw ⟨o, ho, by rw [hc, h]⟩
          · obtain ⟨o2, ho2, ht⟩ := hw
            have : o2 = o := Option.some.inj (ho2.symm.trans ho)
            subst this
            have h4 : c = 4 := by rw [hc] at ht; simpa using ht
            rw [eσ, heS, if_pos h4]
      have := aopAt_ok (ro := ro) (all := ops) (Q := Q) hG hE hs (hall ▸ hat') hnext
      unfold wpOpIn
      rw [ho']
      exact this
  refine wpIn_region_any hm ?_
  have hsz : ops.size = n := by simp [hn, hall]
  have hno : ∀ i, ¬ (Array.replicate ops.size false).getD i false = true := fun i => by
    rcases Nat.lt_or_ge i ops.size with h | h
    · simp [h]
    · simp [h]
  refine main ops.size _ σ H a _ (by simp [hsz]) (fun j o _ hL => absurd hL (hno j)) ?_ (fun t k hk h1 _ => ?_) (fun k hk h1 _ => ?_) (fun k hk h1 _ => ?_) hs.drew
  · refine Nat.le_trans (List.countP_le_length) (by simp [hsz])
  · have : ∀ m, m ≤ k → gets (S m) t = gets (S 0) t := by
      intro m
      induction m with
      | zero => intro _; rfl
      | succ m ih => intro hm; rw [hAσ t m (by omega) fun hw => hno m (h1 m (by omega) hw), ih (by omega)]
    show gets σ t = gets (S k) t
    rw [this k (Nat.le_refl _), hS0]
  · have : ∀ m, m ≤ k → Hs m = Hs 0 := by
      intro m
      induction m with
      | zero => intro _; rfl
      | succ m ih => intro hm; rw [hAH m (by omega) fun hw => hno m (h1 m (by omega) hw), ih (by omega)]
    rw [this k (Nat.le_refl _), hH0]
  · have : ∀ m, m ≤ k → (S m).length = (S 0).length := by
      intro m
      induction m with
      | zero => intro _; rfl
      | succ m ih => intro hm; rw [hAl m (by omega) fun hw => hno m (h1 m (by omega) hw), ih (by omega)]
    show σ.length = (S k).length
    rw [this k (Nat.le_refl _), hS0]
end
end Go.Proofs.Ytgljcfnplkcfhaa.Vc

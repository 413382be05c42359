/- Texts of this claim: Vc.T, Vc.U, Vc.W, Vc.X, Vc.Y, Vc.Z, Vc.ZA. -/
import Derived.Test.YtifaanbnijnbdaaDoorVc1
import Derived.Lib.MinMax
import Derived.Lib.Strings
import Derived.Tactics
import Derived.Orders
import Derived.Scope
set_option linter.unusedVariables false
set_option linter.unusedSimpArgs false
namespace Go.Proofs.YtifaanbnijnbdaaDoor.Vc
open Go Go.RowKit

section
variable {E : Env} {P : Program} {G : List (Nat × V)} {base : Nat} {w0 : World} {c : Cx} {H : List Blk} {w : World} {σ : List V} {a : Act} {K : V → List V → List Blk → Prop} {o : Oper}

theorem i64_mk {n : Int} (h : -9223372036854775808 ≤ n ∧ n ≤ 9223372036854775807) : IntKind.i64.min ≤ n ∧ n ≤ IntKind.i64.max := by
  simpa [IntKind.min, IntKind.max, IntKind.signed, IntKind.bits] using h
theorem rel_i64 {n : Int} (h : -9223372036854775808 ≤ n ∧ n ≤ 9223372036854775807) : VRel c H w (.int .i64 n) (.int .i64 n) := .int _ _ (i64_mk h).1 (i64_mk h).2
theorem len_i64 {n : Nat} (h : n ≤ maxLen) : VRel c H w (.int .i64 (n : Int)) (.int .i64 (n : Int)) := rel_i64 (by unfold maxLen at h; omega)

theorem alen_ok {v : V} {x : Value} {k : V → Prop} (h : alen H v k) (hv : ∀ s, v ≠ .str s) (hx : VRel c H w v x) : ∃ n : Nat, k (.int .i64 (n : Int)) ∧ n ≤ maxLen ∧ (∃ a cap, x = .slice a n cap) := by
  unfold alen at h
  split at h
  · cases hx; exact ⟨0, h, by simp, ⟨_, _, rfl⟩⟩
  · rename_i fr t xs
    cases hx with | sl _ _ _ _ hd =>
    obtain ⟨a, cap, h1, h2, h3, _⟩ := hd
    simp only [List.cons.injEq, and_true] at h1
    exact ⟨_, h, by omega, ⟨a, cap, h1⟩⟩
  · exact (hv _ rfl).elim
  · rename_i t id
    cases hx with | own _ _ n a cap hs hn hc ho =>
    split at h
    · rename_i f t' xs hb
      simp only [shape, hb, Option.some.injEq, Prod.mk.injEq] at hs
      exact ⟨_, h, by omega, ⟨a, cap, by rw [hs.1]⟩⟩
    · rename_i cs hb
      simp only [shape, hb, Option.some.injEq, Prod.mk.injEq] at hs
      exact ⟨_, h, by omega, ⟨a, cap, by rw [hs.1]⟩⟩
    · exact h.elim
  · cases hx with | slc _ _ _ n m a cap hs hm hn hc ho => exact ⟨_, h, by omega, ⟨a, cap, rfl⟩⟩
  · exact h.elim

theorem op_len (hE : EnvOk P E) (hst : St E.glob base w0 c H w) (hσ : VRels c H w σ a.tmps.toList) (x : Operand) (T : TypeId)
    (ho : o.op = .call { callee := .builtin .len, args := #[x], argTypes := #[T] }) (h : alenT E H T (ev E σ x) fun v => K v σ H) :
    After E.glob base w0 a.tmps.toList K P o a w := by
  have hx := ev_ok hst hσ x
  have hexec : ∀ v w', (Builtin.len_ #[T] o.type #[a.eval x]).run P w = .ok v w' → (execOp a.eval o).run P w = .ok (.value v) w' := fun v w' hr => by
    unfold execOp
    simp only [ho, resolve, invoke, builtin, Sem.run_bind, Sem.run_pure, Result.andThen_ok, List.map_toArray, List.map_cons, List.map_nil, hr]
  generalize ev E σ x = vx at h hx
  generalize hax : a.eval x = ax at hx
  rw [hax] at hexec
  unfold alenT at h
  split at h
  · rename_i t hT
    obtain ⟨e, hu, _⟩ := (lk_ty hE hT).sl
    split at h
    · exact h.elim
    · rename_i hv
      obtain ⟨n, h1, h2, ⟨ax', cap, h3⟩⟩ := alen_ok h (fun s e => hv s e) hx
      subst h3
      refine after_pure hst hσ (len_i64 h2) h1 (hexec _ _ ?_)
      exact run_len_slice (P := P) (w := w) T o.type ax' n cap (by rw [hu]; simp [Program.elem, hu])
  · rename_i hT
    have hu : P.underlying T = some .string := (lk_ty hE hT).2
    split at h
    · rename_i s
      cases hx with | str _ hs =>
      refine after_pure hst hσ (len_i64 hs) h (hexec _ _ ?_)
      have hsz : (ByteArray.mk s.toArray).size = s.length := rfl
      simp [Builtin.len_, run_underlying hu, goInt, hsz]
    · exact h.elim
  · exact h.elim

theorem op_mm (hst : St E.glob base w0 c H w) (hσ : VRels c H w σ a.tmps.toList) (mx : Bool) (x y : Operand) (ts : Array TypeId)
    (ho : o.op = .call { callee := .builtin (bif mx then .max else .min), args := #[x, y], argTypes := ts }) (h : amm mx (ev E σ x) (ev E σ y) fun v => K v σ H) :
    After E.glob base w0 a.tmps.toList K P o a w := by
  have hx := ev_ok hst hσ x
  have hy := ev_ok hst hσ y
  generalize ev E σ x = vx at h hx
  generalize ev E σ y = vy at h hy
  generalize hax : a.eval x = ax at hx
  generalize hay : a.eval y = ay at hy
  unfold amm at h
  split at h
  · rename_i k n k' m
    obtain ⟨hk, hh⟩ := bif_ok h
    have hk := of_decide_eq_true hk
    subst hk
    clear h
    cases hx with | int _ _ h1 h2 =>
    cases hy with | int _ _ h3 h4 =>
    cases mx
    · refine after_pure hst hσ (VRel.int k (min n m) (by omega) (by omega)) hh ?_
      simp [execOp, ho, resolve, invoke, builtin, Sem.run_bind, hax, hay, Lib.run_min_ints]
    · refine after_pure hst hσ (VRel.int k (max n m) (by omega) (by omega)) hh ?_
      simp [execOp, ho, resolve, invoke, builtin, Sem.run_bind, hax, hay, Lib.run_max_ints]
  · exact h.elim

theorem op_bin (hE : EnvOk P E) (hst : St E.glob base w0 c H w) (hσ : VRels c H w σ a.tmps.toList) (op : BinOp) (T : TypeId) (x y : Operand) (T' : TypeId) (ho : o.op = .binOp op T x y T') (h : aop E σ H (.binOp op T x y T') K) :
    After E.glob base w0 a.tmps.toList K P o a w := by
  have hx := ev_ok hst hσ x
  have hy := ev_ok hst hσ y
  simp only [aop] at h
  have key : abin op H (ev E σ x) (ev E σ y) (fun v => K v σ H) ∧ tyFor P T (ev E σ x) := by
    generalize ev E σ x = vx at h
    unfold abinT at h
    split at h
    · split at h
      · rename_i hT; exact ⟨h, (lk_ty hE hT).2⟩
      · exact h.elim
    all_goals first
      | (split at h
         · rename_i t hT; obtain ⟨e, hu, _⟩ := (lk_ty hE hT).sl; exact ⟨h, e, hu⟩
         · exact h.elim)
      | exact h.elim
      | skip
    refine ⟨h, ?_⟩
    rename_i h1 h2 h3 h4 h5
    cases vx <;> first | trivial | exact (h1 _ rfl).elim | exact (h2 rfl).elim | exact (h3 _ _ _ rfl).elim | exact (h4 _ _ rfl).elim | exact (h5 _ _ rfl).elim
  obtain ⟨r, v, h1, h2, h3⟩ := abin_ok (P := P) hst hx hy key.1 T key.2 x y
  refine after_pure hst hσ h2 h1 ?_
  simp only [Sem.run_bind] at h3
  simp only [execOp, ho, Sem.run_bind]
  rw [h3]; rfl

theorem op_not (hst : St E.glob base w0 c H w) (hσ : VRels c H w σ a.tmps.toList) (T : TypeId) (x : Operand) (ho : o.op = .unOp .not T x) (h : aop E σ H (.unOp .not T x) K) :
    After E.glob base w0 a.tmps.toList K P o a w := by
  have hx := evr_ok hst hσ x
  simp only [aop] at h
  generalize evr E σ x = vx at h hx
  generalize hax : a.eval x = ax at hx
  cases hx <;> try exact h.elim
  case b p b hb =>
    refine after_pure hst hσ (VRel.b _ (!b) (by rw [← hb]; cases b <;> simp)) h ?_
    simp [execOp, ho, hax, Op.unary]
  case bt b =>
    cases b
    · exact after_pure hst hσ (VRel.bt true) h (by simp [execOp, ho, hax, Op.unary])
    · exact after_pure hst hσ (VRel.bt false) h (by simp [execOp, ho, hax, Op.unary])

theorem op_conv (hE : EnvOk P E) (hst : St E.glob base w0 c H w) (hσ : VRels c H w σ a.tmps.toList) (S T : TypeId) (x : Operand) (ho : o.op = .convert S T x) (h : aop E σ H (.convert S T x) K) :
    After E.glob base w0 a.tmps.toList K P o a w := by
  have hx := ev_ok hst hσ x
  simp only [aop] at h
  generalize ev E σ x = vx at h hx
  generalize hax : a.eval x = ax at hx
  unfold aconv at h
  have key : ∀ (k k' : IntKind) (n : Int), P.underlying T = some (.int k) → (∃ tS, lk E.ty S = some tS) → ax = .int k' n → (execOp a.eval o).run P w = .ok (.value (.int k (k.wrap n))) w := fun k k' n hu ⟨tS, hS⟩ e => by
    have hs : ∃ d, P.underlying S = some d := by
      have h2 := (lk_ty hE hS).2
      cases tS <;> simp only at h2 <;> first | exact ⟨_, h2⟩ | (obtain ⟨e, h2, _⟩ := h2; exact ⟨_, h2⟩) | (obtain ⟨e, h2⟩ := h2; exact ⟨_, h2⟩)
    obtain ⟨d, hs⟩ := hs
    have := Go.run_convert_int (P := P) (w := w) S T k' n (by rw [hs]; rfl) (by rw [hu]; simp [Program.intKind, hu])
    have hk : P.intKind T = k := by simp [Program.intKind, hu]
    rw [hk] at this
    simp [execOp, ho, hax, e, this]
  split at h
  · exact h.elim
  · rename_i tS hS
    split at h
    · rename_i x hT
      cases hx
      have hlt := x.toNat_lt
      refine after_pure hst hσ (rel_i64 (by omega)) h ?_
      rw [key .i64 .u8 _ (lk_ty hE hT).2 ⟨_, hS⟩ rfl, IntWalk.i64_in _ (by omega)]
    · rename_i x hT
      cases hx
      have hlt := x.toNat_lt
      refine after_pure hst hσ (VRel.int .u64 (x.toNat : Int) (by simp [IntKind.min, IntKind.signed]) (by simp [IntKind.max, IntKind.signed, IntKind.bits]; omega)) h ?_
      rw [key .u64 .u8 _ (lk_ty hE hT).2 ⟨_, hS⟩ rfl]
      have : IntKind.u64.wrap (x.toNat : Int) = x.toNat := by simp [IntKind.wrap, IntKind.signed, IntKind.bits]; omega
      rw [this]
    · rename_i k k' n hT
      cases hx with | int _ _ h1 h2 =>
      obtain ⟨g1, g2, g3⟩ := inRK_ok h
      refine after_pure hst hσ (VRel.int k n g3.1 g3.2) g1 ?_
      rw [key k _ _ (lk_ty hE hT).2 ⟨_, hS⟩ rfl, g2]
    · rename_i k' n hT
      cases hx with | int _ _ h1 h2 =>
      refine after_pure hst hσ (VRel.u8 _) h ?_
      rw [key .u8 _ _ (lk_ty hE hT).2 ⟨_, hS⟩ rfl, IntKind.wrap_u8]
      congr 3
      rw [UInt8.toNat_ofNat']; omega
    · rename_i x hT
      cases hx
      have hlt := x.toNat_lt
      refine after_pure hst hσ (VRel.u8 _) h ?_
      rw [key .u8 .u8 _ (lk_ty hE hT).2 ⟨_, hS⟩ rfl, IntKind.wrap_u8]
      congr 3
      omega
    · exact h.elim

theorem extract_str (s : List UInt8) (l h : Nat) : (ByteArray.mk s.toArray).extract l h = ⟨((s.drop l).take (h - l)).toArray⟩ := by
  rw [Lib.extract_eq]

theorem sl_sub {fr : Bool} {t : Ty} {xs : List t.D} {ad : Option Addr} {cap : Nat} (hd : DRel w (c.im fr) (.sl t) xs [.slice ad xs.length cap]) (l h : Nat) (hlh : l ≤ h) (hh : h ≤ xs.length) :
    VRel c H w (.sl fr t ((xs.drop l).take (h - l))) (.slice (if cap = l then ad else ad.map (·.add (l * t.size))) (h - l) (cap - l)) := by
  obtain ⟨a', cap', h1, h2, h3, h4⟩ := hd
  simp only [List.cons.injEq, Value.slice.injEq, and_true, true_and] at h1
  obtain ⟨rfl, rfl⟩ := h1
  have hlen : ((xs.drop l).take (h - l)).length = h - l := by rw [List.length_take, List.length_drop]; omega
  refine .sl _ _ _ _ ⟨_, cap - l, by rw [hlen], by rw [hlen]; omega, by omega, fun hne => ?_⟩
  have hpos : 0 < h - l := by rw [← hlen]; exact List.length_pos_iff.2 hne
  have hx : xs ≠ [] := fun e => by subst e; simp at hh; omega
  obtain ⟨g, q, rfl, hM, hel⟩ := h4 hx
  have hcl : ¬ cap = l := by omega
  rw [if_neg hcl]
  refine ⟨g, q + l * t.size, by simp [Addr.add_lit], hM, fun i y hy => ?_⟩
  have hi : i < h - l := by
    have := (List.getElem?_eq_some_iff.1 hy).1
    rw [hlen] at this; exact this
  rw [List.getElem?_take, if_pos hi, List.getElem?_drop] at hy
  obtain ⟨es, e1, e2⟩ := hel _ y hy
  refine ⟨es, e1, fun j v hj => ?_⟩
  have := e2 j v hj
  rw [Nat.add_mul] at this
  rw [show q + l * t.size + i * t.size + j = q + (l * t.size + i * t.size) + j by omega]
  exact this

theorem op_slice (hE : EnvOk P E) (hst : St E.glob base w0 c H w) (hσ : VRels c H w σ a.tmps.toList) (T : TypeId) (x : Operand) (lo hi : Option Operand) (ho : o.op = .slice T x lo hi none) (h : aop E σ H (.slice T x lo hi none) K) :
    After E.glob base w0 a.tmps.toList K P o a w := by
  have hx := ev_ok hst hσ x
  have hlo : ∀ l, lo = some l → VRel c H w (ev E σ l) (a.eval l) := fun l _ => ev_ok hst hσ l
  have hhi : ∀ l, hi = some l → VRel c H w (ev E σ l) (a.eval l) := fun l _ => ev_ok hst hσ l
  simp only [aop] at h
  generalize ev E σ x = vx at h hx
  generalize hax : a.eval x = ax at hx
  obtain ⟨vl, hvl⟩ : ∃ vl, lo.map (ev E σ) = vl := ⟨_, rfl⟩
  obtain ⟨vh, hvh⟩ : ∃ vh, hi.map (ev E σ) = vh := ⟨_, rfl⟩
  rw [hvl, hvh] at h
  have hl' : ∀ k n, vl = some (.int k n) → ∃ l, lo = some l ∧ a.eval l = .int k n := fun k n e => by
    subst e
    cases lo with
    | none => simp at hvl
    | some l =>
      simp only [Option.map_some, Option.some.injEq] at hvl
      have := hlo l rfl
      rw [hvl] at this
      generalize hal : a.eval l = al at this
      cases this; exact ⟨l, rfl, hal⟩
  have hh' : ∀ k n, vh = some (.int k n) → ∃ l, hi = some l ∧ a.eval l = .int k n := fun k n e => by
    subst e
    cases hi with
    | none => simp at hvh
    | some l =>
      simp only [Option.map_some, Option.some.injEq] at hvh
      have := hhi l rfl
      rw [hvh] at this
      generalize hal : a.eval l = al at this
      cases this; exact ⟨l, rfl, hal⟩
  have hln : vl = none → lo = none := fun e => by subst e; cases lo <;> simp at hvl ⊢
  have hhn : vh = none → hi = none := fun e => by subst e; cases hi <;> simp at hvh ⊢
  have runS : ∀ {e : TypeId} {z len cap : Nat} {ad : Option Addr} (l h : Nat), P.underlying T = some (.slice e) → (P.info? e).map (·.size) = some z → ax = .slice ad len cap → l ≤ h → h ≤ cap →
      (lo = none ∧ l = 0 ∨ ∃ ol k, lo = some ol ∧ a.eval ol = .int k l) → (hi = none ∧ h = len ∨ ∃ oh k, hi = some oh ∧ a.eval oh = .int k h) →
      (execOp a.eval o).run P w = .ok (.value (.slice (if cap = l then ad else ad.map (·.add (l * z))) (h - l) (cap - l))) w := by
    intro e z len cap ad l h hu hs hax2 h1 h2 h3 h4
    cases hinf : P.info? e with
    | none => rw [hinf] at hs; simp at hs
    | some inf =>
      rw [hinf] at hs
      simp only [Option.map_some, Option.some.injEq] at hs
      subst hax2
      rcases h3 with ⟨rfl, rfl⟩ | ⟨ol, kl, rfl, e3⟩ <;> rcases h4 with ⟨rfl, rfl⟩ | ⟨oh, kh, rfl, e4⟩
      · simp [execOp, ho, hax, Instr.sliceAt, Instr.slice, run_underlying hu, Instr.sliceBounds, sizeOf, typeInfo, hinf, hs]
      · have b2 := run_sliceBound (P := P) (w := w) kh (h : Int) cap .sliceAcap (by omega) (by omega)
        simp [execOp, ho, hax, e4, Instr.sliceAt, Instr.slice, run_underlying hu, Instr.sliceBounds, b2, sizeOf, typeInfo, hinf, hs]
      · have b1 := run_sliceBound (P := P) (w := w) kl (l : Int) h .sliceB (by omega) (by omega)
        simp [execOp, ho, hax, e3, Instr.sliceAt, Instr.slice, run_underlying hu, Instr.sliceBounds, b1, sizeOf, typeInfo, hinf, hs]
      · have b1 := run_sliceBound (P := P) (w := w) kl (l : Int) h .sliceB (by omega) (by omega)
        have b2 := run_sliceBound (P := P) (w := w) kh (h : Int) cap .sliceAcap (by omega) (by omega)
        simp [execOp, ho, hax, e3, e4, Instr.sliceAt, Instr.slice, run_underlying hu, Instr.sliceBounds, b1, b2, sizeOf, typeInfo, hinf, hs]
  have bnd : ∀ (n : Nat) (k : Nat → Nat → Prop), abounds n vl vh k → ∃ l h : Nat, k l h ∧ l ≤ h ∧ h ≤ n ∧ (lo = none ∧ l = 0 ∧ vl = none ∨ ∃ ol kk, lo = some ol ∧ a.eval ol = .int kk l ∧ vl ≠ none) ∧ (hi = none ∧ h = n ∧ vh = none ∨ ∃ oh kk, hi = some oh ∧ a.eval oh = .int kk h ∧ vh ≠ none) := by
    intro n k hb
    unfold abounds at hb
    split at hb
    · exact ⟨0, n, hb, by omega, by omega, .inl ⟨hln rfl, rfl, rfl⟩, .inl ⟨hhn rfl, rfl, rfl⟩⟩
    · rename_i kk h'
      obtain ⟨oh, h1, h2⟩ := hh' _ _ rfl
      exact ⟨0, h'.toNat, hb.2, by omega, by omega, .inl ⟨hln rfl, rfl, rfl⟩, .inr ⟨oh, kk, h1, by rw [h2]; congr 1; omega, by simp⟩⟩
    · rename_i kk l'
      obtain ⟨ol, h1, h2⟩ := hl' _ _ rfl
      exact ⟨l'.toNat, n, hb.2, by omega, by omega, .inr ⟨ol, kk, h1, by rw [h2]; congr 1; omega, by simp⟩, .inl ⟨hhn rfl, rfl, rfl⟩⟩
    · rename_i kk l' kk' h'
      obtain ⟨ol, h1, h2⟩ := hl' _ _ rfl
      obtain ⟨oh, h3, h4⟩ := hh' _ _ rfl
      exact ⟨l'.toNat, h'.toNat, hb.2, by omega, by omega, .inr ⟨ol, kk, h1, by rw [h2]; congr 1; omega, by simp⟩, .inr ⟨oh, kk', h3, by rw [h4]; congr 1; omega, by simp⟩⟩
    · exact hb.elim
  have cutE : ∀ {α : Type} (xs : List α) (l h : Nat), (vl = none → l = 0) → (vh = none → h = xs.length) → cut xs vl vh l h = (xs.drop l).take (h - l) := by
    intro α xs l h g1 g2
    unfold cut
    cases vl <;> cases vh <;> simp only
    · rw [g1 rfl, g2 rfl]; simp
    · rw [g1 rfl]; simp
    · rw [g2 rfl, List.take_of_length_le (by rw [List.length_drop]; omega)]
  unfold aslice at h
  split at h
  · rename_i te hT
    obtain ⟨e, hu, hio, hpos⟩ := (lk_ty hE hT).sl
    split at h
    · rename_i fr t xs
      obtain ⟨hz, h⟩ := bif_ok h
      have hz := beq_ok hz
      obtain ⟨l, hh, hk, h1, h2, h3, h4⟩ := bnd _ _ h
      rw [cutE xs l hh (fun e => by rcases h3 with h3 | ⟨_, _, _, _, h3⟩; · exact h3.2.1
                                    · exact (h3 e).elim) (fun e => by rcases h4 with h4 | ⟨_, _, _, _, h4⟩; · exact h4.2.1
                                                                      · exact (h4 e).elim)] at hk
      cases hx with | sl _ _ _ _ hd =>
      obtain ⟨ad, cap, e1, e2, e3, e4⟩ := id hd
      simp only [List.cons.injEq, and_true] at e1
      subst e1
      refine after_pure hst hσ (sl_sub hd l hh h1 h2) hk ?_
      rw [hz]
      exact runS l hh hu hio.size rfl h1 (by omega) (by rcases h3 with h3 | ⟨ol, kk, q1, q2, _⟩
                                                        · exact .inl ⟨h3.1, h3.2.1⟩
                                                        · exact .inr ⟨ol, kk, q1, q2⟩) (by rcases h4 with h4 | ⟨ol, kk, q1, q2, _⟩
                                                                                           · exact .inl ⟨h4.1, h4.2.1⟩
                                                                                           · exact .inr ⟨ol, kk, q1, q2⟩)
    · rename_i t id
      split at h
      · rename_i f t' xs hb
        obtain ⟨hz, h⟩ := bif_ok h
        have hz := beq_ok hz
        obtain ⟨l, hh, hk, h1, h2, h3, h4⟩ := bnd _ _ h
        cases hx with | own _ _ n ad cap hs hn hc hoo =>
        have hs0 := hs
        simp only [shape, hb, Option.some.injEq, Prod.mk.injEq] at hs
        obtain ⟨rfl, _⟩ := hs
        refine after_pure hst hσ (VRel.slc (c := c) (H := H) (w := w) t id l (hh - l) xs.length (if cap = l then ad else ad.map (·.add (l * t.size))) (cap - l) hs0 (by omega) (by omega) (by omega) ?_) hk ?_
        · by_cases hcl : cap = l
          · left; omega
          · right
            rw [if_neg hcl]
            obtain ⟨g, el, cur, q1, rfl, q3, q4⟩ := hoo.resolve_left (by omega)
            refine ⟨g, el, cur, q1, by simp [Addr.add_lit], q3, ?_⟩
            rw [← Nat.add_mul]
            have : l + (cap - l) = cap := by omega
            rw [this]; simpa using q4
        · rw [hz]
          exact runS l hh hu hio.size rfl h1 (by omega) (by rcases h3 with h3 | ⟨ol, kk, q1, q2, _⟩
                                                            · exact .inl ⟨h3.1, h3.2.1⟩
                                                            · exact .inr ⟨ol, kk, q1, q2⟩) (by rcases h4 with h4 | ⟨ol, kk, q1, q2, _⟩
                                                                                               · exact .inl ⟨h4.1, h4.2.1⟩
                                                                                               · exact .inr ⟨ol, kk, q1, q2⟩)
      · exact h.elim
    · rename_i t id off n
      obtain ⟨hz, h⟩ := bif_ok h
      have hz := beq_ok hz
      obtain ⟨l, hh, hk, h1, h2, h3, h4⟩ := bnd _ _ h
      cases hx with | slc _ _ _ _ m ad cap hs hm hn hc hoo =>
      refine after_pure hst hσ (VRel.slc (c := c) (H := H) (w := w) t id (off + l) (hh - l) m (if cap = l then ad else ad.map (·.add (l * t.size))) (cap - l) hs (by omega) (by omega) (by omega) ?_) hk ?_
      · by_cases hcl : cap = l
        · left; omega
        · right
          rw [if_neg hcl]
          obtain ⟨g, el, cur, q1, rfl, q3, q4⟩ := hoo.resolve_left (by omega)
          refine ⟨g, el, cur, q1, by simp [Addr.add_lit, Nat.add_mul], q3, ?_⟩
          rw [← Nat.add_mul]
          have : off + l + (cap - l) = off + cap := by omega
          rw [this, Nat.add_mul]; exact q4
      · rw [hz]
        exact runS l hh hu hio.size rfl h1 (by omega) (by rcases h3 with h3 | ⟨ol, kk, q1, q2, _⟩
                                                          · exact .inl ⟨h3.1, h3.2.1⟩
                                                          · exact .inr ⟨ol, kk, q1, q2⟩) (by rcases h4 with h4 | ⟨ol, kk, q1, q2, _⟩
                                                                                             · exact .inl ⟨h4.1, h4.2.1⟩
                                                                                             · exact .inr ⟨ol, kk, q1, q2⟩)
    · exact h.elim
  · rename_i hT
    have hu : P.underlying T = some .string := (lk_ty hE hT).2
    split at h
    · rename_i s
      obtain ⟨l, hh, hk, h1, h2, h3, h4⟩ := bnd _ _ h
      rw [cutE s l hh (fun e => by rcases h3 with h3 | ⟨_, _, _, _, h3⟩; · exact h3.2.1
                                   · exact (h3 e).elim) (fun e => by rcases h4 with h4 | ⟨_, _, _, _, h4⟩; · exact h4.2.1
                                                                     · exact (h4 e).elim)] at hk
      cases hx with | str _ hs =>
      have hsz : (ByteArray.mk s.toArray).size = s.length := rfl
      refine after_pure hst hσ (VRel.str (c := c) (H := H) (w := w) ((s.drop l).take (hh - l)) (by rw [List.length_take, List.length_drop]; omega)) hk ?_
      rw [← extract_str]
      rcases h3 with ⟨rfl, rfl, _⟩ | ⟨ol, kl, rfl, e3, _⟩ <;> rcases h4 with ⟨rfl, rfl, _⟩ | ⟨oh, kh, rfl, e4, _⟩
      · simp [execOp, ho, hax, Instr.sliceAt, Instr.slice, run_underlying hu, Instr.sliceBounds, hsz]
        rw [extract_str]; simp
      · have b2 := run_sliceBound (P := P) (w := w) kh (hh : Int) s.length .sliceAlen (by omega) (by omega)
        simp [execOp, ho, hax, e4, Instr.sliceAt, Instr.slice, run_underlying hu, Instr.sliceBounds, b2, hsz]
      · have b1 := run_sliceBound (P := P) (w := w) kl (l : Int) s.length .sliceB (by omega) (by omega)
        simp [execOp, ho, hax, e3, Instr.sliceAt, Instr.slice, run_underlying hu, Instr.sliceBounds, b1, hsz]
      · have b1 := run_sliceBound (P := P) (w := w) kl (l : Int) hh .sliceB (by omega) (by omega)
        have b2 := run_sliceBound (P := P) (w := w) kh (hh : Int) s.length .sliceAlen (by omega) (by omega)
        simp [execOp, ho, hax, e3, e4, Instr.sliceAt, Instr.slice, run_underlying hu, Instr.sliceBounds, b1, b2, hsz]
    · exact h.elim
  · exact h.elim

theorem op_index (hE : EnvOk P E) (hst : St E.glob base w0 c H w) (hσ : VRels c H w σ a.tmps.toList) (T : TypeId) (x ix : Operand) (ho : o.op = .index T x ix) (h : aop E σ H (.index T x ix) K) :
    After E.glob base w0 a.tmps.toList K P o a w := by
  have hx := ev_ok hst hσ x
  have hi := ev_ok hst hσ ix
  simp only [aop] at h
  generalize ev E σ x = vx at h hx
  generalize ev E σ ix = vi at h hi
  generalize hax : a.eval x = ax at hx
  generalize hai : a.eval ix = ai at hi
  split at h
  · rename_i s k j hT
    have hu : P.underlying T = some .string := (lk_ty hE hT).2
    cases hx; cases hi
    obtain ⟨⟨h0, h1⟩, hk⟩ := h
    have hlt : j.toNat < s.length := by omega
    refine after_pure hst hσ (VRel.u8 _) hk ?_
    have hget : (ByteArray.mk s.toArray)[j.toNat]? = some (s.getD j.toNat 0) := by
      have h2 : j.toNat < (ByteArray.mk s.toArray).size := hlt
      have h3 : (ByteArray.mk s.toArray)[j.toNat]? = some ((ByteArray.mk s.toArray)[j.toNat]'h2) := getElem?_pos (ByteArray.mk s.toArray) j.toNat h2
      rw [h3]
      simp [List.getD_eq_getElem?_getD, List.getElem?_eq_getElem hlt]; rfl
    simp [execOp, ho, hax, hai, Instr.index, asIntOf, run_underlying hu, h0, hget]
  · exact h.elim

theorem op_extract (hst : St E.glob base w0 c H w) (hσ : VRels c H w σ a.tmps.toList) (x : Operand) (i : Nat) (ho : o.op = .extract x i) (h : aop E σ H (.extract x i) K) :
    After E.glob base w0 a.tmps.toList K P o a w := by
  have hx := ev_ok hst hσ x
  simp only [aop] at h
  generalize ev E σ x = vx at h hx
  generalize hax : a.eval x = ax at hx
  split at h
  · rename_i vs
    obtain ⟨hb, h⟩ := bif_ok h
    have hlt := blt_ok hb
    have h := (forceV_eq _ _).1 h
    cases hx with | tup _ us hrel =>
    have hl := hrel.length
    have hv : us[i]? = some (us[i]'(by omega)) := List.getElem?_eq_getElem (by omega)
    have hg : us.getD i undef = us[i]'(by omega) := by rw [List.getD_eq_getElem?_getD, hv]; rfl
    have hr := hrel.get i
    rw [hg] at hr
    generalize us[i]'(by omega) = u at hv hr
    refine after_pure hst hσ hr h ?_
    simp [execOp, ho, hax, Instr.extract, hv]
  · exact h.elim

theorem op_makeFunc (hst : St E.glob base w0 c H w) (hσ : VRels c H w σ a.tmps.toList) (f : Nat) (fst caps : Array Operand) (ho : o.op = .makeFunc (.func f) fst caps) (h : aop E σ H (.makeFunc (.func f) fst caps) K) :
    After E.glob base w0 a.tmps.toList K P o a w := by
  simp only [aop] at h
  split at h
  · rename_i hf
    have hf' : fst = #[] := by apply Array.ext'; exact hf
    subst hf'
    obtain ⟨vs, h1, h2⟩ := evs_ok hst hσ _ _ h
    have hrel := VRel.fn f vs _ h2
    refine after_pure hst hσ hrel h1 ?_
    have he : Array.map a.eval caps = (List.map a.eval caps.toList).toArray := Array.ext' (by simp)
    simp [execOp, ho, Instr.makeFunc, he]
  · exact h.elim

theorem op_call (hE : EnvOk P E) (hst : St E.glob base w0 c H w) (hσ : VRels c H w σ a.tmps.toList) (f : Operand) (args : Array Operand) (ts : Array TypeId) (ho : o.op = .call { callee := .value f, args, argTypes := ts }) (h : aop E σ H (.call { callee := .value f, args, argTypes := ts }) K) :
    After E.glob base w0 a.tmps.toList K P o a w := by
  have hf := ev_ok hst hσ f
  simp only [aop] at h
  generalize ev E σ f = vf at h hf
  generalize hax : a.eval f = af at hf
  split at h
  · rename_i k caps
    split at h
    · rename_i con hcon
      obtain ⟨vs, h1, h2⟩ := evs_ok hst hσ _ _ h
      cases hf with | fn _ _ cvs hcap =>
      obtain ⟨hent, hcalls⟩ := hE.con k con hcon
      have hrel := VRels.append h2 hcap
      have hc := hcalls base w0 c H w _ _ hst hrel _ h1
      refine .inr (.inr ⟨k, (args.toList.map a.eval ++ cvs).toArray, w, ?_, hc.mono fun e w' ⟨x, v, H', c', he, hR, hx, hst', hext⟩ => ?_⟩)
      · simp [execOp, ho, resolve, hax, Deferred.ofValue, invoke, hent]
      · have hR := (forceL_eq _ _).1 ((forceV_eq _ _).1 hR)
        exact ⟨v, he, x, σ, H', c', hR, hx, hσ.ext hext, hst'⟩
    · exact h.elim
  · exact h.elim

/-- Every operation does what its abstract form says. -/
theorem aop_ok (hG : GlobOk E.glob) (hE : EnvOk P E) (hst : St E.glob base w0 c H w) (hσ : VRels c H w σ a.tmps.toList) (h : aop E σ H o.op K) : After E.glob base w0 a.tmps.toList K P o a w := by
  generalize ho : o.op = op at h
  cases op with
  | move x => exact op_move hst hσ x (.inl ho) h
  | assign x => exact op_move hst hσ x (.inr ho) h
  | pick x y z => exact op_pick hst hσ x y z ho h
  | alloc T => exact op_alloc hE hst hσ T ho h
  | build T ps => exact op_build hE hst hσ T ps ho h
  | buildSlice T n ps => exact op_buildSlice hE hst hσ T n ps ho h
  | load T p => exact op_load hE hst hσ T p ho h
  | store T p x => exact op_store hE hst hσ T p x ho h
  | binOp op T x y T' => exact op_bin hE hst hσ op T x y T' ho h
  | unOp op T x => cases op <;> first | exact op_not hst hσ T x ho h | exact h.elim
  | convert S T x => exact op_conv hE hst hσ S T x ho h
  | makeFunc f fst caps => cases f <;> first | exact op_makeFunc hst hσ _ fst caps ho h | exact h.elim
  | makeSlice T l m => exact op_makeSlice hE hst hσ T l m ho h
  | slice T x lo hi mx => cases mx with
    | none => exact op_slice hE hst hσ T x lo hi ho h
    | some _ => exact h.elim
  | fieldAddr S x f => exact op_field hE hst hσ S x f ho h
  | indexAddr T x ix => exact op_indexAddr hE hst hσ T x ix ho h
  | index T x ix => exact op_index hE hst hσ T x ix ho h
  | extract x i => exact op_extract hst hσ x i ho h
  | call cl =>
    obtain ⟨cal, args, ts⟩ := cl
    cases cal with
    | value f => exact op_call hE hst hσ f args ts ho h
    | invoke r m => exact h.elim
    | builtin b =>
      cases b <;> try exact h.elim
      · simp only [aop] at h
        split at h
        · rename_i x y T T' hargs hts
          obtain ⟨hb, hh⟩ := bif_ok h
          clear h
          have hb := beq_ok hb
          subst hb
          have e1 : args = #[x, y] := by apply Array.ext'; exact hargs
          have e2 : ts = #[T, T] := by apply Array.ext'; exact hts
          subst e1 e2
          exact op_append hG hE hst hσ x y T ho hh
        · exact h.elim
      · simp only [aop] at h
        split at h
        · rename_i x T hargs hts
          have e1 : args = #[x] := by apply Array.ext'; exact hargs
          have e2 : ts = #[T] := by apply Array.ext'; exact hts
          subst e1 e2
          exact op_len hE hst hσ x T ho h
        · exact h.elim
      · simp only [aop] at h
        split at h
        · rename_i x y hargs
          have e1 : args = #[x, y] := by apply Array.ext'; exact hargs
          subst e1
          exact op_mm hst hσ true x y ts ho h
        · exact h.elim
      · simp only [aop] at h
        split at h
        · rename_i x y hargs
          have e1 : args = #[x, y] := by apply Array.ext'; exact hargs
          subst e1
          exact op_mm hst hσ false x y ts ho h
        · exact h.elim
  | _ => exact h.elim
end
end Go.Proofs.YtifaanbnijnbdaaDoor.Vc

namespace Go.Proofs.YtifaanbnijnbdaaDoor.Vc
open Go Go.RowKit

section
variable {E : Env} {P : Program} {base : Nat} {w0 : World}

/-- The state of a frame. -/
def Sta (E : Env) (base : Nat) (w0 : World) (σ : List V) (H : List Blk) (a : Act) (w : World) : Prop :=
  ∃ c, St E.glob base w0 c H w ∧ VRels c H w σ a.tmps.toList ∧ a.defers = []

theorem put_some (a : Act) (d : Nat) (v : Value) : (a.put (some d) v).tmps.toList = a.tmps.toList.set d v := by simp [Act.put]
theorem put_defers (a : Act) (d : Option Nat) (v : Value) : (a.put d v).defers = a.defers := by cases d <;> rfl

theorem setDst_ok {c : Cx} {H : List Blk} {w : World} {σ : List V} {a : Act} {d : Option Nat} {x : V} {v : Value} {K : List V → Prop} (h : setDst σ d x K) (hσ : VRels c H w σ a.tmps.toList) (hx : VRel c H w x v) :
    ∃ σ', K σ' ∧ VRels c H w σ' (a.put d v).tmps.toList := by
  cases d with
  | none => exact ⟨σ, h, hσ⟩
  | some d =>
    have h := (forceL_eq _ _).1 h
    exact ⟨_, h, by rw [put_some]; exact hσ.set hx d⟩

/-- One operation, its guard looked at. -/
def aopAt (E : Env) (all : List Oper) (o : Oper) (σ : List V) (H : List Blk) (K : List V → List Blk → Prop) : Prop :=
  aguard all σ o.guard (aop E σ H o.op fun v σ H => setDst σ o.dst v fun σ => K σ H) (setDst σ o.dst .nope fun σ => K σ H)

theorem aopAt_ok (hG : GlobOk E.glob) (hE : EnvOk P E) {all : Array Oper} {o : Oper} {σ : List V} {H : List Blk} {K : List V → List Blk → Prop} {a : Act} {w : World} {next : Act → World → Prop} {Q : Exit → Act → World → Prop}
    (hs : Sta E base w0 σ H a w) (h : aopAt E all.toList o σ H K) (hn : ∀ σ' H' a' w', K σ' H' → Sta E base w0 σ' H' a' w' → next a' w') :
    if Region.wanted o (yielded all a.tmps) then o.wp P a w next Q ∨ (o.asks P a w ∧ LetsOut Q) else next (a.put o.dst undef) w := by
  obtain ⟨c, hst, hσ, hd⟩ := hs
  have yes : aop E σ H o.op (fun v σ H => setDst σ o.dst v fun σ => K σ H) → o.wp P a w next Q := fun h => by
    refine (aop_ok hG hE hst hσ h).wp fun v w' ⟨x, σ', H', c', hk, hx, hσ', hst'⟩ => ?_
    obtain ⟨σ'', hk, hσ''⟩ := setDst_ok hk hσ' hx
    exact hn _ _ _ _ hk ⟨c', hst', hσ'', by rw [put_defers]; exact hd⟩
  have no : setDst σ o.dst .nope (fun σ => K σ H) → next (a.put o.dst undef) w := fun h => by
    obtain ⟨σ'', hk, hσ''⟩ := setDst_ok h hσ .nope
    exact hn _ _ _ _ hk ⟨c, hst, hσ'', by rw [put_defers]; exact hd⟩
  unfold aopAt aguard at h
  split at h
  · rename_i hg
    rw [if_pos (by simp [Region.wanted, hg])]
    exact .inl (yes h)
  · rename_i j b hg
    split at h
    · rename_i t ht
      have hrel := hσ.get t
      have hlen := hσ.length
      have hte : (all[j]?).bind (·.dst) = some t := by simpa using ht
      have hget : t < σ.length → a.tmps[t]? = some (a.tmps.toList.getD t undef) := fun g => by
        rw [hlen] at g
        have hlt : t < a.tmps.size := by simpa using g
        simp [List.getD_eq_getElem?_getD, hlt]
      have hlt : gets σ t ≠ .undef → t < σ.length := fun hne => by
        rcases Nat.lt_or_ge t σ.length with g | g
        · exact g
        · exact absurd (by rw [gets_eq]; simp [List.getD_eq_getElem?_getD, List.getElem?_eq_none g]) hne
      have hw : ∀ x, a.tmps.toList.getD t undef = .bool x → gets σ t ≠ .undef → Region.wanted o (yielded all a.tmps) = (x == b) := fun x hx hne => by
        have hg2 := hget (hlt hne)
        rw [hx] at hg2
        have hy : yielded all a.tmps j = some x := by simp [yielded, hte, hg2]
        simp only [Region.wanted, hg, hy]; cases x <;> cases b <;> rfl
      split at h
      · rename_i p hp
        rw [hp] at hrel hw
        generalize a.tmps.toList.getD t undef = u at hrel hw
        cases hrel with | b _ x hx =>
        rw [hw x rfl (by simp)]
        cases b with
        | true =>
          cases x with
          | true => exact .inl (yes (h.1 (hx.1 rfl)))
          | false => exact no (h.2 fun hp => by simpa using hx.2 hp)
        | false =>
          cases x with
          | true => exact no (h.2 (hx.1 rfl))
          | false => exact .inl (yes (h.1 fun hp => by simpa using hx.2 hp))
      · rename_i hp
        rw [hp] at hrel
        have hlt' := hlt (by rw [hp]; simp)
        have hg2 := hget hlt'
        generalize a.tmps.toList.getD t undef = u at hrel hg2
        cases hrel
        have hy : yielded all a.tmps j = none := by simp [yielded, hte, hg2, undef]
        have hw2 : Region.wanted o (yielded all a.tmps) = false := by simp only [Region.wanted, hg, hy]; cases b <;> rfl
        rw [hw2]
        exact no h
      · rename_i hp
        rw [hp] at hrel hw
        generalize a.tmps.toList.getD t undef = u at hrel hw
        cases hrel
        rw [hw true rfl (by simp)]
        cases b with
        | true => exact .inl (yes h)
        | false => exact no h
      · rename_i hp
        rw [hp] at hrel hw
        generalize a.tmps.toList.getD t undef = u at hrel hw
        cases hrel
        rw [hw false rfl (by simp)]
        cases b with
        | true => exact no h
        | false => exact .inl (yes h)
      · exact h.elim
    · exact h.elim

/-- What is settled in a state. -/
theorem Sta.settle {σ : List V} {H : List Blk} {a : Act} {w : World} (h : Sta E base w0 σ H a w) {t : Nat} {x : Bool} (hx : a.tmps.toList.getD t undef = .bool x) : Sta E base w0 (sets σ t (.bt x)) H a w := by
  obtain ⟨c, hst, hσ, hd⟩ := h
  refine ⟨c, hst, ?_, hd⟩
  have := hσ.set (VRel.bt (c := c) (H := H) (w := w) x) t
  have e : a.tmps.toList.set t (.bool x) = a.tmps.toList := by
    rw [← hx]
    by_cases ht : t < a.tmps.toList.length
    · apply List.ext_getElem (by simp)
      intro i h1 h2
      rw [List.getElem_set]
      split
      · rename_i e; subst e; simp only [List.getD_eq_getElem?_getD, List.getElem?_eq_getElem ht, Option.getD_some]
      · rfl
    · exact List.set_eq_of_length_le (by omega)
  rwa [e] at this

/-- One operation, its guard looked at, and settled. -/
def aopAtR (E : Env) (all : List Oper) (o : Oper) (σ : List V) (H : List Blk) (K : List V → List Blk → Prop) : Prop :=
  aguardR all σ o.guard (fun σ => aop E σ H o.op fun v σ H => setDst σ o.dst v fun σ => K σ H) (fun σ => setDst σ o.dst .nope fun σ => K σ H)

/-- To look at a guard and to settle it: as with a state in which it is settled. -/
theorem aguardR_ok {all : List Oper} {σ : List V} {g : Option (Nat × Bool)} {yes no : List V → Prop} {H : List Blk} {a : Act} {w : World} (hs : Sta E base w0 σ H a w) (h : aguardR all σ g yes no) :
    ∃ σ', Sta E base w0 σ' H a w ∧ aguard all σ' g (yes σ') (no σ') := by
  unfold aguardR at h
  unfold aguard
  cases g with
  | none => exact ⟨σ, hs, h⟩
  | some g =>
    obtain ⟨j, b⟩ := g
    dsimp only at h ⊢
    cases ht : (all[j]?).bind (·.dst) with
    | none => rw [ht] at h; exact h.elim
    | some t =>
      rw [ht] at h
      dsimp only at h ⊢
      have hlt : gets σ t ≠ .undef → t < σ.length := fun hne => by
        rcases Nat.lt_or_ge t σ.length with g | g
        · exact g
        · exact absurd (by rw [gets_eq]; simp [List.getD_eq_getElem?_getD, List.getElem?_eq_none g]) hne
      have hset : ∀ x : V, gets σ t ≠ .undef → gets (sets σ t x) t = x := fun x hne => by
        rw [gets_eq, sets_eq]
        simp [List.getD_eq_getElem?_getD, hlt hne]
      obtain ⟨c, hst, hσ, hd⟩ := id hs
      have hrel := hσ.get t
      cases hg : gets σ t <;> rw [hg] at h hrel <;> try exact h.elim
      · exact ⟨σ, hs, by rw [hg]; exact h⟩
      · rename_i p
        have hne : gets σ t ≠ .undef := by rw [hg]; simp
        generalize hu : a.tmps.toList.getD t undef = u at hrel
        cases hrel with | b _ x hx =>
        refine ⟨_, hs.settle hu, ?_⟩
        rw [hset _ hne]
        cases b with
        | true =>
          cases x with
          | true => exact (forceL_eq _ _).1 (h.1 (hx.1 rfl))
          | false => exact (forceL_eq _ _).1 (h.2 fun hp => by simpa using hx.2 hp)
        | false =>
          cases x with
          | true => exact (forceL_eq _ _).1 (h.2 (hx.1 rfl))
          | false => exact (forceL_eq _ _).1 (h.1 fun hp => by simpa using hx.2 hp)
      · rename_i x
        refine ⟨σ, hs, ?_⟩
        rw [hg]
        cases x <;> exact h

theorem aopAtR_ok (hG : GlobOk E.glob) (hE : EnvOk P E) {all : Array Oper} {o : Oper} {σ : List V} {H : List Blk} {K : List V → List Blk → Prop} {a : Act} {w : World} {next : Act → World → Prop} {Q : Exit → Act → World → Prop}
    (hs : Sta E base w0 σ H a w) (h : aopAtR E all.toList o σ H K) (hn : ∀ σ' H' a' w', K σ' H' → Sta E base w0 σ' H' a' w' → next a' w') :
    if Region.wanted o (yielded all a.tmps) then o.wp P a w next Q ∨ (o.asks P a w ∧ LetsOut Q) else next (a.put o.dst undef) w := by
  obtain ⟨σ', hs', h'⟩ := aguardR_ok hs h
  exact aopAt_ok hG hE hs' h' hn

theorem aops_eq (all : List Oper) (o : Oper) (l : List Oper) (σ : List V) (H : List Blk) (K : List V → List Blk → Prop) : aops E all (o :: l) σ H K = aopAtR E all o σ H (fun σ H => aops E all l σ H K) := rfl

theorem aops_ok (hG : GlobOk E.glob) (hE : EnvOk P E) {all : Array Oper} {Q : Exit → Act → World → Prop} : ∀ (l : List Oper) (σ : List V) (H : List Blk) (K : List V → List Blk → Prop) (a : Act) (w : World), Sta E base w0 σ H a w → aops E all.toList l σ H K →
    (∀ σ' H' a' w', K σ' H' → Sta E base w0 σ' H' a' w' → Q .normal a' w') → wpList P all Q l a w
  | [], σ, H, K, a, w, hs, h, hn => hn _ _ _ _ h hs
  | o :: l, σ, H, K, a, w, hs, h, hn => by
    rw [aops_eq] at h
    unfold wpList
    exact aopAtR_ok hG hE hs h fun σ' H' a' w' hk hs' => aops_ok hG hE l σ' H' K a' w' hs' hk hn

/-- What an abstract post says of the ways out. -/
def Post (E : Env) (base : Nat) (w0 : World) (Q : Ex → List V → List Blk → Prop) : Exit → Act → World → Prop
  | .normal, a, w => ∃ σ H, Q .normal σ H ∧ Sta E base w0 σ H a w
  | .exit i, a, w => ∃ σ H, Q (.exit i) σ H ∧ Sta E base w0 σ H a w
  | .ret, a, w => ∃ σ H, Q .ret σ H ∧ Sta E base w0 σ H a w
  | _, _, _ => False

/-- A region in an order that is drawn. -/
def DrawOk (E : Env) (P : Program) : Prop := ∀ (ops : Array Oper) (id : Nat) (base : Nat) (w0 : World) (σ : List V) (H : List Blk) (K : List V → List Blk → Prop) (a : Act) (w : World) (Q : Exit → Act → World → Prop),
  okDraw E ops.toList = true → Sta E base w0 σ H a w → aopsD E ops.toList 0 ops.toList σ H K → (∀ σ' H' a' w', K σ' H' → Sta E base w0 σ' H' a' w' → Q .normal a' w') → (Code.region id ops true).wp P Q a w

end
end Go.Proofs.YtifaanbnijnbdaaDoor.Vc

namespace Go.Proofs.YtifaanbnijnbdaaDoor.Vc
open Go Go.RowKit

section
variable {G : List (Nat × V)} {base : Nat} {w0 : World} {c : Cx} {H : List Blk} {w : World}

/-! ### memory of the call's own becomes data -/
def Cx.frz (c : Cx) (id : Nat) : Cx := ⟨fun g => c.M g ∨ c.ρ id = some g, fun g => c.N g ∨ c.ρ id = some g, fun i => if i = id then none else c.ρ i⟩

theorem im_frz {fr : Bool} {id g : Nat} (h : c.im fr g) : (c.frz id).im fr g := by cases fr <;> exact .inl h

theorem getB_frzH (id : Nat) (y : V) : ∀ (H : List Blk) (j : Nat), getB (frzH id y H) j = frzB id y (getB H j)
  | [], j => by cases j <;> rfl
  | b :: H, 0 => rfl
  | b :: H, j + 1 => getB_frzH id y H j
theorem length_frzH (id : Nat) (y : V) : ∀ H : List Blk, (frzH id y H).length = H.length
  | [] => rfl
  | b :: H => by simp [frzH, length_frzH id y H]
theorem length_frzL (id : Nat) (y : V) : ∀ l : List V, (frzL id y l).length = l.length
  | [] => rfl
  | b :: l => by simp [frzL, length_frzL id y l]
theorem gets_frzL (id : Nat) (y : V) : ∀ (l : List V) (j : Nat), gets (frzL id y l) j = frzV id y (gets l j)
  | [], j => by cases j <;> rfl
  | b :: l, 0 => rfl
  | b :: l, j + 1 => gets_frzL id y l j
theorem shape_frz {id j : Nat} {y : V} (h : j ≠ id) : shape (setB (frzH id y H) id .dead) j = shape H j := by
  rw [shape_setB_ne h]
  unfold shape
  rw [getB_frzH]
  cases getB H j <;> simp [frzB, length_frzL]

theorem DRel.frz {fr : Bool} {id : Nat} {t : Ty} {x : t.D} {cs : List Value} (h : DRel w (c.im fr) t x cs) : DRel w ((c.frz id).im fr) t x cs := DRel.ext (fun _ => im_frz) (fun _ _ => rfl) _ _ _ h

theorem OwnAt.frz {i id z off : Nat} {a : Option Addr} {cap : Nat} (hi : i ≠ id) (h : OwnAt c w i z off a cap) : OwnAt (c.frz id) w i z off a cap := by
  obtain ⟨g, e, cur, h1, h2⟩ := h
  exact ⟨g, e, cur, by simp [Cx.frz, hi, h1], h2⟩

section
variable {H' : List Blk} {id : Nat} {y : V}
mutual
theorem VRel.frz (hs : ∀ j, j ≠ id → shape H' j = shape H j) (hy : ∀ t v, VRel c H w (.own t id) v → VRel (c.frz id) H' w y v) : ∀ {x : V} {v : Value}, VRel c H w x v → VRel (c.frz id) H' w (frzV id y x) v
  | _, _, .undef v => .undef v
  | _, _, .int k n h1 h2 => .int k n h1 h2
  | _, _, .u8 x => .u8 x
  | _, _, .b p x h => .b p x h
  | _, _, .bt x => .bt x
  | _, _, .nope => .nope
  | _, _, .str s h => .str s h
  | _, _, .nils => .nils
  | _, _, .sl fr t xs v h => .sl fr t xs v h.frz
  | _, _, .own t i n a cap h1 hn hc ho => by
    unfold frzV
    cases hb : Nat.beq i id with
    | true =>
      have := beq_ok hb; subst this
      exact hy t _ (.own t i n a cap h1 hn hc ho)
    | false =>
      have hne := ne_of_beq hb
      exact .own t i n a cap ((hs i hne).trans h1) hn hc (ho.imp (fun h => h) (OwnAt.frz hne))
  | _, _, .slc t i off n m a cap h1 h2 hn hc ho => by
    unfold frzV
    cases hb : Nat.beq i id with
    | true => exact .undef _
    | false =>
      have hne := ne_of_beq hb
      exact .slc t i off n m a cap ((hs i hne).trans h1) h2 hn hc (ho.imp (fun h => h) (OwnAt.frz hne))
  | _, _, .rp fr t x o g p es hM hd hc => .rp fr t x o g p es (im_frz hM) hd.frz hc
  | _, _, .ptr i z j o g m h1 hr hi ho => by
    unfold frzV
    cases hb : Nat.beq i id with
    | true => exact .undef _
    | false =>
      have hne := ne_of_beq hb
      exact .ptr i z j o g m ((hs i hne).trans h1) (by simp [Cx.frz, hne, hr]) hi ho
  | _, _, .agg cs vs h => .agg _ vs (VRels.frz hs hy h)
  | _, _, .tup cs vs h => .tup _ vs (VRels.frz hs hy h)
  | _, _, .fn f cs vs h => .fn f _ vs (VRels.frz hs hy h)
  | _, _, .nilfn => .nilfn
theorem VRels.frz (hs : ∀ j, j ≠ id → shape H' j = shape H j) (hy : ∀ t v, VRel c H w (.own t id) v → VRel (c.frz id) H' w y v) : ∀ {xs : List V} {vs : List Value}, VRels c H w xs vs → VRels (c.frz id) H' w (frzL id y xs) vs
  | _, _, .nil => .nil
  | _, _, .cons x v xs vs h hx => .cons _ v _ vs (VRel.frz hs hy h) (VRels.frz hs hy hx)
end
end

theorem frz_row (h : St G base w0 c H w) {id : Nat} {fr : Bool} {t : Ty} {xs : List t.D} (hb : getB H id = .row fr t xs) (t' : Ty) (v : Value) (hv : VRel c H w (.own t' id) v) {H' : List Blk} : VRel (c.frz id) H' w (.sl fr t xs) v := by
  cases hv with | own _ _ n a cap hs hn hc ho =>
  simp only [shape, hb, Option.some.injEq, Prod.mk.injEq] at hs
  obtain ⟨rfl, hz⟩ := hs
  refine .sl _ _ _ _ ⟨a, cap, rfl, hn, hc, fun hne => ?_⟩
  have hcap : cap ≠ 0 := by
    intro h0; subst h0
    exact hne (List.eq_nil_of_length_eq_zero (by omega))
  obtain ⟨g, e, cur, hr, ha, hg, hsz⟩ := ho.resolve_left hcap
  have hbk := h.blk id
  rw [hb] at hbk
  rcases hbk with ⟨_, h2⟩ | ⟨g', e', cur', hr', hg', hsz', hel⟩
  · exact absurd h2 hne
  · rw [hr] at hr'; cases hr'
    rw [hg] at hg'; cases hg'
    refine ⟨g, 0, ha, by cases fr <;> exact .inr hr, fun i y hy => ?_⟩
    obtain ⟨es, h5, h6⟩ := hel i y hy
    refine ⟨es, h5.frz, fun j u hj => ?_⟩
    rw [Go.cell_of_row w g _ cur e (0, 0) hg]
    have := h6 j u hj
    simpa using this

mutual
theorem frzV_id (id : Nat) (y : V) : ∀ x : V, x.mentions id = false → frzV id y x = x
  | .undef, _ => rfl
  | .int _ _, _ => rfl
  | .u8 _, _ => rfl
  | .b _, _ => rfl
  | .bt _, _ => rfl
  | .nope, _ => rfl
  | .str _, _ => rfl
  | .nils, _ => rfl
  | .sl _ _ _, _ => rfl
  | .own t i, h => by
    have h : Nat.beq i id = false := h
    simp [frzV, h]
  | .slc t i o l, h => by
    have h : Nat.beq i id = false := h
    simp [frzV, h]
  | .rp _ _ _ _, _ => rfl
  | .ptr i z j o, h => by
    have h : Nat.beq i id = false := h
    simp [frzV, h]
  | .agg cs, h => by simp only [frzV]; rw [frzL_id id y cs h]
  | .tup cs, h => by simp only [frzV]; rw [frzL_id id y cs h]
  | .fn f cs, h => by simp only [frzV]; rw [frzL_id id y cs h]
  | .nilfn, _ => rfl
theorem frzL_id (id : Nat) (y : V) : ∀ l : List V, V.mentionsL id l = false → frzL id y l = l
  | [], _ => rfl
  | x :: l, h => by
    simp only [V.mentionsL, Bool.or_eq_false_iff] at h
    rw [frzL, frzV_id id y x h.1, frzL_id id y l h.2]
end

theorem St.frz (hG : GlobOk G) (h : St G base w0 c H w) {id : Nat} {fr : Bool} {t : Ty} {xs : List t.D} (hb : getB H id = .row fr t xs) : St G base w0 (c.frz id) (setB (frzH id (.sl fr t xs) H) id .dead) w where
  below := h.below
  size := h.size
  blk j := by
    by_cases hj : j = id
    · subst hj
      have hl : j < (frzH j (.sl fr t xs) H).length := by
        rw [length_frzH]
        rcases Nat.lt_or_ge j H.length with g | g
        · exact g
        · rw [getB_ge H j g] at hb; cases hb
      rw [getB_setB, if_pos ⟨rfl, hl⟩]; trivial
    · rw [getB_setB, if_neg (by simp [hj]), getB_frzH]
      have hbk := h.blk j
      generalize getB H j = b at hbk
      cases b with
      | dead => trivial
      | row fr' t' xs' =>
        rcases hbk with ⟨h1, h2⟩ | ⟨g, e, cur, h1, h2, h3, h4⟩
        · exact .inl ⟨by simp [Cx.frz, hj, h1], h2⟩
        · refine .inr ⟨g, e, cur, by simp [Cx.frz, hj, h1], h2, h3, fun i x hi => ?_⟩
          obtain ⟨es, e1, e2⟩ := h4 i x hi
          exact ⟨es, e1.frz, e2⟩
      | cells cs =>
        obtain ⟨g, e, cur, h1, h2, h3, h4⟩ := hbk
        refine ⟨g, e, cur, by simp [Cx.frz, hj, h1], h2, by rw [length_frzL]; exact h3, fun k hk => ?_⟩
        rw [length_frzL] at hk
        obtain ⟨v, h5, h6, h7⟩ := h4 k hk
        rw [gets_frzL]
        exact ⟨v, h5, h6, h7.frz (fun j hj => shape_frz hj) fun t' v hv => frz_row h hb t' v hv⟩
  inj i j g hi hj := by
    simp only [Cx.frz] at hi hj
    split at hi <;> split at hj
    · omega
    · cases hi
    · cases hj
    · exact h.inj i j g hi hj
  own i g hi := by
    simp only [Cx.frz] at hi
    split at hi
    · cases hi
    · rename_i hne
      obtain ⟨h1, h2, h3, h4⟩ := h.own i g hi
      refine ⟨h1, h2, fun hm => ?_, by rw [length_setB, length_frzH]; exact h4⟩
      rcases hm with hm | hm
      · exact h3 hm
      · exact hne (h.inj i id g hi hm)
  imm g hg := by
    rcases hg with hg | hg
    · exact h.imm g hg
    · exact (h.own id g hg).2.1
  sub g hg := by
    rcases hg with hg | hg
    · exact ⟨.inl (h.sub g hg).1, (h.sub g hg).2⟩
    · exact ⟨.inr hg, (h.own id g hg).1⟩
  glob g x hx := by
    have hm := hG g x id hx
    have := (h.glob g x hx).frz (id := id) (y := .sl fr t xs) (H' := setB (frzH id (.sl fr t xs) H) id .dead) (fun j hj => shape_frz hj) fun t' v hv => frz_row h hb t' v hv
    rwa [frzV_id id _ x hm] at this

/-! ### new numbers -/
def Cx.ren (c : Cx) (sel : List Nat) : Cx := { c with ρ := fun k => (sel[k]?).bind c.ρ }

theorem inL_iff : ∀ (l : List Nat) (n : Nat), inL l n = true ↔ n ∈ l
  | [], n => by simp [inL]
  | x :: l, n => by
    simp only [inL, Bool.or_eq_true, List.mem_cons, inL_iff l n]
    constructor
    · rintro (h | h)
      · exact .inl (beq_ok h).symm
      · exact .inr h
    · rintro (h | h)
      · subst h; exact .inl (Nat.beq_refl _)
      · exact .inr h
theorem nodupB_iff : ∀ l : List Nat, nodupB l = true → l.Nodup
  | [], _ => List.nodup_nil
  | x :: l, h => by
    simp only [nodupB, Bool.and_eq_true, Bool.not_eq_true'] at h
    refine List.nodup_cons.2 ⟨fun hm => ?_, nodupB_iff l h.2⟩
    rw [(inL_iff l x).2 hm] at h
    simp at h
theorem idxIn_some : ∀ (l : List Nat) (n k : Nat), idxIn l n = some k → l[k]? = some n
  | [], n, k, h => by simp [idxIn] at h
  | x :: l, n, k, h => by
    unfold idxIn at h
    cases hb : Nat.beq x n with
    | true =>
      rw [hb] at h
      simp only [cond_true, Option.some.injEq] at h
      subst h
      have := beq_ok hb; subst this; rfl
    | false =>
      rw [hb] at h
      simp only [cond_false, Option.map_eq_some_iff] at h
      obtain ⟨j, h1, h2⟩ := h
      subst h2
      simpa using idxIn_some l n j h1

theorem getB_selH (sel : List Nat) (H : List Blk) : ∀ (l : List Nat) (k : Nat), getB (selH sel H l) k = match l[k]? with | some i => renB sel (getB H i) | none => .dead
  | [], k => by cases k <;> rfl
  | i :: l, 0 => rfl
  | i :: l, k + 1 => by
    show getB (selH sel H l) k = _
    rw [getB_selH sel H l k]; simp
theorem length_selH (sel : List Nat) (H : List Blk) : ∀ l : List Nat, (selH sel H l).length = l.length
  | [] => rfl
  | i :: l => by simp [selH, length_selH sel H l]
theorem length_renL (sel : List Nat) : ∀ l : List V, (renL sel l).length = l.length
  | [] => rfl
  | b :: l => by simp [renL, length_renL sel l]
theorem gets_renL (sel : List Nat) : ∀ (l : List V) (j : Nat), gets (renL sel l) j = renV sel (gets l j)
  | [], j => by cases j <;> rfl
  | b :: l, 0 => rfl
  | b :: l, j + 1 => gets_renL sel l j

section
variable {sel : List Nat} {H' : List Blk}
theorem OwnAt.ren {i k z off : Nat} {a : Option Addr} {cap : Nat} (hk : sel[k]? = some i) (h : OwnAt c w i z off a cap) : OwnAt (c.ren sel) w k z off a cap := by
  obtain ⟨g, e, cur, h1, h2⟩ := h
  exact ⟨g, e, cur, by simp [Cx.ren, hk, h1], h2⟩
mutual
theorem VRel.ren (hs : ∀ k i, sel[k]? = some i → shape H' k = shape H i) : ∀ {x : V} {v : Value}, VRel c H w x v → VRel (c.ren sel) H' w (renV sel x) v
  | _, _, .undef v => .undef v
  | _, _, .int k n h1 h2 => .int k n h1 h2
  | _, _, .u8 x => .u8 x
  | _, _, .b p x h => .b p x h
  | _, _, .bt x => .bt x
  | _, _, .nope => .nope
  | _, _, .str s h => .str s h
  | _, _, .nils => .nils
  | _, _, .sl fr t xs v h => .sl fr t xs v h
  | _, _, .own t i n a cap h1 hn hc ho => by
    unfold renV
    split
    · rename_i k hk
      have hk := idxIn_some _ _ _ hk
      exact .own t k n a cap ((hs k i hk).trans h1) hn hc (ho.imp (fun h => h) (OwnAt.ren hk))
    · exact .undef _
  | _, _, .slc t i off n m a cap h1 h2 hn hc ho => by
    unfold renV
    split
    · rename_i k hk
      have hk := idxIn_some _ _ _ hk
      exact .slc t k off n m a cap ((hs k i hk).trans h1) h2 hn hc (ho.imp (fun h => h) (OwnAt.ren hk))
    · exact .undef _
  | _, _, .rp fr t x o g p es hM hd hc => .rp fr t x o g p es hM hd hc
  | _, _, .ptr i z j o g m h1 hr hi ho => by
    unfold renV
    split
    · rename_i k hk
      have hk := idxIn_some _ _ _ hk
      exact .ptr k z j o g m ((hs k i hk).trans h1) (by simp [Cx.ren, hk, hr]) hi ho
    · exact .undef _
  | _, _, .agg cs vs h => .agg _ vs (VRels.ren hs h)
  | _, _, .tup cs vs h => .tup _ vs (VRels.ren hs h)
  | _, _, .fn f cs vs h => .fn f _ vs (VRels.ren hs h)
  | _, _, .nilfn => .nilfn
theorem VRels.ren (hs : ∀ k i, sel[k]? = some i → shape H' k = shape H i) : ∀ {xs : List V} {vs : List Value}, VRels c H w xs vs → VRels (c.ren sel) H' w (renL sel xs) vs
  | _, _, .nil => .nil
  | _, _, .cons x v xs vs h hx => .cons _ v _ vs (VRel.ren hs h) (VRels.ren hs hx)
end
end

theorem shape_sel {sel : List Nat} {k i : Nat} (hk : sel[k]? = some i) : shape (selH sel H sel) k = shape H i := by
  unfold shape
  rw [getB_selH, hk]
  simp only
  cases getB H i <;> simp [renB, length_renL]

/-- What a package-level variable is holds no reference at all. -/
def noRef (G : List (Nat × V)) : Prop := ∀ g x, lk G g = some x → ∃ t y o, x = .rp false t y o

theorem St.ren (hN : noRef G) (h : St G base w0 c H w) {sel : List Nat} (hnd : sel.Nodup) : St G base w0 (c.ren sel) (selH sel H sel) w where
  below := h.below
  size := h.size
  blk k := by
    rw [getB_selH]
    split
    · rename_i i hk
      have hbk := h.blk i
      generalize getB H i = b at hbk
      cases b with
      | dead => trivial
      | row fr t xs =>
        rcases hbk with ⟨h1, h2⟩ | ⟨g, e, cur, h1, h2⟩
        · exact .inl ⟨by simp [Cx.ren, hk, h1], h2⟩
        · exact .inr ⟨g, e, cur, by simp [Cx.ren, hk, h1], h2⟩
      | cells cs =>
        obtain ⟨g, e, cur, h1, h2, h3, h4⟩ := hbk
        refine ⟨g, e, cur, by simp [Cx.ren, hk, h1], h2, by rw [length_renL]; exact h3, fun j hj => ?_⟩
        rw [length_renL] at hj
        obtain ⟨v, h5, h6, h7⟩ := h4 j hj
        rw [gets_renL]
        exact ⟨v, h5, h6, h7.ren fun k i hk => shape_sel hk⟩
    · trivial
  inj i j g hi hj := by
    simp only [Cx.ren, Option.bind_eq_some_iff] at hi hj
    obtain ⟨i', hi1, hi2⟩ := hi
    obtain ⟨j', hj1, hj2⟩ := hj
    have := h.inj i' j' g hi2 hj2
    subst this
    exact (List.getElem?_inj (by exact (List.getElem?_eq_some_iff.1 hi1).1) hnd).1 (hi1.trans hj1.symm)
  own i g hi := by
    simp only [Cx.ren, Option.bind_eq_some_iff] at hi
    obtain ⟨i', hi1, hi2⟩ := hi
    obtain ⟨h1, h2, h3, _⟩ := h.own i' g hi2
    exact ⟨h1, h2, h3, by rw [length_selH]; exact (List.getElem?_eq_some_iff.1 hi1).1⟩
  imm := h.imm
  sub := h.sub
  glob g x hx := by
    obtain ⟨t, y, o, rfl⟩ := hN g x hx
    exact (h.glob g _ hx).ren fun k i hk => shape_sel hk

/-! ### the view -/
theorem picks_ok {tm : List Value} : ∀ (keep : List (Nat × Mode)) {σ : List V} {K : List V → Prop}, VRels c H w σ tm → picks σ keep K → ∃ vs, K vs ∧ VRels c H w vs (keep.map fun x => tm.getD x.1 undef)
  | [], σ, K, _, h => ⟨[], h, .nil⟩
  | (i, m) :: l, σ, K, hσ, h => by
    have h := (forceV_eq _ _).1 h
    obtain ⟨vs, h1, h2⟩ := picks_ok l hσ h
    exact ⟨_, h1, .cons _ _ _ _ (hσ.get i).nb h2⟩

theorem VRels.rev {xs : List V} {vs : List Value} (h : VRels c H w xs vs) : VRels c H w xs.reverse vs.reverse := by
  have key : ∀ (xs : List V) (vs : List Value) (ys : List V) (us : List Value), VRels c H w xs vs → VRels c H w ys us → VRels c H w (xs.reverse ++ ys) (vs.reverse ++ us) := by
    intro xs
    induction xs with
    | nil => intro vs ys us h h'; cases h; simpa using h'
    | cons x xs ih =>
      intro vs ys us h h'
      cases h with | cons _ v _ vs h hs =>
      have := ih vs (x :: ys) (v :: us) hs (.cons _ _ _ _ h h')
      simpa using this
  have := key xs vs [] [] h .nil
  simpa using this

theorem viewA_ok (hG : GlobOk G) : ∀ (ms : List Mode) (c : Cx) (vs done : List V) (H : List Blk) (us ud : List Value) (K : List V → List Blk → Prop), St G base w0 c H w → VRels c H w vs us → VRels c H w done ud → ms.length = vs.length → viewA ms vs done H K →
    ∃ c' vs' H', K vs' H' ∧ St G base w0 c' H' w ∧ VRels c' H' w vs' (ud.reverse ++ us)
  | [], c, vs, done, H, us, ud, K, hst, hv, hd, hl, h => by
    cases hv with
    | nil => exact ⟨c, _, H, h, hst, by simpa using hd.rev⟩
    | cons => simp at hl
  | m :: ms, c, [], done, H, us, ud, K, hst, hv, hd, hl, h => by simp at hl
  | m :: ms, c, v :: vs, done, H, us, ud, K, hst, hv, hd, hl, h => by
    cases hv with | cons _ u _ us hx hs =>
    have hl' : ms.length = vs.length := by simpa using hl
    have fin : ∀ {c' : Cx} {v' : V} {vs' done' : List V} {H' : List Blk}, St G base w0 c' H' w → VRels c' H' w vs' us → VRels c' H' w done' ud → VRel c' H' w v' u → ms.length = vs'.length → viewA ms vs' (v' :: done') H' K →
        ∃ c' vs' H', K vs' H' ∧ St G base w0 c' H' w ∧ VRels c' H' w vs' (ud.reverse ++ u :: us) := fun {c' v' vs' done' H'} h1 h2 h3 h4 h5 h6 => by
      obtain ⟨c2, vs2, H2, k1, k2, k3⟩ := viewA_ok hG ms c' vs' (v' :: done') H' us (u :: ud) K h1 h2 (.cons _ _ _ _ h4 h3) h5 h6
      exact ⟨c2, vs2, H2, k1, k2, by simpa using k3⟩
    unfold viewA at h
    split at h
    · rename_i t
      cases hx
      exact fin (hst.virt true t) (hs.ext (St.ext_virt _)) (hd.ext (St.ext_virt _)) (.own t H.length 0 none 0 (by simp [shape, getB_append]) (Nat.le_refl _) (by simp) (.inl rfl)) hl' h
    · rename_i t
      cases hx
      exact fin hst hs hd (.sl _ _ _ _ ⟨none, 0, rfl, Nat.le_refl _, by simp, fun h => absurd rfl h⟩) hl' h
    · rename_i t0 t' id
      split at h
      · rename_i fr t xs hb
        obtain ⟨_, h⟩ := bif_ok h
        have hy : ∀ t v, VRel c H w (.own t id) v → VRel (c.frz id) (setB (frzH id (.sl fr _ xs) H) id .dead) w (.sl fr _ xs) v := fun t' v hv => frz_row hst hb t' v hv
        have hsh : ∀ j, j ≠ id → shape (setB (frzH id (.sl fr _ xs) H) id .dead) j = shape H j := fun j hj => shape_frz hj
        exact fin (hst.frz hG hb) (hs.frz hsh hy) (hd.frz hsh hy) (hy _ _ hx) (by rw [length_frzL]; exact hl') h
      · exact h.elim
    · exact fin hst hs hd hx hl' h

theorem viewB_ok (hN : noRef G) {np : Nat} {ms : List Mode} {vs : List V} {us : List Value} {K : List V → List Blk → Prop} (hst : St G base w0 c H w) (hv : VRels c H w vs us) (h : viewB np ms vs H K) :
    ∃ c' vs' H', K vs' H' ∧ St G base w0 c' H' w ∧ VRels c' H' w vs' us := by
  obtain ⟨hnd, h⟩ := h
  have h := (forceL_eq _ _).1 ((forceL_eq _ _).1 h)
  exact ⟨_, _, _, h, hst.ren hN (nodupB_iff _ hnd), hv.ren fun k i hk => shape_sel hk⟩

theorem spread_ok {tm : List Value} : ∀ (keep : List (Nat × Mode)) (vs σ : List V), VRels c H w vs (keep.map fun x => tm.getD x.1 undef) → VRels c H w σ tm → VRels c H w (spread keep vs σ) tm
  | [], vs, σ, _, h => by cases vs <;> exact h
  | (i, m) :: l, vs, σ, hv, h => by
    cases hv with | cons v _ vs _ hx hs =>
    refine spread_ok l vs _ hs ?_
    have key : ∀ (σ : List V) (tm : List Value) (i : Nat) (v : V), VRels c H w σ tm → VRel c H w v (tm.getD i undef) → VRels c H w (sets σ i v) tm := by
      intro σ
      induction σ with
      | nil => intro tm i v h _; cases i <;> exact h
      | cons x σ ih =>
        intro tm i v h hx
        cases h with | cons _ u _ tm h1 h2 =>
        cases i with
        | zero => exact .cons _ _ _ _ hx h2
        | succ i => exact .cons _ _ _ _ h1 (ih tm i v h2 (by simpa using hx))
    exact key σ tm i v h hx

theorem view_ok {E : Env} (hG : GlobOk E.glob) (hN : noRef E.glob) {np : Nat} {keep : List (Nat × Mode)} {σ : List V} {K : List V → List Blk → Prop} {a : Act} (hs : Sta E base w0 σ H a w) (h : view np keep σ H K) :
    ∃ vs H', K vs H' ∧ Sta E base w0 (spread keep vs (List.replicate σ.length .undef)) H' a w := by
  obtain ⟨c, hst, hσ, hd⟩ := hs
  obtain ⟨vs, h, hv⟩ := picks_ok keep hσ h
  have hl : (keep.map (·.2)).length = vs.length := by rw [hv.length]; simp
  obtain ⟨c1, vs1, H1, h, hst1, hv1⟩ := viewA_ok hG (keep.map (·.2)) c vs [] H _ [] _ hst hv .nil hl h
  obtain ⟨c2, vs2, H2, h, hst2, hv2⟩ := viewB_ok hN hst1 hv1 h
  refine ⟨vs2, H2, h, c2, hst2, spread_ok keep vs2 _ (by simpa using hv2) ?_, hd⟩
  have := VRels.undefs (c := c2) (H := H2) (w := w) undef
  have key : ∀ tm : List Value, VRels c2 H2 w (List.replicate tm.length .undef) tm := by
    intro tm
    induction tm with
    | nil => exact .nil
    | cons x tm ih => exact .cons _ _ _ _ (.undef _) ih
  rw [hσ.length]
  exact key _
end
end Go.Proofs.YtifaanbnijnbdaaDoor.Vc

namespace Go.Proofs.YtifaanbnijnbdaaDoor.Vc
open Go Go.RowKit

section
variable {E : Env} {P : Program} {base : Nat} {w0 : World}

theorem awp_ok (hG : GlobOk E.glob) (hN : noRef E.glob) (hE : EnvOk P E) (hD : DrawOk E P) : ∀ (x : Code) (Q : Ex → List V → List Blk → Prop) (σ : List V) (H : List Blk) (a : Act) (w : World), awp E x Q σ H → Sta E base w0 σ H a w → x.wp P (Post E base w0 Q) a w
  | .skip, Q, σ, H, a, w, h, hs => wp_skip ⟨σ, H, h, hs⟩
  | .region id ops draw, Q, σ, H, a, w, h, hs => by
    cases draw with
    | false => exact wp_region_list (aops_ok hG hE _ _ _ _ _ _ hs h fun σ' H' a' w' hk hs' => ⟨σ', H', hk, hs'⟩)
    | true => exact hD ops id base w0 σ H _ a w _ h.1 hs h.2 fun σ' H' a' w' hk hs' => ⟨σ', H', hk, hs'⟩
  | .seq x y, Q, σ, H, a, w, h, hs => by
    refine wp_seq (Code.wp_mono ?_ (awp_ok hG hN hE hD x _ σ H a w h hs))
    intro e a' w' hp
    cases e with
    | normal =>
      obtain ⟨σ', H', hq, hs'⟩ := hp
      exact awp_ok hG hN hE hD y Q σ' H' a' w' hq hs'
    | exit i => exact hp
    | ret => exact hp
    | goto l => exact hp.elim
    | panic ch => exact hp.elim
    | outgrown => exact hp.elim
  | .cond ce x y, Q, σ, H, a, w, h, hs => by
    obtain ⟨c, hst, hσ, hd⟩ := hs
    have hc := evr_ok hst hσ ce
    unfold awp at h
    generalize evr E σ ce = vc at h hc
    generalize hae : a.eval ce = ve at hc
    cases hc <;> try exact h.elim
    case b p b hb =>
      cases ce with
      | tmp t =>
        have hx : a.tmps.toList.getD t undef = .bool b := by
          rw [← hae]; simp [Act.eval, Array.getD_eq_getD_getElem?]
        have hs' := Sta.settle (E := E) (base := base) (w0 := w0) ⟨c, hst, hσ, hd⟩ hx
        cases b with
        | true => exact wp_cond hae (awp_ok hG hN hE hD x Q _ H a w ((forceL_eq _ (fun σ => awp E x Q σ H)).1 (h.1 (hb.1 rfl))) hs')
        | false => exact wp_cond hae (awp_ok hG hN hE hD y Q _ H a w ((forceL_eq _ (fun σ => awp E y Q σ H)).1 (h.2 fun hp => by simpa using hb.2 hp)) hs')
      | _ =>
        cases b with
        | true => exact wp_cond hae (awp_ok hG hN hE hD x Q σ H a w (h.1 (hb.1 rfl)) ⟨c, hst, hσ, hd⟩)
        | false => exact wp_cond hae (awp_ok hG hN hE hD y Q σ H a w (h.2 fun hp => by simpa using hb.2 hp) ⟨c, hst, hσ, hd⟩)
    case bt b =>
      cases b with
      | true => exact wp_cond hae (awp_ok hG hN hE hD x Q σ H a w h ⟨c, hst, hσ, hd⟩)
      | false => exact wp_cond hae (awp_ok hG hN hE hD y Q σ H a w h ⟨c, hst, hσ, hd⟩)
  | .block id x, Q, σ, H, a, w, h, hs => by
    refine wp_block (Code.wp_mono ?_ (awp_ok hG hN hE hD x _ σ H a w h hs))
    intro e a' w' hp
    cases e with
    | normal => exact hp
    | exit i =>
      obtain ⟨σ', H', hq, hs'⟩ := hp
      simp only [Exit.inBlock]
      by_cases hi : i = id
      · subst hi
        rw [if_pos rfl]
        refine ⟨σ', H', ?_, hs'⟩
        have : Nat.beq i i = true := Nat.beq_refl i
        simp only [this, cond_true] at hq
        exact hq
      · rw [if_neg hi]
        have : Nat.beq i id = false := by
          cases hb : Nat.beq i id with
          | false => rfl
          | true => exact absurd (beq_ok hb) hi
        simp only [this, cond_false] at hq
        exact ⟨σ', H', hq, hs'⟩
    | ret => exact hp
    | goto l => exact hp.elim
    | panic ch => exact hp.elim
    | outgrown => exact hp.elim
  | .loop x, Q, σ, H, a, w, h, hs => by
    obtain ⟨np, keep, I, h0, hr⟩ := h
    have hmin : ∀ p : Nat → Prop, (∃ n, p n) → ∃ n, p n ∧ ∀ m, p m → n ≤ m := fun p ⟨n, hn⟩ => by
      induction n using Nat.strongRecOn with
      | _ n ih =>
        by_cases hx : ∃ m, m < n ∧ p m
        · obtain ⟨m, h1, h2⟩ := hx; exact ih m h1 h2
        · exact ⟨n, hn, fun m hm => Nat.le_of_not_lt fun hlt => hx ⟨m, hlt, hm⟩⟩
    let p : Act → World → Nat → Prop := fun a w n => ∃ vs H, I n vs H ∧ Sta E base w0 (spread keep vs (List.replicate σ.length .undef)) H a w
    have hlen : ∀ (keep : List (Nat × Mode)) (vs σ : List V), (spread keep vs σ).length = σ.length := by
      intro keep
      induction keep with
      | nil => intro vs σ; cases vs <;> rfl
      | cons x keep ih =>
        intro vs σ
        cases vs with
        | nil => rfl
        | cons v vs => rw [spread, ih, sets_eq]; simp
    let μ : Act → World → Nat := fun a w => @dite _ (∃ n, p a w n) (Classical.propDecidable _) (fun h => Classical.choose (hmin _ h)) (fun _ => 0)
    have hμ : ∀ a w n, p a w n → p a w (μ a w) ∧ μ a w ≤ n := fun a w n hn => by
      have hex : ∃ n, p a w n := ⟨n, hn⟩
      have e : μ a w = Classical.choose (hmin _ hex) := dif_pos hex
      rw [e]
      have := Classical.choose_spec (hmin _ hex)
      exact ⟨this.1, this.2 n hn⟩
    refine wp_loop (fun a w => ∃ n, p a w n) μ ?_ ?_
    · obtain ⟨vs, H', ⟨n, hi⟩, hs'⟩ := view_ok hG hN hs h0
      exact ⟨n, vs, H', hi, hs'⟩
    · rintro a w ⟨n0, hn0⟩
      obtain ⟨⟨vs, H', hi, hs'⟩, _⟩ := hμ a w n0 hn0
      have hb := (forceL_eq _ _).1 ((forceL_eq _ _).1 (hr _ vs H' hi))
      refine Code.wp_mono ?_ (awp_ok hG hN hE hD x _ _ _ a w hb hs')
      intro e a' w' hp
      cases e with
      | normal =>
        obtain ⟨σ2, H2, hv, hs2⟩ := hp
        obtain ⟨hl2, hv⟩ := bif_ok hv
        have hl2 := beq_ok hl2
        obtain ⟨vs3, H3, ⟨m, hm, hi3⟩, hs3⟩ := view_ok hG hN hs2 hv
        rw [hl2] at hs3
        have hp3 : p a' w' m := ⟨vs3, H3, hi3, hs3⟩
        have := (hμ a' w' m hp3).2
        exact ⟨⟨m, hp3⟩, by omega⟩
      | exit i => exact hp
      | ret => exact hp
      | goto l => exact hp.elim
      | panic ch => exact hp.elim
      | outgrown => exact hp.elim
  | .exit i, Q, σ, H, a, w, h, hs => wp_exit ⟨σ, H, h, hs⟩
  | .ret, Q, σ, H, a, w, h, hs => wp_ret ⟨σ, H, h, hs⟩
  | .scope x, Q, σ, H, a, w, h, hs => by
    refine wp_scope_straight (Code.wp_mono ?_ (awp_ok hG hN hE hD x Q σ H a w h hs))
    intro e a' w' hp
    cases e with
    | normal => exact hp
    | exit i => exact hp
    | ret => exact hp
    | goto l => exact hp.elim
    | panic ch => exact hp.elim
    | outgrown => exact hp.elim
  | .label l, Q, σ, H, a, w, h, hs => wp_label ⟨σ, H, h, hs⟩
  | .goto l, Q, σ, H, a, w, h, hs => h.elim
  | .rangeFunc .., Q, σ, H, a, w, h, hs => h.elim
  | .refuse _, Q, σ, H, a, w, h, hs => h.elim
end
end Go.Proofs.YtifaanbnijnbdaaDoor.Vc

namespace Go.Proofs.YtifaanbnijnbdaaDoor.Vc
open Go Go.RowKit

section
variable {E : Env} {P : Program} {G : List (Nat × V)} {base : Nat} {w0 : World}

/-- A load that changes nothing: its value. -/
theorem aload_ok (hE : EnvOk P E) {c : Cx} {H : List Blk} {w : World} {a : Act} (hst : St E.glob base w0 c H w) {T : TypeId} {p : Nat} {vp : V} {K : V → Prop} (hp : VRel c H w vp (a.tmps.getD p undef)) (h : aload E H T vp K) :
    ∃ x v, K x ∧ VRel c H w x v ∧ (Instr.loadAt T (a.tmps.getD p undef)).run P w = .ok v w := by
  obtain ⟨x, v, h1, h2, h3⟩ := load_run (P := P) (a := a) (o := { dst := none, op := .load T (.tmp p), type := 0, pos := "", after := #[], guard := none }) hE hst T (.tmp p) rfl rfl (by exact hp) h
  refine ⟨x, v, h1, h2, ?_⟩
  simp only [execOp, Sem.run_bind] at h3
  have he : a.eval (.tmp p) = a.tmps.getD p undef := rfl
  rw [he] at h3
  cases hr : (Instr.loadAt T (a.tmps.getD p undef)).run P w with
  | ok u w' =>
    rw [hr] at h3
    simp only [Result.andThen_ok, Sem.run_pure, Result.ok.injEq, Next.value.injEq] at h3
    rw [h3.1, h3.2]
  | halt e w' => rw [hr] at h3; simp at h3

def resSem (tm : Array Value) : ResultVar → Sem Value
  | .tmp t => pure (tm.getD t undef)
  | .cell p t => do loadVar t (← asAddr (tm.getD p undef))

theorem resK_ok (hE : EnvOk P E) {c : Cx} {H : List Blk} {w : World} {σ : List V} {a : Act} (hst : St E.glob base w0 c H w) (hσ : VRels c H w σ a.tmps.toList) {r : ResultVar} {K : V → Prop} (h : resK E σ H r K) :
    ∃ x v, K x ∧ VRel c H w x v ∧ (resSem a.tmps r).run P w = .ok v w := by
  cases r with
  | tmp t =>
    have h := (forceV_eq _ _).1 h
    exact ⟨_, _, h, (hσ.get t).nb, by simp [resSem, Array.getD_eq_getD_getElem?]⟩
  | cell p T =>
    have hp := hσ.get p
    have hpe : a.tmps.toList.getD p undef = a.tmps.getD p undef := by simp [Array.getD_eq_getD_getElem?]
    rw [hpe] at hp
    simp only [resK] at h
    split at h
    · rename_i id z i o hv
      rw [hv] at hp
      obtain ⟨x, v, h1, h2, h3⟩ := aload_ok hE (a := a) hst hp h
      have h1 := (forceV_eq _ _).1 h1
      refine ⟨x, v, h1, h2, ?_⟩
      show (do loadVar T (← asAddr (a.tmps.getD p undef)) : Sem Value).run P w = _
      generalize a.tmps.getD p undef = u at hp h3 ⊢
      cases hp with | ptr _ _ _ _ g m hs hr hi ho =>
      simpa [resSem, Instr.loadAt, Instr.sureAddr, asAddr] using h3
    · exact h.elim

theorem resKs_ok (hE : EnvOk P E) {c : Cx} {H : List Blk} {w : World} {σ : List V} {a : Act} (hst : St E.glob base w0 c H w) (hσ : VRels c H w σ a.tmps.toList) : ∀ (l : List ResultVar) {K : List V → Prop}, resKs E σ H l K →
    ∃ xs vs, K xs ∧ VRels c H w xs vs ∧ (l.mapM (resSem a.tmps)).run P w = .ok vs w ∧ vs.length = l.length
  | [], K, h => ⟨[], [], h, .nil, rfl, rfl⟩
  | r :: l, K, h => by
    obtain ⟨x, v, h, h2, h3⟩ := resK_ok hE hst hσ h
    obtain ⟨xs, vs, h, h4, h5, h6⟩ := resKs_ok hE hst hσ l h
    exact ⟨_, _, h, .cons _ _ _ _ h2 h4, by simp [List.mapM_cons, h3, h5], by simp [h6]⟩

theorem results_ok (hE : EnvOk P E) {c : Cx} {H : List Blk} {w : World} {σ : List V} {a : Act} (fn : Func) (hst : St E.glob base w0 c H w) (hσ : VRels c H w σ a.tmps.toList) {K : V → Prop} (h : resultsK E fn σ H K) :
    ∃ x v, K x ∧ VRel c H w x v ∧ (results fn a.tmps).run P w = .ok v w := by
  have hm : ∀ vs : List Value, (fn.results.toList.mapM (resSem a.tmps)).run P w = .ok vs w → (results fn a.tmps).run P w = .ok (if h : vs.toArray.size = 1 then vs.toArray[0] else .tuple vs.toArray) w := fun vs hv => by
    have e : results fn a.tmps = (do
        let vs ← fn.results.mapM (resSem a.tmps)
        pure (if h : vs.size = 1 then vs[0] else .tuple vs)) := by
      have : resSem a.tmps = (fun | .tmp t => pure (a.tmps.getD t undef) | .cell p t => do loadVar t (← asAddr (a.tmps.getD p undef)) : ResultVar → Sem Value) := by
        funext r; cases r <;> rfl
      rw [this]; rfl
    rw [e, Array.mapM_eq_mapM_toList]
    simp [hv]
  unfold resultsK at h
  split at h
  · rename_i r hr
    obtain ⟨x, v, h1, h2, h3⟩ := resK_ok hE hst hσ h
    refine ⟨x, v, h1, h2, ?_⟩
    have := hm [v] (by rw [hr]; simp [List.mapM_cons, h3])
    simpa using this
  · rename_i hne
    obtain ⟨xs, vs, h1, h2, h3, h4⟩ := resKs_ok hE hst hσ _ h
    refine ⟨_, _, h1, VRel.tup _ _ h2, ?_⟩
    have := hm vs h3
    have hl : vs.length ≠ 1 := fun hl => by
      rw [hl] at h4
      obtain ⟨r, hr⟩ := List.length_eq_one_iff.1 h4.symm
      exact hne r hr
    rw [this]
    simp [hl]

/-- A function whose body shows what is asked. -/
theorem body_ok (hG : GlobOk E.glob) (hN : noRef E.glob) (hE : EnvOk P E) (hD : DrawOk E P) {f : FuncId} {fn : Func} (hf : P.funcs[f]? = some fn) {c : Cx} {H : List Blk} {w : World} {args : List V} {vs : List Value} {R : V → List Blk → Prop}
    (hst : St E.glob base w0 c H w) (hv : VRels c H w args vs) (h : body E fn args H R) :
    Calls P f vs.toArray w fun e w' => ∃ x v H' c', e = .returned v ∧ R x H' ∧ VRel c' H' w' x v ∧ St E.glob base w0 c' H' w' := by
  unfold body at h
  split at h
  · rename_i code hb
    have hs : Sta E base w0 (args ++ List.replicate (fn.ntmps - args.length) .undef) H { tmps := vs.toArray ++ Array.replicate (fn.ntmps - vs.toArray.size) undef, defers := [] } w :=
      ⟨c, hst, by
        simp only [Array.toList_append, Array.toList_replicate, List.size_toArray]
        rw [hv.length]
        exact hv.append (VRels.undefs undef _), rfl⟩
    refine calls_of_wp hf hb (Code.wp_mono ?_ (awp_ok hG hN hE hD code _ _ H _ w h hs))
    have fin : ∀ (a : Act) (w' : World), (∃ σ H, resultsK E fn σ H (fun v => R v H) ∧ Sta E base w0 σ H a w') → a.defers = [] ∧ ∃ v, (results fn a.tmps).run P w' = .ok v w' ∧ ∃ x v' H' c', (Ending.returned v) = .returned v' ∧ R x H' ∧ VRel c' H' w' x v' ∧ St E.glob base w0 c' H' w' := by
      rintro a w' ⟨σ, H, hq, c', hst', hσ', hd⟩
      obtain ⟨x, v, h1, h2, h3⟩ := results_ok hE fn hst' hσ' hq
      exact ⟨hd, v, h3, x, v, H, c', rfl, h1, h2, hst'⟩
    intro e a w' hp
    cases e with
    | normal => exact fin a w' hp
    | ret => exact fin a w' hp
    | exit i => obtain ⟨_, _, hq, _⟩ := hp; exact hq.elim
    | goto l => exact hp.elim
    | panic ch => exact hp.elim
    | outgrown => exact hp.elim
  · exact h.elim
end
end Go.Proofs.YtifaanbnijnbdaaDoor.Vc

namespace Go.Proofs.YtifaanbnijnbdaaDoor.Vc
open Go Go.RowKit

section
variable {E : Env} {P : Program} {G : List (Nat × V)} {base : Nat} {w0 : World} {c : Cx} {H : List Blk} {w : World}

/-! ### what comes in, as data -/
def Mall (w : World) : Nat → Prop := fun g => g < w.heap.size
def Cx.all (w : World) : Cx := ⟨Mall w, fun _ => False, fun _ => none⟩

theorem im_all (hst : St G base w0 c H w) (fr : Bool) : ∀ g, c.im fr g → Mall w g := fun g hg => by
  cases fr
  · exact hst.imm g hg
  · exact hst.imm g (hst.sub g hg).1

theorem asRow_data (hst : St G base w0 c H w) {t : Ty} {v : V} {x : Value} {K : Bool → List t.D → Prop} (h : asRow H t v K) (hx : VRel c H w v x) : ∃ f ys, K f ys ∧ DRel w (Mall w) (.sl t) ys [x] := by
  obtain ⟨f, ys, a, cap, hk, rfl, h1, h2, h3⟩ := asRow_ok hst h hx
  refine ⟨f, ys, hk, a, cap, rfl, h1, h2, fun hne => ?_⟩
  obtain ⟨g, o, ha, hg, hr⟩ := h3 hne
  refine ⟨g, o, ha, hg, fun i y hy => ?_⟩
  obtain ⟨es, e1, e2⟩ := hr i y hy
  exact ⟨es, DRel.ext (im_all hst f) (fun _ _ => rfl) _ _ _ e1, e2⟩

theorem asRows_data (hst : St G base w0 c H w) {t : Ty} {cur : Array Value} : ∀ (cs : List V) (k : Nat) (K : List (List t.D) → Prop), asRows H t cs K → (∀ j, j < cs.length → ∃ v, cur[k + j]? = some v ∧ VRel c H w (gets cs j) v) →
    ∃ xss, K xss ∧ xss.length = cs.length ∧ ∀ (j : Nat) (xs : List t.D), xss[j]? = some xs → ∃ v, cur[k + j]? = some v ∧ DRel w (Mall w) (.sl t) xs [v]
  | [], k, K, h, _ => ⟨[], h, rfl, by simp⟩
  | v :: cs, k, K, h, hel => by
    obtain ⟨u, hu, hv⟩ := hel 0 (by simp)
    obtain ⟨f, ys, h, hd⟩ := asRow_data hst h hv
    obtain ⟨xss, h1, h2, h3⟩ := asRows_data hst cs (k + 1) _ h fun j hj => by
      obtain ⟨v', e1, e2⟩ := hel (j + 1) (by simpa using hj)
      exact ⟨v', by rw [← e1]; congr 1; omega, e2⟩
    refine ⟨ys :: xss, h1, by simp [h2], fun j xs hj => ?_⟩
    cases j with
    | zero =>
      obtain rfl : ys = xs := by simpa using hj
      exact ⟨u, hu, hd⟩
    | succ j =>
      obtain ⟨v', e1, e2⟩ := h3 j xs (by simpa using hj)
      exact ⟨v', by rw [← e1]; congr 1; omega, e2⟩

theorem asD_data (hst : St G base w0 c H w) {t : Ty} {v : V} {x : Value} {K : t.D → Prop} (h : asD H t v K) (hx : VRel c H w v x) : ∃ y, K y ∧ DRel w (Mall w) t y [x] := by
  unfold asD at h
  split at h
  · split at h
    · cases hx; exact ⟨_, h, rfl⟩
    · exact h.elim
  · split at h
    · obtain ⟨rfl, h⟩ := h
      cases hx with | int _ _ h1 h2 => exact ⟨_, h, ⟨rfl, h1, h2⟩⟩
    · exact h.elim
  · split at h
    · cases hx with | str _ h1 => exact ⟨_, h, ⟨rfl, h1⟩⟩
    · exact h.elim
  · rename_i t K
    split at h
    · rename_i t0 id
      split at h
      · rename_i cs hb
        cases hx with | own _ _ n a cap hs hn hc ho =>
        simp only [shape, hb, Option.some.injEq, Prod.mk.injEq] at hs
        obtain ⟨rfl, hz⟩ := hs
        by_cases hc0 : cap = 0
        · subst hc0
          have : cs = [] := List.eq_nil_of_length_eq_zero (by omega)
          subst this
          exact ⟨[], h, a, 0, rfl, Nat.le_refl _, by simp, fun hh => absurd rfl hh⟩
        · obtain ⟨g, e, cur, hr, ha, hg, hsz⟩ := ho.resolve_left hc0
          obtain ⟨e', cur', hg', hsz', hel⟩ := cells_get hst hb hr
          rw [hg] at hg'; cases hg'
          obtain ⟨xss, h1, h2, h3⟩ := asRows_data hst (cur := cur) cs 0 _ h fun j hj => by
            obtain ⟨v, e1, _, e2⟩ := hel j hj
            exact ⟨v, by simpa using e1, e2⟩
          refine ⟨xss, h1, a, cap, by rw [h2], by rw [h2]; exact hn, hc, fun _ => ⟨g, 0, ha, (hst.own id g hr).2.1, fun i y hy => ?_⟩⟩
          obtain ⟨v, e1, e2⟩ := h3 i y hy
          refine ⟨[v], e2, fun j u hj => ?_⟩
          cases j with
          | zero =>
            simp at hj; subst hj
            rw [Go.cell_of_row w g _ cur e (0, 0) hg]
            simpa [Ty.size] using e1
          | succ j => simp at hj
      · rename_i fr t' xs hb
        obtain ⟨e, hk⟩ := castK_ok h
        subst e
        obtain ⟨f, ys, hk', hd⟩ := asRow_data hst (K := fun _ ys => K ys) (t := .sl t) (v := .own t0 id) (by
          simp only [asRow, hb]; exact castK_iff.2 ⟨rfl, hk⟩) hx
        exact ⟨ys, hk', hd⟩
      · exact h.elim
    · obtain ⟨f, ys, hk, hd⟩ := asRow_data hst h hx
      exact ⟨ys, hk, hd⟩
  · obtain ⟨f, ys, hk, hd⟩ := asRow_data hst h hx
    exact ⟨ys, hk, hd⟩
  · exact h.elim

theorem asCells_data (hst : St G base w0 c H w) : ∀ (t : Ty) (l : List V) (us : List Value) (K : t.D → List V → Prop), asCells H t l K → VRels c H w l us →
    ∃ x l' us1 us2, K x l' ∧ us = us1 ++ us2 ∧ DRel w (Mall w) t x us1 ∧ VRels c H w l' us2
  | .nil, l, us, K, h, hr => ⟨(), l, [], us, h, rfl, rfl, hr⟩
  | .cons t ts, l, us, K, h, hr => by
    unfold asCells at h
    obtain ⟨x, l1, u1, u2, h, rfl, h1, h2⟩ := asCells_data hst t l us _ h hr
    obtain ⟨y, l2, u3, u4, h, rfl, h3, h4⟩ := asCells_data hst ts l1 u2 _ h h2
    exact ⟨(x, y), l2, u1 ++ u3, u4, h, by simp, ⟨u1, u3, rfl, h1, h3⟩, h4⟩
  | .arr _ _, l, us, K, h, hr => by simp [asCells] at h
  | .u8, l, us, K, h, hr => by
    cases hr with
    | nil => simp [asCells] at h
    | cons v u l us hv hr =>
      obtain ⟨y, h1, h2⟩ := asD_data hst (t := .u8) h hv
      exact ⟨y, l, [u], us, h1, rfl, h2, hr⟩
  | .int k, l, us, K, h, hr => by
    cases hr with
    | nil => simp [asCells] at h
    | cons v u l us hv hr =>
      obtain ⟨y, h1, h2⟩ := asD_data hst (t := .int k) h hv
      exact ⟨y, l, [u], us, h1, rfl, h2, hr⟩
  | .bool, l, us, K, h, hr => by
    cases hr with
    | nil => simp [asCells] at h
    | cons v u l us hv hr =>
      obtain ⟨y, h1, h2⟩ := asD_data hst (t := .bool) h hv
      exact ⟨y, l, [u], us, h1, rfl, h2, hr⟩
  | .str, l, us, K, h, hr => by
    cases hr with
    | nil => simp [asCells] at h
    | cons v u l us hv hr =>
      obtain ⟨y, h1, h2⟩ := asD_data hst (t := .str) h hv
      exact ⟨y, l, [u], us, h1, rfl, h2, hr⟩
  | .sl t, l, us, K, h, hr => by
    cases hr with
    | nil => simp [asCells] at h
    | cons v u l us hv hr =>
      obtain ⟨y, h1, h2⟩ := asD_data hst (t := .sl t) h hv
      exact ⟨y, l, [u], us, h1, rfl, h2, hr⟩

theorem dV_one {t : Ty} {y : t.D} {x : Value} (h1 : t.size = 1) (hna : isAggB t = false) (hd : DRel w (Mall w) t y [x]) : VRel (Cx.all w) [] w (dV t y) x := by
  cases t <;> first | (simp [isAggB] at hna; done) | skip
  case u8 => have : [x] = [_] := hd; simp at this; subst this; exact .u8 _
  case int k => have : [x] = [_] := hd.1; simp at this; subst this; exact .int _ _ hd.2.1 hd.2.2
  case bool => have : [x] = [_] := hd; simp at this; subst this; exact .b _ _ Iff.rfl
  case str => have : [x] = [_] := hd.1; simp at this; subst this; exact .str _ hd.2
  case sl t => exact .sl false t y x hd

theorem asArg_ok (hst : St G base w0 c H w) {k : PK} {v : V} {x : Value} {K : V → Prop} (h : asArg H k v K) (hx : VRel c H w v x) : ∃ d, K d ∧ VRel (Cx.all w) [] w d x := by
  unfold asArg at h
  split at h
  · rename_i t ts
    split at h
    · rename_i cs
      cases hx with | agg _ us hr =>
      obtain ⟨y, l, u1, u2, h, rfl, h1, h2⟩ := asCells_data hst _ _ _ _ h hr
      split at h
      · cases h2
        refine ⟨_, h, ?_⟩
        have hl := DRel.length _ _ _ h1
        have := getCells_ok (c := Cx.all w) (H := []) (fr := false) h1 (Ty.cons t ts).size 0 (by omega)
        rw [List.drop_zero, List.take_of_length_le (by omega)] at this
        simpa [dV] using VRel.agg _ _ this
      · exact h.elim
    · exact h.elim
  · split at h
    · cases hx with | b p b hb => exact ⟨_, h, .b _ _ hb⟩
    · exact h.elim
  · rename_i t hnc hnb
    obtain ⟨y, h1, h2⟩ := asD_data hst h hx
    refine ⟨_, h1, ?_⟩
    cases t with
    | u8 => exact dV_one rfl rfl h2
    | int k => exact dV_one rfl rfl h2
    | bool => exact (hnb rfl).elim
    | str => exact dV_one rfl rfl h2
    | sl t => exact dV_one rfl rfl h2
    | nil => simp [asD] at h
    | cons t ts => exact (hnc _ _ rfl).elim
    | arr n t => simp [asD] at h
  · rename_i t
    split at h
    · rename_i fr t' y o
      split at h
      · rename_i e
        subst e
        split at h
        · cases hx with | rp _ _ _ _ g p es hM hd hc =>
          exact ⟨_, h, .rp false _ _ 0 g p es (im_all hst fr g hM) (DRel.ext (im_all hst fr) (fun _ _ => rfl) _ _ _ hd) hc⟩
        · exact h.elim
      · exact h.elim
    · rename_i id z i o
      split at h
      · rename_i cs hb
        cases hx with | ptr _ _ _ _ g m hs hr hi ho =>
        obtain ⟨e, cur, hg, hsz, hel⟩ := cells_get hst hb hr
        obtain ⟨es, l1, l2, l3⟩ := cells_list hel cs.length 0 (by omega)
        rw [List.drop_zero, List.take_length] at l2
        obtain ⟨y, l, u1, u2, h, rfl, h1, h2⟩ := asCells_data hst t cs es _ h l2
        split at h
        · cases h2
          refine ⟨_, h, ?_⟩
          have := VRel.rp (c := Cx.all w) (H := []) (w := w) false t y 0 g 0 u1 (hst.own id g hr).2.1 h1 (fun j v hj => by
            rw [Go.cell_of_row w g _ cur e (0, 0) hg]
            have := l3 j v (by simpa using hj)
            simpa using this)
          simpa using this
        · exact h.elim
      · exact h.elim
    · exact h.elim

theorem asArgs_ok (hst : St G base w0 c H w) : ∀ (ks : List PK) (vs : List V) (us : List Value) (K : List V → Prop), asArgs H ks vs K → VRels c H w vs us → ∃ ds, K ds ∧ VRels (Cx.all w) [] w ds us
  | [], vs, us, K, h, hr => by
    cases hr with
    | nil => exact ⟨[], h, .nil⟩
    | cons => simp [asArgs] at h
  | k :: ks, vs, us, K, h, hr => by
    cases hr with
    | nil => simp [asArgs] at h
    | cons v u vs us hv hr =>
      obtain ⟨d, h, h1⟩ := asArg_ok hst h hv
      obtain ⟨ds, h, h2⟩ := asArgs_ok hst ks vs us _ h hr
      exact ⟨_, h, .cons _ _ _ _ h1 h2⟩

theorem St.all (hN : noRef G) (hst : St G base w0 c H w) : St G w.heap.size w (Cx.all w) [] w where
  below := Below.refl _ _
  size := Nat.le_refl _
  blk id := by cases id <;> trivial
  inj i j g hi := by cases hi
  own i g hi := by cases hi
  imm g hg := hg
  sub g hg := hg.elim
  glob g x hx := by
    obtain ⟨t, y, o, rfl⟩ := hN g x hx
    have := hst.glob g _ hx
    generalize hq : Value.pointer (some ⟨g, 0, none⟩) = q at this ⊢
    cases this with | rp _ _ _ _ g' p es hM hd hc => exact .rp false t y o g' p es (hst.imm _ hM) (DRel.ext (im_all hst false) (fun _ _ => rfl) _ _ _ hd) hc

/-! ### what goes out, among the caller's -/
section
variable {G : List (Nat × V)} {base : Nat} {w0 : World} {c : Cx} {H : List Blk} {w : World}

def Cx.join (c cE : Cx) (n : Nat) : Cx := ⟨fun g => c.M g ∨ cE.N g, fun g => c.N g ∨ cE.N g, fun i => if i < n then c.ρ i else cE.ρ (i - n)⟩

theorem getB_app (H L : List Blk) : ∀ id, getB (H ++ L) id = if id < H.length then getB H id else getB L (id - H.length) := by
  induction H with
  | nil => intro id; simp
  | cons x H ih =>
    intro id
    cases id with
    | zero => simp [getB]
    | succ id => simp [getB, ih]
theorem getB_shH (n : Nat) : ∀ (L : List Blk) (j : Nat), getB (shH n L) j = shB n (getB L j)
  | [], j => by cases j <;> rfl
  | b :: L, 0 => rfl
  | b :: L, j + 1 => getB_shH n L j
theorem length_shH (n : Nat) : ∀ L : List Blk, (shH n L).length = L.length
  | [] => rfl
  | b :: L => by simp [shH, length_shH n L]
theorem length_shL (n : Nat) : ∀ l : List V, (shL n l).length = l.length
  | [] => rfl
  | b :: l => by simp [shL, length_shL n l]
theorem gets_shL (n : Nat) : ∀ (l : List V) (j : Nat), gets (shL n l) j = shV n (gets l j)
  | [], j => by cases j <;> rfl
  | b :: l, 0 => rfl
  | b :: l, j + 1 => gets_shL n l j
theorem shape_join (H L : List Blk) (i : Nat) : shape (H ++ shH H.length L) (H.length + i) = shape L i := by
  unfold shape
  rw [getB_app, if_neg (by omega), Nat.add_sub_cancel_left, getB_shH]
  cases getB L i <;> simp [shB, length_shL]

theorem OwnAt.join {cE : Cx} {w' : World} {i z off n : Nat} {a : Option Addr} {cap : Nat} (h : OwnAt cE w' i z off a cap) : OwnAt (c.join cE n) w' (n + i) z off a cap := by
  obtain ⟨g, e, cur, h1, h2⟩ := h
  exact ⟨g, e, cur, by simp only [Cx.join]; rw [if_neg (by omega), Nat.add_sub_cancel_left]; exact h1, h2⟩

section
variable {cE : Cx} {L : List Blk} {w' : World}
mutual
theorem VRel.join : ∀ {x : V} {v : Value}, VRel cE L w' x v → x.fresh = true → VRel (c.join cE H.length) (H ++ shH H.length L) w' (shV H.length x) v
  | _, _, .undef v, _ => .undef v
  | _, _, .int k n h1 h2, _ => .int k n h1 h2
  | _, _, .u8 x, _ => .u8 x
  | _, _, .b p x h, _ => .b p x h
  | _, _, .bt x, _ => .bt x
  | _, _, .nope, _ => .nope
  | _, _, .str s h, _ => .str s h
  | _, _, .nils, _ => .nils
  | _, _, .sl fr t xs v h, hf => by
    have hf : fr = true := hf
    subst hf
    exact .sl true t xs v (DRel.ext (M := cE.N) (fun g hg => .inr hg) (fun _ _ => rfl) _ _ _ h)
  | _, _, .own t i n a cap h1 hn hc ho, _ => .own t (H.length + i) n a cap ((shape_join H L i).trans h1) hn hc (ho.imp (fun h => h) OwnAt.join)
  | _, _, .slc t i off n m a cap h1 h2 hn hc ho, _ => .slc t (H.length + i) off n m a cap ((shape_join H L i).trans h1) h2 hn hc (ho.imp (fun h => h) OwnAt.join)
  | _, _, .rp fr t x o g p es hM hd hc, hf => by simp [V.fresh] at hf
  | _, _, .ptr i z j o g m h1 hr hi ho, _ => .ptr (H.length + i) z j o g m ((shape_join H L i).trans h1) (by simp only [Cx.join]; rw [if_neg (by omega), Nat.add_sub_cancel_left]; exact hr) hi ho
  | _, _, .agg cs vs h, hf => .agg _ vs (VRels.join h hf)
  | _, _, .tup cs vs h, hf => .tup _ vs (VRels.join h hf)
  | _, _, .fn f cs vs h, hf => .fn f _ vs (VRels.join h hf)
  | _, _, .nilfn, _ => .nilfn
theorem VRels.join : ∀ {xs : List V} {vs : List Value}, VRels cE L w' xs vs → V.freshL xs = true → VRels (c.join cE H.length) (H ++ shH H.length L) w' (shL H.length xs) vs
  | _, _, .nil, _ => .nil
  | _, _, .cons x v xs vs h hx, hf => by
    simp only [V.freshL, Bool.and_eq_true] at hf
    exact .cons _ v _ vs (VRel.join h hf.1) (VRels.join hx hf.2)
end
end

theorem freshH_at : ∀ (L : List Blk) (i : Nat), freshH L = true → (getB L i).fresh = true
  | [], i, _ => by cases i <;> rfl
  | b :: L, 0, h => by simp only [freshH, Bool.and_eq_true] at h; exact h.1
  | b :: L, i + 1, h => by simp only [freshH, Bool.and_eq_true] at h; exact freshH_at L i h.2
theorem freshL_at : ∀ (l : List V) (i : Nat), V.freshL l = true → (gets l i).fresh = true
  | [], i, _ => by cases i <;> rfl
  | b :: L, 0, h => by simp only [V.freshL, Bool.and_eq_true] at h; exact h.1
  | b :: L, i + 1, h => by simp only [V.freshL, Bool.and_eq_true] at h; exact freshL_at L i h.2

theorem ext_join (hst : St G base w0 c H w) {cE : Cx} {L : List Blk} {w' : World} (he : St G w.heap.size w cE L w') : Ext c H w (c.join cE H.length) (H ++ shH H.length L) w' where
  M g hg := .inl hg
  N g hg := .inl hg
  mem g hg := he.below.block g (hst.imm g (hg.elim id fun hn => (hst.sub g hn).1))
  shp id s hs := by
    have hlt := shape_lt hs
    refine ⟨?_, by simp [Cx.join, hlt]⟩
    unfold shape at *
    rw [getB_app, if_pos hlt]; exact hs
  siz id s g cur e hs hr hg := ⟨cur, (he.below.block g (hst.own id g hr).2.1).trans hg, rfl⟩

theorem St.join (hst : St G base w0 c H w) {cE : Cx} {L : List Blk} {w' : World} (he : St G w.heap.size w cE L w') (hf : freshH L = true) : St G base w0 (c.join cE H.length) (H ++ shH H.length L) w' where
  below := hst.below.trans (he.below.mono hst.size)
  size := Nat.le_trans hst.size he.size
  blk id := by
    rw [getB_app]
    split
    · rename_i hlt
      exact BOk.keep (ext_join hst he) (fun _ => by simp [Cx.join, hlt]) (fun g hg => he.below.block g (hst.own id g hg).2.1) (hst.blk id)
    · rename_i hge
      have hid : id = H.length + (id - H.length) := by omega
      have hbk := he.blk (id - H.length)
      have hfr := freshH_at L (id - H.length) hf
      have hrho : (c.join cE H.length).ρ id = cE.ρ (id - H.length) := by simp [Cx.join, hge]
      rw [getB_shH]
      generalize getB L (id - H.length) = b at hbk hfr
      cases b with
      | dead => trivial
      | row fr t xs =>
        rcases hbk with ⟨h1, h2⟩ | ⟨g, e, cur, h1, h2, h3, h4⟩
        · exact .inl ⟨hrho.trans h1, h2⟩
        · refine .inr ⟨g, e, cur, hrho.trans h1, h2, h3, fun i x hi => ?_⟩
          obtain ⟨es, e1, e2⟩ := h4 i x hi
          refine ⟨es, ?_, e2⟩
          simp only [Blk.fresh, Bool.or_eq_true] at hfr
          rcases hfr with hfr | hfr
          · subst hfr; exact DRel.ext (M := cE.N) (fun g hg => .inr hg) (fun _ _ => rfl) _ _ _ e1
          · exact DRel.flat _ _ _ hfr e1
      | cells cs =>
        obtain ⟨g, e, cur, h1, h2, h3, h4⟩ := hbk
        refine ⟨g, e, cur, hrho.trans h1, h2, by rw [length_shL]; exact h3, fun j hj => ?_⟩
        rw [length_shL] at hj
        obtain ⟨v, h5, h6, h7⟩ := h4 j hj
        rw [gets_shL]
        exact ⟨v, h5, h6, h7.join (freshL_at cs j hfr)⟩
  inj i j g hi hj := by
    simp only [Cx.join] at hi hj
    split at hi <;> split at hj
    · exact hst.inj i j g hi hj
    · have h1 := (hst.own i g hi).2.1
      have h2 := (he.own _ g hj).1
      omega
    · have h1 := (hst.own j g hj).2.1
      have h2 := (he.own _ g hi).1
      omega
    · have := he.inj _ _ g hi hj; omega
  own i g hi := by
    simp only [Cx.join] at hi
    split at hi
    · obtain ⟨h1, h2, h3, h4⟩ := hst.own i g hi
      refine ⟨h1, Nat.lt_of_lt_of_le h2 he.size, fun hm => ?_, by rw [List.length_append]; omega⟩
      rcases hm with hm | hm
      · exact h3 hm
      · have := (he.sub g hm).2; omega
    · obtain ⟨h1, h2, h3, h4⟩ := he.own _ g hi
      have := hst.size
      refine ⟨by omega, h2, fun hm => ?_, by rw [List.length_append, length_shH]; omega⟩
      rcases hm with hm | hm
      · have := hst.imm g hm; omega
      · exact h3 (he.sub g hm).1
  imm g hg := by
    rcases hg with hg | hg
    · exact Nat.lt_of_lt_of_le (hst.imm g hg) he.size
    · exact he.imm g (he.sub g hg).1
  sub g hg := by
    rcases hg with hg | hg
    · exact ⟨.inl (hst.sub g hg).1, (hst.sub g hg).2⟩
    · have := hst.size
      exact ⟨.inr hg, Nat.le_trans this (he.sub g hg).2⟩
  glob g x hx := (hst.glob g x hx).ext (ext_join hst he)

theorem retK_ok (hG : GlobOk G) (hN : noRef G) {ms : List Mode} {v : V} {x : Value} {K : V → List Blk → Prop} (hst : St G base w0 c H w) (hx : VRel c H w v x) (h : retK ms v H K) :
    ∃ c' v' H', K v' H' ∧ St G base w0 c' H' w ∧ VRel c' H' w v' x := by
  unfold retK at h
  obtain ⟨hl, h⟩ := bif_ok h
  have hl := beq_ok hl
  have hview : ∀ us, VRels c H w (comps v) us → ∃ c' vs' H', K (uncomps v vs') H' ∧ St G base w0 c' H' w ∧ VRels c' H' w vs' us := fun us hu => by
    obtain ⟨c1, vs1, H1, h, hst1, hv1⟩ := viewA_ok hG ms c (comps v) [] H us [] _ hst hu .nil hl h
    obtain ⟨c2, vs2, H2, h, hst2, hv2⟩ := viewB_ok hN hst1 hv1 h
    exact ⟨c2, vs2, H2, h, hst2, by simpa using hv2⟩
  have single : (∀ l, v ≠ .tup l) → (∀ l, v ≠ .agg l) → ∃ c' v' H', K v' H' ∧ St G base w0 c' H' w ∧ VRel c' H' w v' x := fun h1 h2 => by
    have hc : comps v = [v] := by cases v <;> first | rfl | exact (h1 _ rfl).elim | exact (h2 _ rfl).elim
    have hu : ∀ vs, uncomps v vs = gets vs 0 := fun vs => by cases v <;> first | rfl | exact (h1 _ rfl).elim | exact (h2 _ rfl).elim
    obtain ⟨c', vs', H', hk, hst', hr⟩ := hview [x] (by rw [hc]; exact .cons _ _ _ _ hx .nil)
    rw [hu] at hk
    exact ⟨c', _, H', hk, hst', by simpa using hr.get 0⟩
  cases hx with
  | agg cs vs hr =>
    obtain ⟨c', vs', H', hk, hst', hr'⟩ := hview _ hr
    exact ⟨c', _, H', hk, hst', .agg _ _ hr'⟩
  | tup cs vs hr =>
    obtain ⟨c', vs', H', hk, hst', hr'⟩ := hview _ hr
    exact ⟨c', _, H', hk, hst', .tup _ _ hr'⟩
  | _ => exact single (fun _ h => by cases h) (fun _ h => by cases h)
end

/-- THE CONTRACT OF A FUNCTION THAT ONLY READS WHAT IT GETS. -/
theorem holds_pure {E : Env} {P : Program} (hG : GlobOk E.glob) (hN : noRef E.glob) (hE : EnvOk P E) (hD : DrawOk E P) {f : FuncId} {fn : Func} (hf : P.funcs[f]? = some fn) (hent : ∀ args w, (callFunc f args).run P w = .ok (.enter f args) w)
    {ks : List PK} {spec : List V → Option (Prop × V × List Blk)} (ms : List Mode) (h : ∀ ds p v bs, spec ds = some (p, v, bs) → p → bodyP E fn ms ds v bs) : Holds P E.glob f (pureC ks spec) := by
  refine ⟨hent, fun base w0 c H w args vs hst hv R hc => ?_⟩
  obtain ⟨ds, hk, hd⟩ := asArgs_ok hst ks args vs _ hc hv
  cases hs : spec ds with
  | none => rw [hs] at hk; exact hk.elim
  | some q =>
    obtain ⟨p, v, bs⟩ := q
    rw [hs] at hk
    obtain ⟨hp, hR⟩ := hk
    refine (body_ok hG hN hE hD hf (hst.all hN) hd (h ds p v bs hs hp)).mono ?_
    rintro e w' ⟨x, v', H', c', rfl, hq, hx, hst'⟩
    obtain ⟨c2, v2, H2, ⟨hfr, rfl, rfl⟩, hst2, hx2⟩ := retK_ok hG hN hst' hx hq
    simp only [Bool.and_eq_true] at hfr
    exact ⟨_, v', _, _, rfl, hR, hx2.join hfr.1, hst.join hst2 hfr.2, ext_join hst hst2⟩
end
end Go.Proofs.YtifaanbnijnbdaaDoor.Vc

namespace Go.Proofs.YtifaanbnijnbdaaDoor.Vc
open Go Go.RowKit

def AllTy (P : Program) : List (Nat × Ty) → Prop
  | [] => True
  | (T, t) :: l => TyOk P T t ∧ AllTy P l
theorem AllTy.ok {P : Program} : ∀ {l : List (Nat × Ty)}, AllTy P l → ∀ T t, lk l T = some t → TyOk P T t
  | [], _, T, t, h => by simp [lk] at h
  | (k, x) :: l, hl, T, t, h => by
    unfold lk at h
    cases hb : Nat.beq k T with
    | true =>
      rw [hb] at h
      simp only [cond_true, Option.some.injEq] at h
      have := beq_ok hb
      subst this h
      exact hl.1
    | false =>
      rw [hb] at h
      exact AllTy.ok hl.2 T t h

theorem EnvOk.nil {P : Program} {tys : List (Nat × Ty)} {G : List (Nat × V)} (h : ∀ T t, lk tys T = some t → TyOk P T t) : EnvOk P ⟨[], tys, G⟩ :=
  ⟨fun K c h => by simp [lk] at h, h⟩
theorem EnvOk.cons {P : Program} {tys : List (Nat × Ty)} {G : List (Nat × V)} {l : List (Nat × Con)} {k : Nat} {c : Con} (h : Holds P G k c) (hE : EnvOk P ⟨l, tys, G⟩) : EnvOk P ⟨(k, c) :: l, tys, G⟩ :=
  ⟨fun K c' hc => by
    simp only [lk] at hc
    cases hb : Nat.beq k K with
    | true =>
      rw [hb] at hc
      simp only [cond_true, Option.some.injEq] at hc
      have := beq_ok hb
      subst this hc
      exact h
    | false =>
      rw [hb] at hc
      exact hE.con K c' hc, hE.ty⟩
end Go.Proofs.YtifaanbnijnbdaaDoor.Vc

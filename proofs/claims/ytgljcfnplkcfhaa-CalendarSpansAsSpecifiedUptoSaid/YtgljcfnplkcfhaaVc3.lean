/- Texts of this claim: Vc.T, Vc.TA, Vc.UA, Vc.U, Vc.W. -/
import Derived.Test.YtgljcfnplkcfhaaVc2
import Derived.Lib.MinMax
import Derived.Lib.Strings
import Derived.Tactics
import Derived.OrdersIn
import Derived.TacticsIn
import Derived.RangeFuncCalls
set_option linter.unusedVariables false
set_option linter.unusedSimpArgs false
namespace Go.Proofs.Ytgljcfnplkcfhaa.Vc
open Go Go.RowKit

section
variable {E : Env} {P : Program} {G : List (Nat × V)} {base : Nat} {w0 : W0} {c : Cx} {H : List Blk} {w : World} {σ : List V} {a : Act} {K : V → List V → List Blk → Prop} {o : Oper}

theorem i64_mk {n : Int} (h : -9223372036854775808 ≤ n ∧ n ≤ 9223372036854775807) : IntKind.i64.min ≤ n ∧ n ≤ IntKind.i64.max := by
  simpa [IntKind.min, IntKind.max, IntKind.signed, IntKind.bits] using h
theorem rel_i64 {n : Int} (h : -9223372036854775808 ≤ n ∧ n ≤ 9223372036854775807) : VRel c H w (.int .i64 n) (.int .i64 n) := .int _ _ (i64_mk h).1 (i64_mk h).2
theorem len_i64 {n : Nat} (h : n ≤ maxLen) : VRel c H w (.int .i64 (n : Int)) (.int .i64 (n : Int)) := rel_i64 (by unfold maxLen at h; omega)

theorem alen_ok {v : V} {x : Value} {k : V → Prop} (h : alen H v k) (hv : ∀ s, v ≠ .str s) (hx : VRel c H w v x) : ∃ n : Nat, k (.int .i64 (n : Int)) ∧ n ≤ maxLen ∧ (∃ a cap, x = .slice a n cap) := by
  unfold alen at h
  split at h
  · cases hx; exact ⟨0, h, by simp, ⟨_, _, rfl⟩⟩
  · rename_i fr t xs
    cases hx with | sl _ _ _ _ hd =>
    obtain ⟨a, cap, h1, h2, h3, _⟩ := hd
    simp only [List.cons.injEq, and_true] at h1
    exact ⟨_, h, by omega, ⟨a, cap, h1⟩⟩
  · exact (hv _ rfl).elim
  · rename_i t id
    cases hx with | own _ _ n a cap hs hn hc ho =>
    split at h
    · rename_i f t' xs hb
      simp only [shape, hb, Option.some.injEq, Prod.mk.injEq] at hs
      exact ⟨_, h, by omega, ⟨a, cap, by rw [hs.1]⟩⟩
    · rename_i cs hb
      simp only [shape, hb, Option.some.injEq, Prod.mk.injEq] at hs
      exact ⟨_, h, by omega, ⟨a, cap, by rw [hs.1]⟩⟩
    · exact h.elim
  · cases hx with | slc _ _ _ n m a cap hs hm hn hc ho => exact ⟨_, h, by omega, ⟨a, cap, rfl⟩⟩
  · exact h.elim

theorem op_len (hE : EnvOk P E) (hst : St E.glob base w0 c H w) (hσ : VRels c H w σ a.tmps.toList) (x : Operand) (T : TypeId)
    (ho : o.op = .call { callee := .builtin .len, args := #[x], argTypes := #[T] }) (h : alenT E H T (ev E σ x) fun v => K v σ H) :
    After E.glob base w0 a.tmps.toList K P o a w := by
  have hx := ev_ok hst hσ x
  have hexec : ∀ v w', (Builtin.len_ #[T] o.type #[a.eval x]).run P w = .ok v w' → (execOp a.eval o).run P w = .ok (.value v) w' := fun v w' hr => by
    unfold execOp
    simp only [ho, resolve, invoke, builtin, Sem.run_bind, Sem.run_pure, Result.andThen_ok, List.map_toArray, List.map_cons, List.map_nil, hr]
  generalize ev E σ x = vx at h hx
  generalize hax : a.eval x = ax at hx
  rw [hax] at hexec
  unfold alenT at h
  split at h
  · rename_i t hT
    obtain ⟨e, hu, _⟩ := (lk_ty hE hT).sl
    split at h
    · exact h.elim
    · rename_i hv
      obtain ⟨n, h1, h2, ⟨ax', cap, h3⟩⟩ := alen_ok h (fun s e => hv s e) hx
      subst h3
      refine after_pure hst hσ (len_i64 h2) h1 (hexec _ _ ?_)
      exact run_len_slice (P := P) (w := w) T o.type ax' n cap (by rw [hu]; simp [Program.elem, hu])
  · rename_i hT
    have hu : P.underlying T = some .string := (lk_ty hE hT).2
    split at h
    · rename_i s
      cases hx with | str _ hs =>
      refine after_pure hst hσ (len_i64 hs) h (hexec _ _ ?_)
      have hsz : (ByteArray.mk s.toArray).size = s.length := rfl
      simp [Builtin.len_, run_underlying hu, goInt, hsz]
    · exact h.elim
  · exact h.elim

theorem op_mm (hst : St E.glob base w0 c H w) (hσ : VRels c H w σ a.tmps.toList) (mx : Bool) (x y : Operand) (ts : Array TypeId)
    (ho : o.op = .call { callee := .builtin (bif mx then .max else .min), args := #[x, y], argTypes := ts }) (h : amm mx (ev E σ x) (ev E σ y) fun v => K v σ H) :
    After E.glob base w0 a.tmps.toList K P o a w := by
  have hx := ev_ok hst hσ x
  have hy := ev_ok hst hσ y
  generalize ev E σ x = vx at h hx
  generalize ev E σ y = vy at h hy
  generalize hax : a.eval x = ax at hx
  generalize hay : a.eval y = ay at hy
  unfold amm at h
  split at h
  · rename_i k n k' m
    obtain ⟨hk, hh⟩ := bif_ok h
    have hk := of_decide_eq_true hk
    subst hk
    clear h
    cases hx with | int _ _ h1 h2 =>
    cases hy with | int _ _ h3 h4 =>
    cases mx
    · refine after_pure hst hσ (VRel.int k (min n m) (by omega) (by omega)) hh ?_
      simp [execOp, ho, resolve, invoke, builtin, Sem.run_bind, hax, hay, Lib.run_min_ints]
    · refine after_pure hst hσ (VRel.int k (max n m) (by omega) (by omega)) hh ?_
      simp [execOp, ho, resolve, invoke, builtin, Sem.run_bind, hax, hay, Lib.run_max_ints]
  · exact h.elim

theorem op_bin (hE : EnvOk P E) (hst : St E.glob base w0 c H w) (hσ : VRels c H w σ a.tmps.toList) (op : BinOp) (T : TypeId) (x y : Operand) (T' : TypeId) (ho : o.op = .binOp op T x y T') (h : aop E σ H (.binOp op T x y T') K) :
    After E.glob base w0 a.tmps.toList K P o a w := by
  have hx := ev_ok hst hσ x
  have hy := ev_ok hst hσ y
  simp only [aop] at h
  have key : abin op H (ev E σ x) (ev E σ y) (fun v => K v σ H) ∧ tyFor P T (ev E σ x) := by
    generalize ev E σ x = vx at h
    unfold abinT at h
    split at h
    · split at h
      · rename_i hT; exact ⟨h, (lk_ty hE hT).2⟩
      · exact h.elim
    all_goals first
      | (split at h
         · rename_i t hT; obtain ⟨e, hu, _⟩ := (lk_ty hE hT).sl; exact ⟨h, e, hu⟩
         · exact h.elim)
      | exact h.elim
      | skip
    refine ⟨h, ?_⟩
    rename_i h1 h2 h3 h4 h5
    cases vx <;> first | trivial | exact (h1 _ rfl).elim | exact (h2 rfl).elim | exact (h3 _ _ _ rfl).elim | exact (h4 _ _ rfl).elim | exact (h5 _ _ rfl).elim
  obtain ⟨r, v, h1, h2, h3⟩ := abin_ok (P := P) hst hx hy key.1 T key.2 x y
  refine after_pure hst hσ h2 h1 ?_
  simp only [Sem.run_bind] at h3
  simp only [execOp, ho, Sem.run_bind]
  rw [h3]; rfl

theorem op_not (hst : St E.glob base w0 c H w) (hσ : VRels c H w σ a.tmps.toList) (T : TypeId) (x : Operand) (ho : o.op = .unOp .not T x) (h : aop E σ H (.unOp .not T x) K) :
    After E.glob base w0 a.tmps.toList K P o a w := by
  have hx := evr_ok hst hσ x
  simp only [aop] at h
  generalize evr E σ x = vx at h hx
  generalize hax : a.eval x = ax at hx
  cases hx <;> try exact h.elim
  case b p b hb =>
    refine after_pure hst hσ (VRel.b _ (!b) (by rw [← hb]; cases b <;> simp)) h ?_
    simp [execOp, ho, hax, Op.unary]
  case bt b =>
    cases b
    · exact after_pure hst hσ (VRel.bt true) h (by simp [execOp, ho, hax, Op.unary])
    · exact after_pure hst hσ (VRel.bt false) h (by simp [execOp, ho, hax, Op.unary])

theorem op_conv (hE : EnvOk P E) (hst : St E.glob base w0 c H w) (hσ : VRels c H w σ a.tmps.toList) (S T : TypeId) (x : Operand) (ho : o.op = .convert S T x) (h : aop E σ H (.convert S T x) K) :
    After E.glob base w0 a.tmps.toList K P o a w := by
  have hx := ev_ok hst hσ x
  simp only [aop] at h
  generalize ev E σ x = vx at h hx
  generalize hax : a.eval x = ax at hx
  unfold aconv at h
  have key : ∀ (k k' : IntKind) (n : Int), P.underlying T = some (.int k) → (∃ tS, lk E.ty S = some tS) → ax = .int k' n → (execOp a.eval o).run P w = .ok (.value (.int k (k.wrap n))) w := fun k k' n hu ⟨tS, hS⟩ e => by
    have hs : ∃ d, P.underlying S = some d := by
      have h2 := (lk_ty hE hS).2
      cases tS <;> simp only at h2 <;> first | exact ⟨_, h2⟩ | (obtain ⟨e, h2, _⟩ := h2; exact ⟨_, h2⟩) | (obtain ⟨e, h2⟩ := h2; exact ⟨_, h2⟩)
    obtain ⟨d, hs⟩ := hs
    have := Go.run_convert_int (P := P) (w := w) S T k' n (by rw [hs]; rfl) (by rw [hu]; simp [Program.intKind, hu])
    have hk : P.intKind T = k := by simp [Program.intKind, hu]
    rw [hk] at this
    simp [execOp, ho, hax, e, this]
  split at h
  · exact h.elim
  · rename_i tS hS
    split at h
    · rename_i x hT
      cases hx
      have hlt := x.toNat_lt
      refine after_pure hst hσ (rel_i64 (by omega)) h ?_
      rw [key .i64 .u8 _ (lk_ty hE hT).2 ⟨_, hS⟩ rfl, IntWalk.i64_in _ (by omega)]
    · rename_i x hT
      cases hx
      have hlt := x.toNat_lt
      refine after_pure hst hσ (VRel.int .u64 (x.toNat : Int) (by simp [IntKind.min, IntKind.signed]) (by simp [IntKind.max, IntKind.signed, IntKind.bits]; omega)) h ?_
      rw [key .u64 .u8 _ (lk_ty hE hT).2 ⟨_, hS⟩ rfl]
      have : IntKind.u64.wrap (x.toNat : Int) = x.toNat := by simp [IntKind.wrap, IntKind.signed, IntKind.bits]; omega
      rw [this]
    · rename_i k k' n hT
      cases hx with | int _ _ h1 h2 =>
      obtain ⟨g1, g2, g3⟩ := inRK_ok h
      refine after_pure hst hσ (VRel.int k n g3.1 g3.2) g1 ?_
      rw [key k _ _ (lk_ty hE hT).2 ⟨_, hS⟩ rfl, g2]
    · rename_i k' n hT
      cases hx with | int _ _ h1 h2 =>
      refine after_pure hst hσ (VRel.u8 _) h ?_
      rw [key .u8 _ _ (lk_ty hE hT).2 ⟨_, hS⟩ rfl, IntKind.wrap_u8]
      congr 3
      rw [UInt8.toNat_ofNat']; omega
    · rename_i x hT
      cases hx
      have hlt := x.toNat_lt
      refine after_pure hst hσ (VRel.u8 _) h ?_
      rw [key .u8 .u8 _ (lk_ty hE hT).2 ⟨_, hS⟩ rfl, IntKind.wrap_u8]
      congr 3
      omega
    · exact h.elim

theorem extract_str (s : List UInt8) (l h : Nat) : (ByteArray.mk s.toArray).extract l h = ⟨((s.drop l).take (h - l)).toArray⟩ := by
  rw [Lib.extract_eq]

theorem sl_sub {fr : Bool} {t : Ty} {xs : List t.D} {ad : Option Addr} {cap : Nat} (hd : DRel w (c.im fr) (.sl t) xs [.slice ad xs.length cap]) (l h : Nat) (hlh : l ≤ h) (hh : h ≤ xs.length) :
    VRel c H w (.sl fr t ((xs.drop l).take (h - l))) (.slice (if cap = l then ad else ad.map (·.add (l * t.size))) (h - l) (cap - l)) := by
  obtain ⟨a', cap', h1, h2, h3, h4⟩ := hd
  simp only [List.cons.injEq, Value.slice.injEq, and_true, true_and] at h1
  obtain ⟨rfl, rfl⟩ := h1
  have hlen : ((xs.drop l).take (h - l)).length = h - l := by rw [List.length_take, List.length_drop]; omega
  refine .sl _ _ _ _ ⟨_, cap - l, by rw [hlen], by rw [hlen]; omega, by omega, fun hne => ?_⟩
  have hpos : 0 < h - l := by rw [← hlen]; exact List.length_pos_iff.2 hne
  have hx : xs ≠ [] := fun e => by subst e; simp at hh; omega
  obtain ⟨g, q, rfl, hM, hel⟩ := h4 hx
  have hcl : ¬ cap = l := by omega
  rw [if_neg hcl]
  refine ⟨g, q + l * t.size, by simp [Addr.add_lit], hM, fun i y hy => ?_⟩
  have hi : i < h - l := by
    have := (List.getElem?_eq_some_iff.1 hy).1
    rw [hlen] at this; exact this
  rw [List.getElem?_take, if_pos hi, List.getElem?_drop] at hy
  obtain ⟨es, e1, e2⟩ := hel _ y hy
  refine ⟨es, e1, fun j v hj => ?_⟩
  have := e2 j v hj
  rw [Nat.add_mul] at this
  rw [show q + l * t.size + i * t.size + j = q + (l * t.size + i * t.size) + j by omega]
  exact this

theorem op_slice (hE : EnvOk P E) (hst : St E.glob base w0 c H w) (hσ : VRels c H w σ a.tmps.toList) (T : TypeId) (x : Operand) (lo hi : Option Operand) (ho : o.op = .slice T x lo hi none) (h : aop E σ H (.slice T x lo hi none) K) :
    After E.glob base w0 a.tmps.toList K P o a w := by
  have hx := ev_ok hst hσ x
  have hlo : ∀ l, lo = some l → VRel c H w (ev E σ l) (a.eval l) := fun l _ => ev_ok hst hσ l
  have hhi : ∀ l, hi = some l → VRel c H w (ev E σ l) (a.eval l) := fun l _ => ev_ok hst hσ l
  simp only [aop] at h
  generalize ev E σ x = vx at h hx
  generalize hax : a.eval x = ax at hx
  obtain ⟨vl, hvl⟩ : ∃ vl, lo.map (ev E σ) = vl := ⟨_, rfl⟩
  obtain ⟨vh, hvh⟩ : ∃ vh, hi.map (ev E σ) = vh := ⟨_, rfl⟩
  rw [hvl, hvh] at h
  have hl' : ∀ k n, vl = some (.int k n) → ∃ l, lo = some l ∧ a.eval l = .int k n := fun k n e => by
    subst e
    cases lo with
    | none => simp at hvl
    | some l =>
      simp only [Option.map_some, Option.some.injEq] at hvl
      have := hlo l rfl
      rw [hvl] at this
      generalize hal : a.eval l = al at this
      cases this; exact ⟨l, rfl, hal⟩
  have hh' : ∀ k n, vh = some (.int k n) → ∃ l, hi = some l ∧ a.eval l = .int k n := fun k n e => by
    subst e
    cases hi with
    | none => simp at hvh
    | some l =>
      simp only [Option.map_some, Option.some.injEq] at hvh
      have := hhi l rfl
      rw [hvh] at this
      generalize hal : a.eval l = al at this
      cases this; exact ⟨l, rfl, hal⟩
  have hln : vl = none → lo = none := fun e => by subst e; cases lo <;> simp at hvl ⊢
  have hhn : vh = none → hi = none := fun e => by subst e; cases hi <;> simp at hvh ⊢
  have runS : ∀ {e : TypeId} {z len cap : Nat} {ad : Option Addr} (l h : Nat), P.underlying T = some (.slice e) → (P.info? e).map (·.size) = some z → ax = .slice ad len cap → l ≤ h → h ≤ cap →
      (lo = none ∧ l = 0 ∨ ∃ ol k, lo = some ol ∧ a.eval ol = .int k l) → (hi = none ∧ h = len ∨ ∃ oh k, hi = some oh ∧ a.eval oh = .int k h) →
      (execOp a.eval o).run P w = .ok (.value (.slice (if cap = l then ad else ad.map (·.add (l * z))) (h - l) (cap - l))) w := by
    intro e z len cap ad l h hu hs hax2 h1 h2 h3 h4
    cases hinf : P.info? e with
    | none => rw [hinf] at hs; simp at hs
    | some inf =>
      rw [hinf] at hs
      simp only [Option.map_some, Option.some.injEq] at hs
      subst hax2
      rcases h3 with ⟨rfl, rfl⟩ | ⟨ol, kl, rfl, e3⟩ <;> rcases h4 with ⟨rfl, rfl⟩ | ⟨oh, kh, rfl, e4⟩
      · simp [execOp, ho, hax, Instr.sliceAt, Instr.slice, run_underlying hu, Instr.sliceBounds, sizeOf, typeInfo, hinf, hs]
      · have b2 := run_sliceBound (P := P) (w := w) kh (h : Int) cap .sliceAcap (by omega) (by omega)
        simp [execOp, ho, hax, e4, Instr.sliceAt, Instr.slice, run_underlying hu, Instr.sliceBounds, b2, sizeOf, typeInfo, hinf, hs]
      · have b1 := run_sliceBound (P := P) (w := w) kl (l : Int) h .sliceB (by omega) (by omega)
        simp [execOp, ho, hax, e3, Instr.sliceAt, Instr.slice, run_underlying hu, Instr.sliceBounds, b1, sizeOf, typeInfo, hinf, hs]
      · have b1 := run_sliceBound (P := P) (w := w) kl (l : Int) h .sliceB (by omega) (by omega)
        have b2 := run_sliceBound (P := P) (w := w) kh (h : Int) cap .sliceAcap (by omega) (by omega)
        simp [execOp, ho, hax, e3, e4, Instr.sliceAt, Instr.slice, run_underlying hu, Instr.sliceBounds, b1, b2, sizeOf, typeInfo, hinf, hs]
  have bnd : ∀ (n : Nat) (k : Nat → Nat → Prop), abounds n vl vh k → ∃ l h : Nat, k l h ∧ l ≤ h ∧ h ≤ n ∧ (lo = none ∧ l = 0 ∧ vl = none ∨ ∃ ol kk, lo = some ol ∧ a.eval ol = .int kk l ∧ vl ≠ none) ∧ (hi = none ∧ h = n ∧ vh = none ∨ ∃ oh kk, hi = some oh ∧ a.eval oh = .int kk h ∧ vh ≠ none) := by
    intro n k hb
    unfold abounds at hb
    split at hb
    · exact ⟨0, n, hb, by omega, by omega, .inl ⟨hln rfl, rfl, rfl⟩, .inl ⟨hhn rfl, rfl, rfl⟩⟩
    · rename_i kk h'
      obtain ⟨oh, h1, h2⟩ := hh' _ _ rfl
      exact ⟨0, h'.toNat, hb.2, by omega, by omega, .inl ⟨hln rfl, rfl, rfl⟩, .inr ⟨oh, kk, h1, by rw [h2]; congr 1; omega, by simp⟩⟩
    · rename_i kk l'
      obtain ⟨ol, h1, h2⟩ := hl' _ _ rfl
      exact ⟨l'.toNat, n, hb.2, by omega, by omega, .inr ⟨ol, kk, h1, by rw [h2]; congr 1; omega, by simp⟩, .inl ⟨hhn rfl, rfl, rfl⟩⟩
    · rename_i kk l' kk' h'
      obtain ⟨ol, h1, h2⟩ := hl' _ _ rfl
      obtain ⟨oh, h3, h4⟩ := hh' _ _ rfl
      exact ⟨l'.toNat, h'.toNat, hb.2, by omega, by omega, .inr ⟨ol, kk, h1, by rw [h2]; congr 1; omega, by simp⟩, .inr ⟨oh, kk', h3, by rw [h4]; congr 1; omega, by simp⟩⟩
    · exact hb.elim
  have cutE : ∀ {α : Type} (xs : List α) (l h : Nat), (vl = none → l = 0) → (vh = none → h = xs.length) → cut xs vl vh l h = (xs.drop l).take (h - l) := by
    intro α xs l h g1 g2
    unfold cut
    cases vl <;> cases vh <;> simp only
    · rw [g1 rfl, g2 rfl]; simp
    · rw [g1 rfl]; simp
    · rw [g2 rfl, List.take_of_length_le (by rw [List.length_drop]; omega)]
  unfold aslice at h
  split at h
  · rename_i te hT
    obtain ⟨e, hu, hio, hpos⟩ := (lk_ty hE hT).sl
    split at h
    · rename_i fr t xs
      obtain ⟨hz, h⟩ := bif_ok h
      have hz := beq_ok hz
      obtain ⟨l, hh, hk, h1, h2, h3, h4⟩ := bnd _ _ h
      rw [cutE xs l hh (fun e => by rcases h3 with h3 | ⟨_, _, _, _, h3⟩; · exact h3.2.1
                                    · exact (h3 e).elim) (fun e => by rcases h4 with h4 | ⟨_, _, _, _, h4⟩; · exact h4.2.1
                                                                      · exact (h4 e).elim)] at hk
      cases hx with | sl _ _ _ _ hd =>
      obtain ⟨ad, cap, e1, e2, e3, e4⟩ := id hd
      simp only [List.cons.injEq, and_true] at e1
      subst e1
      refine after_pure hst hσ (sl_sub hd l hh h1 h2) hk ?_
      rw [hz]
      exact runS l hh hu hio.size rfl h1 (by omega) (by rcases h3 with h3 | ⟨ol, kk, q1, q2, _⟩
                                                        · exact .inl ⟨h3.1, h3.2.1⟩
                                                        · exact .inr ⟨ol, kk, q1, q2⟩) (by rcases h4 with h4 | ⟨ol, kk, q1, q2, _⟩
                                                                                           · exact .inl ⟨h4.1, h4.2.1⟩
                                                                                           · exact .inr ⟨ol, kk, q1, q2⟩)
    · rename_i t id
      split at h
      · rename_i f t' xs hb
        obtain ⟨hz, h⟩ := bif_ok h
        have hz := beq_ok hz
        obtain ⟨l, hh, hk, h1, h2, h3, h4⟩ := bnd _ _ h
        cases hx with | own _ _ n ad cap hs hn hc hoo =>
        have hs0 := hs
        simp only [shape, hb, Option.some.injEq, Prod.mk.injEq] at hs
        obtain ⟨rfl, _⟩ := hs
        refine after_pure hst hσ (VRel.slc (c := c) (H := H) (w := w) t id l (hh - l) xs.length (if cap = l then ad else ad.map (·.add (l * t.size))) (cap - l) hs0 (by omega) (by omega) (by omega) ?_) hk ?_
        · by_cases hcl : cap = l
          · left; omega
          · right
            rw [if_neg hcl]
            obtain ⟨g, el, cur, q1, rfl, q3, q4⟩ := hoo.resolve_left (by omega)
            refine ⟨g, el, cur, q1, by simp [Addr.add_lit], q3, ?_⟩
            rw [← Nat.add_mul]
            have : l + (cap - l) = cap := by omega
            rw [this]; simpa using q4
        · rw [hz]
          exact runS l hh hu hio.size rfl h1 (by omega) (by rcases h3 with h3 | ⟨ol, kk, q1, q2, _⟩
                                                            · exact .inl ⟨h3.1, h3.2.1⟩
                                                            · exact .inr ⟨ol, kk, q1, q2⟩) (by rcases h4 with h4 | ⟨ol, kk, q1, q2, _⟩
                                                                                               · exact .inl ⟨h4.1, h4.2.1⟩
                                                                                               · exact .inr ⟨ol, kk, q1, q2⟩)
      · exact h.elim
    · rename_i t id off n
      obtain ⟨hz, h⟩ := bif_ok h
      have hz := beq_ok hz
      obtain ⟨l, hh, hk, h1, h2, h3, h4⟩ := bnd _ _ h
      cases hx with | slc _ _ _ _ m ad cap hs hm hn hc hoo =>
      refine after_pure hst hσ (VRel.slc (c := c) (H := H) (w := w) t id (off + l) (hh - l) m (if cap = l then ad else ad.map (·.add (l * t.size))) (cap - l) hs (by omega) (by omega) (by omega) ?_) hk ?_
      · by_cases hcl : cap = l
        · left; omega
        · right
          rw [if_neg hcl]
          obtain ⟨g, el, cur, q1, rfl, q3, q4⟩ := hoo.resolve_left (by omega)
          refine ⟨g, el, cur, q1, by simp [Addr.add_lit, Nat.add_mul], q3, ?_⟩
          rw [← Nat.add_mul]
          have : off + l + (cap - l) = off + cap := by omega
          rw [this, Nat.add_mul]; exact q4
      · rw [hz]
        exact runS l hh hu hio.size rfl h1 (by omega) (by rcases h3 with h3 | ⟨ol, kk, q1, q2, _⟩
                                                          · exact .inl ⟨h3.1, h3.2.1⟩
                                                          · exact .inr ⟨ol, kk, q1, q2⟩) (by rcases h4 with h4 | ⟨ol, kk, q1, q2, _⟩
                                                                                             · exact .inl ⟨h4.1, h4.2.1⟩
                                                                                             · exact .inr ⟨ol, kk, q1, q2⟩)
    · exact h.elim
  · rename_i hT
    have hu : P.underlying T = some .string := (lk_ty hE hT).2
    split at h
    · rename_i s
      obtain ⟨l, hh, hk, h1, h2, h3, h4⟩ := bnd _ _ h
      rw [cutE s l hh (fun e => by rcases h3 with h3 | ⟨_, _, _, _, h3⟩; · exact h3.2.1
                                   · exact (h3 e).elim) (fun e => by rcases h4 with h4 | ⟨_, _, _, _, h4⟩; · exact h4.2.1
                                                                     · exact (h4 e).elim)] at hk
      cases hx with | str _ hs =>
      have hsz : (ByteArray.mk s.toArray).size = s.length := rfl
      refine after_pure hst hσ (VRel.str (c := c) (H := H) (w := w) ((s.drop l).take (hh - l)) (by rw [List.length_take, List.length_drop]; omega)) hk ?_
      rw [← extract_str]
      rcases h3 with ⟨rfl, rfl, _⟩ | ⟨ol, kl, rfl, e3, _⟩ <;> rcases h4 with ⟨rfl, rfl, _⟩ | ⟨oh, kh, rfl, e4, _⟩
      · simp [execOp, ho, hax, Instr.sliceAt, Instr.slice, run_underlying hu, Instr.sliceBounds, hsz]
        rw [extract_str]; simp
      · have b2 := run_sliceBound (P := P) (w := w) kh (hh : Int) s.length .sliceAlen (by omega) (by omega)
        simp [execOp, ho, hax, e4, Instr.sliceAt, Instr.slice, run_underlying hu, Instr.sliceBounds, b2, hsz]
      · have b1 := run_sliceBound (P := P) (w := w) kl (l : Int) s.length .sliceB (by omega) (by omega)
        simp [execOp, ho, hax, e3, Instr.sliceAt, Instr.slice, run_underlying hu, Instr.sliceBounds, b1, hsz]
      · have b1 := run_sliceBound (P := P) (w := w) kl (l : Int) hh .sliceB (by omega) (by omega)
        have b2 := run_sliceBound (P := P) (w := w) kh (hh : Int) s.length .sliceAlen (by omega) (by omega)
        simp [execOp, ho, hax, e3, e4, Instr.sliceAt, Instr.slice, run_underlying hu, Instr.sliceBounds, b1, b2, hsz]
    · exact h.elim
  · exact h.elim

theorem op_box (hE : EnvOk P E) (hst : St E.glob base w0 c H w) (hσ : VRels c H w σ a.tmps.toList) (T : TypeId) (x : Operand) (ho : o.op = .box T x) (h : aop E σ H (.box T x) K) :
    After E.glob base w0 a.tmps.toList K P o a w := by
  have hx := ev_ok hst hσ x
  simp only [aop] at h
  have h := (forceV_eq _ _).1 h
  generalize ev E σ x = vx at h hx
  generalize hax : a.eval x = ax at hx
  have hrun : (execOp a.eval o).run P w = .ok (.value (.pointer (some ⟨w.heap.size, 0, none⟩))) (w.alloc (.cells ax.cells T)) := by
    simp [execOp, ho, hax, Instr.box, newVar, newRow]
  unfold abox at h
  split at h
  · rename_i n t hT
    obtain ⟨hb, h⟩ := bif_ok h
    simp only [Bool.and_eq_true, Nat.blt_eq] at hb
    obtain ⟨⟨hn0, ht0⟩, hfl⟩ := hb
    unfold asArr at h
    split at h
    · rename_i f m te ys _
      obtain ⟨e0, h⟩ := castK_ok h
      subst e0
      dsimp only at h
      obtain ⟨⟨hmn, hlen⟩, h2⟩ : (_ = n ∧ _) ∧ _ := h
      have h3 := (forceL_eq _ _).1 h2
      subst hmn
      cases hx with | dat _ _ _ es hd =>
      have hes := DRel.length _ _ _ hd
      obtain ⟨_, ess, hfe, hl, hel⟩ := hd
      have hes : es.length = m * te.size := hes
      have hlens : ∀ e ∈ ess, e.length = te.size := fun e he => by
        obtain ⟨i, hi⟩ := List.mem_iff_getElem?.1 he
        have hlt : i < ess.length := (List.getElem?_eq_some_iff.1 hi).1
        exact DRel.length _ _ _ (hel i _ e (List.getElem?_eq_getElem (by omega)) hi)
      obtain ⟨hst', hext⟩ := push_row (f := true) (t := te) (xs := ys) hst es.toArray T (by rw [hlen]; simpa using Nat.le_of_eq hes.symm) (fun i y hy => by
        have hi : i < ess.length := by have := (List.getElem?_eq_some_iff.1 hy).1; omega
        refine ⟨ess[i], DRel.flat _ _ _ hfl (hel i y _ hy (List.getElem?_eq_getElem hi)), fun j v hj => ?_⟩
        have key : ∀ (ess : List (List Value)) (j k : Nat) (hj : j < ess.length), (∀ e ∈ ess, e.length = te.size) → ess[j][k]? = some v → ess.flatten[j * te.size + k]? = some v := by
          intro ess
          induction ess with
          | nil => intro j k hj; simp at hj
          | cons e ess ih =>
            intro j k hj hl hk
            have he := hl e (by simp)
            cases j with
            | zero =>
              have hk : e[k]? = some v := hk
              have := (List.getElem?_eq_some_iff.1 hk).1
              rw [List.flatten_cons, List.getElem?_append_left (by omega)]
              simpa using hk
            | succ j =>
              rw [List.flatten_cons, List.getElem?_append_right (by rw [Nat.succ_mul]; omega), show (j + 1) * te.size + k - e.length = j * te.size + k by rw [Nat.succ_mul]; omega]
              exact ih j k (by simpa using hj) (fun e h => hl e (by simp [h])) hk
        have := key ess i j hi hlens hj
        rw [← hfe] at this
        simpa using this)
      refine .inl ⟨_, _, hrun, _, σ, _, _, h3, ?_, hσ.ext hext, hst'⟩
      have := VRel.ptr (c := c.push H.length w.heap.size) (H := H ++ [.row true te ys]) (w := w.alloc (.cells es.toArray T)) H.length te.size 0 0 w.heap.size m (by simp [shape, getB_append, hlen]) (by simp [Cx.push]) hn0 ht0
      simpa [Value.cells] using this
    · exact h.elim
  · rename_i t _ hT
    have fin : ∀ (cs : List V), VRels c H w cs ax.cells.toList → allCells cs = true → cs.length = t.size → 0 < t.size → K (.ptr H.length 1 0 0) σ (H ++ [.cells cs]) → After E.glob base w0 a.tmps.toList K P o a w := fun cs hr hall hlen hpos h => by
      obtain ⟨hst', hext⟩ := push_cells (cs := cs) hst ax.cells T hr (allCells_one hr hall)
      refine .inl ⟨_, _, hrun, _, σ, _, _, h, ?_, hσ.ext hext, hst'⟩
      have := VRel.ptr (c := c.push H.length w.heap.size) (H := H ++ [.cells cs]) (w := w.alloc (.cells ax.cells T)) H.length 1 0 0 w.heap.size cs.length (by simp [shape, getB_append]) (by simp [Cx.push]) (by omega) (by omega)
      simpa using this
    split at h
    · rename_i cs
      obtain ⟨hb, h⟩ := bif_ok h
      simp only [Bool.and_eq_true, Nat.blt_eq] at hb
      have h := (forceL_eq _ _).1 h
      cases hx with | agg _ us hr =>
      exact fin cs (by simpa [Value.cells] using hr) hb.1.2 (beq_ok hb.2) hb.1.1 h
    · obtain ⟨hb, h⟩ := bif_ok h
      simp only [Bool.and_eq_true] at hb
      have h := (forceL_eq _ _).1 h
      have h1 := beq_ok hb.2
      have hc := isCell_one hx hb.1
      exact fin [vx] (by rw [hc.2]; exact .cons _ _ _ _ hx .nil) (by simp [allCells, hb.1]) (by simpa using h1.symm) (by omega) h
  · exact h.elim

theorem op_index (hE : EnvOk P E) (hst : St E.glob base w0 c H w) (hσ : VRels c H w σ a.tmps.toList) (T : TypeId) (x ix : Operand) (ho : o.op = .index T x ix) (h : aop E σ H (.index T x ix) K) :
    After E.glob base w0 a.tmps.toList K P o a w := by
  have hx := ev_ok hst hσ x
  have hi := ev_ok hst hσ ix
  simp only [aop] at h
  generalize ev E σ x = vx at h hx
  generalize ev E σ ix = vi at h hi
  generalize hax : a.eval x = ax at hx
  generalize hai : a.eval ix = ai at hi
  split at h
  · rename_i s k j hT
    have hu : P.underlying T = some .string := (lk_ty hE hT).2
    cases hx; cases hi
    obtain ⟨⟨h0, h1⟩, hk⟩ := h
    have hlt : j.toNat < s.length := by omega
    refine after_pure hst hσ (VRel.u8 _) hk ?_
    have hget : (ByteArray.mk s.toArray)[j.toNat]? = some (s.getD j.toNat 0) := by
      have h2 : j.toNat < (ByteArray.mk s.toArray).size := hlt
      have h3 : (ByteArray.mk s.toArray)[j.toNat]? = some ((ByteArray.mk s.toArray)[j.toNat]'h2) := getElem?_pos (ByteArray.mk s.toArray) j.toNat h2
      rw [h3]
      simp [List.getD_eq_getElem?_getD, List.getElem?_eq_getElem hlt]; rfl
    simp [execOp, ho, hax, hai, Instr.index, asIntOf, run_underlying hu, h0, hget]
  · rename_i n te fr t' x' k j hT
    obtain ⟨hb, ⟨h0, h1⟩, hk⟩ := bif_ok h
    simp only [Bool.and_eq_true, decide_eq_true_eq, Bool.not_eq_true'] at hb
    obtain ⟨rfl, hs, hnb⟩ := hb
    have hs := beq_ok hs
    have hk := (forceV_eq _ _).1 hk
    obtain ⟨e, hu, hio, hpos, hua⟩ := (lk_ty hE hT).arr
    obtain ⟨i, z, hi2, hz, hzc, hsz, _⟩ := hio.open
    cases hx with | dat _ _ _ es hd =>
    cases hi
    have hl := DRel.length _ _ _ hd
    simp only [Ty.size, hs, Nat.mul_one] at hl
    have hlt : j.toNat < es.length := by omega
    have hrel := getCell_ok (H := H) _ _ _ _ _ hd (List.getElem?_eq_getElem hlt)
    refine after_pure hst hσ hrel hk ?_
    have hna : (isAgg e).run P w = .ok false w := by
      rw [hnb] at hua
      cases hue : P.underlying e with
      | none => rw [hue] at hua; cases hua
      | some u =>
        rw [hue] at hua
        cases u <;> first | (simp [isAgg, run_underlying hue]; done) | (simp [uAgg] at hua)
    have hget : es[j.toNat]? = some es[j.toNat] := List.getElem?_eq_getElem hlt
    simp [execOp, ho, hax, hai, Instr.index, asIntOf, run_underlying hu, h0, h1, sizeOf, typeInfo, hi2, hsz, hs, part, hna, hget]
  · exact h.elim

theorem op_extract (hst : St E.glob base w0 c H w) (hσ : VRels c H w σ a.tmps.toList) (x : Operand) (i : Nat) (ho : o.op = .extract x i) (h : aop E σ H (.extract x i) K) :
    After E.glob base w0 a.tmps.toList K P o a w := by
  have hx := ev_ok hst hσ x
  simp only [aop] at h
  generalize ev E σ x = vx at h hx
  generalize hax : a.eval x = ax at hx
  split at h
  · rename_i vs
    obtain ⟨hb, h⟩ := bif_ok h
    have hlt := blt_ok hb
    have h := (forceV_eq _ _).1 h
    cases hx with | tup _ us hrel =>
    have hl := hrel.length
    have hv : us[i]? = some (us[i]'(by omega)) := List.getElem?_eq_getElem (by omega)
    have hg : us.getD i undef = us[i]'(by omega) := by rw [List.getD_eq_getElem?_getD, hv]; rfl
    have hr := hrel.get i
    rw [hg] at hr
    generalize us[i]'(by omega) = u at hv hr
    refine after_pure hst hσ hr h ?_
    simp [execOp, ho, hax, Instr.extract, hv]
  · exact h.elim

theorem op_makeFunc (hst : St E.glob base w0 c H w) (hσ : VRels c H w σ a.tmps.toList) (f : Nat) (fst caps : Array Operand) (ho : o.op = .makeFunc (.func f) fst caps) (h : aop E σ H (.makeFunc (.func f) fst caps) K) :
    After E.glob base w0 a.tmps.toList K P o a w := by
  simp only [aop] at h
  split at h
  · rename_i hf
    have hf' : fst = #[] := by apply Array.ext'; exact hf
    subst hf'
    obtain ⟨vs, h1, h2⟩ := evs_ok hst hσ _ _ h
    have hrel := VRel.fn f vs _ h2
    refine after_pure hst hσ hrel h1 ?_
    have he : Array.map a.eval caps = (List.map a.eval caps.toList).toArray := Array.ext' (by simp)
    simp [execOp, ho, Instr.makeFunc, he]
  · exact h.elim

theorem op_call (hE : EnvOk P E) (hst : St E.glob base w0 c H w) (hσ : VRels c H w σ a.tmps.toList) (f : Operand) (args : Array Operand) (ts : Array TypeId) (ho : o.op = .call { callee := .value f, args, argTypes := ts }) (h : aop E σ H (.call { callee := .value f, args, argTypes := ts }) K) :
    After E.glob base w0 a.tmps.toList K P o a w := by
  have hf := ev_ok hst hσ f
  simp only [aop] at h
  generalize ev E σ f = vf at h hf
  generalize hax : a.eval f = af at hf
  split at h
  · rename_i k caps
    split at h
    · rename_i con hcon
      obtain ⟨vs, h1, h2⟩ := evs_ok hst hσ _ _ h
      cases hf with | fn _ _ cvs hcap =>
      obtain ⟨hent, hcalls⟩ := hE.con k con hcon
      have hrel := VRels.append h2 hcap
      have hc := hcalls base w0 c H w _ _ hst hrel _ h1
      refine .inr (.inr ⟨k, (args.toList.map a.eval ++ cvs).toArray, w, ?_, hc.mono fun e w' ⟨x, v, H', c', he, hR, hx, hst', hext⟩ => ?_⟩)
      · simp [execOp, ho, resolve, hax, Deferred.ofValue, invoke, hent]
      · have hR := (forceL_eq _ _).1 ((forceV_eq _ _).1 hR)
        exact ⟨v, he, x, σ, H', c', hR, hx, hσ.ext hext, hst'⟩
    · exact h.elim
  · exact h.elim

/-- Every operation does what its abstract form says. -/
theorem aop_ok (hG : GlobOk E.glob) (hE : EnvOk P E) (hst : St E.glob base w0 c H w) (hσ : VRels c H w σ a.tmps.toList) (h : aop E σ H o.op K) : After E.glob base w0 a.tmps.toList K P o a w := by
  generalize ho : o.op = op at h
  cases op with
  | move x => exact op_move hst hσ x (.inl ho) h
  | assign x => exact op_move hst hσ x (.inr ho) h
  | pick x y z => exact op_pick hst hσ x y z ho h
  | alloc T => exact op_alloc hE hst hσ T ho h
  | box T x => exact op_box hE hst hσ T x ho h
  | build T ps => exact op_build hE hst hσ T ps ho h
  | buildSlice T n ps => exact op_buildSlice hE hst hσ T n ps ho h
  | load T p => exact op_load hE hst hσ T p ho h
  | store T p x => exact op_store hE hst hσ T p x ho h
  | binOp op T x y T' => exact op_bin hE hst hσ op T x y T' ho h
  | unOp op T x => cases op <;> first | exact op_not hst hσ T x ho h | exact h.elim
  | convert S T x => exact op_conv hE hst hσ S T x ho h
  | makeFunc f fst caps => cases f <;> first | exact op_makeFunc hst hσ _ fst caps ho h | exact h.elim
  | makeSlice T l m => exact op_makeSlice hE hst hσ T l m ho h
  | slice T x lo hi mx => cases mx with
    | none => exact op_slice hE hst hσ T x lo hi ho h
    | some _ => exact h.elim
  | fieldAddr S x f => exact op_field hE hst hσ S x f ho h
  | indexAddr T x ix => exact op_indexAddr hE hst hσ T x ix ho h
  | index T x ix => exact op_index hE hst hσ T x ix ho h
  | extract x i => exact op_extract hst hσ x i ho h
  | call cl =>
    obtain ⟨cal, args, ts⟩ := cl
    cases cal with
    | value f => exact op_call hE hst hσ f args ts ho h
    | invoke r m => exact h.elim
    | builtin b =>
      cases b <;> try exact h.elim
      · simp only [aop] at h
        split at h
        · rename_i x y T T' hargs hts
          obtain ⟨hb, hh⟩ := bif_ok h
          clear h
          have hb := beq_ok hb
          subst hb
          have e1 : args = #[x, y] := by apply Array.ext'; exact hargs
          have e2 : ts = #[T, T] := by apply Array.ext'; exact hts
          subst e1 e2
          exact op_append hG hE hst hσ x y T ho hh
        · exact h.elim
      · simp only [aop] at h
        split at h
        · rename_i x T hargs hts
          have e1 : args = #[x] := by apply Array.ext'; exact hargs
          have e2 : ts = #[T] := by apply Array.ext'; exact hts
          subst e1 e2
          exact op_len hE hst hσ x T ho h
        · exact h.elim
      · simp only [aop] at h
        split at h
        · rename_i x y hargs
          have e1 : args = #[x, y] := by apply Array.ext'; exact hargs
          subst e1
          exact op_mm hst hσ true x y ts ho h
        · exact h.elim
      · simp only [aop] at h
        split at h
        · rename_i x y hargs
          have e1 : args = #[x, y] := by apply Array.ext'; exact hargs
          subst e1
          exact op_mm hst hσ false x y ts ho h
        · exact h.elim
  | _ => exact h.elim
end
end Go.Proofs.Ytgljcfnplkcfhaa.Vc

namespace Go.Proofs.Ytgljcfnplkcfhaa.Vc
open Go Go.RowKit

section
variable {E : Env} {P : Program} {G : List (Nat × V)} {base : Nat} {w0 : W0} {c : Cx} {H : List Blk} {w : World}

/-! ### what comes in, as data -/
def Mall (w : World) : Nat → Prop := fun g => g < w.heap.size
abbrev Cx.all (w : World) : Cx := Cx.of (Mall w) ⟨[], none, 0⟩

variable {U : Nat → Prop}

theorem im_of (hst : St G base w0 c H w) (hU : ∀ g, c.M g → U g) (fr : Bool) : ∀ g, c.im fr g → U g := fun g hg => by
  cases fr
  · exact hU g hg
  · exact hU g (hst.sub g hg).1

theorem asRow_data (hst : St G base w0 c H w) (hU : ∀ g, c.M g → U g) (hU2 : ∀ i g, c.ρ i = some g → U g) {t : Ty} {v : V} {x : Value} {K : Bool → List t.D → Prop} (h : asRow H t v K) (hx : VRel c H w v x) : ∃ f ys, K f ys ∧ DRel w (U) (.sl t) ys [x] := by
  obtain ⟨f, ys, a, cap, hk, rfl, h1, h2, h3⟩ := asRow_ok hst h hx
  refine ⟨f, ys, hk, a, cap, rfl, h1, h2, fun hne => ?_⟩
  obtain ⟨g, o, ha, hg, hr⟩ := h3 hne
  refine ⟨g, o, ha, hg.elim (hU g) fun ⟨i, hi⟩ => hU2 i g hi, fun i y hy => ?_⟩
  obtain ⟨es, e1, e2⟩ := hr i y hy
  exact ⟨es, DRel.ext (im_of hst hU f) (fun _ _ => rfl) _ _ _ e1, e2⟩

theorem asRows_data (hst : St G base w0 c H w) (hU : ∀ g, c.M g → U g) (hU2 : ∀ i g, c.ρ i = some g → U g) {t : Ty} {cur : Array Value} : ∀ (cs : List V) (k : Nat) (K : List (List t.D) → Prop), asRows H t cs K → (∀ j, j < cs.length → ∃ v, cur[k + j]? = some v ∧ VRel c H w (gets cs j) v) →
    ∃ xss, K xss ∧ xss.length = cs.length ∧ ∀ (j : Nat) (xs : List t.D), xss[j]? = some xs → ∃ v, cur[k + j]? = some v ∧ DRel w (U) (.sl t) xs [v]
  | [], k, K, h, _ => ⟨[], h, rfl, by simp⟩
  | v :: cs, k, K, h, hel => by
    obtain ⟨u, hu, hv⟩ := hel 0 (by simp)
    obtain ⟨f, ys, h, hd⟩ := asRow_data hst hU hU2 h hv
    obtain ⟨xss, h1, h2, h3⟩ := asRows_data hst hU hU2 cs (k + 1) _ h fun j hj => by
      obtain ⟨v', e1, e2⟩ := hel (j + 1) (by simpa using hj)
      exact ⟨v', by rw [← e1]; congr 1; omega, e2⟩
    refine ⟨ys :: xss, h1, by simp [h2], fun j xs hj => ?_⟩
    cases j with
    | zero =>
      obtain rfl : ys = xs := by simpa using hj
      exact ⟨u, hu, hd⟩
    | succ j =>
      obtain ⟨v', e1, e2⟩ := h3 j xs (by simpa using hj)
      exact ⟨v', by rw [← e1]; congr 1; omega, e2⟩

theorem asD_data (hst : St G base w0 c H w) (hU : ∀ g, c.M g → U g) (hU2 : ∀ i g, c.ρ i = some g → U g) {t : Ty} {v : V} {x : Value} {K : t.D → Prop} (h : asD H t v K) (hx : VRel c H w v x) : ∃ y, K y ∧ DRel w (U) t y [x] := by
  unfold asD at h
  split at h
  · split at h
    · cases hx; exact ⟨_, h, rfl⟩
    · exact h.elim
  · split at h
    · obtain ⟨rfl, h⟩ := h
      cases hx with | int _ _ h1 h2 => exact ⟨_, h, ⟨rfl, h1, h2⟩⟩
    · exact h.elim
  · split at h
    · cases hx with | str _ h1 => exact ⟨_, h, ⟨rfl, h1⟩⟩
    · exact h.elim
  · split at h
    · obtain ⟨b, hb, h⟩ := h
      cases hx with | b _ b' hb' =>
      have : b' = b := by rw [Bool.eq_iff_iff, hb', hb]
      subst this
      exact ⟨_, h, rfl⟩
    · exact h.elim
  · rename_i t K
    split at h
    · rename_i t0 id
      split at h
      · rename_i cs hb
        cases hx with | own _ _ n a cap hs hn hc ho =>
        simp only [shape, hb, Option.some.injEq, Prod.mk.injEq] at hs
        obtain ⟨rfl, hz⟩ := hs
        by_cases hc0 : cap = 0
        · subst hc0
          have : cs = [] := List.eq_nil_of_length_eq_zero (by omega)
          subst this
          exact ⟨[], h, a, 0, rfl, Nat.le_refl _, by simp, fun hh => absurd rfl hh⟩
        · obtain ⟨g, e, cur, hr, ha, hg, hsz⟩ := ho.resolve_left hc0
          obtain ⟨e', cur', hg', hsz', hel⟩ := cells_get hst hb hr
          rw [hg] at hg'; cases hg'
          obtain ⟨xss, h1, h2, h3⟩ := asRows_data hst hU hU2 (cur := cur) cs 0 _ h fun j hj => by
            obtain ⟨v, e1, _, e2⟩ := hel j hj
            exact ⟨v, by simpa using e1, e2⟩
          refine ⟨xss, h1, a, cap, by rw [h2], by rw [h2]; exact hn, hc, fun _ => ⟨g, 0, ha, (hU2 id g hr), fun i y hy => ?_⟩⟩
          obtain ⟨v, e1, e2⟩ := h3 i y hy
          refine ⟨[v], e2, fun j u hj => ?_⟩
          cases j with
          | zero =>
            simp at hj; subst hj
            rw [Go.cell_of_row w g _ cur e (0, 0) hg]
            simpa [Ty.size] using e1
          | succ j => simp at hj
      · rename_i fr t' xs hb
        obtain ⟨e, hk⟩ := castK_ok h
        subst e
        obtain ⟨f, ys, hk', hd⟩ := asRow_data hst hU hU2 (K := fun _ ys => K ys) (t := .sl t) (v := .own t0 id) (by
          simp only [asRow, hb]; exact castK_iff.2 ⟨rfl, hk⟩) hx
        exact ⟨ys, hk', hd⟩
      · exact h.elim
    · obtain ⟨f, ys, hk, hd⟩ := asRow_data hst hU hU2 h hx
      exact ⟨ys, hk, hd⟩
  · obtain ⟨f, ys, hk, hd⟩ := asRow_data hst hU hU2 h hx
    exact ⟨ys, hk, hd⟩
  · exact h.elim

theorem asCells_data (hst : St G base w0 c H w) (hU : ∀ g, c.M g → U g) (hU2 : ∀ i g, c.ρ i = some g → U g) : ∀ (t : Ty) (l : List V) (us : List Value) (K : t.D → List V → Prop), asCells H t l K → VRels c H w l us →
    ∃ x l' us1 us2, K x l' ∧ us = us1 ++ us2 ∧ DRel w (U) t x us1 ∧ VRels c H w l' us2
  | .nil, l, us, K, h, hr => ⟨(), l, [], us, h, rfl, rfl, hr⟩
  | .cons t ts, l, us, K, h, hr => by
    unfold asCells at h
    obtain ⟨x, l1, u1, u2, h, rfl, h1, h2⟩ := asCells_data hst hU hU2 t l us _ h hr
    obtain ⟨y, l2, u3, u4, h, rfl, h3, h4⟩ := asCells_data hst hU hU2 ts l1 u2 _ h h2
    exact ⟨(x, y), l2, u1 ++ u3, u4, h, by simp, ⟨u1, u3, rfl, h1, h3⟩, h4⟩
  | .arr _ _, l, us, K, h, hr => by simp [asCells] at h
  | .u8, l, us, K, h, hr => by
    cases hr with
    | nil => simp [asCells] at h
    | cons v u l us hv hr =>
      obtain ⟨y, h1, h2⟩ := asD_data hst hU hU2 (t := .u8) h hv
      exact ⟨y, l, [u], us, h1, rfl, h2, hr⟩
  | .int k, l, us, K, h, hr => by
    cases hr with
    | nil => simp [asCells] at h
    | cons v u l us hv hr =>
      obtain ⟨y, h1, h2⟩ := asD_data hst hU hU2 (t := .int k) h hv
      exact ⟨y, l, [u], us, h1, rfl, h2, hr⟩
  | .bool, l, us, K, h, hr => by
    cases hr with
    | nil => simp [asCells] at h
    | cons v u l us hv hr =>
      obtain ⟨y, h1, h2⟩ := asD_data hst hU hU2 (t := .bool) h hv
      exact ⟨y, l, [u], us, h1, rfl, h2, hr⟩
  | .str, l, us, K, h, hr => by
    cases hr with
    | nil => simp [asCells] at h
    | cons v u l us hv hr =>
      obtain ⟨y, h1, h2⟩ := asD_data hst hU hU2 (t := .str) h hv
      exact ⟨y, l, [u], us, h1, rfl, h2, hr⟩
  | .sl t, l, us, K, h, hr => by
    cases hr with
    | nil => simp [asCells] at h
    | cons v u l us hv hr =>
      obtain ⟨y, h1, h2⟩ := asD_data hst hU hU2 (t := .sl t) h hv
      exact ⟨y, l, [u], us, h1, rfl, h2, hr⟩

theorem dV_one {t : Ty} {y : t.D} {x : Value} (h1 : t.size = 1) (hna : isAggB t = false) (hd : DRel w (U) t y [x]) {xt : Xt} : VRel (Cx.of U xt) [] w (dV t y) x := by
  cases t <;> first | (simp [isAggB] at hna; done) | skip
  case u8 => have : [x] = [_] := hd; simp at this; subst this; exact .u8 _
  case int k => have : [x] = [_] := hd.1; simp at this; subst this; exact .int _ _ hd.2.1 hd.2.2
  case bool => have : [x] = [_] := hd; simp at this; subst this; exact .b _ _ Iff.rfl
  case str => have : [x] = [_] := hd.1; simp at this; subst this; exact .str _ hd.2
  case sl t => exact .sl false t y x hd

theorem asArg_ok (hst : St G base w0 c H w) (hU : ∀ g, c.M g → U g) (hU2 : ∀ i g, c.ρ i = some g → U g) {k : PK} {v : V} {x : Value} {K : V → Prop} (h : asArg H k v K) (hx : VRel c H w v x) : ∃ d, K d ∧ ∀ xt, VRel (Cx.of U xt) [] w d x := by
  unfold asArg at h
  split at h
  · rename_i t ts
    split at h
    · rename_i cs
      cases hx with | agg _ us hr =>
      obtain ⟨y, l, u1, u2, h, rfl, h1, h2⟩ := asCells_data hst hU hU2 _ _ _ _ h hr
      split at h
      · cases h2
        refine ⟨_, h, fun xt => ?_⟩
        have hl := DRel.length _ _ _ h1
        have := getCells_ok (c := Cx.of U xt) (H := []) (fr := false) h1 (Ty.cons t ts).size 0 (by omega)
        rw [List.drop_zero, List.take_of_length_le (by omega)] at this
        simpa [dV] using VRel.agg _ _ this
      · exact h.elim
    · exact h.elim
  · split at h
    · cases hx with | b p b hb => exact ⟨_, h, fun xt => .b _ _ hb⟩
    · exact h.elim
  · rename_i n t
    split at h
    · rename_i fr t' y
      split at h
      · rename_i e
        subst e
        cases hx with | dat _ _ _ es hd =>
        exact ⟨_, h, fun xt => .dat false _ _ es (DRel.ext (im_of hst hU fr) (fun _ _ => rfl) _ _ _ hd)⟩
      · exact h.elim
    · exact h.elim
  · rename_i t hnc hnb hna
    obtain ⟨y, h1, h2⟩ := asD_data hst hU hU2 h hx
    refine ⟨_, h1, fun xt => ?_⟩
    cases t with
    | u8 => exact dV_one rfl rfl h2
    | int k => exact dV_one rfl rfl h2
    | bool => exact (hnb rfl).elim
    | str => exact dV_one rfl rfl h2
    | sl t => exact dV_one rfl rfl h2
    | nil => simp [asD] at h
    | cons t ts => exact (hnc _ _ rfl).elim
    | arr n t => exact (hna _ _ rfl).elim
  · rename_i t
    split at h
    · rename_i fr t' y o
      split at h
      · rename_i e
        subst e
        split at h
        · cases hx with | rp _ _ _ _ g p es hM hd hc =>
          exact ⟨_, h, fun xt => .rp false _ _ 0 g p es (im_of hst hU fr g hM) (DRel.ext (im_of hst hU fr) (fun _ _ => rfl) _ _ _ hd) hc⟩
        · exact h.elim
      · exact h.elim
    · rename_i id z i o
      split at h
      · rename_i cs hb
        cases hx with | ptr _ _ _ _ g m hs hr hi ho =>
        obtain ⟨e, cur, hg, hsz, hel⟩ := cells_get hst hb hr
        obtain ⟨es, l1, l2, l3⟩ := cells_list hel cs.length 0 (by omega)
        rw [List.drop_zero, List.take_length] at l2
        obtain ⟨y, l, u1, u2, h, rfl, h1, h2⟩ := asCells_data hst hU hU2 t cs es _ h l2
        split at h
        · cases h2
          refine ⟨_, h, fun xt => ?_⟩
          have := VRel.rp (c := Cx.of U xt) (H := []) (w := w) false t y 0 g 0 u1 (hU2 id g hr) h1 (fun j v hj => by
            rw [Go.cell_of_row w g _ cur e (0, 0) hg]
            have := l3 j v (by simpa using hj)
            simpa using this)
          simpa using this
        · exact h.elim
      · exact h.elim
    · exact h.elim

theorem asArgs_ok (hst : St G base w0 c H w) (hU : ∀ g, c.M g → U g) (hU2 : ∀ i g, c.ρ i = some g → U g) : ∀ (ks : List PK) (vs : List V) (us : List Value) (K : List V → Prop), asArgs H ks vs K → VRels c H w vs us → ∃ ds, K ds ∧ ∀ xt, VRels (Cx.of U xt) [] w ds us
  | [], vs, us, K, h, hr => by
    cases hr with
    | nil => exact ⟨[], h, fun _ => .nil⟩
    | cons => simp [asArgs] at h
  | k :: ks, vs, us, K, h, hr => by
    cases hr with
    | nil => simp [asArgs] at h
    | cons v u vs us hv hr =>
      obtain ⟨d, h, h1⟩ := asArg_ok hst hU hU2 h hv
      obtain ⟨ds, h, h2⟩ := asArgs_ok hst hU hU2 ks vs us _ h hr
      exact ⟨_, h, fun xt => .cons _ _ _ _ (h1 xt) (h2 xt)⟩

end

mutual
theorem VRel.y {c c' : Cx} {H H' : List Blk} {w w' : World} {q : Option Nat} (hM : ∀ g, c.M g → c'.M g) (hN : ∀ g, c.N g → c'.M g) (hw : ∀ g, c.M g ∨ c.N g → w'.heap[g]? = w.heap[g]?) (hq : q = c'.x.k) (hl : c'.x.l = c.x.l) :
    ∀ {x : V} {v : Value}, VRel c H w x v → VRel c' H' w' (yV q x) v
  | _, _, .undef v => .undef v
  | _, _, .int k n h1 h2 => .int k n h1 h2
  | _, _, .u8 x => .u8 x
  | _, _, .b p x h => .b p x h
  | _, _, .bt x => .bt x
  | _, _, .nope => .nope
  | _, _, .str s h => .str s h
  | _, _, .nils => .nils
  | _, _, .sl fr t xs v h => .sl false t xs v (DRel.ext (M := c.im fr) (by cases fr; exact hM; exact hN) (by cases fr; exact fun g h => hw g (.inl h); exact fun g h => hw g (.inr h)) _ _ _ h)
  | _, _, .own .. => .undef _
  | _, _, .slc .. => .undef _
  | _, _, .ptr .. => .undef _
  | _, _, .rp fr t x o g p es h1 hd hc =>
    have hm : ∀ g, c.im fr g → c'.M g := by cases fr; exact hM; exact hN
    have hk : ∀ g, c.im fr g → w'.heap[g]? = w.heap[g]? := by cases fr; exact fun g h => hw g (.inl h); exact fun g h => hw g (.inr h)
    .rp false t x o g p es (hm g h1) (DRel.ext hm hk _ _ _ hd) fun j v hj => (World.cell?_of_block (w := w) (hk g h1)).trans (hc j v hj)
  | _, _, .agg cs vs h => .agg _ vs (VRels.y hM hN hw hq hl h)
  | _, _, .tup cs vs h => .tup _ vs (VRels.y hM hN hw hq hl h)
  | _, _, .fn f cs vs h => .fn f _ vs (VRels.y hM hN hw hq hl h)
  | _, _, .nilfn => .nilfn
  | _, _, .yld k h => by
    have := VRel.yld (c := c') (H := H') (w := w') q hq
    rwa [hl] at this
  | _, _, .dat fr t x es h => .dat false t x es (DRel.ext (M := c.im fr) (by cases fr; exact hM; exact hN) (by cases fr; exact fun g h => hw g (.inl h); exact fun g h => hw g (.inr h)) _ _ _ h)
theorem VRels.y {c c' : Cx} {H H' : List Blk} {w w' : World} {q : Option Nat} (hM : ∀ g, c.M g → c'.M g) (hN : ∀ g, c.N g → c'.M g) (hw : ∀ g, c.M g ∨ c.N g → w'.heap[g]? = w.heap[g]?) (hq : q = c'.x.k) (hl : c'.x.l = c.x.l) :
    ∀ {xs : List V} {vs : List Value}, VRels c H w xs vs → VRels c' H' w' (yL q xs) vs
  | _, _, .nil => .nil
  | _, _, .cons x v xs vs h hs => .cons _ v _ vs (VRel.y hM hN hw hq hl h) (VRels.y hM hN hw hq hl hs)
end

section
variable {G : List (Nat × V)} {base : Nat} {w0 : W0} {c : Cx} {H : List Blk} {w : World}

/-- What a package-level variable is holds no reference at all. -/
def noRef (G : List (Nat × V)) : Prop := ∀ g x, lk G g = some x → ∃ t y o, x = .rp false t y o

theorem glob_of (hN : noRef G) (hst : St G base w0 c H w) {U : Nat → Prop} (hU : ∀ g, c.M g → U g) : ∀ g x, lk G g = some x → ∀ xt, VRel (Cx.of U xt) [] w x (.pointer (some ⟨g, 0, none⟩)) := fun g x hx xt => by
  obtain ⟨t, y, o, rfl⟩ := hN g x hx
  have := hst.glob g _ hx
  generalize hq : Value.pointer (some ⟨g, 0, none⟩) = q at this ⊢
  cases this with | rp _ _ _ _ g' p es hM hd hc => exact .rp false t y o g' p es (hU _ hM) (DRel.ext hU (fun _ _ => rfl) _ _ _ hd) hc

theorem ext_of {U : Nat → Prop} {xt : Xt} {w w' : World} (h : ∀ g, U g → w'.heap[g]? = w.heap[g]?) : Ext (Cx.of U xt) [] w (Cx.of U xt) [] w' where
  M g hg := hg
  N g hg := hg
  mem g hg := hg.elim (h g) fun h => h.elim
  shp id s hs := by cases id <;> cases hs
  siz id s g cur e hs := by cases id <;> cases hs
  x := rfl
  gi := rfl

/-- All that is the call's own is given up; what is read lies as it lay. -/
theorem St.calm (hN : noRef G) (hst : St G base w0 c H w) {base' : Nat} {v' : W0} {w' : World} {xt : Xt} {U : Nat → Prop} (hU : ∀ g, c.M g → U g) (hw : ∀ g, c.M g → w'.heap[g]? = w.heap[g]?)
    (hbel : Below base' v'.w w') (hxk : Xk base' v' (Cx.of U xt) w') (hsz : base' ≤ w'.heap.size) (him : ∀ g, U g → g < w'.heap.size) : St G base' v' (Cx.of U xt) [] w' where
  below := hbel
  xk := hxk
  size := hsz
  blk id := by cases id <;> trivial
  inj i j g hi := by cases hi
  own i g hi := by cases hi
  imm := him
  sub g hg := hg.elim
  glob g x hx := by
    obtain ⟨t, y, o, rfl⟩ := hN g x hx
    have := hst.glob g _ hx
    generalize hq : Value.pointer (some ⟨g, 0, none⟩) = q at this ⊢
    cases this with | rp _ _ _ _ g' p es hM hd hc => exact .rp false t y o g' p es (hU _ hM) (DRel.ext hU hw _ _ _ hd) fun j v hj => (World.cell?_of_block (w := w) (hw g' hM)).trans (hc j v hj)
end
end Go.Proofs.Ytgljcfnplkcfhaa.Vc

namespace Go.Proofs.Ytgljcfnplkcfhaa.Vc
open Go Go.RowKit

section
variable {G : List (Nat × V)} {base : Nat} {w0 : W0} {c : Cx} {H : List Blk} {w : World}

/-! ### memory of the call's own becomes data -/
def Cx.frz (c : Cx) (id : Nat) : Cx := ⟨fun g => c.M g ∨ c.ρ id = some g, fun g => c.N g ∨ c.ρ id = some g, fun i => if i = id then none else c.ρ i, c.x, c.gi⟩

theorem im_frz {fr : Bool} {id g : Nat} (h : c.im fr g) : (c.frz id).im fr g := by cases fr <;> exact .inl h

theorem getB_frzH (id : Nat) (y : V) : ∀ (H : List Blk) (j : Nat), getB (frzH id y H) j = frzB id y (getB H j)
  | [], j => by cases j <;> rfl
  | b :: H, 0 => rfl
  | b :: H, j + 1 => getB_frzH id y H j
theorem length_frzH (id : Nat) (y : V) : ∀ H : List Blk, (frzH id y H).length = H.length
  | [] => rfl
  | b :: H => by simp [frzH, length_frzH id y H]
theorem length_frzL (id : Nat) (y : V) : ∀ l : List V, (frzL id y l).length = l.length
  | [] => rfl
  | b :: l => by simp [frzL, length_frzL id y l]
theorem gets_frzL (id : Nat) (y : V) : ∀ (l : List V) (j : Nat), gets (frzL id y l) j = frzV id y (gets l j)
  | [], j => by cases j <;> rfl
  | b :: l, 0 => rfl
  | b :: l, j + 1 => gets_frzL id y l j
theorem shape_frz {id j : Nat} {y : V} (h : j ≠ id) : shape (setB (frzH id y H) id .dead) j = shape H j := by
  rw [shape_setB_ne h]
  unfold shape
  rw [getB_frzH]
  cases getB H j <;> simp [frzB, length_frzL]

theorem DRel.frz {fr : Bool} {id : Nat} {t : Ty} {x : t.D} {cs : List Value} (h : DRel w (c.im fr) t x cs) : DRel w ((c.frz id).im fr) t x cs := DRel.ext (fun _ => im_frz) (fun _ _ => rfl) _ _ _ h

theorem OwnAt.frz {i id z off : Nat} {a : Option Addr} {cap : Nat} (hi : i ≠ id) (h : OwnAt c w i z off a cap) : OwnAt (c.frz id) w i z off a cap := by
  obtain ⟨g, e, cur, h1, h2⟩ := h
  exact ⟨g, e, cur, by simp [Cx.frz, hi, h1], h2⟩

section
variable {H' : List Blk} {id : Nat} {y : V}
mutual
theorem VRel.frz (hs : ∀ j, j ≠ id → shape H' j = shape H j) (hy : ∀ t v, VRel c H w (.own t id) v → VRel (c.frz id) H' w y v) : ∀ {x : V} {v : Value}, VRel c H w x v → VRel (c.frz id) H' w (frzV id y x) v
  | _, _, .undef v => .undef v
  | _, _, .int k n h1 h2 => .int k n h1 h2
  | _, _, .u8 x => .u8 x
  | _, _, .b p x h => .b p x h
  | _, _, .bt x => .bt x
  | _, _, .nope => .nope
  | _, _, .str s h => .str s h
  | _, _, .nils => .nils
  | _, _, .sl fr t xs v h => .sl fr t xs v h.frz
  | _, _, .own t i n a cap h1 hn hc ho => by
    unfold frzV
    cases hb : Nat.beq i id with
    | true =>
      have := beq_ok hb; subst this
      exact hy t _ (.own t i n a cap h1 hn hc ho)
    | false =>
      have hne := ne_of_beq hb
      exact .own t i n a cap ((hs i hne).trans h1) hn hc (ho.imp (fun h => h) (OwnAt.frz hne))
  | _, _, .slc t i off n m a cap h1 h2 hn hc ho => by
    unfold frzV
    cases hb : Nat.beq i id with
    | true => exact .undef _
    | false =>
      have hne := ne_of_beq hb
      exact .slc t i off n m a cap ((hs i hne).trans h1) h2 hn hc (ho.imp (fun h => h) (OwnAt.frz hne))
  | _, _, .rp fr t x o g p es hM hd hc => .rp fr t x o g p es (im_frz hM) hd.frz hc
  | _, _, .ptr i z j o g m h1 hr hi ho => by
    unfold frzV
    cases hb : Nat.beq i id with
    | true => exact .undef _
    | false =>
      have hne := ne_of_beq hb
      exact .ptr i z j o g m ((hs i hne).trans h1) (by simp [Cx.frz, hne, hr]) hi ho
  | _, _, .agg cs vs h => .agg _ vs (VRels.frz hs hy h)
  | _, _, .tup cs vs h => .tup _ vs (VRels.frz hs hy h)
  | _, _, .fn f cs vs h => .fn f _ vs (VRels.frz hs hy h)
  | _, _, .nilfn => .nilfn
  | _, _, .yld k h => .yld (c := c.frz id) k h
  | _, _, .dat fr t x es h => .dat fr t x es h.frz
theorem VRels.frz (hs : ∀ j, j ≠ id → shape H' j = shape H j) (hy : ∀ t v, VRel c H w (.own t id) v → VRel (c.frz id) H' w y v) : ∀ {xs : List V} {vs : List Value}, VRels c H w xs vs → VRels (c.frz id) H' w (frzL id y xs) vs
  | _, _, .nil => .nil
  | _, _, .cons x v xs vs h hx => .cons _ v _ vs (VRel.frz hs hy h) (VRels.frz hs hy hx)
end
end

theorem frz_row (h : St G base w0 c H w) {id : Nat} {fr : Bool} {t : Ty} {xs : List t.D} (hb : getB H id = .row fr t xs) (t' : Ty) (v : Value) (hv : VRel c H w (.own t' id) v) {H' : List Blk} : VRel (c.frz id) H' w (.sl fr t xs) v := by
  cases hv with | own _ _ n a cap hs hn hc ho =>
  simp only [shape, hb, Option.some.injEq, Prod.mk.injEq] at hs
  obtain ⟨rfl, hz⟩ := hs
  refine .sl _ _ _ _ ⟨a, cap, rfl, hn, hc, fun hne => ?_⟩
  have hcap : cap ≠ 0 := by
    intro h0; subst h0
    exact hne (List.eq_nil_of_length_eq_zero (by omega))
  obtain ⟨g, e, cur, hr, ha, hg, hsz⟩ := ho.resolve_left hcap
  have hbk := h.blk id
  rw [hb] at hbk
  rcases hbk with ⟨_, h2⟩ | ⟨g', e', cur', hr', hg', hsz', hel⟩
  · exact absurd h2 hne
  · rw [hr] at hr'; cases hr'
    rw [hg] at hg'; cases hg'
    refine ⟨g, 0, ha, by cases fr <;> exact .inr hr, fun i y hy => ?_⟩
    obtain ⟨es, h5, h6⟩ := hel i y hy
    refine ⟨es, h5.frz, fun j u hj => ?_⟩
    rw [Go.cell_of_row w g _ cur e (0, 0) hg]
    have := h6 j u hj
    simpa using this

mutual
theorem frzV_id (id : Nat) (y : V) : ∀ x : V, x.mentions id = false → frzV id y x = x
  | .undef, _ => rfl
  | .int _ _, _ => rfl
  | .u8 _, _ => rfl
  | .b _, _ => rfl
  | .bt _, _ => rfl
  | .nope, _ => rfl
  | .str _, _ => rfl
  | .nils, _ => rfl
  | .sl _ _ _, _ => rfl
  | .own t i, h => by
    have h : Nat.beq i id = false := h
    simp [frzV, h]
  | .slc t i o l, h => by
    have h : Nat.beq i id = false := h
    simp [frzV, h]
  | .rp _ _ _ _, _ => rfl
  | .ptr i z j o, h => by
    have h : Nat.beq i id = false := h
    simp [frzV, h]
  | .agg cs, h => by simp only [frzV]; rw [frzL_id id y cs h]
  | .tup cs, h => by simp only [frzV]; rw [frzL_id id y cs h]
  | .fn f cs, h => by simp only [frzV]; rw [frzL_id id y cs h]
  | .nilfn, _ => rfl
  | .yld _, _ => rfl
  | .dat _ _ _, _ => rfl
theorem frzL_id (id : Nat) (y : V) : ∀ l : List V, V.mentionsL id l = false → frzL id y l = l
  | [], _ => rfl
  | x :: l, h => by
    simp only [V.mentionsL, Bool.or_eq_false_iff] at h
    rw [frzL, frzV_id id y x h.1, frzL_id id y l h.2]
end

theorem St.frz (hG : GlobOk G) (h : St G base w0 c H w) {id : Nat} {fr : Bool} {t : Ty} {xs : List t.D} (hb : getB H id = .row fr t xs) : St G base w0 (c.frz id) (setB (frzH id (.sl fr t xs) H) id .dead) w where
  below := h.below
  xk := h.xk.step rfl (fun h => h) (fun g hg => hg.imp (fun h => h) fun hr => .inl ⟨id, hr⟩) (fun i g hi => by
    simp only [Cx.frz] at hi
    split at hi
    · cases hi
    · exact .inl ⟨i, hi⟩) (fun g o ho => .inl ho)
  size := h.size
  blk j := by
    by_cases hj : j = id
    · subst hj
      have hl : j < (frzH j (.sl fr t xs) H).length := by
        rw [length_frzH]
        rcases Nat.lt_or_ge j H.length with g | g
        · exact g
        · rw [getB_ge H j g] at hb; cases hb
      rw [getB_setB, if_pos ⟨rfl, hl⟩]; trivial
    · rw [getB_setB, if_neg (by simp [hj]), getB_frzH]
      have hbk := h.blk j
      generalize getB H j = b at hbk
      cases b with
      | dead => trivial
      | row fr' t' xs' =>
        rcases hbk with ⟨h1, h2⟩ | ⟨g, e, cur, h1, h2, h3, h4⟩
        · exact .inl ⟨by simp [Cx.frz, hj, h1], h2⟩
        · refine .inr ⟨g, e, cur, by simp [Cx.frz, hj, h1], h2, h3, fun i x hi => ?_⟩
          obtain ⟨es, e1, e2⟩ := h4 i x hi
          exact ⟨es, e1.frz, e2⟩
      | cells cs =>
        rcases hbk with ⟨g, e, cur, h1, h2, h3, h4⟩ | ⟨h0, h1, h2⟩
        · refine .inl ⟨g, e, cur, by simp [Cx.frz, hj, h1], h2, by rw [length_frzL]; exact h3, fun k hk => ?_⟩
          rw [length_frzL] at hk
          obtain ⟨v, h5, h6, h7⟩ := h4 k hk
          rw [gets_frzL]
          exact ⟨v, h5, h6, h7.frz (fun j hj => shape_frz hj) fun t' v hv => frz_row h hb t' v hv⟩
        · exact .inr ⟨h0, by simp [Cx.frz, hj, h1], h2.frz (fun j hj => shape_frz hj) fun t' v hv => frz_row h hb t' v hv⟩
  inj i j g hi hj := by
    simp only [Cx.frz] at hi hj
    split at hi <;> split at hj
    · omega
    · cases hi
    · cases hj
    · exact h.inj i j g hi hj
  own i g hi := by
    simp only [Cx.frz] at hi
    split at hi
    · cases hi
    · rename_i hne
      obtain ⟨h1, h2, h3, h4⟩ := h.own i g hi
      refine ⟨h1, h2, fun hm => ?_, by rw [length_setB, length_frzH]; exact h4⟩
      rcases hm with hm | hm
      · exact h3 hm
      · exact hne (h.inj i id g hi hm)
  imm g hg := by
    rcases hg with hg | hg
    · exact h.imm g hg
    · exact (h.own id g hg).2.1
  sub g hg := by
    rcases hg with hg | hg
    · exact ⟨.inl (h.sub g hg).1, (h.sub g hg).2⟩
    · exact ⟨.inr hg, (h.own id g hg).1⟩
  glob g x hx := by
    have hm := hG g x id hx
    have := (h.glob g x hx).frz (id := id) (y := .sl fr t xs) (H' := setB (frzH id (.sl fr t xs) H) id .dead) (fun j hj => shape_frz hj) fun t' v hv => frz_row h hb t' v hv
    rwa [frzV_id id _ x hm] at this
end
end Go.Proofs.Ytgljcfnplkcfhaa.Vc

namespace Go.Proofs.Ytgljcfnplkcfhaa.Vc
open Go Go.RowKit

section
/-- By what a frame's state may be measured. -/
abbrev Ses := Nat → W0 → Prop

/-- Of a function, or of a round. -/
def Fen (ro : Option Nat) : Fence := { Fence.wide with round := ro }

theorem callsIn_fen {ro : Option Nat} {P : Program} {f : FuncId} {args : Array Value} {w : World} {R : Ending → World → Prop} (h : Calls P f args w R) : CallsIn (Fen ro) 0 P f args w R := by
  cases ro with
  | none => exact callsIn_wide.2 h
  | some l => exact CallsIn.inRound l (callsIn_wide.2 h)

/-- The marks that loops over functions have left. -/
def Marks (w0 : W0) (ds : List Deferred) : Prop :=
  ∃ gs : List Nat, gs.Nodup ∧ ds = gs.map (fun g => { target := .collected g, args := #[] }) ∧ ∀ g ∈ gs, w0.mks g

theorem Marks.nil {w0 : W0} : Marks w0 [] := ⟨[], List.nodup_nil, rfl, by simp⟩

variable {E : Env} {P : Program} {S : Ses} {ro : Option Nat}

/-- The state of a frame. -/
def Sta (E : Env) (S : Ses) (σ : List V) (H : List Blk) (a : Act) (w : World) : Prop :=
  ∃ c b v, S b v ∧ St E.glob b v c H w ∧ VRels c H w σ a.tmps.toList ∧ Marks v a.defers

theorem put_some (a : Act) (d : Nat) (v : Value) : (a.put (some d) v).tmps.toList = a.tmps.toList.set d v := by simp [Act.put]
theorem put_defers (a : Act) (d : Option Nat) (v : Value) : (a.put d v).defers = a.defers := by cases d <;> rfl

theorem setDst_ok {c : Cx} {H : List Blk} {w : World} {σ : List V} {a : Act} {d : Option Nat} {x : V} {v : Value} {K : List V → Prop} (h : setDst σ d x K) (hσ : VRels c H w σ a.tmps.toList) (hx : VRel c H w x v) :
    ∃ σ', K σ' ∧ VRels c H w σ' (a.put d v).tmps.toList := by
  cases d with
  | none => exact ⟨σ, h, hσ⟩
  | some d =>
    have h := (forceL_eq _ _).1 ((normV_eq x fun x => forceL (sets σ d x) K).1 h)
    exact ⟨_, h, by rw [put_some]; exact hσ.set hx d⟩

/-- One operation, its guard looked at. -/
def aopAt (E : Env) (all : List Oper) (o : Oper) (σ : List V) (H : List Blk) (K : List V → List Blk → Prop) : Prop :=
  aguard all σ o.guard (aop E σ H o.op fun v σ H => setDst σ o.dst v fun σ => K σ H) (setDst σ o.dst .nope fun σ => K σ H)

theorem After.wpIn {G : List (Nat × V)} {base : Nat} {w0 : W0} {tm : List Value} {K : V → List V → List Blk → Prop} {o : Oper} {a : Act} {w : World}
    {next : Act → World → Prop} {Q : Exit → Act → World → Prop} (h : After G base w0 tm K P o a w) (hnd : ∀ c, o.op ≠ .defer c) (hn : ∀ v w', Step G base w0 tm K v w' → next (a.put o.dst v) w') : o.wpIn (Fen ro) 0 P a w next Q := by
  refine ⟨fun _ _ => trivial, ?_⟩
  rw [Oper.semAt_eq _ _ _ hnd]
  rcases h with ⟨v, w', hr, hs⟩ | ⟨w', hr, hs⟩ | ⟨f, args, w', hr, hc⟩
  · rw [hr]; exact hn v w' hs
  · rw [hr]; exact hn _ w' hs
  · rw [hr]
    refine ⟨(fun h => by cases h), callsIn_fen (hc.mono fun e w'' ⟨v, he, hs⟩ => ?_)⟩
    subst he
    exact hn v w'' hs

theorem aop_yes (hG : GlobOk E.glob) (hE : EnvOk P E) {o : Oper} {σ : List V} {H : List Blk} {K : List V → List Blk → Prop} {a : Act} {w : World} {next : Act → World → Prop} {Q : Exit → Act → World → Prop}
    (hs : Sta E S σ H a w) (hn : ∀ σ' H' a' w', K σ' H' → Sta E S σ' H' a' w' → next a' w') (h : aop E σ H o.op (fun v σ H => setDst σ o.dst v fun σ => K σ H)) : o.wpIn (Fen ro) 0 P a w next Q := by
  obtain ⟨c, b, v, hS, hst, hσ, hd⟩ := hs
  refine (aop_ok hG hE hst hσ h).wpIn (fun d e => by rw [e] at h; exact h.elim) fun v w' ⟨x, σ', H', c', hk, hx, hσ', hst'⟩ => ?_
  obtain ⟨σ'', hk, hσ''⟩ := setDst_ok hk hσ' hx
  exact hn _ _ _ _ hk ⟨c', b, _, hS, hst', hσ'', by rw [put_defers]; exact hd⟩

/-- The guard of an operation, looked at: it is run, or left out. -/
theorem guard_ok {all : Array Oper} {o : Oper} {σ : List V} {H : List Blk} {yes no : Prop} {a : Act} {w : World} {Y N : Prop}
    (hs : Sta E S σ H a w) (h : aguard all.toList σ o.guard yes no) (hY : yes → Y) (hN : no → N) : if Region.wanted o (yielded all a.tmps) then Y else N := by
  obtain ⟨c, b, v, hS, hst, hσ, hd⟩ := hs
  unfold aguard at h
  split at h
  · rename_i hg
    rw [if_pos (by simp [Region.wanted, hg])]
    exact (hY h)
  · rename_i j b hg
    split at h
    · rename_i t ht
      have hrel := hσ.get t
      have hlen := hσ.length
      have hte : (all[j]?).bind (·.dst) = some t := by simpa using ht
      have hget : t < σ.length → a.tmps[t]? = some (a.tmps.toList.getD t undef) := fun g => by
        rw [hlen] at g
        have hlt : t < a.tmps.size := by simpa using g
        simp [List.getD_eq_getElem?_getD, hlt]
      have hlt : gets σ t ≠ .undef → t < σ.length := fun hne => by
        rcases Nat.lt_or_ge t σ.length with g | g
        · exact g
        · exact absurd (by rw [gets_eq]; simp [List.getD_eq_getElem?_getD, List.getElem?_eq_none g]) hne
      have hw : ∀ x, a.tmps.toList.getD t undef = .bool x → gets σ t ≠ .undef → Region.wanted o (yielded all a.tmps) = (x == b) := fun x hx hne => by
        have hg2 := hget (hlt hne)
        rw [hx] at hg2
        have hy : yielded all a.tmps j = some x := by simp [yielded, hte, hg2]
        simp only [Region.wanted, hg, hy]; cases x <;> cases b <;> rfl
      split at h
      · rename_i p hp
        rw [hp] at hrel hw
        generalize a.tmps.toList.getD t undef = u at hrel hw
        cases hrel with | b _ x hx =>
        rw [hw x rfl (by simp)]
        cases b with
        | true =>
          cases x with
          | true => exact (hY (h.1 (hx.1 rfl)))
          | false => exact hN (h.2 fun hp => by simpa using hx.2 hp)
        | false =>
          cases x with
          | true => exact hN (h.2 (hx.1 rfl))
          | false => exact (hY (h.1 fun hp => by simpa using hx.2 hp))
      · rename_i hp
        rw [hp] at hrel
        have hlt' := hlt (by rw [hp]; simp)
        have hg2 := hget hlt'
        generalize a.tmps.toList.getD t undef = u at hrel hg2
        cases hrel
        have hy : yielded all a.tmps j = none := by simp [yielded, hte, hg2, undef]
        have hw2 : Region.wanted o (yielded all a.tmps) = false := by simp only [Region.wanted, hg, hy]; cases b <;> rfl
        rw [hw2]
        exact hN h
      · rename_i hp
        rw [hp] at hrel hw
        generalize a.tmps.toList.getD t undef = u at hrel hw
        cases hrel
        rw [hw true rfl (by simp)]
        cases b with
        | true => exact (hY h)
        | false => exact hN h
      · rename_i hp
        rw [hp] at hrel hw
        generalize a.tmps.toList.getD t undef = u at hrel hw
        cases hrel
        rw [hw false rfl (by simp)]
        cases b with
        | true => exact hN h
        | false => exact (hY h)
      · exact h.elim
    · exact h.elim

theorem aopAt_ok (hG : GlobOk E.glob) (hE : EnvOk P E) {all : Array Oper} {o : Oper} {σ : List V} {H : List Blk} {K : List V → List Blk → Prop} {a : Act} {w : World} {next : Act → World → Prop} {Q : Exit → Act → World → Prop}
    (hs : Sta E S σ H a w) (h : aopAt E all.toList o σ H K) (hn : ∀ σ' H' a' w', K σ' H' → Sta E S σ' H' a' w' → next a' w') :
    if Region.wanted o (yielded all a.tmps) then o.wpIn (Fen ro) 0 P a w next Q else (∀ f, o.about P w a.eval = some f → (Fen ro).fn f) ∧ next (a.put o.dst undef) w :=
  guard_ok hs h (aop_yes hG hE hs hn) fun h => ⟨fun _ _ => trivial, by
    obtain ⟨c, b, v, hS, hst, hσ, hd⟩ := hs
    obtain ⟨σ'', hk, hσ''⟩ := setDst_ok h hσ .nope
    exact hn _ _ _ _ hk ⟨c, b, v, hS, hst, hσ'', by rw [put_defers]; exact hd⟩⟩

/-- What is settled in a state. -/
theorem Sta.settle {σ : List V} {H : List Blk} {a : Act} {w : World} (h : Sta E S σ H a w) {t : Nat} {x : Bool} (hx : a.tmps.toList.getD t undef = .bool x) : Sta E S (sets σ t (.bt x)) H a w := by
  obtain ⟨c, b, v, hS, hst, hσ, hd⟩ := h
  refine ⟨c, b, v, hS, hst, ?_, hd⟩
  have := hσ.set (VRel.bt (c := c) (H := H) (w := w) x) t
  have e : a.tmps.toList.set t (.bool x) = a.tmps.toList := by
    rw [← hx]
    by_cases ht : t < a.tmps.toList.length
    · apply List.ext_getElem (by simp)
      intro i h1 h2
      rw [List.getElem_set]
      split
      · rename_i e; subst e; simp only [List.getD_eq_getElem?_getD, List.getElem?_eq_getElem ht, Option.getD_some]
      · rfl
    · exact List.set_eq_of_length_le (by omega)
  rwa [e] at this

/-- One operation, or a call of yield, its guard looked at, and settled. -/
def aopAtR (E : Env) (all : List Oper) (o : Oper) (σ : List V) (H : List Blk) (K : List V → List Blk → Prop) : Prop :=
  aguardR all σ o.guard (fun σ => aopY E σ H o K) (fun σ => setDst σ o.dst .nope fun σ => K σ H)

/-- To look at a guard and to settle it: as with a state in which it is settled. -/
theorem aguardR_ok {all : List Oper} {σ : List V} {g : Option (Nat × Bool)} {yes no : List V → Prop} {H : List Blk} {a : Act} {w : World} (hs : Sta E S σ H a w) (h : aguardR all σ g yes no) :
    ∃ σ', Sta E S σ' H a w ∧ aguard all σ' g (yes σ') (no σ') := by
  unfold aguardR at h
  unfold aguard
  cases g with
  | none => exact ⟨σ, hs, h⟩
  | some g =>
    obtain ⟨j, b⟩ := g
    dsimp only at h ⊢
    cases ht : (all[j]?).bind (·.dst) with
    | none => rw [ht] at h; exact h.elim
    | some t =>
      rw [ht] at h
      dsimp only at h ⊢
      have hlt : gets σ t ≠ .undef → t < σ.length := fun hne => by
        rcases Nat.lt_or_ge t σ.length with g | g
        · exact g
        · exact absurd (by rw [gets_eq]; simp [List.getD_eq_getElem?_getD, List.getElem?_eq_none g]) hne
      have hset : ∀ x : V, gets σ t ≠ .undef → gets (sets σ t x) t = x := fun x hne => by
        rw [gets_eq, sets_eq]
        simp [List.getD_eq_getElem?_getD, hlt hne]
      obtain ⟨c, b0, v0, hS, hst, hσ, hd⟩ := id hs
      have hrel := hσ.get t
      cases hg : gets σ t <;> rw [hg] at h hrel <;> try exact h.elim
      · exact ⟨σ, hs, by rw [hg]; exact h⟩
      · rename_i p
        have hne : gets σ t ≠ .undef := by rw [hg]; simp
        generalize hu : a.tmps.toList.getD t undef = u at hrel
        cases hrel with | b _ x hx =>
        refine ⟨_, hs.settle hu, ?_⟩
        rw [hset _ hne]
        cases b with
        | true =>
          cases x with
          | true => exact (forceL_eq _ _).1 (h.1 (hx.1 rfl))
          | false => exact (forceL_eq _ _).1 (h.2 fun hp => by simpa using hx.2 hp)
        | false =>
          cases x with
          | true => exact (forceL_eq _ _).1 (h.2 (hx.1 rfl))
          | false => exact (forceL_eq _ _).1 (h.1 fun hp => by simpa using hx.2 hp)
      · rename_i x
        refine ⟨σ, hs, ?_⟩
        rw [hg]
        cases x <;> exact h

/-- What a state is measured by, where yield is called. -/
def YLaw (P : Program) (S : Ses) (L : (Nat × (Nat → List V))) : Prop :=
  ∀ b v, S b v → b = v.w.heap.size ∧ (∀ g, v.D g = none) ∧ (∀ g, v.Z g = none) ∧ (∀ g, ¬ v.mks g) ∧ v.gh = [] ∧
    (∀ k X W W', v.J k X W → Below W.heap.size W W' → v.J k X W') ∧ RoundLaw P v.l v.J L ∧ ∀ X W, S W.heap.size { v with w := W, X := X }

theorem yop_ok (hN : noRef E.glob) {ks : List PK} {L : (Nat × (Nat → List V))} (hY : YLaw P S L) {o : Oper} {t : Nat} {args : Array Operand} {ts : Array TypeId} (ho : o.op = .call { callee := .value (.tmp t), args, argTypes := ts }) {k : Nat}
    {σ : List V} {H : List Blk} {K : List V → List Blk → Prop} {a : Act} {w : World} {next : Act → World → Prop} {Q : Exit → Act → World → Prop} (hs : Sta E S σ H a w) (ht : gets σ t = .yld (some k))
    (h : evs E σ args.toList fun vs => asArgs H ks vs fun ds => (k < L.1 ∧ ds = L.2 k) ∧
      (forceL (yL (some (k + 1)) σ) fun σ => setDst σ o.dst (.bt true) fun σ => K σ []) ∧ (forceL (yL none σ) fun σ => setDst σ o.dst (.bt false) fun σ => K σ []))
    (hn : ∀ σ' H' a' w', K σ' H' → Sta E S σ' H' a' w' → next a' w') : o.wpIn (Fen none) 0 P a w next Q := by
  obtain ⟨c, b, v, hS, hst, hσ, hd⟩ := hs
  obtain ⟨hb, hD, hZ, hmk0, hgh, hJ, hR, hS'⟩ := hY b v hS
  have hrel := hσ.get t
  rw [ht] at hrel
  have hat : a.eval (.tmp t) = a.tmps.toList.getD t undef := by simp [Act.eval, Array.getD_eq_getD_getElem?]
  generalize hval : a.tmps.toList.getD t undef = fv at hrel hat
  cases hrel with | yld _ hk =>
  obtain ⟨vs, h1, h2⟩ := evs_ok hst hσ _ _ h
  let U : Nat → Prop := fun g => c.M g ∨ ∃ i, c.ρ i = some g
  obtain ⟨ds, ⟨⟨hlt, rfl⟩, hyes, hno⟩, h4⟩ := asArgs_ok (U := U) hst (fun g hg => .inl hg) (fun i g hi => .inr ⟨i, hi⟩) ks vs _ _ h1 h2
  have hcnt := hst.xk.cnt
  rw [← hk] at hcnt
  have hbel : Below v.w.heap.size v.w w := hb ▸ hst.below
  have hJw := hJ _ _ _ _ hcnt hbel
  obtain ⟨fn, tmps, as, body, hrun, hround⟩ := hR k v.X w U _ hJw hlt (fun g hg => by
    rcases hg with hg | ⟨i, hi⟩
    · exact ⟨hst.xk.dis g hg, hst.imm g hg⟩
    · exact ⟨fun hX => (hst.xk.xb g hX).2 i hi, (hst.own i g hi).2.1⟩) h4
  refine ⟨fun _ _ => trivial, ?_⟩
  rw [Oper.semAt_eq _ _ _ (fun d e => by rw [ho] at e; cases e)]
  have hex : (execOp a.eval o).run P w = .ok (.round c.x.l fn tmps as body) w := by
    have hl := hst.xk.l
    rw [← hl] at hrun
    simp only [execOp, ho, resolve, hat, Deferred.ofValue, Sem.run_bind, Sem.run_pure, Result.andThen_ok]
    rw [← Array.toList_map, Array.toArray_toList] at hrun
    simpa [invoke] using hrun
  rw [hex]
  refine ⟨(fun h => by cases h), ?_⟩
  rw [hst.xk.l]
  refine hround.mono ?_
  rintro e W' ⟨x, rfl, hsz, hkept, hJ'⟩
  have hMX : ∀ g, c.M g → W'.heap[g]? = w.heap[g]? := fun g hg => hkept g (hst.imm g hg) (hst.xk.dis g hg)
  let v' : W0 := { v with w := W', X := fun g => v.X g ∨ (w.heap.size ≤ g ∧ g < W'.heap.size) }
  let xt : Xt := ⟨[], if x then some (k + 1) else none, v.l⟩
  have hst' : St E.glob W'.heap.size v' (Cx.of c.M xt) [] W' := hst.calm hN (fun g hg => hg) hMX (Below.refl _ _)
    { keep := fun g o h => by have := hD g; rw [show v'.D g = v.D g from rfl, this] at h; cases h
      siz := fun g n h => by have := hZ g; rw [show v'.Z g = v.Z g from rfl, this] at h; cases h
      cnt := hJ'
      gh := hgh.symm
      l := rfl
      dis := fun g hg hX => by
        rcases hX with hX | hX
        · exact hst.xk.dis g hg hX
        · have := hst.imm g hg; omega
      xb := fun g hX => by
        refine ⟨?_, fun i hi => by cases hi⟩
        rcases hX with hX | hX
        · have := (hst.xk.xb g hX).1; omega
        · exact hX.2
      mks := fun g h => absurd h (hmk0 g)
      gi := fun _ => rfl }
    (Nat.le_refl _) (fun g hg => Nat.lt_of_lt_of_le (hst.imm g hg) hsz)
  have hσ' : VRels (Cx.of c.M xt) [] W' (yL (if x then some (k + 1) else none) σ) a.tmps.toList :=
    VRels.y (c := c) (c' := Cx.of c.M xt) (fun g hg => hg) (fun g hg => (hst.sub g hg).1) (fun g hg => hMX g (hg.elim id fun hg => (hst.sub g hg).1)) rfl hst.xk.l.symm hσ
  have hmk : Marks v' a.defers := by
    obtain ⟨gs, hg1, hg2, hg3⟩ := hd
    cases gs with
    | nil => exact ⟨[], hg1, hg2, by simp⟩
    | cons g gs => exact absurd (hg3 g (by simp)) (hmk0 g)
  cases x with
  | true =>
    obtain ⟨σ'', h5, h6⟩ := setDst_ok ((forceL_eq _ _).1 hyes) hσ' (VRel.bt true)
    exact hn _ _ _ _ h5 ⟨_, _, v', hS' _ _, hst', h6, by rw [put_defers]; exact hmk⟩
  | false =>
    obtain ⟨σ'', h5, h6⟩ := setDst_ok ((forceL_eq _ _).1 hno) hσ' (VRel.bt false)
    exact hn _ _ _ _ h5 ⟨_, _, v', hS' _ _, hst', h6, by rw [put_defers]; exact hmk⟩

theorem frzOps_ok (hG : GlobOk E.glob) : ∀ (l : List Operand) {σ : List V} {H : List Blk} {K : List V → List Blk → Prop} {a : Act} {w : World}, Sta E S σ H a w → frzOps l σ H K → ∃ σ' H', K σ' H' ∧ Sta E S σ' H' a w
  | [], σ, H, K, a, w, hs, h => ⟨σ, H, h, hs⟩
  | x :: l, σ, H, K, a, w, hs, h => by
    unfold frzOps at h
    split at h
    · split at h
      · rename_i t t0 id hg
        split at h
        · rename_i fr t xs hb
          have h := (forceL_eq _ _).1 ((forceL_eq _ _).1 h)
          obtain ⟨c, b, v, hS, hst, hσ, hd⟩ := hs
          have hy : ∀ t v, VRel c H w (.own t id) v → VRel (c.frz id) (setB (frzH id (.sl fr _ xs) H) id .dead) w (.sl fr _ xs) v := fun t' v hv => frz_row hst hb t' v hv
          have hsh : ∀ j, j ≠ id → shape (setB (frzH id (.sl fr _ xs) H) id .dead) j = shape H j := fun j hj => shape_frz hj
          exact frzOps_ok hG l ⟨c.frz id, b, v, hS, hst.frz hG hb, hσ.frz hsh hy, hd⟩ h
        · exact frzOps_ok hG l hs h
      · exact frzOps_ok hG l hs h
    · exact frzOps_ok hG l hs h

theorem aopY_ok (hG : GlobOk E.glob) (hN : noRef E.glob) (hE : EnvOk P E) (hY : ∀ q, E.yl = some q → ro = none ∧ YLaw P S q.2) {o : Oper} {σ : List V} {H : List Blk} {K : List V → List Blk → Prop} {a : Act} {w : World} {next : Act → World → Prop} {Q : Exit → Act → World → Prop}
    (hs : Sta E S σ H a w) (hn : ∀ σ' H' a' w', K σ' H' → Sta E S σ' H' a' w' → next a' w') (h : aopY E σ H o K) : o.wpIn (Fen ro) 0 P a w next Q := by
  unfold aopY at h
  split at h
  · split at h
    · obtain ⟨σ', H', h', hs'⟩ := frzOps_ok hG _ hs h
      exact aop_yes hG hE hs' hn h'
    · exact aop_yes hG hE hs hn h
  · rename_i t args ts ho
    split at h
    · rename_i q hq
      split at h
      · rename_i ks L k hyl
        obtain ⟨rfl, hy⟩ := hY _ hyl
        exact yop_ok hN hy ho hs hq h hn
      · exact h.elim
    · exact aop_yes hG hE hs hn h
  · exact aop_yes hG hE hs hn h

theorem aopAtR_ok (hG : GlobOk E.glob) (hN : noRef E.glob) (hE : EnvOk P E) (hY : ∀ q, E.yl = some q → ro = none ∧ YLaw P S q.2) {all : Array Oper} {o : Oper} {σ : List V} {H : List Blk} {K : List V → List Blk → Prop} {a : Act} {w : World} {next : Act → World → Prop} {Q : Exit → Act → World → Prop}
    (hs : Sta E S σ H a w) (h : aopAtR E all.toList o σ H K) (hn : ∀ σ' H' a' w', K σ' H' → Sta E S σ' H' a' w' → next a' w') :
    if Region.wanted o (yielded all a.tmps) then o.wpIn (Fen ro) 0 P a w next Q else (∀ f, o.about P w a.eval = some f → (Fen ro).fn f) ∧ next (a.put o.dst undef) w := by
  obtain ⟨σ', hs', h'⟩ := aguardR_ok hs h
  refine guard_ok hs' h' (aopY_ok hG hN hE hY hs' hn) fun h => ⟨fun _ _ => trivial, ?_⟩
  obtain ⟨c, b, v, hS, hst, hσ, hd⟩ := hs'
  obtain ⟨σ'', hk, hσ''⟩ := setDst_ok h hσ .nope
  exact hn _ _ _ _ hk ⟨c, b, v, hS, hst, hσ'', by rw [put_defers]; exact hd⟩

theorem aops_eq (all : List Oper) (o : Oper) (l : List Oper) (σ : List V) (H : List Blk) (K : List V → List Blk → Prop) : aops E all (o :: l) σ H K = aopAtR E all o σ H (fun σ H => aops E all l σ H K) := rfl

theorem aops_ok (hG : GlobOk E.glob) (hN : noRef E.glob) (hE : EnvOk P E) (hY : ∀ q, E.yl = some q → ro = none ∧ YLaw P S q.2) {all : Array Oper} {Q : Exit → Act → World → Prop} : ∀ (l : List Oper) (σ : List V) (H : List Blk) (K : List V → List Blk → Prop) (a : Act) (w : World), Sta E S σ H a w → aops E all.toList l σ H K →
    (∀ σ' H' a' w', K σ' H' → Sta E S σ' H' a' w' → Q .normal a' w') → wpListIn (Fen ro) 0 P all Q l a w
  | [], σ, H, K, a, w, hs, h, hn => hn _ _ _ _ h hs
  | o :: l, σ, H, K, a, w, hs, h, hn => by
    rw [aops_eq] at h
    unfold wpListIn
    exact aopAtR_ok hG hN hE hY hs h fun σ' H' a' w' hk hs' => aops_ok hG hN hE hY l σ' H' K a' w' hs' hk hn

/-- What an abstract post says of the ways out. -/
def Post (E : Env) (S : Ses) (Q : Ex → List V → List Blk → Prop) : Exit → Act → World → Prop
  | .normal, a, w => ∃ σ H, Q .normal σ H ∧ Sta E S σ H a w
  | .exit i, a, w => ∃ σ H, Q (.exit i) σ H ∧ Sta E S σ H a w
  | .ret, a, w => ∃ σ H, Q .ret σ H ∧ Sta E S σ H a w
  | _, _, _ => False

/-- A region in an order that is drawn. -/
def DrawOk (E : Env) (P : Program) : Prop := ∀ (ops : Array Oper) (id : Nat) (S : Ses) (ro : Option Nat) (σ : List V) (H : List Blk) (K : List V → List Blk → Prop) (a : Act) (w : World) (Q : Exit → Act → World → Prop),
  okDraw E ops.toList = true → Sta E S σ H a w → aopsD E ops.toList 0 ops.toList σ H K → (∀ σ' H' a' w', K σ' H' → Sta E S σ' H' a' w' → Q .normal a' w') → (Code.region id ops true).wpIn (Fen ro) 0 P Q a w

end
end Go.Proofs.Ytgljcfnplkcfhaa.Vc

namespace Go.Proofs.Ytgljcfnplkcfhaa.Vc
open Go Go.RowKit

section
variable {G : List (Nat × V)} {base : Nat} {w0 : W0} {c : Cx} {H : List Blk} {w : World}

/-! ### new numbers -/
def Cx.ren (c : Cx) (sel : List Nat) : Cx := { c with ρ := fun k => (sel[k]?).bind c.ρ, gi := c.gi.bind (idxIn sel) }

theorem inL_iff : ∀ (l : List Nat) (n : Nat), inL l n = true ↔ n ∈ l
  | [], n => by simp [inL]
  | x :: l, n => by
    simp only [inL, Bool.or_eq_true, List.mem_cons, inL_iff l n]
    constructor
    · rintro (h | h)
      · exact .inl (beq_ok h).symm
      · exact .inr h
    · rintro (h | h)
      · subst h; exact .inl (Nat.beq_refl _)
      · exact .inr h
theorem nodupB_iff : ∀ l : List Nat, nodupB l = true → l.Nodup
  | [], _ => List.nodup_nil
  | x :: l, h => by
    simp only [nodupB, Bool.and_eq_true, Bool.not_eq_true'] at h
    refine List.nodup_cons.2 ⟨fun hm => ?_, nodupB_iff l h.2⟩
    rw [(inL_iff l x).2 hm] at h
    simp at h
theorem idxIn_some : ∀ (l : List Nat) (n k : Nat), idxIn l n = some k → l[k]? = some n
  | [], n, k, h => by simp [idxIn] at h
  | x :: l, n, k, h => by
    unfold idxIn at h
    cases hb : Nat.beq x n with
    | true =>
      rw [hb] at h
      simp only [cond_true, Option.some.injEq] at h
      subst h
      have := beq_ok hb; subst this; rfl
    | false =>
      rw [hb] at h
      simp only [cond_false, Option.map_eq_some_iff] at h
      obtain ⟨j, h1, h2⟩ := h
      subst h2
      simpa using idxIn_some l n j h1

theorem idxIn_nodup : ∀ {l : List Nat}, l.Nodup → ∀ {k n : Nat}, l[k]? = some n → idxIn l n = some k
  | [], _, k, n, h => by simp at h
  | x :: l, hnd, k, n, h => by
    obtain ⟨h1, h2⟩ := List.nodup_cons.1 hnd
    unfold idxIn
    cases k with
    | zero =>
      obtain rfl : x = n := by simpa using h
      simp
    | succ k =>
      have h : l[k]? = some n := by simpa using h
      have hne : x ≠ n := fun e => by subst e; exact h1 (List.mem_of_getElem? h)
      cases hb : Nat.beq x n with
      | true => exact absurd (beq_ok hb) hne
      | false => simp [idxIn_nodup h2 h]

theorem getB_selH (sel : List Nat) (H : List Blk) : ∀ (l : List Nat) (k : Nat), getB (selH sel H l) k = match l[k]? with | some i => renB sel (getB H i) | none => .dead
  | [], k => by cases k <;> rfl
  | i :: l, 0 => rfl
  | i :: l, k + 1 => by
    show getB (selH sel H l) k = _
    rw [getB_selH sel H l k]; simp
theorem length_selH (sel : List Nat) (H : List Blk) : ∀ l : List Nat, (selH sel H l).length = l.length
  | [] => rfl
  | i :: l => by simp [selH, length_selH sel H l]
theorem length_renL (sel : List Nat) : ∀ l : List V, (renL sel l).length = l.length
  | [] => rfl
  | b :: l => by simp [renL, length_renL sel l]
theorem gets_renL (sel : List Nat) : ∀ (l : List V) (j : Nat), gets (renL sel l) j = renV sel (gets l j)
  | [], j => by cases j <;> rfl
  | b :: l, 0 => rfl
  | b :: l, j + 1 => gets_renL sel l j

section
variable {sel : List Nat} {H' : List Blk}
theorem OwnAt.ren {i k z off : Nat} {a : Option Addr} {cap : Nat} (hk : sel[k]? = some i) (h : OwnAt c w i z off a cap) : OwnAt (c.ren sel) w k z off a cap := by
  obtain ⟨g, e, cur, h1, h2⟩ := h
  exact ⟨g, e, cur, by simp [Cx.ren, hk, h1], h2⟩
mutual
theorem VRel.ren (hs : ∀ k i, sel[k]? = some i → shape H' k = shape H i) : ∀ {x : V} {v : Value}, VRel c H w x v → VRel (c.ren sel) H' w (renV sel x) v
  | _, _, .undef v => .undef v
  | _, _, .int k n h1 h2 => .int k n h1 h2
  | _, _, .u8 x => .u8 x
  | _, _, .b p x h => .b p x h
  | _, _, .bt x => .bt x
  | _, _, .nope => .nope
  | _, _, .str s h => .str s h
  | _, _, .nils => .nils
  | _, _, .sl fr t xs v h => .sl fr t xs v h
  | _, _, .own t i n a cap h1 hn hc ho => by
    unfold renV
    split
    · rename_i k hk
      have hk := idxIn_some _ _ _ hk
      exact .own t k n a cap ((hs k i hk).trans h1) hn hc (ho.imp (fun h => h) (OwnAt.ren hk))
    · exact .undef _
  | _, _, .slc t i off n m a cap h1 h2 hn hc ho => by
    unfold renV
    split
    · rename_i k hk
      have hk := idxIn_some _ _ _ hk
      exact .slc t k off n m a cap ((hs k i hk).trans h1) h2 hn hc (ho.imp (fun h => h) (OwnAt.ren hk))
    · exact .undef _
  | _, _, .rp fr t x o g p es hM hd hc => .rp fr t x o g p es hM hd hc
  | _, _, .ptr i z j o g m h1 hr hi ho => by
    unfold renV
    split
    · rename_i k hk
      have hk := idxIn_some _ _ _ hk
      exact .ptr k z j o g m ((hs k i hk).trans h1) (by simp [Cx.ren, hk, hr]) hi ho
    · exact .undef _
  | _, _, .agg cs vs h => .agg _ vs (VRels.ren hs h)
  | _, _, .tup cs vs h => .tup _ vs (VRels.ren hs h)
  | _, _, .fn f cs vs h => .fn f _ vs (VRels.ren hs h)
  | _, _, .nilfn => .nilfn
  | _, _, .yld k h => .yld (c := c.ren sel) k h
  | _, _, .dat fr t x es h => .dat fr t x es h
theorem VRels.ren (hs : ∀ k i, sel[k]? = some i → shape H' k = shape H i) : ∀ {xs : List V} {vs : List Value}, VRels c H w xs vs → VRels (c.ren sel) H' w (renL sel xs) vs
  | _, _, .nil => .nil
  | _, _, .cons x v xs vs h hx => .cons _ v _ vs (VRel.ren hs h) (VRels.ren hs hx)
end
end

theorem shape_sel {sel : List Nat} {k i : Nat} (hk : sel[k]? = some i) : shape (selH sel H sel) k = shape H i := by
  unfold shape
  rw [getB_selH, hk]
  simp only
  cases getB H i <;> simp [renB, length_renL]

theorem St.ren (hN : noRef G) (h : St G base w0 c H w) {sel : List Nat} (hnd : sel.Nodup) : St G base w0 (c.ren sel) (selH sel H sel) w where
  below := h.below
  xk := h.xk.step rfl (fun hg => by simp [Cx.ren, hg]) (fun g hg => .inl hg) (fun i g hi => by
    simp only [Cx.ren, Option.bind_eq_some_iff] at hi
    obtain ⟨j, _, hj⟩ := hi
    exact .inl ⟨j, hj⟩) (fun g o ho => .inl ho)
  size := h.size
  blk k := by
    rw [getB_selH]
    split
    · rename_i i hk
      have hbk := h.blk i
      generalize getB H i = b at hbk
      cases b with
      | dead => trivial
      | row fr t xs =>
        rcases hbk with ⟨h1, h2⟩ | ⟨g, e, cur, h1, h2⟩
        · exact .inl ⟨by simp [Cx.ren, hk, h1], h2⟩
        · exact .inr ⟨g, e, cur, by simp [Cx.ren, hk, h1], h2⟩
      | cells cs =>
        rcases hbk with ⟨g, e, cur, h1, h2, h3, h4⟩ | ⟨h0, h1, h2⟩
        · refine .inl ⟨g, e, cur, by simp [Cx.ren, hk, h1], h2, by rw [length_renL]; exact h3, fun j hj => ?_⟩
          rw [length_renL] at hj
          obtain ⟨v, h5, h6, h7⟩ := h4 j hj
          rw [gets_renL]
          exact ⟨v, h5, h6, h7.ren fun k i hk => shape_sel hk⟩
        · exact .inr ⟨by simp [Cx.ren, h0, idxIn_nodup hnd hk], by simp [Cx.ren, hk, h1], h2.ren fun k i hk => shape_sel hk⟩
    · trivial
  inj i j g hi hj := by
    simp only [Cx.ren, Option.bind_eq_some_iff] at hi hj
    obtain ⟨i', hi1, hi2⟩ := hi
    obtain ⟨j', hj1, hj2⟩ := hj
    have := h.inj i' j' g hi2 hj2
    subst this
    exact (List.getElem?_inj (by exact (List.getElem?_eq_some_iff.1 hi1).1) hnd).1 (hi1.trans hj1.symm)
  own i g hi := by
    simp only [Cx.ren, Option.bind_eq_some_iff] at hi
    obtain ⟨i', hi1, hi2⟩ := hi
    obtain ⟨h1, h2, h3, _⟩ := h.own i' g hi2
    exact ⟨h1, h2, h3, by rw [length_selH]; exact (List.getElem?_eq_some_iff.1 hi1).1⟩
  imm := h.imm
  sub := h.sub
  glob g x hx := by
    obtain ⟨t, y, o, rfl⟩ := hN g x hx
    exact (h.glob g _ hx).ren fun k i hk => shape_sel hk

/-! ### the view -/
theorem picks_ok {tm : List Value} : ∀ (keep : List (Nat × Mode)) {σ : List V} {K : List V → Prop}, VRels c H w σ tm → picks σ keep K → ∃ vs, K vs ∧ VRels c H w vs (keep.map fun x => tm.getD x.1 undef)
  | [], σ, K, _, h => ⟨[], h, .nil⟩
  | (i, m) :: l, σ, K, hσ, h => by
    have h := (forceV_eq _ _).1 h
    obtain ⟨vs, h1, h2⟩ := picks_ok l hσ h
    exact ⟨_, h1, .cons _ _ _ _ (hσ.get i).nb h2⟩

theorem VRels.rev {xs : List V} {vs : List Value} (h : VRels c H w xs vs) : VRels c H w xs.reverse vs.reverse := by
  have key : ∀ (xs : List V) (vs : List Value) (ys : List V) (us : List Value), VRels c H w xs vs → VRels c H w ys us → VRels c H w (xs.reverse ++ ys) (vs.reverse ++ us) := by
    intro xs
    induction xs with
    | nil => intro vs ys us h h'; cases h; simpa using h'
    | cons x xs ih =>
      intro vs ys us h h'
      cases h with | cons _ v _ vs h hs =>
      have := ih vs (x :: ys) (v :: us) hs (.cons _ _ _ _ h h')
      simpa using this
  have := key xs vs [] [] h .nil
  simpa using this

theorem VRels.setNil {i : Nat} {x : V} (hx : VRel c H w x (.slice none 0 0)) : ∀ {cs : List V} {vs : List Value} (i : Nat), VRels c H w cs vs → gets cs i = .nils → VRels c H w (sets cs i x) vs
  | _, _, i, .nil, h => .nil
  | _, _, 0, .cons y v xs vs hy hs, h => by
    have h : y = .nils := h
    subst h
    cases hy
    exact .cons _ _ _ _ hx hs
  | _, _, i + 1, .cons y v xs vs hy hs, h => .cons _ _ _ _ hy (VRels.setNil (i := i) hx i hs h)

theorem length_sets (l : List V) : ∀ i x, (sets l i x).length = l.length := by
  intro i x; rw [sets_eq]; simp
theorem gets_sets (l : List V) (i j : Nat) (x : V) : gets (sets l i x) j = if j = i ∧ i < l.length then x else gets l j := by
  rw [sets_eq, gets_eq, gets_eq, List.getD_eq_getElem?_getD, List.getD_eq_getElem?_getD, List.getElem?_set]
  by_cases h : i = j
  · subst h
    by_cases h2 : i < l.length
    · simp [h2]
    · simp [h2]
  · rw [if_neg h, if_neg (fun e => h e.1.symm)]

theorem ext_setCells {cs cs' : List V} {id : Nat} (hb : getB H id = .cells cs) (hl : cs'.length = cs.length) : Ext c H w c (setB H id (.cells cs')) w where
  M g hg := hg
  N g hg := hg
  mem g hg := rfl
  shp j s hs := by
    refine ⟨?_, rfl⟩
    by_cases hj : j = id
    · subst hj
      have := shape_lt hs
      unfold shape at *
      rw [getB_setB, if_pos ⟨rfl, this⟩]
      rw [hb] at hs
      simpa [hl] using hs
    · rw [shape_setB_ne hj]; exact hs
  siz id s g cur e _ _ hg := ⟨cur, hg, rfl⟩
  x := rfl
  gi := rfl

theorem St.setNil (h : St G base w0 c H w) {id i : Nat} {cs : List V} (hb : getB H id = .cells cs) {x : V} (hx : VRel c H w x (.slice none 0 0)) (hi : gets cs i = .nils) : St G base w0 c (setB H id (.cells (sets cs i x))) w := by
  have he : Ext c H w c (setB H id (.cells (sets cs i x))) w := ext_setCells hb (length_sets _ _ _)
  have hlt : id < H.length := by
    rcases Nat.lt_or_ge id H.length with g | g
    · exact g
    · rw [getB_ge H id g] at hb; cases hb
  exact
  { below := h.below
    xk := h.xk
    size := h.size
    blk := fun j => by
      rw [getB_setB]
      split
      · rename_i hj
        obtain ⟨rfl, _⟩ := hj
        have hbk := h.blk j
        rw [hb] at hbk
        rcases hbk with ⟨g, e, cur, h1, h2, h3, h4⟩ | ⟨h0, h1, h2⟩
        · refine .inl ⟨g, e, cur, h1, h2, by rw [length_sets]; exact h3, fun k hk => ?_⟩
          rw [length_sets] at hk
          obtain ⟨v, h5, h6, h7⟩ := h4 k hk
          refine ⟨v, h5, h6, ?_⟩
          rw [gets_sets]
          split
          · rename_i hk2
            obtain ⟨rfl, _⟩ := hk2
            rw [hi] at h7
            cases h7
            exact hx.ext he
          · exact h7.ext he
        · exact .inr ⟨h0, h1, (VRels.setNil (i := i) hx i h2 hi).ext he⟩
      · exact BOk.keep he (fun _ => rfl) (fun g _ => rfl) (h.blk j)
    inj := h.inj
    own := fun i g hi => by
      obtain ⟨h1, h2, h3, h4⟩ := h.own i g hi
      exact ⟨h1, h2, h3, by rw [length_setB]; exact h4⟩
    imm := h.imm
    sub := h.sub
    glob := fun g x hx => (h.glob g x hx).ext he }

theorem nilC_ok {id : Nat} : ∀ (l : List (Nat × Ty)) (H : List Blk) (K : List Blk → Prop), St G base w0 c H w → nilC id l H K → ∃ H', K H' ∧ St G base w0 c H' w ∧ Ext c H w c H' w
  | [], H, K, hst, h => ⟨H, h, hst, Ext.refl _ _ _⟩
  | (i, t) :: l, H, K, hst, h => by
    unfold nilC at h
    split at h <;> try exact h.elim
    rename_i cs hb
    split at h
    · rename_i hi
      have h := (forceL_eq _ _).1 ((forceL_eq _ _).1 h)
      have hlt : id < H.length := by
        rcases Nat.lt_or_ge id H.length with g | g
        · exact g
        · rw [getB_ge H id g] at hb; cases hb
      have hb' : getB (H ++ [.row true t []]) id = .cells cs := by rw [getB_append, if_neg (by omega)]; exact hb
      have hx : VRel c (H ++ [.row true t []]) w (.own t H.length) (.slice none 0 0) := .own t H.length 0 none 0 (by simp [shape, getB_append]) (Nat.le_refl _) (by simp) (.inl rfl)
      obtain ⟨H', h1, h2, h3⟩ := nilC_ok l _ K ((hst.virt true t).setNil hb' hx hi) h
      exact ⟨H', h1, h2, ((St.ext_virt _).trans (ext_setCells hb' (length_sets _ _ _))).trans h3⟩
    · exact nilC_ok l H K hst h

theorem nilA_ok {vs : List Value} : ∀ (l : List (Nat × Ty)) (cs : List V) (H : List Blk) (K : List V → List Blk → Prop), St G base w0 c H w → VRels c H w cs vs → nilA l cs H K → ∃ cs' H', K cs' H' ∧ St G base w0 c H' w ∧ Ext c H w c H' w ∧ VRels c H' w cs' vs
  | [], cs, H, K, hst, hv, h => ⟨cs, H, h, hst, Ext.refl _ _ _, hv⟩
  | (i, t) :: l, cs, H, K, hst, hv, h => by
    unfold nilA at h
    split at h
    · rename_i hi
      have h := (forceL_eq _ _).1 ((forceL_eq _ _).1 h)
      have hx : VRel c (H ++ [.row true t []]) w (.own t H.length) (.slice none 0 0) := .own t H.length 0 none 0 (by simp [shape, getB_append]) (Nat.le_refl _) (by simp) (.inl rfl)
      obtain ⟨cs', H', h1, h2, h3, h4⟩ := nilA_ok l _ _ K (hst.virt true t) (VRels.setNil (i := i) hx i (hv.ext (St.ext_virt _)) hi) h
      exact ⟨cs', H', h1, h2, (St.ext_virt _).trans h3, h4⟩
    · exact nilA_ok l cs H K hst hv h

theorem viewA_ok (hG : GlobOk G) : ∀ (ms : List Mode) (c : Cx) (vs done : List V) (H : List Blk) (us ud : List Value) (K : List V → List Blk → Prop), St G base w0 c H w → VRels c H w vs us → VRels c H w done ud → ms.length = vs.length → viewA ms vs done H K →
    ∃ c' vs' H', K vs' H' ∧ St G base w0 c' H' w ∧ VRels c' H' w vs' (ud.reverse ++ us) ∧ (∀ g, c.M g → c'.M g) ∧ c'.gi = c.gi
  | [], c, vs, done, H, us, ud, K, hst, hv, hd, hl, h => by
    cases hv with
    | nil => exact ⟨c, _, H, h, hst, by simpa using hd.rev, fun _ h => h, rfl⟩
    | cons => simp at hl
  | m :: ms, c, [], done, H, us, ud, K, hst, hv, hd, hl, h => by simp at hl
  | m :: ms, c, v :: vs, done, H, us, ud, K, hst, hv, hd, hl, h => by
    cases hv with | cons _ u _ us hx hs =>
    have hl' : ms.length = vs.length := by simpa using hl
    have fin : ∀ {c' : Cx} {v' : V} {vs' done' : List V} {H' : List Blk}, St G base w0 c' H' w → VRels c' H' w vs' us → VRels c' H' w done' ud → VRel c' H' w v' u → (∀ g, c.M g → c'.M g) → c'.gi = c.gi → ms.length = vs'.length → viewA ms vs' (v' :: done') H' K →
        ∃ c' vs' H', K vs' H' ∧ St G base w0 c' H' w ∧ VRels c' H' w vs' (ud.reverse ++ u :: us) ∧ (∀ g, c.M g → c'.M g) ∧ c'.gi = c.gi := fun {c' v' vs' done' H'} h1 h2 h3 h4 hm hg h5 h6 => by
      obtain ⟨c2, vs2, H2, k1, k2, k3, k4, k5⟩ := viewA_ok hG ms c' vs' (v' :: done') H' us (u :: ud) K h1 h2 (.cons _ _ _ _ h4 h3) h5 h6
      exact ⟨c2, vs2, H2, k1, k2, by simpa using k3, fun g h => k4 g (hm g h), k5.trans hg⟩
    unfold viewA at h
    split at h
    · rename_i t
      cases hx
      exact fin (hst.virt true t) (hs.ext (St.ext_virt _)) (hd.ext (St.ext_virt _)) (.own t H.length 0 none 0 (by simp [shape, getB_append]) (Nat.le_refl _) (by simp) (.inl rfl)) (fun _ h => h) rfl hl' h
    · rename_i t
      cases hx
      exact fin hst hs hd (.sl _ _ _ _ ⟨none, 0, rfl, Nat.le_refl _, by simp, fun h => absurd rfl h⟩) (fun _ h => h) rfl hl' h
    · rename_i t0 t' id
      split at h
      · rename_i fr t xs hb
        obtain ⟨_, h⟩ := bif_ok h
        have hy : ∀ t v, VRel c H w (.own t id) v → VRel (c.frz id) (setB (frzH id (.sl fr _ xs) H) id .dead) w (.sl fr _ xs) v := fun t' v hv => frz_row hst hb t' v hv
        have hsh : ∀ j, j ≠ id → shape (setB (frzH id (.sl fr _ xs) H) id .dead) j = shape H j := fun j hj => shape_frz hj
        exact fin (hst.frz hG hb) (hs.frz hsh hy) (hd.frz hsh hy) (hy _ _ hx) (fun _ h => .inl h) rfl (by rw [length_frzL]; exact hl') h
      · exact h.elim
    · cases hx with | agg cs us' hr =>
      obtain ⟨cs', H', h, hst', he, hr'⟩ := nilA_ok _ _ _ _ hst hr h
      exact fin hst' (hs.ext he) (hd.ext he) (.agg _ _ hr') (fun _ h => h) rfl hl' h
    · obtain ⟨H', h, hst', he⟩ := nilC_ok _ _ _ hst h
      exact fin hst' (hs.ext he) (hd.ext he) (hx.ext he) (fun _ h => h) rfl hl' h
    · exact fin hst hs hd hx (fun _ h => h) rfl hl' h

theorem viewB_ok (hN : noRef G) {np : Nat} {ms : List Mode} {vs : List V} {us : List Value} {K : List V → List Blk → Prop} (hst : St G base w0 c H w) (hv : VRels c H w vs us) (h : viewB np ms vs H K) :
    ∃ c' vs' H', K vs' H' ∧ St G base w0 c' H' w ∧ VRels c' H' w vs' us ∧ (∀ g, c.M g → c'.M g) ∧ (∀ g, c.gi = some g → inL (upTo np [] ++ idsOf np ms vs) g = false → c'.gi = none) ∧ (c.gi = none → c'.gi = none) := by
  obtain ⟨hnd, h⟩ := h
  have h := (forceL_eq _ _).1 ((forceL_eq _ _).1 h)
  refine ⟨_, _, _, h, hst.ren hN (nodupB_iff _ hnd), hv.ren fun k i hk => shape_sel hk, fun _ h => h, fun g hg hn => ?_, fun hg => by simp [Cx.ren, hg]⟩
  simp only [Cx.ren, hg, Option.bind_some]
  cases hi : idxIn (upTo np [] ++ idsOf np ms vs) g with
  | none => rfl
  | some k =>
    have := List.mem_of_getElem? (idxIn_some _ _ _ hi)
    rw [(inL_iff _ _).2 this] at hn
    cases hn

theorem length_sprd : ∀ (f i : Nat) (keep : List (Nat × Mode)) (vs : List V), (sprd f i keep vs).length = f
  | 0, _, _, _ => rfl
  | f + 1, i, keep, vs => by
    unfold sprd
    split
    · cases Nat.beq _ i <;> simp [length_sprd f]
    · simp [length_sprd f]
theorem sprd_ok {tm : List Value} : ∀ (f i : Nat) (keep : List (Nat × Mode)) (vs : List V), VRels c H w vs (keep.map fun x => tm.getD x.1 undef) → i + f = tm.length → VRels c H w (sprd f i keep vs) (tm.drop i)
  | 0, i, keep, vs, hv, hl => by
    rw [List.drop_eq_nil_of_le (by omega)]
    exact .nil
  | f + 1, i, keep, vs, hv, hl => by
    have hi : i < tm.length := by omega
    rw [List.drop_eq_getElem_cons hi]
    unfold sprd
    split
    · rename_i j m ks v us
      cases hv with | cons _ _ _ _ hx hs =>
      cases hb : Nat.beq j i with
      | true =>
        have := Nat.eq_of_beq_eq_true hb
        subst this
        have e : tm.getD j undef = tm[j] := by simp [List.getD_eq_getElem?_getD, hi]
        rw [← e]
        exact .cons _ _ _ _ hx (sprd_ok f (j + 1) ks us hs (by omega))
      | false => exact .cons _ _ _ _ (.undef _) (sprd_ok f (i + 1) ((j, m) :: ks) (v :: us) (.cons _ _ _ _ hx hs) (by omega))
    · exact .cons _ _ _ _ (.undef _) (sprd_ok f (i + 1) [] [] .nil (by omega))
theorem sprd_all {tm : List Value} {n : Nat} (keep : List (Nat × Mode)) (vs : List V) (hn : n = tm.length) (hv : VRels c H w vs (keep.map fun x => tm.getD x.1 undef)) : VRels c H w (sprd n 0 keep vs) tm := by
  have := sprd_ok n 0 keep vs hv (by omega)
  simpa using this

theorem view_ok {E : Env} {S : Ses} (hG : GlobOk E.glob) (hN : noRef E.glob) {np : Nat} {keep : List (Nat × Mode)} {σ : List V} {K : List V → List Blk → Prop} {a : Act} (hs : Sta E S σ H a w) (h : view np keep σ H K) :
    ∃ vs H', K vs H' ∧ Sta E S (sprd σ.length 0 keep vs) H' a w := by
  obtain ⟨c, b, v, hS, hst, hσ, hd⟩ := hs
  obtain ⟨vs, h, hv⟩ := picks_ok keep hσ h
  have hl : (keep.map (·.2)).length = vs.length := by rw [hv.length]; simp
  obtain ⟨c1, vs1, H1, h, hst1, hv1, _⟩ := viewA_ok hG (keep.map (·.2)) c vs [] H _ [] _ hst hv .nil hl h
  obtain ⟨c2, vs2, H2, h, hst2, hv2, _⟩ := viewB_ok hN hst1 hv1 h
  exact ⟨vs2, H2, h, c2, b, v, hS, hst2, sprd_all keep vs2 hσ.length (by simpa using hv2), hd⟩
end
end Go.Proofs.Ytgljcfnplkcfhaa.Vc

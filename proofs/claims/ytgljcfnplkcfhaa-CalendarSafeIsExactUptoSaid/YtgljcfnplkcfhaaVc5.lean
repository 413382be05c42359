/- Texts of this claim: Vc.VD, Vc.WA, Vc.WB, Vc.XA, Vc.X. -/
import Derived.Test.YtgljcfnplkcfhaaVc4
import Derived.Scope
import Derived.RangeFuncOwn
set_option linter.unusedVariables false
set_option linter.unusedSimpArgs false
namespace Go.Proofs.Ytgljcfnplkcfhaa.Vc
open Go Go.RowKit

/-- What is known of a part of the state, of which only some operations turn anything. -/
def Trk {α : Type} (n : Nat) (L W : Nat → Prop) (A : Nat → α) (cur : α) : Prop := ∀ k, k ≤ n → (∀ i, i < k → W i → L i) → (∀ i, k ≤ i → W i → ¬ L i) → cur = A k

/-- All that turn it are ordered as to this one. -/
def Cmp (all : List Oper) (W : Nat → Prop) (j : Nat) : Prop := ∀ i, W i → (i < j → Bef all i j) ∧ (j < i → Bef all j i)

section
variable {α : Type} {all : List Oper} {n : Nat} {L L' W : Nat → Prop} {A : Nat → α} {cur cur' : α} {j : Nat}

theorem Trk.read (h : Trk n L W A cur) (hc : Cmp all W j) (hj : j ≤ n) (hcl : Clo all L) (hcl' : Clo all fun i => L i ∨ i = j) (hn : ¬ L j) : cur = A j := by
  refine h j hj (fun i hi hw => ?_) fun i hi hw hL => ?_
  · rcases (hc i hw).1 hi _ hcl' (.inr rfl) with h' | h'
    · exact h'
    · omega
  · rcases Nat.lt_or_ge j i with h' | h'
    · exact hn ((hc i hw).2 h' L hcl hL)
    · have : i = j := by omega
      subst this
      exact hn hL

theorem Trk.step (h : Trk n L W A cur) (hj : j < n) (hcl : Clo all L) (hn : ¬ L j) (hA : ∀ k, k < n → ¬ W k → A (k + 1) = A k) (h1 : ¬ W j → cur' = cur) (h2 : W j → cur' = A (j + 1)) (hc : W j → Cmp all W j) : Trk n (fun i => L i ∨ i = j) W A cur' := by
  intro k hk ha hb
  by_cases hw : W j
  · have hjk : j < k := by
      rcases Nat.lt_or_ge j k with h' | h'
      · exact h'
      · exact absurd (.inr rfl) (hb j h' hw)
    have hno : ∀ i, j < i → i < k → ¬ W i := fun i h3 h4 hwi => by
      rcases ha i h4 hwi with h' | h'
      · exact hn ((hc hw i hwi).2 h3 L hcl h')
      · omega
    rw [h2 hw]
    have : ∀ d, j + 1 + d ≤ k → A (j + 1 + d) = A (j + 1) := by
      intro d
      induction d with
      | zero => intro _; rfl
      | succ d ih =>
        intro hd
        rw [← ih (by omega)]
        exact hA (j + 1 + d) (by omega) (hno _ (by omega) (by omega))
    have := this (k - (j + 1)) (by omega)
    rw [show j + 1 + (k - (j + 1)) = k by omega] at this
    exact this.symm
  · rw [h1 hw]
    refine h k hk (fun i hi hwi => ?_) fun i hi hwi hL => hb i hi hwi (.inl hL)
    rcases ha i hi hwi with h' | h'
    · exact h'
    · subst h'; exact absurd hwi hw
end

theorem gets_ext : ∀ {l l' : List V}, l.length = l'.length → (∀ t, gets l t = gets l' t) → l = l'
  | [], [], _, _ => rfl
  | x :: l, y :: l', h, hg => by
    have h0 : x = y := hg 0
    subst h0
    rw [gets_ext (l := l) (l' := l') (by simpa using h) fun t => hg (t + 1)]
  | [], _ :: _, h, _ => by simp at h
  | _ :: _, [], h, _ => by simp at h
theorem putV_length (σ : List V) (d : Option Nat) (v : V) : (putV σ d v).length = σ.length := by
  cases d with
  | none => rfl
  | some d => simp [putV, sets_eq]
theorem gets_sets_ne (v : V) : ∀ (σ : List V) {d t : Nat}, d ≠ t → gets (sets σ d v) t = gets σ t
  | [], d, t, _ => by cases d <;> rfl
  | x :: l, 0, 0, h => absurd rfl h
  | x :: l, 0, t + 1, _ => rfl
  | x :: l, d + 1, 0, _ => rfl
  | x :: l, d + 1, t + 1, h => gets_sets_ne v l (by omega)
theorem gets_sets_len (v : V) : ∀ (σ σ' : List V) (d : Nat), σ.length = σ'.length → gets (sets σ d v) d = gets (sets σ' d v) d
  | [], [], d, _ => rfl
  | x :: l, y :: l', 0, _ => rfl
  | x :: l, y :: l', d + 1, h => gets_sets_len v l l' d (by simpa using h)
  | [], _ :: _, _, h => by simp at h
  | _ :: _, [], _, h => by simp at h

def Writes (E : Env) (all : List Oper) (S : Nat → List V) (t i : Nat) : Prop := ∃ o, all[i]? = some o ∧ (o.dst = some t ∨ (clsX E o.op = some 4 ∧ gets (S (i + 1)) t ≠ gets (S i) t))
def Turns (E : Env) (all : List Oper) (i : Nat) : Prop := ∃ o, all[i]? = some o ∧ (clsX E o.op = some 3 ∨ clsX E o.op = some 4 ∨ clsX E o.op = some 5 ∨ (clsX E o.op = some 2 ∧ ¬ need E all i = true))
/-- All of these but the new blocks. -/
def TurnsR (E : Env) (all : List Oper) (i : Nat) : Prop := ∃ o, all[i]? = some o ∧ (clsX E o.op = some 3 ∨ clsX E o.op = some 4 ∨ (clsX E o.op = some 2 ∧ ¬ need E all i = true))
mutual
theorem older_nom {n id : Nat} (hn : n ≤ id) : ∀ x : V, x.older n = true → x.mentions id = false
  | .undef, _ => rfl
  | .nope, _ => rfl
  | .int _ _, _ => rfl
  | .u8 _, _ => rfl
  | .b _, _ => rfl
  | .bt _, _ => rfl
  | .str _, _ => rfl
  | .nils, _ => rfl
  | .sl _ _ _, _ => rfl
  | .own t i, h => beq_no (i := i) fun e => by have h : Nat.blt i n = true := h; simp at h; omega
  | .slc t i o l, h => beq_no (i := i) fun e => by have h : Nat.blt i n = true := h; simp at h; omega
  | .rp _ _ _ _, _ => rfl
  | .ptr i z j o, h => beq_no (i := i) fun e => by have h : Nat.blt i n = true := h; simp at h; omega
  | .agg cs, h => older_nomL hn cs h
  | .tup cs, h => older_nomL hn cs h
  | .fn f cs, h => older_nomL hn cs h
  | .nilfn, _ => rfl
  | .yld _, _ => rfl
  | .dat _ _ _, _ => rfl
theorem older_nomL {n id : Nat} (hn : n ≤ id) : ∀ l : List V, V.olderL n l = true → V.mentionsL id l = false
  | [], _ => rfl
  | x :: l, h => by
    simp only [V.olderL, Bool.and_eq_true] at h
    rw [V.mentionsL, older_nom hn x h.1, older_nomL hn l h.2]; rfl
end
theorem killO_len (kd : Option Nat) (σ : List V) : (killO kd σ).length = σ.length := by
  cases kd with
  | none => rfl
  | some id => exact length_killL _ _
theorem killO_same {kd : Option Nat} {σ : List V} {t : Nat} (h : ∀ id, kd = some id → (gets σ t).mentions id = false) : gets (killO kd σ) t = gets σ t := by
  cases kd with
  | none => rfl
  | some id =>
    show gets (killL id σ) t = _
    rw [gets_killL, h id rfl]; rfl
theorem killO_congr {kd : Option Nat} {σ σ' : List V} {t : Nat} (h : gets σ t = gets σ' t) : gets (killO kd σ) t = gets (killO kd σ') t := by
  cases kd with
  | none => exact h
  | some id =>
    show gets (killL id σ) t = gets (killL id σ') t
    rw [gets_killL, gets_killL, h]
theorem gets_putV_ne {σ : List V} {d : Option Nat} {v : V} {t : Nat} (h : d ≠ some t) : gets (putV σ d v) t = gets σ t := by
  cases d with
  | none => rfl
  | some d => exact gets_sets_ne v _ fun e => h (by rw [e])
theorem gets_putV_eq {σ σ' : List V} {d : Option Nat} {v : V} {t : Nat} (hl : σ.length = σ'.length) (h : gets σ t = gets σ' t) : gets (putV σ d v) t = gets (putV σ' d v) t := by
  by_cases e : d = some t
  · subst e; exact gets_sets_len v _ _ _ hl
  · rw [gets_putV_ne e, gets_putV_ne e, h]
theorem gets_sets_self (v : V) : ∀ (σ : List V) (d : Nat), gets (sets σ d v) d = v ∨ gets (sets σ d v) d = .undef
  | [], d => by cases d <;> exact .inr rfl
  | _ :: l, 0 => .inl rfl
  | _ :: l, d + 1 => gets_sets_self v l d
theorem older_put {n : Nat} {σ : List V} {d : Nat} {v : V} (h : v.older n = true) : (gets (putV σ (some d) v) d).older n = true := by
  rcases gets_sets_self v σ d with e | e
  · show (gets (sets σ d v) d).older n = true
    rw [e]; exact h
  · show (gets (sets σ d v) d).older n = true
    rw [e]; rfl
theorem olderT_ok {n : Nat} {σ : List V} : ∀ {l : List Nat}, olderT n σ l = true → ∀ t ∈ l, (gets σ t).older n = true
  | [], _, t, ht => by simp at ht
  | s :: l, h, t, ht => by
    rw [olderT, Bool.and_eq_true] at h
    rcases List.mem_cons.1 ht with rfl | ht
    · exact h.1
    · exact olderT_ok h.2 t ht
theorem dstT_mem {o : Oper} {d : Nat} (h : o.dst = some d) : d ∈ dstT o := by unfold dstT; rw [h]; simp
theorem un4Go_ok {E : Env} {ms : List Nat} {k : Nat} : ∀ (l : List Oper) (i0 : Nat) {j : Nat} {x : Oper}, l[j]? = some x → isBar E x = true → i0 + j ≠ k → unord ms (i0 + j) k = true → un4Go E ms k i0 l = true
  | [], _, j, x, hx, _, _, _ => by simp at hx
  | o :: l, i0, 0, x, hx, hb, hk, hu => by
    obtain rfl : o = x := by simpa using hx
    rw [un4Go, hb, show unord ms i0 k = true from hu, beq_no (by simpa using hk)]; rfl
  | o :: l, i0, j + 1, x, hx, hb, hk, hu => by
    rw [un4Go, un4Go_ok l (i0 + 1) (j := j) (by simpa using hx) hb (by omega) (by rw [show i0 + 1 + j = i0 + (j + 1) by omega]; exact hu), Bool.or_true]
theorem hasBar_ok {E : Env} : ∀ (l : List Oper) {j : Nat} {x : Oper}, l[j]? = some x → isBar E x = true → hasBar E l = true
  | [], j, x, hx, _ => by simp at hx
  | o :: l, 0, x, hx, hb => by
    obtain rfl : o = x := by simpa using hx
    rw [hasBar, hb]; rfl
  | o :: l, j + 1, x, hx, hb => by rw [hasBar, hasBar_ok l (j := j) (by simpa using hx) hb, Bool.or_true]
theorem un4_ok {E : Env} {all : List Oper} {k i : Nat} {x : Oper} (hx : all[i]? = some x) (hb : clsX E x.op = some 4) (hk : i ≠ k) (hu : unord (masksGo all []) i k = true) : un4 E all k = true := by
  have hb' : isBar E x = true := by simp [isBar, hb]
  rw [un4, hasBar_ok all hx hb', un4Go_ok all 0 (j := i) hx hb' (by simpa using hk) (by simpa using hu)]; rfl
theorem any4_ok {ms : List Nat} {k : Nat} : ∀ (l : List Oper) (i0 : Nat) {j : Nat} {x : Oper}, l[j]? = some x → i0 + j ≠ k → unord ms (i0 + j) k = true → any4Go ms k i0 l = true
  | [], _, j, x, hx, _, _ => by simp at hx
  | o :: l, i0, 0, x, hx, hk, hu => by rw [any4Go, show unord ms i0 k = true from hu, beq_no (by simpa using hk)]; rfl
  | o :: l, i0, j + 1, x, hx, hk, hu => by
    rw [any4Go, any4_ok l (i0 + 1) (j := j) (by simpa using hx) (by omega) (by rw [show i0 + 1 + j = i0 + (j + 1) by omega]; exact hu), Bool.or_true]
theorem par4_ok {all : List Oper} {ms : List Nat} {k n : Nat} {σ : List V} : ∀ (l : List Oper) (i0 : Nat) {j : Nat} {x : Oper}, par4Go all ms k n σ i0 l = true → l[j]? = some x → i0 + j ≠ k → unord ms (i0 + j) k = true → olderT n σ (looks all x) = true ∧ olderT n σ (dstT x) = true
  | [], _, j, x, _, hx, _, _ => by simp at hx
  | o :: l, i0, 0, x, h, hx, hk, hu => by
    obtain rfl : o = x := by simpa using hx
    rw [par4Go, Bool.and_eq_true, show unord ms i0 k = true from hu, beq_no (show i0 ≠ k by simpa using hk)] at h
    simpa using h.1
  | o :: l, i0, j + 1, x, h, hx, hk, hu => by
    rw [par4Go, Bool.and_eq_true] at h
    exact par4_ok l (i0 + 1) (j := j) h.2 (by simpa using hx) (by omega) (by rw [show i0 + 1 + j = i0 + (j + 1) by omega]; exact hu)
theorem greatest {p : Nat → Prop} {j : Nat} : ∀ k, (∃ i, j < i ∧ i < k ∧ p i) → ∃ i, j < i ∧ i < k ∧ p i ∧ ∀ m, i < m → m < k → ¬ p m
  | 0, ⟨i, _, h, _⟩ => by omega
  | k + 1, ⟨i, h1, h2, h3⟩ => by
    by_cases hk : p k ∧ j < k
    · exact ⟨k, hk.2, by omega, hk.1, fun m a b => by omega⟩
    · have hik : i < k := by
        rcases Nat.lt_or_ge i k with g | g
        · exact g
        · have : i = k := by omega
          subst this
          exact absurd ⟨h3, h1⟩ hk
      obtain ⟨i', a, b, c, d⟩ := greatest k ⟨i, h1, hik, h3⟩
      refine ⟨i', a, by omega, c, fun m e f g => ?_⟩
      rcases Nat.lt_or_ge m k with hm | hm
      · exact d m e hm g
      · have : m = k := by omega
        subst this
        exact hk ⟨g, by omega⟩
theorem nb_top {v : V} {id : Nat} (h : v.nb.top id) : v.top id := by cases v <;> exact h
theorem older_top {n id : Nat} {v : V} (h : v.top id) (ho : v.older n = true) : id < n := by
  cases v <;> first | exact h.elim | skip
  all_goals
    have h : _ = id := h
    subst h
    simpa [V.older] using ho
theorem top_men {v : V} {id : Nat} (h : v.top id) : v.mentions id = true := by
  cases v <;> first | exact h.elim | skip
  all_goals
    have h : _ = id := h
    subst h
    simp [V.mentions]
/-- What an operand leads to at once is older, if the slots that are looked at are. -/
theorem ev_older {E : Env} (hG : GlobOk E.glob) {all : List Oper} {o : Oper} {σ : List V} {n id : Nat} (h : ∀ t ∈ looks all o, (gets σ t).older n = true) {x : Operand} (hx : x ∈ o.op.operands.toList) (ht : (ev E σ x).top id) : id < n := by
  cases x with
  | tmp t =>
    have hl : t ∈ looks all o := by
      have := mem_tmpsOf hx
      unfold looks
      split
      · split
        · exact List.mem_cons_of_mem _ this
        · exact this
      · exact this
    exact older_top (nb_top ht) (h t hl)
  | const v =>
    exfalso
    revert ht
    show (cv v).top id → False
    unfold cv
    split
    · exact fun h => h
    · unfold cvB
      split
      · generalize rng _ _ = b; cases b <;> exact fun h => h
      · generalize rng _ _ = b; cases b <;> exact fun h => h
      · exact fun h => h
      · generalize Nat.ble _ _ = b; cases b <;> exact fun h => h
      all_goals exact fun h => h
  | global g =>
    exfalso
    have e : ev E σ (.global g) = (lk E.glob g).getD .undef := rfl
    rw [e] at ht
    cases hg : lk E.glob g with
    | none => rw [hg] at ht; exact ht
    | some x =>
      rw [hg] at ht
      have h1 := hG g x id hg
      have h2 : x.mentions id = true := top_men ht
      rw [h2] at h1
      cases h1
  | func f => exact ht.elim
theorem least {p : Nat → Prop} (h : ∃ i, p i) : ∃ k, p k ∧ ∀ i, i < k → ¬ p i := by
  obtain ⟨i, hi⟩ := h
  induction i using Nat.strongRecOn with
  | _ i ih =>
    by_cases hx : ∃ m, m < i ∧ p m
    · obtain ⟨m, h1, h2⟩ := hx; exact ih m h1 h2
    · exact ⟨i, hi, fun m hm hp => hx ⟨m, hm, hp⟩⟩
theorem getB_left : ∀ (A X : List Blk) (id : Nat), id < A.length → getB (A ++ X) id = getB A id
  | [], X, id, h => by simp at h
  | a :: A, X, 0, h => rfl
  | a :: A, X, id + 1, h => getB_left A X id (by simpa using h)
theorem lt_of_alive {A : List Blk} {id : Nat} (h : getB A id ≠ .dead) : id < A.length := by
  rcases Nat.lt_or_ge id A.length with g | g
  · exact g
  · exact absurd (getB_ge A id g) h
theorem HLe.app (A X : List Blk) : HLe A (A ++ X) := fun id h => getB_left A X id (lt_of_alive h)
theorem top_lt {c : Cx} {H : List Blk} {w : World} {x : V} {v : Value} {id : Nat} (h : VRel c H w x v) (ht : x.top id) : id < H.length := by
  cases h <;> first | exact ht.elim | skip
  · rename_i hs _ _ _
    have e := ht
    simp only [V.top] at e
    subst e
    exact shape_lt hs
  · rename_i hs _ _ _ _
    have e := ht
    simp only [V.top] at e
    subst e
    exact shape_lt hs
  · rename_i hs _ _ _
    have e := ht
    simp only [V.top] at e
    subst e
    exact shape_lt hs
theorem countP_lt {p q : Nat → Bool} : ∀ (l : List Nat) {j : Nat}, (∀ i, q i = true → p i = true) → j ∈ l → p j = true → q j = false → l.countP q < l.countP p
  | x :: l, j, h, hj, hp, hq => by
    have hle : l.countP q ≤ l.countP p := List.countP_mono_left fun i _ => h i
    rw [List.countP_cons, List.countP_cons]
    by_cases hx : j = x
    · subst hx
      rw [hp, hq]
      simp
      omega
    · have hm : j ∈ l := by rcases List.mem_cons.1 hj with h' | h'; exact absurd h' hx; exact h'
      have := countP_lt l h hm hp hq
      have hc := h x
      cases hqx : q x <;> cases hpx : p x <;> simp [hqx, hpx] at hc ⊢ <;> omega

section
variable {E : Env} {P : Program} {S : Ses} {ro : Option Nat}

theorem Sta.drew {σ : List V} {H : List Blk} {a : Act} {w : World} (h : Sta E S σ H a w) : Sta E S σ H a { w with drawn := w.drawn + 1 } := by
  obtain ⟨c, b, v, hS, hst, hσ, hd⟩ := h
  have e : Ext c H w c H { w with drawn := w.drawn + 1 } := ⟨fun _ h => h, fun _ h => h, fun _ _ => rfl, fun _ _ h => ⟨h, rfl⟩, fun _ _ _ cur _ _ _ h => ⟨cur, h, rfl⟩, rfl, rfl⟩
  refine ⟨c, b, v, hS, ⟨hst.below.drew, ⟨hst.xk.keep, hst.xk.siz, hst.xk.cnt, hst.xk.gh, hst.xk.l, hst.xk.dis, hst.xk.xb, hst.xk.mks, hst.xk.gi⟩, hst.size, fun id => (hst.blk id).keep e (fun _ => rfl) fun _ _ => rfl, hst.inj, hst.own, hst.imm, hst.sub, fun g x hx => (hst.glob g x hx).ext e⟩, hσ.ext e, hd⟩

theorem draw_ok (hG : GlobOk E.glob) (hE : EnvOk P E) (hdet : DetE E) (hm : P.follows .mixedOrders = true) : DrawOk E P := by
  intro ops id Ss ro σ H K a w Q hok hs hops hQ
  obtain ⟨all, hall⟩ : ∃ all, all = ops.toList := ⟨_, rfl⟩
  rw [← hall] at hok hops
  obtain ⟨n, hn⟩ : ∃ n, n = all.length := ⟨_, rfl⟩
  have hstat := pairsJ_ok all 0 (fun k => by rw [Nat.zero_add]) hok
  obtain ⟨n0, hn0⟩ : ∃ n0, n0 = H.length := ⟨_, rfl⟩
  rw [← hn0] at hops
  obtain ⟨S, Hs, hS0, hH0, hKn, hstep⟩ := trace hdet all 0 σ H K (fun k => by rw [Nat.zero_add]) (fun o ho => by
    obtain ⟨i, hi⟩ := List.mem_iff_getElem?.1 ho
    exact (hstat i o (by omega) hi).1) hops
  rw [Nat.zero_add, ← hn] at hKn
  rw [Nat.zero_add, ← hn] at hstep
  have hget : ∀ i : Nat, ops[i]? = all[i]? := fun i => by rw [hall, Array.getElem?_toList]
  have hlt : ∀ {i : Nat} {o : Oper}, all[i]? = some o → i < n := fun h => by rw [hn]; exact (List.getElem?_eq_some_iff.1 h).1
  have hat : ∀ {k : Nat}, k < n → ∃ o, all[k]? = some o := fun {k} h => ⟨_, List.getElem?_eq_getElem (by omega)⟩
  -- what the pairs say
  have hpair : ∀ {i j : Nat} {x y : Oper}, i < j → all[i]? = some x → all[j]? = some y → Bef all i j ∨ Pair E all i x j y := fun {i j x y} hij hx hy =>
    pairOk_ok ((hstat j y (by omega) hy).2.2 i x hij hx)
  have hun : ∀ {i j : Nat} {x y : Oper}, i < j → Pair E all i x j y → unord (masksGo all []) i j = true ∧ unord (masksGo all []) j i = true := fun {i j x y} hij h => by
    have e1 : Nat.blt i j = true := by simpa using hij
    have e2 : Nat.blt j i = false := by
      cases e : Nat.blt j i with
      | false => rfl
      | true => have : j < i := by simpa using e
                omega
    unfold unord
    rw [e1, e2]
    simp only [cond_true, cond_false, h.nb, Bool.not_false, and_self]
  -- what is looked at, beside an operation that appends
  have hF4 : ∀ {w k : Nat} {ow ok : Oper}, all[w]? = some ow → clsX E ow.op = some 4 → all[k]? = some ok → k ≠ w → unord (masksGo all []) k w = true →
      (∀ t ∈ looks all ok, (gets (S w) t).older n0 = true) ∧ (∀ d, ok.dst = some d → (gets (S w) d).older n0 = true) ∧ n0 ≤ (Hs w).length ∧ ∀ id, kidOf E (S w) ow.op = some id → n0 ≤ id ∧ noMen id n0 (Hs w) = true := fun {w k ow ok} how hc hok hkw hu => by
    obtain ⟨c, v, kd, hc', he, hpre, _⟩ := hstep w (by omega) (hlt how) _ how
    unfold preD at hpre
    rw [hc] at hpre
    have hpre : pre4 E all n0 w ow (S w) (Hs w) = true := hpre
    unfold pre4 at hpre
    rw [any4_ok all 0 (j := k) hok (by simpa using hkw) (by simpa using hu)] at hpre
    simp only [Bool.not_true, Bool.false_or, Bool.and_eq_true] at hpre
    obtain ⟨⟨h1, h2⟩, h3⟩ := hpre
    obtain ⟨h4, h5⟩ := par4_ok all 0 (j := k) h1 hok (by simpa using hkw) (by simpa using hu)
    refine ⟨olderT_ok h4, fun d hd => olderT_ok h5 d (dstT_mem hd), ble_ok h2, fun id hid => ?_⟩
    rw [hid] at h3
    simp only [Bool.and_eq_true] at h3
    exact ⟨ble_ok h3.1, h3.2⟩
  have hF01 : ∀ {w k : Nat} {ow ok : Oper}, all[w]? = some ow → clsX E ow.op = some 4 → all[k]? = some ok → (clsX E ok.op = some 0 ∨ clsX E ok.op = some 1) → w ≠ k → unord (masksGo all []) w k = true →
      (∀ t ∈ looks all ok, (gets (S k) t).older n0 = true) ∧ (∀ d, ok.dst = some d → (gets (S k) d).older n0 = true) ∧ (∀ d, ok.dst = some d → (gets (S (k + 1)) d).older n0 = true) := fun {w k ow ok} how hc hok hc01 hkw hu => by
    obtain ⟨c, v, kd, hc', he, hpre, hpost, _⟩ := hstep k (by omega) (hlt hok) _ hok
    have hu4 := un4_ok how hc hkw hu
    have h1 : olderT n0 (S k) (looks all ok) = true ∧ olderT n0 (S k) (dstT ok) = true := by
      unfold preD at hpre
      rcases hc01 with h | h <;> rw [h] at hpre <;> simpa [hu4] using hpre
    have h2 : v.older n0 = true := by
      unfold postD at hpost
      rcases hc01 with h | h <;> rw [h] at hpost <;> simpa [hu4] using hpost
    refine ⟨olderT_ok h1.1, fun d hd => olderT_ok h1.2 d (dstT_mem hd), fun d hd => ?_⟩
    rw [he, hd]
    exact older_put h2
  have hkill : ∀ {w k t : Nat} {ow ok : Oper}, all[w]? = some ow → clsX E ow.op = some 4 → all[k]? = some ok → k ≠ w → unord (masksGo all []) k w = true → (t ∈ looks all ok ∨ ok.dst = some t) → ow.dst ≠ some t → gets (S (w + 1)) t = gets (S w) t := fun {w k t ow ok} how hc hok hkw hu ht hd => by
    obtain ⟨c, v, kd, hc', he, _, _, hT, _⟩ := hstep w (by omega) (hlt how) _ how
    obtain ⟨g1, g2, g3, g4⟩ := hF4 how hc hok hkw hu
    rw [he, gets_putV_ne hd]
    refine killO_same fun id hid => older_nom (g4 id (hT.kid id hid).2).1 _ ?_
    rcases ht with ht | ht
    · exact g1 t ht
    · exact g2 t ht
  have hlook : ∀ {j : Nat} {o : Oper} {t : Nat}, all[j]? = some o → t ∈ looks all o → Cmp all (Writes E all S t) j := fun {j o t} ho ht i ⟨x, hx, hw⟩ => by
    refine ⟨fun hij => ?_, fun hij => ?_⟩
    · rcases hpair hij hx ho with h | h
      · exact h
      · rcases hw with hw | ⟨hw, hne⟩
        · exact absurd ht (h.a1 t hw)
        · exact absurd (hkill hx hw ho (by omega) (hun hij h).2 (.inl ht) fun e => h.a1 t e ht) hne
    · rcases hpair hij ho hx with h | h
      · exact h
      · rcases hw with hw | ⟨hw, hne⟩
        · exact absurd ht (h.a3 t hw)
        · exact absurd (hkill hx hw ho (by omega) (hun hij h).1 (.inl ht) fun e => h.a3 t e ht) hne
  have h44 : ∀ {i j : Nat} {x y : Oper}, Pair E all i x j y → clsX E x.op = some 4 → clsX E y.op = some 4 → False := fun {i j x y} h h1 h2 => by
    rcases h.q with ⟨h', _⟩ | ⟨_, h'⟩ | ⟨h', _⟩
    · exact h' h1
    · rw [h2] at h'; simp at h'
    · rw [h1] at h'; simp at h'
  have hwr : ∀ {j t : Nat}, Writes E all S t j → Cmp all (Writes E all S t) j := fun {j t} hj => by
    obtain ⟨o, ho, hw⟩ := hj
    intro i ⟨x, hx, hwi⟩
    refine ⟨fun hij => ?_, fun hij => ?_⟩
    · rcases hpair hij hx ho with h | h
      · exact h
      · rcases hwi with hwi | ⟨hwi, hni⟩
        · rcases hw with hw | ⟨hw, hne⟩
          · exact absurd hw (h.a2 t hwi)
          · exact absurd (hkill ho hw hx (by omega) (hun hij h).1 (.inr hwi) fun e => h.a2 t hwi e) hne
        · rcases hw with hw | ⟨hw, hne⟩
          · exact absurd (hkill hx hwi ho (by omega) (hun hij h).2 (.inr hw) fun e => h.a2 t e hw) hni
          · exact (h44 h hwi hw).elim
    · rcases hpair hij ho hx with h | h
      · exact h
      · rcases hwi with hwi | ⟨hwi, hni⟩
        · rcases hw with hw | ⟨hw, hne⟩
          · exact absurd hwi (h.a2 t hw)
          · exact absurd (hkill ho hw hx (by omega) (hun hij h).2 (.inr hwi) fun e => h.a2 t e hwi) hne
        · rcases hw with hw | ⟨hw, hne⟩
          · exact absurd (hkill hx hwi ho (by omega) (hun hij h).1 (.inr hw) fun e => h.a2 t hw e) hni
          · exact (h44 h hw hwi).elim
  have hq : ∀ {i : Nat} {x : Oper}, quietB E all i x = true → all[i]? = some x → ¬ Turns E all i := fun {i x} h hx ⟨x', hx', ht⟩ => by
    have : x' = x := Option.some.inj (hx'.symm.trans hx)
    subst this
    rcases ht with ht | ht | ht | ⟨ht, hn⟩
    · simp [quietB, ht] at h
    · simp [quietB, ht] at h
    · simp [quietB, ht] at h
    · simp only [quietB, ht] at h
      exact hn h
  have hT0 : ∀ {i : Nat} {x : Oper}, all[i]? = some x → Turns E all i → clsX E x.op ≠ some 0 ∧ clsX E x.op ≠ some 1 := fun {i x} hx ⟨x', hx', ht⟩ => by
    have : x' = x := Option.some.inj (hx'.symm.trans hx)
    subst this
    rcases ht with ht | ht | ht | ⟨ht, _⟩ <;> rw [ht] <;> simp
  have hR5 : ∀ {i : Nat} {x : Oper}, all[i]? = some x → TurnsR E all i → clsX E x.op ≠ some 5 := fun {i x} hx ⟨x', hx', ht⟩ => by
    have : x' = x := Option.some.inj (hx'.symm.trans hx)
    subst this
    rcases ht with ht | ht | ⟨ht, _⟩ <;> rw [ht] <;> simp
  have hRT : ∀ {i : Nat}, TurnsR E all i → Turns E all i := fun {i} ⟨x, hx, ht⟩ => ⟨x, hx, by
    rcases ht with ht | ht | ht
    · exact .inl ht
    · exact .inr (.inl ht)
    · exact .inr (.inr (.inr ht))⟩
  have h01 : ∀ {x : Oper}, (clsX E x.op = some 0 ∨ clsX E x.op = some 1) → (clsX E x.op ≠ some 0 ∧ clsX E x.op ≠ some 1) → False := fun {x} h h' => by
    rcases h with h | h
    · exact h'.1 h
    · exact h'.2 h
  have hturn : ∀ {j : Nat}, Turns E all j → Cmp all (Turns E all) j := fun {j} hj i hi => by
    obtain ⟨o, ho, _⟩ := _root_.id hj
    obtain ⟨x, hx, _⟩ := _root_.id hi
    have h1 := hT0 ho hj
    have h2 := hT0 hx hi
    refine ⟨fun hij => ?_, fun hij => ?_⟩
    · rcases hpair hij hx ho with h | h
      · exact h
      · rcases h.q with ⟨_, _, h'⟩ | ⟨_, h'⟩ | ⟨h', _⟩
        · rcases h' with h' | h' | h' | h' | h'
          · exact absurd h' h2.1
          · exact absurd h' h1.1
          · exact absurd hi (hq h'.1 hx)
          · exact absurd hi (hq h'.1 hx)
          · exact absurd h'.2 h1.2
        · exact (h01 h' h1).elim
        · exact (h01 h' h2).elim
    · rcases hpair hij ho hx with h | h
      · exact h
      · rcases h.q with ⟨_, _, h'⟩ | ⟨_, h'⟩ | ⟨h', _⟩
        · rcases h' with h' | h' | h' | h' | h'
          · exact absurd h' h1.1
          · exact absurd h' h2.1
          · exact absurd hj (hq h'.1 ho)
          · exact absurd hj (hq h'.1 ho)
          · exact absurd h'.2 h2.2
        · exact (h01 h' h2).elim
        · exact (h01 h' h1).elim
  have hread : ∀ {j : Nat} {o : Oper}, all[j]? = some o → quietB E all j o = true → (clsX E o.op = some 1 → ∀ w x, all[w]? = some x → clsX E x.op = some 4 → w ≠ j → unord (masksGo all []) w j = true → False) → Cmp all (TurnsR E all) j := fun {j o} ho hj hnu i hi => by
    obtain ⟨x, hx, _⟩ := _root_.id hi
    have hi' := hRT hi
    have h2 := hT0 hx hi'
    have h5 := hR5 hx hi
    have hj0 : clsX E o.op ≠ some 0 := fun h => by simp [quietB, h] at hj
    have hj4 : clsX E o.op ≠ some 4 := fun h => by simp [quietB, h] at hj
    have hj5 : clsX E o.op ≠ some 5 := fun h => by simp [quietB, h] at hj
    refine ⟨fun hij => ?_, fun hij => ?_⟩
    · rcases hpair hij hx ho with h | h
      · exact h
      · rcases h.q with ⟨_, _, h'⟩ | ⟨h4, h'⟩ | ⟨_, h4⟩
        · rcases h' with h' | h' | h' | h' | h'
          · exact absurd h' h2.1
          · exact absurd h' hj0
          · exact absurd hi' (hq h'.1 hx)
          · exact absurd hi' (hq h'.1 hx)
          · exact absurd h'.1 h5
        · rcases h' with h' | h'
          · exact absurd h' hj0
          · exact (hnu h' i x hx h4 (by omega) (hun hij h).1).elim
        · exact absurd h4 hj4
    · rcases hpair hij ho hx with h | h
      · exact h
      · rcases h.q with ⟨_, _, h'⟩ | ⟨h4, _⟩ | ⟨h', h4⟩
        · rcases h' with h' | h' | h' | h' | h'
          · exact absurd h' hj0
          · exact absurd h' h2.1
          · exact absurd hi' (hq h'.2 hx)
          · exact absurd h'.2 h5
          · exact absurd h'.1 hj5
        · exact absurd h4 hj4
        · rcases h' with h' | h'
          · exact absurd h' hj0
          · exact (hnu h' i x hx h4 (by omega) (hun hij h).2).elim
  have hcall : ∀ {i j : Nat} {o : Oper}, all[j]? = some o → clsX E o.op = some 2 → i < j → Turns E all i → Bef all i j ∨ ¬ quietB E all j o = true := fun {i j o} ho h2 hij hi => by
    obtain ⟨x, hx, _⟩ := _root_.id hi
    have h3 := hT0 hx hi
    rcases hpair hij hx ho with h | h
    · exact .inl h
    · rcases h.q with ⟨_, _, h'⟩ | ⟨_, h'⟩ | ⟨_, h'⟩
      · rcases h' with h' | h' | h' | h' | h'
        · exact absurd h' h3.1
        · rw [h2] at h'; simp at h'
        · exact absurd hi (hq h'.1 hx)
        · exact absurd hi (hq h'.1 hx)
        · rw [h2] at h'; simp at h'
      · rw [h2] at h'; simp at h'
      · rw [h2] at h'; simp at h'
  -- where nothing is turned, nothing turns
  have hAσ : ∀ t k, k < n → ¬ Writes E all S t k → gets (S (k + 1)) t = gets (S k) t := fun t k hk hw => by
    obtain ⟨o, ho⟩ := hat hk
    obtain ⟨c, v, kd, hc, he, _, _, hT, _⟩ := hstep k (by omega) hk _ ho
    by_cases h4 : c = 4
    · exact Classical.byContradiction fun hne => hw ⟨_, ho, .inr ⟨by rw [hc, h4], hne⟩⟩
    · rw [he, gets_putV_ne fun e => hw ⟨_, ho, .inl e⟩]
      exact killO_same fun id hid => absurd (hT.kid id hid).1 h4
  have hchain : ∀ t a d, a + d ≤ n → (∀ i, a ≤ i → i < a + d → ¬ Writes E all S t i) → gets (S (a + d)) t = gets (S a) t := by
    intro t a d
    induction d with
    | zero => intro _ _; rfl
    | succ d ih =>
      intro h1 h2
      rw [← Nat.add_assoc, hAσ t (a + d) (by omega) (h2 (a + d) (by omega) (by omega))]
      exact ih (by omega) fun i g1 g2 => h2 i g1 (by omega)
  have hAH : ∀ k, k < n → ¬ Turns E all k → Hs (k + 1) = Hs k := fun k hk hw => by
    obtain ⟨o, ho⟩ := hat hk
    obtain ⟨c, v, kd, hc, he, _, hpost, hT, _⟩ := hstep k (by omega) hk _ ho
    have hle := clsX_lt hc
    rcases (by omega : c ≤ 1 ∨ c = 2 ∨ c = 3 ∨ c = 4 ∨ c = 5) with h | h | h | h | h
    · exact hT.h1 h
    · by_cases hn : need E all k = true
      · exact (quiet2 (by rw [hc, h]) hpost (hT.h2 h) hn).1
      · exact absurd ⟨_, ho, .inr (.inr (.inr ⟨by rw [hc, h], hn⟩))⟩ hw
    · exact absurd ⟨_, ho, .inl (by rw [hc, h])⟩ hw
    · exact absurd ⟨_, ho, .inr (.inl (by rw [hc, h]))⟩ hw
    · exact absurd ⟨_, ho, .inr (.inr (.inl (by rw [hc, h])))⟩ hw
  have hA5 : ∀ k, k < n → ¬ TurnsR E all k → ∃ X, Hs (k + 1) = Hs k ++ X := fun k hk hw => by
    by_cases ht : Turns E all k
    · obtain ⟨o, ho, ht⟩ := ht
      obtain ⟨c, v, kd, hc, he, _, _, hT, _⟩ := hstep k (by omega) hk _ ho
      rcases ht with ht | ht | ht | ht
      · exact absurd ⟨o, ho, .inl ht⟩ hw
      · exact absurd ⟨o, ho, .inr (.inl ht)⟩ hw
      · exact hT.h5 (by rw [hc] at ht; simpa using ht)
      · exact absurd ⟨o, ho, .inr (.inr ht)⟩ hw
    · exact ⟨[], by rw [hAH k hk ht, List.append_nil]⟩
  have hext : ∀ a d, a + d ≤ n → (∀ i, a ≤ i → i < a + d → ¬ TurnsR E all i) → ∃ X, Hs (a + d) = Hs a ++ X := by
    intro a d
    induction d with
    | zero => intro _ _; exact ⟨[], by simp⟩
    | succ d ih =>
      intro h1 h2
      obtain ⟨X, hX⟩ := ih (by omega) fun i g1 g2 => h2 i g1 (by omega)
      obtain ⟨Y, hY⟩ := hA5 (a + d) (by omega) (h2 (a + d) (by omega) (by omega))
      exact ⟨X ++ Y, by rw [← Nat.add_assoc, hY, hX, List.append_assoc]⟩
  have hsame : ∀ a d, a + d ≤ n → (∀ i, a ≤ i → i < a + d → ¬ Turns E all i) → Hs (a + d) = Hs a := by
    intro a d
    induction d with
    | zero => intro _ _; rfl
    | succ d ih =>
      intro h1 h2
      rw [← Nat.add_assoc, hAH (a + d) (by omega) (h2 (a + d) (by omega) (by omega))]
      exact ih (by omega) fun i g1 g2 => h2 i g1 (by omega)
  have hAl : ∀ k, k ≤ n → (S k).length = σ.length := by
    intro k
    induction k with
    | zero => intro _; rw [hS0]
    | succ k ih =>
      intro hk
      obtain ⟨o, ho⟩ := hat (show k < n by omega)
      obtain ⟨c, v, kd, hc, he, _⟩ := hstep k (by omega) (by omega) _ ho
      rw [he, putV_length, killO_len, ih (by omega)]
  -- older blocks, beside an operation that only looks
  have hold : ∀ {i j w : Nat} {x o ow : Oper}, all[j]? = some o → clsX E o.op = some 1 → all[i]? = some x → Turns E all i → (i < j → Pair E all i x j o) → (j < i → Pair E all j o i x) → ∀ b, b < n0 → getB (Hs (i + 1)) b = getB (Hs i) b := fun {i j w x o ow} ho hc1 hx hi hp1 hp2 b hb => by
    have hij : i ≠ j := fun e => by
      subst e
      have : x = o := Option.some.inj (hx.symm.trans ho)
      subst this
      exact (hT0 hx hi).2 hc1
    obtain ⟨c, v, kd, hc, he, hpre, _, hT, _⟩ := hstep i (by omega) (hlt hx) _ hx
    have h2 := hT0 hx hi
    have h45 : (clsX E x.op = some 5) ∨ (clsX E x.op = some 4 ∧ unord (masksGo all []) j i = true) := by
      rcases Nat.lt_or_gt_of_ne hij with g | g
      · rcases (hp1 g).q with ⟨_, _, h'⟩ | ⟨h4, _⟩ | ⟨h', _⟩
        · rcases h' with h' | h' | h' | h' | h'
          · exact absurd h' h2.1
          · rw [hc1] at h'; simp at h'
          · exact absurd hi (hq h'.1 hx)
          · exact absurd hi (hq h'.1 hx)
          · exact .inl h'.1
        · exact .inr ⟨h4, (hun g (hp1 g)).2⟩
        · exact (h01 h' h2).elim
      · rcases (hp2 g).q with ⟨_, _, h'⟩ | ⟨h4, _⟩ | ⟨_, h4⟩
        · rcases h' with h' | h' | h' | h' | h'
          · rw [hc1] at h'; simp at h'
          · exact absurd h' h2.1
          · exact absurd hi (hq h'.2 hx)
          · exact .inl h'.2
          · exact absurd h'.2 h2.2
        · rw [hc1] at h4; simp at h4
        · exact .inr ⟨h4, (hun g (hp2 g)).1⟩
    rcases h45 with h5 | ⟨h4, hu⟩
    · obtain ⟨X, hX⟩ := hT.h5 (by rw [hc] at h5; simpa using h5)
      unfold preD at hpre
      rw [h5] at hpre
      have := ble_ok hpre
      rw [hX, getB_left _ _ _ (by omega)]
    · obtain ⟨g1, g2, g3, g4⟩ := hF4 hx h4 ho (fun e => hij e.symm) hu
      exact hT.h4 (by rw [hc] at h4; simpa using h4) n0 g3 (fun id hid => g4 id (hT.kid id hid).2) b hb
  have holds : ∀ a d, a + d ≤ n → (∀ i, a ≤ i → i < a + d → Turns E all i → ∀ b, b < n0 → getB (Hs (i + 1)) b = getB (Hs i) b) → ∀ b, b < n0 → getB (Hs (a + d)) b = getB (Hs a) b := by
    intro a d
    induction d with
    | zero => intro _ _ _ _; rfl
    | succ d ih =>
      intro h1 h2 b hb
      rw [← Nat.add_assoc, ← ih (by omega) (fun i g1 g2 => h2 i g1 (by omega)) b hb]
      by_cases ht : Turns E all (a + d)
      · exact h2 (a + d) (by omega) (by omega) ht b hb
      · rw [hAH (a + d) (by omega) ht]
  -- the walk, in whatever order
  have main : ∀ (fuel : Nat) (listed : Array Bool) (σ' : List V) (H : List Blk) (a : Act) (w : World), listed.size = n → Clo all (fun i => listed.getD i false = true) →
      (List.range n).countP (fun i => !listed.getD i true) ≤ fuel →
      (∀ t, Trk n (fun i => listed.getD i false = true) (Writes E all S t) (fun k => gets (S k) t) (gets σ' t)) →
      Trk n (fun i => listed.getD i false = true) (Turns E all) Hs H →
      σ'.length = σ.length →
      Sta E Ss σ' H a w → wpAnyIn (Fen ro) 0 P .any ops Q fuel listed a w := by
    have hend : ∀ (listed : Array Bool) (σ' : List V) (H : List Blk) (a : Act) (w : World), listed.size = n →
      (∀ t, Trk n (fun i => listed.getD i false = true) (Writes E all S t) (fun k => gets (S k) t) (gets σ' t)) →
      Trk n (fun i => listed.getD i false = true) (Turns E all) Hs H →
      σ'.length = σ.length →
      Sta E Ss σ' H a w → Region.ready .any ops listed = [] → Q .normal a w := by
      intro listed σ' H a w hsz hσ hH hl hs hr
      have hfull : ∀ j, j < n → listed.getD j false = true := by
        intro j
        induction j using Nat.strongRecOn with
        | _ j ih =>
          intro hj
          by_cases h : listed.getD j false = true
          · exact h
          · exfalso
            obtain ⟨o, ho⟩ := hat hj
            have hjs : j < listed.size := by omega
            have : j ∈ Region.ready .any ops listed := by
              rw [mem_ready]
              refine ⟨by simpa [hjs] using h, o, by rw [hget]; exact ho, fun e he hb => ?_⟩
              have := (hstat j _ (by omega) ho).2.1 e he hb
              exact ih e.on this (by omega)
            rw [hr] at this
            cases this
      have hge : ∀ {W : Nat → Prop}, (∀ i, W i → ∃ x, all[i]? = some x) → ∀ i, n ≤ i → W i → ¬ listed.getD i false = true := fun hW i hi hw => by
        obtain ⟨x, hx⟩ := hW i hw
        have := hlt hx
        omega
      have e1 : ∀ t, gets σ' t = gets (S n) t := fun t => hσ t n (Nat.le_refl _) (fun i hi _ => hfull i hi) (hge fun i ⟨x, hx, _⟩ => ⟨x, hx⟩)
      have e2 : H = Hs n := hH n (Nat.le_refl _) (fun i hi _ => hfull i hi) (hge fun i ⟨x, hx, _⟩ => ⟨x, hx⟩)
      have e3 : σ'.length = (S n).length := by rw [hl, hAl n (Nat.le_refl _)]
      have e4 : σ' = S n := gets_ext e3 e1
      subst e2
      rw [e4] at hs
      exact hQ _ _ _ _ hKn hs
    intro fuel
    induction fuel with
    | zero =>
      intro listed σ' H a w hsz hclo hcnt hσ hH hl hs
      have hr : Region.ready .any ops listed = [] := by
        refine List.eq_nil_iff_forall_not_mem.2 fun j hj => ?_
        obtain ⟨h0, o, ho, _⟩ := mem_ready.1 hj
        rw [hget] at ho
        have h1 : (List.range n).countP (fun i => !listed.getD i true) = 0 := by omega
        rw [List.countP_eq_zero] at h1
        have := h1 j (List.mem_range.2 (hlt ho))
        rw [h0] at this
        simp at this
      exact ⟨hr, hend listed σ' H a w hsz hσ hH hl hs hr⟩
    | succ fuel ih =>
      intro listed σ' H a w hsz hclo hcnt hσ hH hl hs
      refine ⟨hend listed σ' H a w hsz hσ hH hl hs, fun j hj => ?_⟩
      obtain ⟨h0, o, ho, hwait⟩ := mem_ready.1 hj
      have ho' := ho
      rw [hget] at ho
      have hjn := hlt ho
      have hjs : j < listed.size := by omega
      have hnot : ¬ listed.getD j false = true := by simp [hjs] at h0 ⊢; exact h0
      have hset : ∀ i, (listed.setIfInBounds j true).getD i false = true ↔ (listed.getD i false = true ∨ i = j) := fun i => by
        by_cases hij : j = i
        · subst hij; simp [hjs]
        · rw [getD_set_ne false hij]
          constructor
          · exact .inl
          · rintro (h | h)
            · exact h
            · exact absurd h.symm hij
      have hclo' : Clo all fun i => listed.getD i false = true ∨ i = j := by
        intro k ok hk hL e he hb
        rcases hL with hL | hL
        · exact .inl (hclo k ok hk hL e he hb)
        · subst hL
          have : ok = o := Option.some.inj (hk.symm.trans ho)
          subst this
          exact .inl (hwait e he hb)
      have hfun : (fun i => (listed.setIfInBounds j true).getD i false = true) = fun i => listed.getD i false = true ∨ i = j := funext fun i => propext (hset i)
      obtain ⟨c, v, kd, hc, heS, hpre, hpost, hT, hrun⟩ := hstep j (by omega) hjn o ho
      have hlenj : σ'.length = (S j).length := by rw [hl, hAl j (by omega)]
      have hσj : ∀ t ∈ looks all o, gets σ' t = gets (S j) t := fun t ht => (hσ t).read (hlook ho ht) (by omega) hclo hclo' hnot
      -- what is before, in the order, is done
      have hbef : ∀ {i : Nat}, i < j → ¬ listed.getD i false = true → ¬ Bef all i j := fun hij hnl hb => by
        rcases hb _ hclo' (.inr rfl) with g | g
        · exact hnl g
        · omega
      have haft : ∀ {i : Nat}, listed.getD i false = true → ¬ Bef all j i := fun hL hb => hnot (hb _ hclo hL)
      have hqt : ∀ {q : Prop}, q = (c ≤ 1 ∨ (c = 2 ∧ need E all j = true)) → (q ↔ ¬ Turns E all j) := fun {q} hq' => by
        subst hq'
        have hle := clsX_lt hc
        constructor
        · rintro h ⟨o2, ho2, ht⟩
          have : o2 = o := Option.some.inj (ho2.symm.trans ho)
          subst this
          rw [hc] at ht
          rcases ht with ht | ht | ht | ⟨ht, hn⟩ <;> simp only [Option.some.injEq] at ht
          · omega
          · omega
          · omega
          · rcases h with h | h
            · omega
            · exact hn h.2
        · intro h
          rcases (by omega : c ≤ 1 ∨ c = 2 ∨ c = 3 ∨ c = 4 ∨ c = 5) with h' | h' | h' | h' | h'
          · exact .inl h'
          · by_cases hn : need E all j = true
            · exact .inr ⟨h', hn⟩
            · exact absurd ⟨o, ho, .inr (.inr (.inr ⟨by rw [hc, h'], hn⟩))⟩ h
          · exact absurd ⟨o, ho, .inl (by rw [hc, h'])⟩ h
          · exact absurd ⟨o, ho, .inr (.inl (by rw [hc, h']))⟩ h
          · exact absurd ⟨o, ho, .inr (.inr (.inl (by rw [hc, h'])))⟩ h
      have hHj : Turns E all j → H = Hs j := fun ht => hH.read (hturn ht) (by omega) hclo hclo' hnot
      -- how far a part of the state has come
      have hfar : ∀ (W : Nat → Prop), (∀ i, W i → ∃ x, all[i]? = some x) → (∀ {i}, W i → Cmp all W i) → ∃ k, k ≤ n ∧ (∀ i, k ≤ i → W i → ¬ listed.getD i false = true) ∧ ∀ i, i < k → W i → listed.getD i false = true := fun W hW hC => by
        by_cases hx : ∃ i, W i ∧ ¬ listed.getD i false = true
        · obtain ⟨k, ⟨h1, h2⟩, h3⟩ := least hx
          obtain ⟨x, hx'⟩ := hW k h1
          have hkn := hlt hx'
          have ha : ∀ i, i < k → W i → listed.getD i false = true := fun i hi ht => Classical.byContradiction fun hnl => h3 i hi ⟨ht, hnl⟩
          have hb : ∀ i, k ≤ i → W i → ¬ listed.getD i false = true := fun i hi ht hL => by
            rcases Nat.lt_or_ge k i with g | g
            · exact h2 ((hC ht k h1).1 g _ hclo hL)
            · have : i = k := by omega
              subst this
              exact h2 hL
          exact ⟨k, by omega, hb, ha⟩
        · have ha : ∀ i, i < n → W i → listed.getD i false = true := fun i hi ht => Classical.byContradiction fun hnl => hx ⟨i, ht, hnl⟩
          have hb : ∀ i, n ≤ i → W i → ¬ listed.getD i false = true := fun i hi ht => by
            obtain ⟨x, hx'⟩ := hW i ht
            have := hlt hx'
            omega
          exact ⟨n, Nat.le_refl _, hb, ha⟩
      -- the blocks as they are
      obtain ⟨k, hkn, hkb, hka⟩ := hfar (Turns E all) (fun i ⟨x, hx, _⟩ => ⟨x, hx⟩) hturn
      have hHk : H = Hs k := hH k hkn hka hkb
      have hrel : quietB E all j o = true → (clsX E o.op = some 1 → ∀ w x, all[w]? = some x → clsX E x.op = some 4 → w ≠ j → unord (masksGo all []) w j = true → False) → (k ≤ j ∧ ∃ X, Hs j = H ++ X) ∨ (∃ X, H = Hs j ++ X) := fun hqj hnu => by
        rcases Nat.lt_or_ge j k with hlt' | hge'
        · refine .inr ?_
          obtain ⟨X, hX⟩ := hext j (k - j) (by omega) fun i h1 h2 hR => by
            rcases Nat.lt_or_ge j i with g | g
            · exact hnot (((hread ho hqj hnu i hR).2 g) _ hclo (hka i (by omega) (hRT hR)))
            · have : i = j := by omega
              subst this
              exact hq hqj ho (hRT hR)
          exact ⟨X, by rw [hHk, ← hX]; congr 1; omega⟩
        · refine .inl ⟨hge', ?_⟩
          obtain ⟨X, hX⟩ := hext k (j - k) (by omega) fun i h1 h2 hR => by
            rcases ((hread ho hqj hnu i hR).1 (by omega)) _ hclo' (.inr rfl) with g | g
            · exact hkb i h1 (hRT hR) g
            · omega
          exact ⟨X, by rw [hHk, ← hX]; congr 1; omega⟩
      have hq1 : c = 1 → quietB E all j o = true := fun h => by unfold quietB; rw [hc, h]; rfl
      have hq2 : c = 2 → need E all j = true → quietB E all j o = true := fun h hn => by unfold quietB; rw [hc, h]; exact hn
      obtain ⟨H3, hH3a, hH3b⟩ : ∃ H3, ((c ≤ 1 ∨ (c = 2 ∧ need E all j = true)) → H3 = H) ∧ (¬ (c ≤ 1 ∨ (c = 2 ∧ need E all j = true)) → H3 = Hs (j + 1)) := by
        by_cases h : c ≤ 1 ∨ (c = 2 ∧ need E all j = true)
        · exact ⟨H, fun _ => rfl, fun h' => absurd h h'⟩
        · exact ⟨Hs (j + 1), fun h' => absurd h' h, fun _ => rfl⟩
      obtain ⟨cc, b0, v0, hS0', hst0, hσ0, hd0⟩ := _root_.id hs
      have hel : Else E o.op c (need E all j = true) (S j) (Hs j) (Hs (j + 1)) H H3 := by
        by_cases hquiet : c ≤ 1 ∨ (c = 2 ∧ need E all j = true)
        · have e3 := hH3a hquiet
          have h3 : c = 0 ∨ c = 1 ∨ (c = 2 ∧ need E all j = true) := by
            rcases hquiet with h | h
            · omega
            · exact .inr (.inr h)
          rcases h3 with h | h | ⟨h, hn⟩
          · exact .inr (.inl ⟨h, e3⟩)
          · by_cases hu4 : ∃ w x, all[w]? = some x ∧ clsX E x.op = some 4 ∧ w ≠ j ∧ unord (masksGo all []) w j = true
            · obtain ⟨w', x', hw1, hw2, hw3, hw4⟩ := hu4
              have hc1 : clsX E o.op = some 1 := by rw [hc, h]
              obtain ⟨g1, _, _⟩ := hF01 hw1 hw2 ho (.inr hc1) hw3 hw4
              refine .inr (.inr (.inl ⟨h, fun x hx id ht hd => ?_, e3⟩))
              have hid := ev_older hG g1 hx ht
              rw [hHk]
              rcases Nat.lt_or_ge j k with hlt' | hge'
              · have := holds j (k - j) (by omega) (fun i h1 h2 hi => by
                  obtain ⟨y, hy, _⟩ := _root_.id hi
                  refine hold (w := w') (ow := x') ho hc1 hy hi (fun g => by omega) (fun g => ?_)
                  rcases hpair g ho hy with hb | hb
                  · exact absurd hb (haft (hka i (by omega) hi))
                  · exact hb) id hid
                rwa [show j + (k - j) = k by omega] at this
              · have := holds k (j - k) (by omega) (fun i h1 h2 hi => by
                  obtain ⟨y, hy, _⟩ := _root_.id hi
                  refine hold (w := w') (ow := x') ho hc1 hy hi (fun g => ?_) (fun g => by omega)
                  rcases hpair g hy ho with hb | hb
                  · exact absurd hb (hbef g (hkb i h1 hi))
                  · exact hb) id hid
                rw [show k + (j - k) = j by omega] at this
                exact this.symm
            · refine .inr (.inr (.inl ⟨h, fun x hx id ht hd => ?_, e3⟩))
              rcases hrel (hq1 h) (fun _ w' x' g1 g2 g3 g4 => hu4 ⟨w', x', g1, g2, g3, g4⟩) with ⟨_, X, hX⟩ | ⟨X, hX⟩
              · have hag : Agree E o.op (S j) σ' := Agree.of hσj
                have hev : ev E σ' x = ev E (S j) x := ev_of_evr (hag x hx)
                have hr := ev_ok hst0 hσ0 x
                rw [hev] at hr
                rw [hX, getB_left H X id (top_lt hr ht)]
              · rw [hX]
                exact getB_left _ X id (lt_of_alive hd)
          · refine .inr (.inr (.inr ⟨h, hn, ?_, e3⟩))
            rcases hrel (hq2 h hn) (fun h' => by rw [hc, h] at h'; simp at h') with ⟨hkj, _⟩ | ⟨X, hX⟩
            · have e : Hs (k + (j - k)) = Hs k := hsame k (j - k) (by omega) fun i h1 h2 ht => by
                rcases hcall ho (by rw [hc, h]) (by omega : i < j) ht with hb | hb
                · exact hbef (by omega) (hkb i h1 ht) hb
                · exact hb (hq2 h hn)
              rw [show k + (j - k) = j by omega] at e
              rw [hHk, e]
              exact fun _ _ => rfl
            · rw [hX]; exact .app _ _
        · have ht : Turns E all j := Classical.byContradiction fun hn => hquiet ((hqt rfl).2 hn)
          exact .inl ⟨hHj ht, fun _ => hH3b hquiet, fun h => absurd (.inl h) hquiet⟩
      -- what is killed
      have hkeep : ∀ t, ¬ Writes E all S t j → gets (killO kd σ') t = gets σ' t := fun t hw => by
        have hdt : o.dst ≠ some t := fun e => hw ⟨o, ho, .inl e⟩
        by_cases h4 : c = 4
        · have hc4 : clsX E o.op = some 4 := by rw [hc, h4]
          have heq : gets σ' t = gets (S j) t → gets (killO kd σ') t = gets σ' t := fun e => by
            have := hAσ t j hjn hw
            rw [heS, gets_putV_ne hdt] at this
            rw [killO_congr e, this, e]
          have holder : ∀ {i : Nat} {x : Oper}, all[i]? = some x → i ≠ j → unord (masksGo all []) i j = true → (gets σ' t).older n0 = true → gets (killO kd σ') t = gets σ' t := fun hx hne hu ho2 => by
            obtain ⟨_, _, _, g4⟩ := hF4 ho hc4 hx hne hu
            exact killO_same fun id hid => older_nom (g4 id (hT.kid id hid).2).1 _ ho2
          obtain ⟨u, hun', hub, hua⟩ := hfar (Writes E all S t) (fun i ⟨x, hx, _⟩ => ⟨x, hx⟩) hwr
          have hcur : gets σ' t = gets (S u) t := hσ t u hun' hua hub
          have hw01 : ∀ {i : Nat} {x : Oper}, all[i]? = some x → Writes E all S t i → (clsX E x.op = some 0 ∨ clsX E x.op = some 1) → x.dst = some t := fun hx ⟨x', hx', hw'⟩ h' => by
            have : x' = _ := Option.some.inj (hx'.symm.trans hx)
            subst this
            rcases hw' with hw' | ⟨hw', _⟩
            · exact hw'
            · rw [hw'] at h'; simp at h'
          rcases Nat.lt_or_ge j u with hju | huj
          · by_cases hx : ∃ i, j < i ∧ i < u ∧ Writes E all S t i
            · obtain ⟨i, g1, g2, g3, g5⟩ := greatest u hx
              obtain ⟨x, hx', _⟩ := _root_.id g3
              rcases hpair g1 ho hx' with hb | hb
              · exact absurd hb (haft (hua i g2 g3))
              · have h01' : clsX E x.op = some 0 ∨ clsX E x.op = some 1 := by
                  rcases hb.q with ⟨h', _⟩ | ⟨_, h'⟩ | ⟨h', _⟩
                  · exact absurd hc4 h'
                  · exact h'
                  · rw [hc4] at h'; simp at h'
                refine holder hx' (by omega) (hun g1 hb).2 ?_
                have hch := hchain t (i + 1) (u - (i + 1)) (by omega) fun m a1 a2 => g5 m (by omega) (by omega)
                rw [show i + 1 + (u - (i + 1)) = u by omega] at hch
                rw [hcur, hch]
                exact (hF01 ho hc4 hx' h01' (by omega) (hun g1 hb).1).2.2 t (hw01 hx' g3 h01')
            · refine heq ?_
              have hch := hchain t (j + 1) (u - (j + 1)) (by omega) fun m a1 a2 hm => hx ⟨m, by omega, by omega, hm⟩
              rw [show j + 1 + (u - (j + 1)) = u by omega] at hch
              rw [hcur, hch, hAσ t j hjn hw]
          · by_cases hx : ∃ i, Writes E all S t i ∧ u ≤ i ∧ i < j
            · obtain ⟨i, ⟨g3, g1, g2⟩, g5⟩ := least hx
              obtain ⟨x, hx', _⟩ := _root_.id g3
              rcases hpair g2 hx' ho with hb | hb
              · exact absurd hb (hbef g2 (hub i g1 g3))
              · have h01' : clsX E x.op = some 0 ∨ clsX E x.op = some 1 := by
                  rcases hb.q with ⟨_, h', _⟩ | ⟨_, h'⟩ | ⟨h', _⟩
                  · exact absurd hc4 h'
                  · rw [hc4] at h'; simp at h'
                  · exact h'
                refine holder hx' (by omega) (hun g2 hb).1 ?_
                have hch := hchain t u (i - u) (by omega) fun m a1 a2 hm => g5 m (by omega) ⟨hm, by omega, by omega⟩
                rw [show u + (i - u) = i by omega] at hch
                rw [hcur, ← hch]
                exact (hF01 ho hc4 hx' h01' (by omega) (hun g2 hb).2).2.1 t (hw01 hx' g3 h01')
            · refine heq ?_
              have hch := hchain t u (j - u) (by omega) fun m a1 a2 hm => hx ⟨m, hm, by omega, by omega⟩
              rw [show u + (j - u) = j by omega] at hch
              rw [hcur, hch]
        · exact killO_same fun id hid => absurd (hT.kid id hid).1 h4
      have hat' := hrun σ' H H3 (fun σ2 H' => σ2 = putV (killO kd σ') o.dst v ∧ H' = H3) hσj hel ⟨rfl, rfl⟩
      have hnext : ∀ σ2 H' a' w', (σ2 = putV (killO kd σ') o.dst v ∧ H' = H3) → Sta E Ss σ2 H' a' w' → wpAnyIn (Fen ro) 0 P .any ops Q fuel (listed.setIfInBounds j true) a' w' := by
        rintro σ2 H' a' w' ⟨eσ, eH⟩ hs'
        refine ih (listed.setIfInBounds j true) σ2 H' a' w' (by simp [hsz]) (by rw [hfun]; exact hclo') ?_ ?_ ?_ ?_ hs'
        · have := countP_lt (p := fun i => !listed.getD i true) (q := fun i => !(listed.setIfInBounds j true).getD i true) (List.range n) (j := j) (fun i hi => by
            by_cases hij : j = i
            · subst hij; simp [hjs] at hi
            · rw [getD_set_ne true hij] at hi; exact hi) (List.mem_range.2 hjn) (by simp [h0]) (by simp [hjs])
          omega
        · intro t
          rw [hfun]
          refine (hσ t).step hjn hclo hnot (hAσ t) (fun hw => ?_) (fun hw => ?_) fun hw => hwr hw
          · rw [eσ, gets_putV_ne fun e => hw ⟨o, ho, .inl e⟩]
            exact hkeep t hw
          · rw [eσ, heS]
            exact gets_putV_eq (by rw [killO_len, killO_len, hlenj]) (killO_congr ((hσ t).read (hwr hw) (by omega) hclo hclo' hnot))
        · rw [hfun]
          refine hH.step hjn hclo hnot hAH (fun hw => ?_) (fun hw => ?_) hturn
          · rw [eH]; exact hH3a ((hqt rfl).2 hw)
          · rw [eH]; exact hH3b fun h => (hqt rfl).1 h hw
        · rw [eσ, putV_length, killO_len, hl]
      have := aopAt_ok (ro := ro) (all := ops) (Q := Q) hG hE hs (hall ▸ hat') hnext
      unfold wpOpIn
      rw [ho']
      exact this
  refine wpIn_region_any hm ?_
  have hsz : ops.size = n := by simp [hn, hall]
  have hno : ∀ i, ¬ (Array.replicate ops.size false).getD i false = true := fun i => by
    rcases Nat.lt_or_ge i ops.size with h | h
    · simp [h]
    · simp [h]
  refine main ops.size _ σ H a _ (by simp [hsz]) (fun j o _ hL => absurd hL (hno j)) ?_ (fun t k hk h1 _ => ?_) (fun k hk h1 _ => ?_) rfl hs.drew
  · refine Nat.le_trans (List.countP_le_length) (by simp [hsz])
  · have : ∀ m, m ≤ k → gets (S m) t = gets (S 0) t := by
      intro m
      induction m with
      | zero => intro _; rfl
      | succ m ih => intro hm; rw [hAσ t m (by omega) fun hw => hno m (h1 m (by omega) hw), ih (by omega)]
    show gets σ t = gets (S k) t
    rw [this k (Nat.le_refl _), hS0]
  · have : ∀ m, m ≤ k → Hs m = Hs 0 := by
      intro m
      induction m with
      | zero => intro _; rfl
      | succ m ih => intro hm; rw [hAH m (by omega) fun hw => hno m (h1 m (by omega) hw), ih (by omega)]
    rw [this k (Nat.le_refl _), hH0]
end
end Go.Proofs.Ytgljcfnplkcfhaa.Vc

namespace Go.Proofs.Ytgljcfnplkcfhaa.Vc
open Go Go.RowKit

section
variable {c c' : Cx} {H H' : List Blk} {w : World}
mutual
theorem VRel.wk (hM : ∀ g, c.M g → c'.M g) (hN : ∀ g, c.N g → c'.N g) (hk : c'.x.k = c.x.k) (hl : c'.x.l = c.x.l) (hs : ∀ id s, shape H id = some s → shape H' id = some s ∧ c'.ρ id = c.ρ id) :
    ∀ {x : V} {v : Value}, VRel c H w x v → VRel c' H' w x v
  | _, _, .undef v => .undef v
  | _, _, .int k n h1 h2 => .int k n h1 h2
  | _, _, .u8 x => .u8 x
  | _, _, .b p x h => .b p x h
  | _, _, .bt x => .bt x
  | _, _, .nope => .nope
  | _, _, .str s h => .str s h
  | _, _, .nils => .nils
  | _, _, .sl fr t xs v h => .sl fr t xs v (DRel.ext (by cases fr; exact hM; exact hN) (fun _ _ => rfl) _ _ _ h)
  | _, _, .own t id n a cap h1 hn hc ho => .own t id n a cap (hs id _ h1).1 hn hc (ho.imp (fun h => h) fun ⟨g, e, cur, h2, h3⟩ => ⟨g, e, cur, (by rw [(hs id _ h1).2]; exact h2), h3⟩)
  | _, _, .slc t id off n m a cap h1 hm hn hc ho => .slc t id off n m a cap (hs id _ h1).1 hm hn hc (ho.imp (fun h => h) fun ⟨g, e, cur, h2, h3⟩ => ⟨g, e, cur, (by rw [(hs id _ h1).2]; exact h2), h3⟩)
  | _, _, .rp fr t x o g p es h1 hd hc =>
    have hm : ∀ g, c.im fr g → c'.im fr g := by cases fr; exact hM; exact hN
    .rp fr t x o g p es (hm g h1) (DRel.ext hm (fun _ _ => rfl) _ _ _ hd) hc
  | _, _, .ptr id z i o g m h1 hr hi ho => .ptr id z i o g m (hs id _ h1).1 (by rw [(hs id _ h1).2]; exact hr) hi ho
  | _, _, .agg cs vs h => .agg _ vs (VRels.wk hM hN hk hl hs h)
  | _, _, .tup cs vs h => .tup _ vs (VRels.wk hM hN hk hl hs h)
  | _, _, .fn f cs vs h => .fn f _ vs (VRels.wk hM hN hk hl hs h)
  | _, _, .nilfn => .nilfn
  | _, _, .yld k h => by
    have := VRel.yld (c := c') (H := H') (w := w) k (by rw [hk]; exact h)
    rwa [hl] at this
  | _, _, .dat fr t x es h => .dat fr t x es (DRel.ext (M := c.im fr) (by cases fr; exact hM; exact hN) (fun _ _ => rfl) _ _ _ h)
theorem VRels.wk (hM : ∀ g, c.M g → c'.M g) (hN : ∀ g, c.N g → c'.N g) (hk : c'.x.k = c.x.k) (hl : c'.x.l = c.x.l) (hs : ∀ id s, shape H id = some s → shape H' id = some s ∧ c'.ρ id = c.ρ id) :
    ∀ {xs : List V} {vs : List Value}, VRels c H w xs vs → VRels c' H' w xs vs
  | _, _, .nil => .nil
  | _, _, .cons x v xs vs h hx => .cons _ v _ vs (VRel.wk hM hN hk hl hs h) (VRels.wk hM hN hk hl hs hx)
end
end

section
variable {G : List (Nat × V)} {b : Nat} {v v' : W0} {c : Cx} {H : List Blk} {w : World}

theorem St.other (h : St G b v c H w) (hbel : Below b v'.w w) (hxk : Xk b v' c w) : St G b v' c H w := { h with below := hbel, xk := hxk }

/-- The blocks, with more that is read, and another list in view. -/
theorem BOk.wk {c' : Cx} {H' : List Blk} (hM : ∀ g, c.M g → c'.M g) (hN : ∀ g, c.N g → c'.N g) (hρ : c'.ρ = c.ρ) (hk : c'.x.k = c.x.k) (hl : c'.x.l = c.x.l) (hs : ∀ id s, shape H id = some s → shape H' id = some s) (hgi : c.gi = none) {id : Nat} {k : Blk}
    (h : BOk c H w id k) : BOk c' H' w id k := by
  cases k with
  | dead => trivial
  | row fr t xs =>
    rcases h with ⟨h1, h2⟩ | ⟨g, e, cur, h1, h2, h3, h4⟩
    · exact .inl ⟨by rw [hρ]; exact h1, h2⟩
    · refine .inr ⟨g, e, cur, by rw [hρ]; exact h1, h2, h3, fun i x hi => ?_⟩
      obtain ⟨es, e1, e2⟩ := h4 i x hi
      exact ⟨es, DRel.ext (M := c.im fr) (by cases fr; exact hM; exact hN) (fun _ _ => rfl) _ _ _ e1, e2⟩
  | cells cs =>
    rcases h with ⟨g, e, cur, h1, h2, h3, h4⟩ | ⟨h1, _⟩
    · refine .inl ⟨g, e, cur, by rw [hρ]; exact h1, h2, h3, fun j hj => ?_⟩
      obtain ⟨u, h5, h6, h7⟩ := h4 j hj
      exact ⟨u, h5, h6, h7.wk hM hN hk hl fun id s h => ⟨hs id s h, by rw [hρ]⟩⟩
    · rw [hgi] at h1; cases h1

def Cx.opn (c : Cx) (U : Nat → Prop) (gh : List Value) (n : Nat) : Cx := ⟨fun g => c.M g ∨ U g, c.N, c.ρ, ⟨gh, c.x.k, c.x.l⟩, some n⟩
def Cx.sht (c : Cx) (gh : List Value) : Cx := ⟨c.M, c.N, c.ρ, ⟨gh, c.x.k, c.x.l⟩, c.gi⟩

/-- In view of another activation. -/
theorem St.open (h : St G b v c H w) (hgi : c.gi = none) {U : Nat → Prop} (hU : ∀ g, U g → g < w.heap.size ∧ ∀ i, c.ρ i ≠ some g) {cs : List V} {gh : List Value} (hcs : VRels c H w cs gh)
    (hbel : Below b v'.w w) (hxk : Xk b v' (c.opn U gh H.length) w) :
    St G b v' (c.opn U gh H.length) (H ++ [.cells cs]) w where
  below := hbel
  xk := hxk
  size := h.size
  blk id := by
    rw [getB_append]
    split
    · rename_i hid
      subst hid
      exact .inr ⟨rfl, h.rho_none, hcs.wk (c' := c.opn U gh H.length) (fun g hg => .inl hg) (fun g hg => hg) rfl rfl fun id s hs => ⟨shape_append hs, rfl⟩⟩
    · exact (h.blk id).wk (c' := c.opn U gh H.length) (fun g hg => .inl hg) (fun g hg => hg) rfl rfl rfl (fun id s hs => shape_append hs) hgi
  inj := h.inj
  own i g hi := by
    obtain ⟨h1, h2, h3, h4⟩ := h.own i g hi
    exact ⟨h1, h2, fun hm => hm.elim h3 fun hu => (hU g hu).2 i hi, by simp; omega⟩
  imm g hg := hg.elim (h.imm g) fun hu => (hU g hu).1
  sub g hg := ⟨.inl (h.sub g hg).1, (h.sub g hg).2⟩
  glob g x hx := (h.glob g x hx).wk (c' := c.opn U gh H.length) (fun g hg => .inl hg) (fun g hg => hg) rfl rfl fun id s hs => ⟨shape_append hs, rfl⟩

/-- No more in view of it. -/
theorem St.shut (h : St G b v c H w) (hgi : c.gi = none) {gh : List Value} (hbel : Below b v'.w w) (hxk : Xk b v' (c.sht gh) w) : St G b v' (c.sht gh) H w where
  below := hbel
  xk := hxk
  size := h.size
  blk id := (h.blk id).wk (c := c) (c' := c.sht gh) (fun g hg => hg) (fun g hg => hg) rfl rfl rfl (fun id s hs => hs) hgi
  inj := h.inj
  own := h.own
  imm := h.imm
  sub := h.sub
  glob g x hx := (h.glob g x hx).wk (c := c) (c' := c.sht gh) (fun g hg => hg) (fun g hg => hg) rfl rfl fun id s hs => ⟨hs, rfl⟩

theorem St.ext_put (h : St G b v c H w) {g : Nat} (hX : v.X g) (ob : Obj) : Ext c H w c H (w.putObj g ob) where
  M g hg := hg
  N g hg := hg
  mem k hk := World.putObj_heap_other fun e => by
    subst e
    exact h.xk.dis k (hk.elim (fun h => h) fun hn => (h.sub k hn).1) hX
  shp id s hs := ⟨hs, rfl⟩
  siz id s k cur e _ hr hk := ⟨cur, (World.putObj_heap_other fun e => by subst e; exact (h.xk.xb k hX).2 id hr).trans hk, rfl⟩
  x := rfl
  gi := rfl

/-- A block that is nobody's data is turned. -/
theorem St.put (h : St G b v c H w) {g : Nat} (hX : v.X g) (hb : b ≤ g) (ob : Obj) (hbel : v'.w = v.w) (hxk : Xk b v' c (w.putObj g ob)) : St G b v' c H (w.putObj g ob) where
  below := by
    rw [hbel]
    refine h.below.trans ⟨rfl, rfl, rfl, by simp, fun k hk => World.putObj_heap_other (by omega)⟩
  xk := hxk
  size := by simpa using h.size
  blk id := BOk.keep (h.ext_put hX ob) (fun _ => rfl) (fun k hk => World.putObj_heap_other fun e => by subst e; exact (h.xk.xb k hX).2 id hk) (h.blk id)
  inj := h.inj
  own i k hi := by simpa using h.own i k hi
  imm k hk := by simpa using h.imm k hk
  sub := h.sub
  glob k x hx := (h.glob k x hx).ext (h.ext_put hX ob)

theorem Xk.put (h : Xk b v c w) {g : Nat} {o : Obj} (hX : v.X g) (ho : v.D g = some o) (hnc : o.isCells = false) (ob : Obj) {D : Nat → Option Obj} {mks : Nat → Prop} (hD : ∀ k x, D k = some x → (k = g ∧ x = ob) ∨ (k ≠ g ∧ v.D k = some x)) (hm : ∀ k, mks k → v.mks k ∧ k ≠ g ∧ D k = v.D k) :
    Xk b { v with D := D, mks := mks } c (w.putObj g ob) where
  keep k x hk := by
    have hg := (h.xb g hX).1
    rcases hD k x hk with ⟨rfl, rfl⟩ | ⟨hne, hk⟩
    · exact ⟨World.putObj_heap_same hg, (h.keep _ _ ho).2⟩
    · exact ⟨(World.putObj_heap_other hne).trans (h.keep k x hk).1, (h.keep k x hk).2⟩
  siz k n hz := by
    obtain ⟨cur, e, h1, h2⟩ := h.siz k n hz
    have hne : k ≠ g := fun e => by
      subst e
      rw [(h.keep _ _ ho).1] at h1
      cases h1
      cases hnc
    exact ⟨cur, e, (World.putObj_heap_other hne).trans h1, h2⟩
  cnt := h.cnt
  gh := h.gh
  l := h.l
  dis := h.dis
  xb k hk := by simpa using h.xb k hk
  mks k hk := by
    obtain ⟨h1, h2, h3⟩ := hm k hk
    obtain ⟨h4, h5, h6⟩ := h.mks k h1
    exact ⟨h4, h5, h3.trans h6⟩
  gi := h.gi

theorem Xk.less (h : Xk b v c w) {D : Nat → Option Obj} {Z : Nat → Option Nat} {X mks : Nat → Prop} (hD : ∀ k x, D k = some x → v.D k = some x) (hZ : ∀ k n, Z k = some n → v.Z k = some n) (hX : ∀ k, X k → v.X k) (hm : ∀ k, mks k → v.mks k ∧ X k ∧ D k = v.D k)
    (hJ : v.J c.x.k X v.w) : Xk b { v with D := D, Z := Z, X := X, mks := mks } c w where
  keep k x hk := h.keep k x (hD k x hk)
  siz k n hz := h.siz k n (hZ k n hz)
  cnt := hJ
  gh := h.gh
  l := h.l
  dis k hk hx := h.dis k hk (hX k hx)
  xb k hk := h.xb k (hX k hk)
  mks k hk := by
    obtain ⟨h1, h2, h3⟩ := hm k hk
    obtain ⟨h4, h5, h6⟩ := h.mks k h1
    exact ⟨h4, h2, h3.trans h6⟩
  gi := h.gi
end
end Go.Proofs.Ytgljcfnplkcfhaa.Vc

namespace Go.Proofs.Ytgljcfnplkcfhaa.Vc
open Go Go.RowKit

section
variable {G : List (Nat × V)} {base : Nat} {w0 : W0} {c : Cx} {H : List Blk} {w : World}

/-- A block is given up. -/
theorem St.frzC (hG : GlobOk G) (h : St G base w0 c H w) {id : Nat} (hlt : id < H.length) : St G base w0 (c.frz id) (setB (frzH id .undef H) id .dead) w where
  below := h.below
  xk := h.xk.step rfl (fun h => h) (fun g hg => hg.imp (fun h => h) fun hr => .inl ⟨id, hr⟩) (fun i g hi => by
    simp only [Cx.frz] at hi
    split at hi
    · cases hi
    · exact .inl ⟨i, hi⟩) (fun g o ho => .inl ho)
  size := h.size
  blk j := by
    by_cases hj : j = id
    · subst hj
      have hl : j < (frzH j .undef H).length := by rw [length_frzH]; exact hlt
      rw [getB_setB, if_pos ⟨rfl, hl⟩]; trivial
    · rw [getB_setB, if_neg (by simp [hj]), getB_frzH]
      have hbk := h.blk j
      generalize getB H j = b at hbk
      cases b with
      | dead => trivial
      | row fr' t' xs' =>
        rcases hbk with ⟨h1, h2⟩ | ⟨g, e, cur, h1, h2, h3, h4⟩
        · exact .inl ⟨by simp [Cx.frz, hj, h1], h2⟩
        · refine .inr ⟨g, e, cur, by simp [Cx.frz, hj, h1], h2, h3, fun i x hi => ?_⟩
          obtain ⟨es, e1, e2⟩ := h4 i x hi
          exact ⟨es, e1.frz, e2⟩
      | cells cs =>
        rcases hbk with ⟨g, e, cur, h1, h2, h3, h4⟩ | ⟨h0, h1, h2⟩
        · refine .inl ⟨g, e, cur, by simp [Cx.frz, hj, h1], h2, by rw [length_frzL]; exact h3, fun k hk => ?_⟩
          rw [length_frzL] at hk
          obtain ⟨v, h5, h6, h7⟩ := h4 k hk
          rw [gets_frzL]
          exact ⟨v, h5, h6, h7.frz (fun j hj => shape_frz hj) fun t' v hv => .undef _⟩
        · exact .inr ⟨h0, by simp [Cx.frz, hj, h1], h2.frz (fun j hj => shape_frz hj) fun t' v hv => .undef _⟩
  inj i j g hi hj := by
    simp only [Cx.frz] at hi hj
    split at hi <;> split at hj
    · omega
    · cases hi
    · cases hj
    · exact h.inj i j g hi hj
  own i g hi := by
    simp only [Cx.frz] at hi
    split at hi
    · cases hi
    · rename_i hne
      obtain ⟨h1, h2, h3, h4⟩ := h.own i g hi
      refine ⟨h1, h2, fun hm => ?_, by rw [length_setB, length_frzH]; exact h4⟩
      rcases hm with hm | hm
      · exact h3 hm
      · exact hne (h.inj i id g hi hm)
  imm g hg := by
    rcases hg with hg | hg
    · exact h.imm g hg
    · exact (h.own id g hg).2.1
  sub g hg := by
    rcases hg with hg | hg
    · exact ⟨.inl (h.sub g hg).1, (h.sub g hg).2⟩
    · exact ⟨.inr hg, (h.own id g hg).1⟩
  glob g x hx := by
    have hm := hG g x id hx
    have := (h.glob g x hx).frz (id := id) (y := .undef) (H' := setB (frzH id .undef H) id .dead) (fun j hj => shape_frz hj) fun t' v hv => .undef _
    rwa [frzV_id id _ x hm] at this

theorem capsK_ok (hG : GlobOk G) : ∀ (ks : List PK) (c : Cx) (vs done σ : List V) (H : List Blk) (us ud tm : List Value) (K : List V → List V → List Blk → Prop), St G base w0 c H w → VRels c H w vs us → VRels c H w done ud → VRels c H w σ tm → capsK ks vs done σ H K →
    ∃ c' vs' σ' H', K vs' σ' H' ∧ St G base w0 c' H' w ∧ c'.gi = c.gi ∧ c'.x = c.x ∧ VRels c' H' w vs' (ud.reverse ++ us) ∧ VRels c' H' w σ' tm
  | [], c, vs, done, σ, H, us, ud, tm, K, hst, hv, hd, hσ, h => by
    cases hv with
    | nil => exact ⟨c, _, σ, H, h, hst, rfl, rfl, by simpa using hd.rev, hσ⟩
    | cons x v xs vs _ _ => exact h.elim
  | k :: ks, c, vs, done, σ, H, us, ud, tm, K, hst, hv, hd, hσ, h => by
    cases hv with
    | nil => exact h.elim
    | cons x v xs us hx hxs =>
      have other : capsK ks xs (x :: done) σ H K → ∃ c' vs' σ' H', K vs' σ' H' ∧ St G base w0 c' H' w ∧ c'.gi = c.gi ∧ c'.x = c.x ∧ VRels c' H' w vs' (ud.reverse ++ v :: us) ∧ VRels c' H' w σ' tm := fun h => by
        obtain ⟨c', vs', σ', H', h1, h2, h3, h4, h5, h6⟩ := capsK_ok hG ks c xs (x :: done) σ H us (v :: ud) tm K hst hxs (.cons _ _ _ _ hx hd) hσ h
        exact ⟨c', vs', σ', H', h1, h2, h3, h4, by simpa using h5, h6⟩
      unfold capsK at h
      split at h
      · rename_i t id z i o
        split at h <;> try exact h.elim
        rename_i cs hb
        have hlt : id < H.length := by
          rcases Nat.lt_or_ge id H.length with g | g
          · exact g
          · rw [getB_ge H id g] at hb; cases hb
        cases hx with | ptr _ _ _ _ g m hs hr hi ho =>
        obtain ⟨e, cur, hg, hsz, hel⟩ := cells_get hst hb hr
        obtain ⟨es, he1, he2, he3⟩ := cells_list hel cs.length 0 (by omega)
        rw [List.drop_zero, List.take_length] at he2
        obtain ⟨f, y, l, us1, us2, h, heq, hdr, hl⟩ := asCellsN_ok t cs es _ h he2
        split at h <;> try exact h.elim
        have h := (forceL_eq _ _).1 h
        have h := (forceL_eq _ _).1 h
        have h := (forceL_eq _ _).1 h
        have h := (forceL_eq _ _).1 h
        cases hl with | nil =>
        rw [List.append_nil] at heq
        subst heq
        have hst' := hst.frzC hG hlt
        have hsh : ∀ j, j ≠ id → shape (setB (frzH id .undef H) id .dead) j = shape H j := fun j hj => shape_frz hj
        have hy : ∀ t v, VRel c H w (.own t id) v → VRel (c.frz id) (setB (frzH id .undef H) id .dead) w .undef v := fun _ _ _ => .undef _
        have hrp : VRel (c.frz id) (setB (frzH id .undef H) id .dead) w (.rp f t y 0) (.pointer (some ⟨g, 0 * z + 0, none⟩)) := by
          have := VRel.rp (c := c.frz id) (H := setB (frzH id .undef H) id .dead) (w := w) f t y 0 g 0 es (by cases f <;> exact .inr hr) (hdr f (fun h => h) (fun g hg => (hst.sub g hg).1)).frz (fun j v hj => by
            rw [Go.cell_of_row w g _ cur e (0, 0) hg]
            have := he3 j v hj
            simpa using this)
          simpa using this
        obtain ⟨c', vs', σ', H', h1, h2, h3, h4, h5, h6⟩ := capsK_ok hG ks (c.frz id) _ _ _ _ us (_ :: ud) tm K hst' (hxs.frz hsh hy) (.cons _ _ _ _ hrp (hd.frz hsh hy)) (hσ.frz hsh hy) h
        exact ⟨c', vs', σ', H', h1, h2, h3, h4, by simpa using h5, h6⟩
      · exact other h
end
end Go.Proofs.Ytgljcfnplkcfhaa.Vc

namespace Go.Proofs.Ytgljcfnplkcfhaa.Vc
open Go Go.RowKit

/-- A program, with the contracts that are known of it. -/
structure Known (P : Program) (E : Env) : Prop where
  glob : GlobOk E.glob
  noref : noRef E.glob
  env : EnvOk P E
  det : DetE E
  mixed : P.follows .mixedOrders = true

theorem Known.inR {P : Program} {E : Env} (h : Known P E) : Known P E.inR := ⟨h.glob, h.noref, ⟨h.env.con, h.env.seq, h.env.ty⟩, h.det, h.mixed⟩

/-- What a state is measured by, where there is a loop over a function. -/
def RfLaw (S : Ses) : Prop :=
  ∀ b v, S b v → (∀ k X w, v.J k X w) ∧ v.gh = [] ∧ ∀ D X mks, (∀ g o, v.D g = some o → D g = some o) → (∀ g, v.X g → X g) → (∀ g, mks g → v.mks g ∨ v.D g = none) → S b { v with D := D, X := X, mks := mks }

theorem wpInMono {F : Fence} {n : Nat} {P : Program} {a : Act} {w : World} {c : Code} {Q Q' : Exit → Act → World → Prop} (hq : ∀ e a w, Q e a w → Q' e a w) (h : c.wpIn F n P Q a w) : c.wpIn F n P Q' a w := wpIn_mono h hq

theorem setPs_ok {c : Cx} {H : List Blk} {w : World} : ∀ (ps : List Nat) (xs : List V) (us : List Value) (σ : List V) (tm : Array Value), VRels c H w xs us → VRels c H w σ tm.toList →
    VRels c H w (setPs ps xs σ) ((ps.zip us).foldl (fun t (p, u) => t.setIfInBounds p u) tm).toList
  | [], xs, us, σ, tm, _, h => by cases xs <;> simpa [setPs] using h
  | p :: ps, xs, us, σ, tm, hx, h => by
    cases hx with
    | nil => simpa [setPs] using h
    | cons x u xs us hx hs =>
      simp only [setPs, List.zip_cons_cons, List.foldl_cons]
      refine setPs_ok ps xs us _ _ hs ?_
      simpa using h.set hx p

theorem undefs_rel {c : Cx} {H : List Blk} {w : World} : ∀ (tm : List Value), VRels c H w (List.replicate tm.length .undef) tm
  | [] => .nil
  | _ :: tm => .cons _ _ _ _ (.undef _) (undefs_rel tm)

section
variable {E : Env} {P : Program} {S : Ses}

/-- The blocks around a round that are kept. -/
noncomputable def Dr (c : Cx) (w : World) : Nat → Option Obj := fun g => @ite _ (∃ i, c.ρ i = some g) (Classical.propDecidable _) none w.heap[g]?

theorem Dr_some {c : Cx} {w : World} {g : Nat} {o : Obj} (h : Dr c w g = some o) : w.heap[g]? = some o ∧ ∀ i, c.ρ i ≠ some g := by
  unfold Dr at h
  split at h
  · cases h
  · rename_i hn; exact ⟨h, fun i hi => hn ⟨i, hi⟩⟩
theorem Dr_of {c : Cx} {w : World} {g : Nat} {o : Obj} (h : w.heap[g]? = some o) (hn : ∀ i, c.ρ i ≠ some g) : Dr c w g = some o := by
  unfold Dr
  rw [if_neg fun ⟨i, hi⟩ => hn i hi]; exact h

theorem range_ok (hk : Known P E) (hR : RfLaw S) {f : Operand} {ps : Array Tmp} {as body : Code} {Q : Ex → List V → List Blk → Prop} {σ : List V} {H : List Blk} {a : Act} {w : World} (hs : Sta E S σ H a w)
    (h : awp E (.rangeFunc f ps as body) Q σ H)
    (IHa : ∀ (ro : Option Nat) (S : Ses) (Q : Ex → List V → List Blk → Prop) (σ : List V) (H : List Blk) (a : Act) (w : World), awp E.inR as Q σ H → Sta E.inR S σ H a w → as.wpIn (Fen ro) 0 P (Post E.inR S Q) a w)
    (IHb : ∀ (ro : Option Nat) (S : Ses) (Q : Ex → List V → List Blk → Prop) (σ : List V) (H : List Blk) (a : Act) (w : World), awp E.inR body Q σ H → Sta E.inR S σ H a w → body.wpIn (Fen ro) 0 P (Post E.inR S Q) a w) :
    (Code.rangeFunc f ps as body).wpIn (Fen none) 0 P (Post E S Q) a w := by
  obtain ⟨c00, b, v, hS, hst00, hσ0, hmk⟩ := hs
  obtain ⟨hJt, hgh, hSg⟩ := hR b v hS
  obtain ⟨_, h⟩ := h
  have hf := ev_ok hst00 hσ0 f
  generalize ev E σ f = vf at h hf
  generalize haf : a.eval f = af at hf
  split at h <;> try exact h.elim
  rename_i k caps
  split at h <;> try exact h.elim
  rename_i ks spec hseq
  cases hf with | fn _ _ cvs hcap0 =>
  obtain ⟨c0, caps, σ, H, h, hst0, _, _, hcap, hσ⟩ := capsK_ok hk.glob ks c00 _ [] _ _ _ [] _ _ hst00 hcap0 .nil hσ0 h
  have hcap : VRels c0 H w caps cvs := by simpa using hcap
  have hgi0 := hst0.xk.gi hgh
  have h := (forceL_eq _ _).1 h
  -- what was captured, as data
  have hcalm : St E.glob w.heap.size ⟨w, fun _ => none, fun _ => none, fun _ => False, fun _ => False, fun _ _ _ => True, [], c0.x.l⟩ (Cx.of c0.M ⟨[], none, c0.x.l⟩) [] w :=
    hst0.calm hk.noref (fun g hg => hg) (fun _ _ => rfl) (Below.refl _ _)
      { keep := fun g o h => by cases h
        siz := fun g n h => by cases h
        cnt := trivial
        gh := rfl
        l := rfl
        dis := fun _ _ h => h
        xb := fun _ h => h.elim
        mks := fun _ h => h.elim
        gi := fun _ => rfl } (Nat.le_refl _) hst0.imm
  have hcap' : VRels (Cx.of c0.M ⟨[], none, c0.x.l⟩) [] w (yL none caps) cvs :=
    VRels.y (c := c0) (c' := Cx.of c0.M ⟨[], none, c0.x.l⟩) (fun g hg => hg) (fun g hg => (hst0.sub g hg).1) (fun _ _ => rfl) rfl rfl hcap
  obtain ⟨ds, h, hds⟩ := asArgs_ok (U := c0.M) hcalm (fun g hg => hg) (fun i g hi => by cases hi) ks _ _ _ h hcap'
  split at h <;> try exact h.elim
  rename_i p L hsp
  obtain ⟨⟨hp, hlen⟩, np, keep, I, hv, hround, hdone⟩ := h
  -- what is kept in view
  obtain ⟨vs1, h1, hv1⟩ := picks_ok keep hσ hv
  have hl1 : (keep.map (·.2)).length = vs1.length := by rw [hv1.length]; simp
  obtain ⟨c1, vs2, H1, h1, hst1, hv2, hM1, hg1⟩ := viewA_ok hk.glob (keep.map (·.2)) c0 vs1 [] H _ [] _ hst0 hv1 .nil hl1 h1
  obtain ⟨c2, vs3, H2, hI0, hst2, hv3, hM2, _, _⟩ := viewB_ok hk.noref hst1 hv2 h1
  simp only [List.reverse_nil, List.nil_append] at hv3
  generalize hkv : (keep.map fun x => a.tmps.toList.getD x.1 undef) = kv at hv3
  refine wpIn_rangeFunc ?_
  intro fn hfn
  obtain ⟨rec, hrec⟩ : ∃ rec : LoopState → Option Code → Loop, rec = fun st pe => { state := st, pending := pe, fn, tmps := a.tmps, params := ps, assign := as, body, defers := w.heap.size } := ⟨_, rfl⟩
  obtain ⟨W1, hW1⟩ : ∃ W1, (w.alloc (.deferred (some []))).alloc (.loop (rec .ready none)) = W1 := ⟨_, rfl⟩
  obtain ⟨l, hl⟩ : ∃ l, l = w.heap.size + 1 := ⟨_, rfl⟩
  obtain ⟨Dn, hDn⟩ : ∃ Dn, Dn = w.heap.size := ⟨_, rfl⟩
  have hL1 : W1.heap[l]? = some (.loop (rec .ready none)) := by
    rw [← hW1, hl]; have := World.alloc_heap_new (w.alloc (.deferred (some []))) (.loop (rec .ready none)); rwa [World.size_alloc] at this
  have hK1 : W1.heap[Dn]? = some (.deferred (some [])) := by
    rw [← hW1, hDn]; exact (Below.heap_alloc _ _ _ (by simp)).trans (World.alloc_heap_new w _)
  have hB1 : Below w.heap.size w W1 := by rw [← hW1]; exact (((Below.refl _ w).alloc (Nat.le_refl _) _).alloc (by simp) _)
  have hsz1 : W1.heap.size = w.heap.size + 2 := by rw [← hW1]; simp
  -- what the states between the rounds are measured by
  let D1 : Loop → Nat → Option Obj := fun r k => if k = l then some (.loop r) else if k = Dn then some (.deferred (some [])) else v.D k
  let v1 : Loop → W0 := fun r => { v with D := D1 r, X := fun k => v.X k ∨ k = Dn ∨ k = l, mks := fun k => v.mks k ∨ k = Dn }
  have hD1l : ∀ r, D1 r l = some (.loop r) := fun r => if_pos rfl
  have hD1D : ∀ r, D1 r Dn = some (.deferred (some [])) := fun r => by
    show (if Dn = l then _ else if Dn = Dn then _ else _) = _
    rw [if_neg (by omega), if_pos rfl]
  have hD1o : ∀ r k, k ≠ l → k ≠ Dn → D1 r k = v.D k := fun r k h1 h2 => by simp only [D1]; rw [if_neg h1, if_neg h2]
  have hvlt : ∀ k o, v.D k = some o → k < w.heap.size := fun k o h => (Array.getElem?_eq_some_iff.1 (hst0.xk.keep k o h).1).1
  have hvD : ∀ r k o, v.D k = some o → D1 r k = some o := fun r k o h => by
    have := hvlt k o h
    rw [hD1o r k (by omega) (by omega)]; exact h
  have hbD : b ≤ Dn := by rw [hDn]; exact hst0.size
  have hst3 : St E.glob b (v1 (rec .ready none)) c2 H2 W1 := by
    have hw := hst2.world hB1
    refine hw.other hw.below
      { keep := fun g o h => ?_
        siz := hw.xk.siz
        cnt := hJt _ _ _
        gh := hw.xk.gh
        l := hw.xk.l
        dis := fun g hg hX => ?_
        xb := fun g hX => ?_
        mks := fun g hg => ?_
        gi := hw.xk.gi }
    · by_cases e1 : g = l
      · subst e1
        rw [show (v1 (rec .ready none)).D g = D1 (rec .ready none) g from rfl, hD1l] at h
        cases h
        exact ⟨hL1, fun i hi => by have := (hst2.own i g hi).2.1; omega⟩
      · by_cases e2 : g = Dn
        · subst e2
          rw [show (v1 (rec .ready none)).D g = D1 (rec .ready none) g from rfl, hD1D] at h
          cases h
          exact ⟨hK1, fun i hi => by have := (hst2.own i g hi).2.1; omega⟩
        · rw [show (v1 (rec .ready none)).D g = D1 (rec .ready none) g from rfl, hD1o _ _ e1 e2] at h
          exact hw.xk.keep g o h
    · have := hst2.imm g hg
      rcases hX with hX | hX | hX
      · exact hw.xk.dis g hg hX
      · omega
      · omega
    · rcases hX with hX | hX | hX
      · exact hw.xk.xb g hX
      · exact ⟨by omega, fun i hi => by have := (hst2.own i g hi).2.1; omega⟩
      · exact ⟨by omega, fun i hi => by have := (hst2.own i g hi).2.1; omega⟩
    · rcases hg with hg | hg
      · obtain ⟨h1, h2, h3⟩ := hw.xk.mks g hg
        exact ⟨h1, .inl h2, hvD _ _ _ h3⟩
      · subst hg
        exact ⟨hbD, .inr (.inl rfl), hD1D _⟩
  have hv4 : VRels c2 H2 W1 vs3 kv := hv3.ext (hst2.ext_world hB1)
  have hXl : ∀ r, (v1 r).X l := fun r => .inr (.inr rfl)
  have hbl : b ≤ l := by omega
  let Qj : Code → List V → List Blk → Prop := fun jump vs H => (jump = .ret ∧ Q .ret (sprd σ.length 0 keep vs) H) ∨ ∃ i, jump = .exit i ∧ Q (.exit i) (sprd σ.length 0 keep vs) H
  let J : Option Nat → (Nat → Prop) → World → Prop := fun q X W => (∀ r g, (v1 r).X g → X g) ∧ match q with
    | some n => ∃ c vs H, I n vs H ∧ St E.glob b (v1 (rec .ready none)) c H W ∧ VRels c H W vs kv ∧ ∀ i g, c.ρ i = some g → X g
    | none => ∃ c vs H jump, Qj jump vs H ∧ St E.glob b (v1 (rec .done (some jump))) c H W ∧ VRels c H W vs kv
  obtain ⟨hent, hcall⟩ := hk.env.seq k _ hseq
  refine ⟨l, [{ target := .collected w.heap.size, args := #[] }], W1, { target := .fn (.func k) cvs.toArray, args := #[.func (.yield l) #[] #[]] }, W1, k,
    #[.func (.yield l) #[] #[]] ++ cvs.toArray, W1, ?_, ?_, fun _ _ => trivial, ?_, (fun h => by cases h), ?_⟩
  · rw [← hW1, hrec, hl]; exact run_enterLoop_outer _ _ _ _ _
  · simp only [resolve, haf]
    simp [go_sem]
  · simp [invoke, go_sem, hent]
  have hσe : ∀ (c : Cx) (H' : List Blk) (w' : World) (vs : List V), VRels c H' w' vs kv → VRels c H' w' (sprd σ.length 0 keep vs) a.tmps.toList := fun c H' w' vs h =>
    sprd_all keep vs hσ.length (by rw [hkv]; exact h)
  have hend : ∀ (r : Loop) (c : Cx) (H' : List Blk) (w' : World) (ob : Obj), St E.glob b (v1 r) c H' w' → ∃ ve, S b ve ∧ St E.glob b ve c H' (w'.putObj l ob) ∧ Marks ve ([{ target := .collected w.heap.size, args := #[] }] ++ a.defers) := by
    intro r c H' w' ob hst
    let De : Nat → Option Obj := fun k => if k = l then none else D1 r k
    have hDe : ∀ k, k ≠ l → De k = D1 r k := fun k h => if_neg h
    have hml : ¬ v.mks l := fun h => by
      have := hvlt l _ (hst0.xk.mks l h).2.2
      omega
    refine ⟨{ v1 r with D := De, mks := (v1 r).mks }, hSg De (v1 r).X (v1 r).mks (fun g o h => ?_) (fun g h => .inl h) (fun g h => ?_), ?_, ?_⟩
    · have := hvlt g o h
      rw [hDe g (by omega)]; exact hvD r g o h
    · rcases h with h | h
      · exact .inl h
      · refine .inr ?_
        cases hd : v.D g with
        | none => rfl
        | some o => have := hvlt g o hd; omega
    · refine hst.put (g := l) (hXl r) hbl ob rfl (Xk.put (v := v1 r) hst.xk (g := l) (hXl r) (hD1l r) rfl ob (fun k x hk => ?_) fun k hk => ?_)
      · by_cases e : k = l
        · subst e; simp [De] at hk
        · rw [hDe k e] at hk; exact .inr ⟨e, hk⟩
      · have e : k ≠ l := fun e => by
          subst e
          rcases hk with hk | hk
          · exact hml hk
          · omega
        exact ⟨hk, e, hDe k e⟩
    · obtain ⟨gs, g1, g2, g3⟩ := hmk
      refine ⟨Dn :: gs, List.nodup_cons.2 ⟨fun hm => ?_, g1⟩, by rw [g2, hDn]; rfl, fun g hg => ?_⟩
      · have := hvlt Dn _ (hst0.xk.mks Dn (g3 Dn hm)).2.2
        omega
      · rcases List.mem_cons.1 hg with rfl | hg
        · exact .inr rfl
        · exact .inl (g3 g hg)
  have hcl := hcall c0.M W1 ds cvs p L hsp hp (fun g hg => by have := hst0.imm g hg; omega) (glob_of hk.noref (hst0.world hB1) fun g hg => hg)
    (fun xt => (hds xt).ext (ext_of fun g hg => hB1.block g (hst0.imm g hg))) l J
  refine CallsIn.mono (hcl ?_ ?_ ?_) ?_
  · -- growth
    rintro q X W W' ⟨hX, hq⟩ hB
    refine ⟨hX, ?_⟩
    cases q with
    | some n =>
      obtain ⟨c, vs, Hn, hI, hst, hvs, hρ⟩ := hq
      exact ⟨c, vs, Hn, hI, hst.world hB, hvs.ext (hst.ext_world hB), hρ⟩
    | none =>
      obtain ⟨c, vs, Hn, jump, hI, hst, hvs⟩ := hq
      exact ⟨c, vs, Hn, jump, hI, hst.world hB, hvs.ext (hst.ext_world hB)⟩
  · -- one round
    rintro n X W U us ⟨hX1, c, vs, Hn, hI, hst, hvs, hρ⟩ hn hU hus
    have hlw : W.heap[l]? = some (.loop (rec .ready none)) := (hst.xk.keep l _ (hD1l _)).1
    have hrl : ∀ i, c.ρ i ≠ some l := (hst.xk.keep l _ (hD1l _)).2
    have hgic := hst.xk.gi hgh
    have hargs : us.length = ps.size := by
      rw [← (hus ⟨[], none, 0⟩).length]
      exact hlen n hn
    have hy := run_yield (P := P) (args := us.toArray) hlw (by rw [hrec]; simpa using hargs)
    refine ⟨_, _, _, _, hy, roundIn_of_wpIn (F := Fence.wide) trivial ?_⟩
    have hra : (rec .ready none).assign = as := by rw [hrec]
    have hrb : (rec .ready none).body = body := by rw [hrec]
    have hrp : (rec .ready none).params = ps := by rw [hrec]
    have hrt : (rec .ready none).tmps = a.tmps := by rw [hrec]
    rw [hra, hrb, hrp, hrt]
    -- the round's own state
    let gh : List Value := .tuple #[] :: kv
    let Dv : Loop → Nat → Option Obj := fun r k => if k = l then some (.loop r) else Dr c W k
    let vr : Loop → W0 := fun r => ⟨W, Dv r, v.Z, (v1 (rec .ready none)).X, fun _ => False, fun _ _ _ => True, gh, v.l⟩
    have hDvl : ∀ r, Dv r l = some (.loop r) := fun r => if_pos rfl
    have hDvo : ∀ r k, k ≠ l → Dv r k = Dr c W k := fun r k h => if_neg h
    have hstr : St E.glob b (vr (rec .ready none)) (c.opn U gh Hn.length) (Hn ++ [.cells (.tup [] :: vs)]) W := by
      refine hst.open hgic (fun g hg => ⟨(hU g hg).2, fun i hi => (hU g hg).1 (hρ i g hi)⟩) (.cons _ _ _ _ (VRel.tup [] [] .nil) hvs) (Below.refl _ _)
        { keep := fun g o h => ?_
          siz := hst.xk.siz
          cnt := trivial
          gh := rfl
          l := hst.xk.l
          dis := fun g hg hX => ?_
          xb := hst.xk.xb
          mks := fun _ h => h.elim
          gi := fun h => by cases h }
      · by_cases e1 : g = l
        · subst e1
          rw [show (vr (rec .ready none)).D g = Dv (rec .ready none) g from rfl, hDvl] at h
          cases h
          exact ⟨hlw, hrl⟩
        · rw [show (vr (rec .ready none)).D g = Dv (rec .ready none) g from rfl, hDvo _ _ e1] at h
          exact Dr_some h
      · rcases hg with hg | hg
        · exact hst.xk.dis g hg hX
        · exact (hU g hg).1 (hX1 (rec .ready none) g hX)
    have hσr : VRels (c.opn U gh Hn.length) (Hn ++ [.cells (.tup [] :: vs)]) W (setPs ps.toList (L.2 n) (sprd σ.length 0 keep vs)) ((ps.zip us.toArray).foldl (fun t (p, u) => t.setIfInBounds p u) a.tmps).toList := by
      have e : (ps.zip us.toArray).foldl (fun t (p, u) => t.setIfInBounds p u) a.tmps = (ps.toList.zip us).foldl (fun t (p, u) => t.setIfInBounds p u) a.tmps := by
        rw [← Array.foldl_toList, Array.toList_zip]
      rw [e]
      refine setPs_ok _ _ _ _ _ ((hus ⟨gh, c.x.k, c.x.l⟩).wk (c := Cx.of U ⟨gh, c.x.k, c.x.l⟩) (H := []) (c' := c.opn U gh Hn.length) (fun g hg => .inr hg) (fun g hg => hg.elim) rfl rfl fun id s h => by cases id <;> cases h) ?_
      refine sprd_all keep vs hσ.length ?_
      rw [hkv]
      exact hvs.wk (c' := c.opn U gh Hn.length) (fun g hg => .inl hg) (fun g hg => hg) rfl rfl fun id s h => ⟨shape_append h, rfl⟩
    have hrd := (forceL_eq _ _).1 ((forceL_eq _ _).1 (hround n vs Hn hI hn))
    have hXr : (vr (rec .ready none)).X l := hXl (rec .ready none)
    have hra2 : (rec .busy none) = { rec .ready none with state := .busy } := by rw [hrec]
    -- what is left by a round
    have fin : ∀ (jump : Option Code) (KK : List V → List Blk → Prop) (c3 : Cx) (H3 : List Blk) (w3 : World), St E.glob b (vr (rec .busy none)) c3 H3 w3 → rview np (keep.map (·.2)) Hn.length H3 KK →
        ∃ W4, (Instr.endRound l jump).run P w3 = .ok (.bool jump.isNone) W4 ∧ W.heap.size ≤ W4.heap.size ∧ (∀ g, g < W.heap.size → ¬ X g → W4.heap[g]? = W.heap[g]?) ∧
          ∃ c5 vs5 H5, KK vs5 H5 ∧ St E.glob b (v1 (rec (if jump.isNone then .ready else .done) jump)) c5 H5 W4 ∧ VRels c5 H5 W4 vs5 kv ∧ ∀ i g, c5.ρ i = some g → X g ∨ (W.heap.size ≤ g ∧ g < W4.heap.size) := by
      intro jump KK c3 H3 w3 hst3 hview
      obtain ⟨r4, hr4⟩ : ∃ r4, r4 = rec (if jump.isNone then .ready else .done) jump := ⟨_, rfl⟩
      have hl3 : w3.heap[l]? = some (.loop (rec .busy none)) := (hst3.xk.keep l _ (hDvl _)).1
      have hrun := run_endRound (P := P) jump hl3
      have hre : ({ rec .busy none with state := if jump.isNone then .ready else .done, pending := jump } : Loop) = r4 := by rw [hr4, hrec]
      rw [hre] at hrun
      have hst4 : St E.glob b (vr r4) c3 H3 (w3.putObj l (.loop r4)) := hst3.put (g := l) hXr hbl _ rfl
        (Xk.put (v := vr (rec .busy none)) hst3.xk (g := l) hXr (hDvl _) rfl _ (D := Dv r4) (mks := fun _ => False) (fun k x hk => by
          by_cases e : k = l
          · subst e; rw [hDvl] at hk; cases hk; exact .inl ⟨rfl, rfl⟩
          · rw [hDvo _ _ e] at hk
            exact .inr ⟨e, (hDvo _ _ e).trans hk⟩) fun _ h => h.elim)
      unfold rview at hview
      split at hview <;> try exact hview.elim
      rename_i vs' hgb
      have hbk := hst4.blk Hn.length
      rw [hgb] at hbk
      have hgh3 : c3.gi = some Hn.length ∧ VRels c3 H3 (w3.putObj l (.loop r4)) vs' kv := by
        rcases hbk with ⟨g, e, cur, h1, h2, h3, h4⟩ | ⟨h1, _, h2⟩
        · exfalso
          obtain ⟨u, h5, h6, h7⟩ := h4 0 (by simp)
          cases h7 with | tup _ us _ => cases h6
        · rw [show c3.x.gh = gh from hst4.xk.gh] at h2
          have h2 : VRels c3 H3 (w3.putObj l (.loop r4)) (.tup [] :: vs') (.tuple #[] :: kv) := h2
          cases h2 with | cons _ _ _ _ _ h3 => exact ⟨h1, h3⟩
      obtain ⟨hgi3, hvs'⟩ := hgh3
      have hl' : (keep.map (·.2)).length = vs'.length := by rw [hvs'.length, ← hkv]; simp
      obtain ⟨c4, vs4, H4, hview, hst5, hv5, hM5, hg5⟩ := viewA_ok hk.glob (keep.map (·.2)) c3 vs' [] H3 _ [] _ hst4 hvs' .nil hl' hview
      obtain ⟨hnin, hview⟩ := hview
      obtain ⟨c5, vs5, H5, hKK, hst6, hv6, hM6, hg6, _⟩ := viewB_ok hk.noref hst5 hv5 hview
      simp only [List.reverse_nil, List.nil_append] at hv6
      have hgi6 : c5.gi = none := hg6 _ (hg5.trans hgi3) hnin
      have hkeepW : ∀ g o, W.heap[g]? = some o → (∀ i, c.ρ i ≠ some g) → g ≠ l → (w3.putObj l (.loop r4)).heap[g]? = some o ∧ ∀ i, c5.ρ i ≠ some g := fun g o h1 h2 h3 => hst6.xk.keep g o ((hDvo _ _ h3).trans (Dr_of h1 h2))
      refine ⟨_, hrun, hst6.below.size, fun g hg hX => ?_, c5.sht [], vs5, H5, hKK, ?_, ?_, ?_⟩
      · have h1 := Array.getElem?_eq_getElem hg
        rw [h1]
        exact (hkeepW g _ h1 (fun i hi => hX (hρ i g hi)) (fun e => by subst e; exact hX (hX1 (rec .ready none) _ (hXl _)))).1
      · rw [← hr4]
        refine hst6.shut hgi6 (hst.below.trans hst6.below)
          { keep := fun g o h => ?_
            siz := hst6.xk.siz
            cnt := hJt _ _ _
            gh := hgh.symm
            l := hst6.xk.l
            dis := hst6.xk.dis
            xb := hst6.xk.xb
            mks := fun g hg => ?_
            gi := fun _ => hgi6 }
        · by_cases e1 : g = l
          · subst e1
            rw [show (v1 r4).D g = D1 r4 g from rfl, hD1l] at h
            exact hst6.xk.keep g o ((hDvl _).trans h)
          · have h' : D1 (rec .ready none) g = some o := by
              have : D1 r4 g = some o := h
              simp only [D1] at this ⊢
              rw [if_neg e1] at this ⊢
              exact this
            obtain ⟨h1, h2⟩ := hst.xk.keep g o h'
            exact hkeepW g o h1 h2 e1
        · obtain ⟨h1, h2, h3⟩ := hst.xk.mks g hg
          refine ⟨h1, h2, ?_⟩
          have e1 : g ≠ l := fun e => by
            subst e
            rw [show (v1 (rec .ready none)).D g = D1 (rec .ready none) g from rfl, hD1l] at h3
            cases h3
          have h3' : D1 (rec .ready none) g = some (.deferred (some [])) := h3
          show D1 r4 g = _
          simp only [D1] at h3' ⊢
          rw [if_neg e1] at h3' ⊢
          exact h3'
      · exact hv6.wk (c := c5) (c' := c5.sht []) (fun g hg => hg) (fun g hg => hg) rfl rfl fun id s h => ⟨h, rfl⟩
      · intro i g hi
        have hi : c5.ρ i = some g := hi
        have hlt := (hst6.own i g hi).2.1
        rcases Nat.lt_or_ge g W.heap.size with hg | hg
        · refine .inl ?_
          by_cases hown : ∃ j, c.ρ j = some g
          · obtain ⟨j, hj⟩ := hown; exact hρ j g hj
          · by_cases e1 : g = l
            · subst e1; exact hX1 (rec .ready none) _ (hXl _)
            · exact absurd hi ((hkeepW g _ (Array.getElem?_eq_getElem hg) (fun j hj => hown ⟨j, hj⟩) e1).2 i)
        · exact .inr ⟨hg, hlt⟩
    refine wpInMono ?_ (IHa (some l) (fun b' v' => b' = b ∧ v' = vr (rec .ready none)) _ _ _ _ W hrd ⟨_, _, _, ⟨rfl, rfl⟩, hstr, hσr, Marks.nil⟩)
    intro e a1 w1 hp1
    cases e with
    | normal =>
      obtain ⟨σ1, H1', hq, c1', b1, v1', ⟨rfl, rfl⟩, hst1', hσ1, hmk1⟩ := hp1
      have hl1 : w1.heap[l]? = some (.loop (rec .ready none)) := (hst1'.xk.keep l _ (hDvl _)).1
      refine ⟨_, run_beginRound hl1 (by rw [hrec]), ?_⟩
      rw [← hra2]
      have hst2' : St E.glob b1 (vr (rec .busy none)) c1' H1' (w1.putObj l (.loop (rec .busy none))) := hst1'.put (g := l) hXr hbl _ rfl
        (Xk.put (v := vr (rec .ready none)) hst1'.xk (g := l) hXr (hDvl _) rfl _ (D := Dv (rec .busy none)) (mks := fun _ => False) (fun k x hk => by
          by_cases e : k = l
          · subst e; rw [hDvl] at hk; cases hk; exact .inl ⟨rfl, rfl⟩
          · rw [hDvo _ _ e] at hk
            exact .inr ⟨e, (hDvo _ _ e).trans hk⟩) fun _ h => h.elim)
      refine wpInMono ?_ (IHb (some l) (fun b' v' => b' = b1 ∧ v' = vr (rec .busy none)) _ _ _ _ _ hq ⟨c1', b1, _, ⟨rfl, rfl⟩, hst2', hσ1.ext (hst1'.ext_put hXr _), hmk1⟩)
      have hXg : ∀ (W4 : World) r g, (v1 r).X g → X g ∨ (W.heap.size ≤ g ∧ g < W4.heap.size) := fun W4 r g hg => .inl (hX1 r g hg)
      intro e a3 w3 hp3
      cases e with
      | normal =>
        obtain ⟨σ3, H3, hq3, c3, b3, v3, ⟨rfl, rfl⟩, hst3', _⟩ := hp3
        obtain ⟨W4, h1, h2, h3, c5, vs5, H5, h4, h5, h6, h7⟩ := fin none _ _ _ _ hst3' hq3
        exact ⟨_, W4, h1, true, rfl, h2, h3, hXg W4, c5, vs5, H5, h4, h5, h6, h7⟩
      | ret =>
        obtain ⟨σ3, H3, hq3, c3, b3, v3, ⟨rfl, rfl⟩, hst3', _⟩ := hp3
        obtain ⟨W4, h1, h2, h3, c5, vs5, H5, h4, h5, h6, h7⟩ := fin (some .ret) _ _ _ _ hst3' hq3
        exact ⟨_, W4, h1, false, rfl, h2, h3, hXg W4, c5, vs5, H5, .ret, .inl ⟨rfl, (forceL_eq _ (fun σ => Q .ret σ H5)).1 h4⟩, h5, h6⟩
      | exit i =>
        obtain ⟨σ3, H3, hq3, c3, b3, v3, ⟨rfl, rfl⟩, hst3', _⟩ := hp3
        obtain ⟨W4, h1, h2, h3, c5, vs5, H5, h4, h5, h6, h7⟩ := fin (some (.exit i)) _ _ _ _ hst3' hq3
        exact ⟨_, W4, h1, false, rfl, h2, h3, hXg W4, c5, vs5, H5, .exit i, .inr ⟨i, rfl, (forceL_eq _ (fun σ => Q (.exit i) σ H5)).1 h4⟩, h5, h6⟩
      | goto l => exact hp3.elim
      | panic ch => exact hp3.elim
      | outgrown => exact hp3.elim
    | exit i => obtain ⟨_, _, hq, _⟩ := hp1; exact hq.elim
    | ret => obtain ⟨_, _, hq, _⟩ := hp1; exact hq.elim
    | goto l => exact hp1.elim
    | panic ch => exact hp1.elim
    | outgrown => exact hp1.elim
  · -- at the beginning
    refine ⟨fun r g hg => ?_, c2, vs3, H2, hI0, hst3, hv4, fun i g hi => ?_⟩
    · refine ⟨(hst3.xk.xb g hg).1, fun hm => hst3.xk.dis g (hM2 g (hM1 g hm)) hg⟩
    · exact ⟨(hst3.own i g hi).2.1, fun hm => (hst3.own i g hi).2.2.1 (hM2 g (hM1 g hm))⟩
  · -- behind it
    rintro e W2 ⟨⟨u, rfl⟩, X, ⟨_, c, vs, H', hI, hst, hvs, _⟩ | ⟨_, c, vs, H', jump, hq, hst, hvs⟩⟩
    · have hle : W2.heap[l]? = some (.loop (rec .ready none)) := (hst.xk.keep l _ (hD1l _)).1
      obtain ⟨ob, hob⟩ : ∃ ob, (Instr.endLoop l).run P W2 = .ok none (W2.putObj l ob) := ⟨_, by have := run_endLoop (P := P) hle (by rw [hrec]; simp); rw [show (rec .ready none).pending = none by rw [hrec]] at this; exact this⟩
      refine ⟨none, _, hob, ?_⟩
      obtain ⟨ve, hSe, hste, hmke⟩ := hend _ _ _ _ ob hst
      exact ⟨_, _, (forceL_eq _ _).1 ((forceL_eq _ _).1 (hdone vs H' hI)), c, b, ve, hSe, hste, hσe c H' _ vs (hvs.ext (hst.ext_put (hXl _) _)), hmke⟩
    · have hle : W2.heap[l]? = some (.loop (rec .done (some jump))) := (hst.xk.keep l _ (hD1l _)).1
      obtain ⟨ob, hob⟩ : ∃ ob, (Instr.endLoop l).run P W2 = .ok (some jump) (W2.putObj l ob) := ⟨_, by have := run_endLoop (P := P) hle (by rw [hrec]; simp); rw [show (rec .done (some jump)).pending = some jump by rw [hrec]] at this; exact this⟩
      refine ⟨some jump, _, hob, ?_⟩
      obtain ⟨ve, hSe, hste, hmke⟩ := hend _ _ _ _ ob hst
      have hfin := hσe c H' _ vs (hvs.ext (hst.ext_put (hXl _) ob))
      rcases hq with ⟨rfl, hq⟩ | ⟨i, rfl, hq⟩
      · exact wpIn_ret ⟨_, _, hq, c, b, ve, hSe, hste, hfin, hmke⟩
      · exact wpIn_exit ⟨_, _, hq, c, b, ve, hSe, hste, hfin, hmke⟩
end
end Go.Proofs.Ytgljcfnplkcfhaa.Vc

namespace Go.Proofs.Ytgljcfnplkcfhaa.Vc
open Go Go.RowKit

theorem wpIn_scope_straight {F : Fence} {n : Nat} {P : Program} {Q : Exit → Act → World → Prop} {a : Act} {w : World} {c : Code} (h : c.wpIn F n P (Exit.noGoto Q) a w) : (Code.scope c).wpIn F n P Q a w := by
  intro b k cs hro hb hr
  have h0 : (lone (b.atR a (.code (.scope c) :: k)) cs w).fenced P F := fenced_calm hb hr rfl
  have h1 : step P (lone (b.atR a (.code (.scope c) :: k)) cs w) = .next (lone (b.atR a (.code c :: .inScope c :: k)) cs w) := step_lone_go (by simp [stepG, stepG.exec, Frame.atR])
  have h2 : ∀ a w, step P (lone (b.atR a (.inScope c :: k)) cs w) = .next (lone (b.atR a k) cs w) := fun a w => step_lone_go (by simp [stepG, stepG.exec, Frame.atR])
  obtain ⟨e, a₁, w₁, hq, harr⟩ := h b (.inScope c :: k) cs hro hb hr
  cases e with
  | normal => exact ⟨.normal, a₁, w₁, hq, .head h0 h1 (StepsIn.trans harr (.one (fenced_calm hb hr rfl) (h2 _ _)))⟩
  | exit id =>
    have hx : exitTo id (.inScope c :: k) = exitTo id k := by simp [exitTo]
    exact ⟨.exit id, a₁, w₁, hq, fun k' hk => .head h0 h1 (harr.1 k' (by rw [hx]; exact hk)), fun hr' hk => let ⟨k₁, e1, e2⟩ := harr.2 hr' (by rw [hx]; exact hk); ⟨k₁, e1, .head h0 h1 e2⟩⟩
  | goto l => exact hq.elim
  | ret => exact ⟨_, a₁, w₁, hq, .of_steps (.one h0 h1) harr⟩
  | panic ch => exact ⟨_, a₁, w₁, hq, .of_steps (.one h0 h1) harr⟩
  | outgrown => exact ⟨_, a₁, w₁, hq, .of_steps (.one h0 h1) harr⟩

theorem awp_ok {P : Program} : ∀ (x : Code) {E : Env} {S : Ses} {ro : Option Nat}, Known P E → (∀ q, E.yl = some q → ro = none ∧ YLaw P S q.2) → (E.rf = true → ro = none ∧ RfLaw S) →
    ∀ (Q : Ex → List V → List Blk → Prop) (σ : List V) (H : List Blk) (a : Act) (w : World), awp E x Q σ H → Sta E S σ H a w → x.wpIn (Fen ro) 0 P (Post E S Q) a w
  | .skip, E, S, ro, hk, hY, hR, Q, σ, H, a, w, h, hs => wpIn_skip ⟨σ, H, h, hs⟩
  | .region id ops draw, E, S, ro, hk, hY, hR, Q, σ, H, a, w, h, hs => by
    cases draw with
    | false => exact wpIn_region_list (aops_ok hk.glob hk.noref hk.env hY _ _ _ _ _ _ hs h fun σ' H' a' w' hk hs' => ⟨σ', H', hk, hs'⟩)
    | true => exact draw_ok hk.glob hk.env hk.det hk.mixed ops id S ro σ H _ a w _ h.1 hs h.2 fun σ' H' a' w' hk hs' => ⟨σ', H', hk, hs'⟩
  | .seq x y, E, S, ro, hk, hY, hR, Q, σ, H, a, w, h, hs => by
    refine wpIn_seq (wpInMono ?_ (awp_ok x hk hY hR _ σ H a w h hs))
    intro e a' w' hp
    cases e with
    | normal =>
      obtain ⟨σ', H', hq, hs'⟩ := hp
      exact awp_ok y hk hY hR Q σ' H' a' w' hq hs'
    | exit i => exact hp
    | ret => exact hp
    | goto l => exact hp.elim
    | panic ch => exact hp.elim
    | outgrown => exact hp.elim
  | .cond ce x y, E, S, ro, hk, hY, hR, Q, σ, H, a, w, h, hs => by
    obtain ⟨c, b0, v0, hS, hst, hσ, hd⟩ := hs
    have hc := evr_ok hst hσ ce
    unfold awp at h
    generalize evr E σ ce = vc at h hc
    generalize hae : a.eval ce = ve at hc
    cases hc <;> try exact h.elim
    case b p b hb =>
      cases ce with
      | tmp t =>
        have hx : a.tmps.toList.getD t undef = .bool b := by
          rw [← hae]; simp [Act.eval, Array.getD_eq_getD_getElem?]
        have hs' := Sta.settle (E := E) (S := S) ⟨c, b0, v0, hS, hst, hσ, hd⟩ hx
        cases b with
        | true => exact wpIn_cond hae (awp_ok x hk hY hR Q _ H a w ((forceL_eq _ (fun σ => awp E x Q σ H)).1 (h.1 (hb.1 rfl))) hs')
        | false => exact wpIn_cond hae (awp_ok y hk hY hR Q _ H a w ((forceL_eq _ (fun σ => awp E y Q σ H)).1 (h.2 fun hp => by simpa using hb.2 hp)) hs')
      | _ =>
        cases b with
        | true => exact wpIn_cond hae (awp_ok x hk hY hR Q σ H a w (h.1 (hb.1 rfl)) ⟨c, b0, v0, hS, hst, hσ, hd⟩)
        | false => exact wpIn_cond hae (awp_ok y hk hY hR Q σ H a w (h.2 fun hp => by simpa using hb.2 hp) ⟨c, b0, v0, hS, hst, hσ, hd⟩)
    case bt b =>
      cases b with
      | true => exact wpIn_cond hae (awp_ok x hk hY hR Q σ H a w h ⟨c, b0, v0, hS, hst, hσ, hd⟩)
      | false => exact wpIn_cond hae (awp_ok y hk hY hR Q σ H a w h ⟨c, b0, v0, hS, hst, hσ, hd⟩)
  | .block id x, E, S, ro, hk, hY, hR, Q, σ, H, a, w, h, hs => by
    refine wpIn_block (wpInMono ?_ (awp_ok x hk hY hR _ σ H a w h hs))
    intro e a' w' hp
    cases e with
    | normal => exact hp
    | exit i =>
      obtain ⟨σ', H', hq, hs'⟩ := hp
      simp only [Exit.inBlock]
      by_cases hi : i = id
      · subst hi
        rw [if_pos rfl]
        refine ⟨σ', H', ?_, hs'⟩
        have : Nat.beq i i = true := Nat.beq_refl i
        simp only [this, cond_true] at hq
        exact hq
      · rw [if_neg hi]
        have : Nat.beq i id = false := by
          cases hb : Nat.beq i id with
          | false => rfl
          | true => exact absurd (beq_ok hb) hi
        simp only [this, cond_false] at hq
        exact ⟨σ', H', hq, hs'⟩
    | ret => exact hp
    | goto l => exact hp.elim
    | panic ch => exact hp.elim
    | outgrown => exact hp.elim
  | .loop x, E, S, ro, hk, hY, hR, Q, σ, H, a, w, h, hs => by
    obtain ⟨np, keep, I, h0, hr⟩ := h
    have hmin : ∀ p : Nat → Prop, (∃ n, p n) → ∃ n, p n ∧ ∀ m, p m → n ≤ m := fun p ⟨n, hn⟩ => by
      induction n using Nat.strongRecOn with
      | _ n ih =>
        by_cases hx : ∃ m, m < n ∧ p m
        · obtain ⟨m, h1, h2⟩ := hx; exact ih m h1 h2
        · exact ⟨n, hn, fun m hm => Nat.le_of_not_lt fun hlt => hx ⟨m, hlt, hm⟩⟩
    let p : Act → World → Nat → Prop := fun a w n => ∃ vs H, I n vs H ∧ Sta E S (sprd σ.length 0 keep vs) H a w
    let μ : Act → World → Nat := fun a w => @dite _ (∃ n, p a w n) (Classical.propDecidable _) (fun h => Classical.choose (hmin _ h)) (fun _ => 0)
    have hμ : ∀ a w n, p a w n → p a w (μ a w) ∧ μ a w ≤ n := fun a w n hn => by
      have hex : ∃ n, p a w n := ⟨n, hn⟩
      have e : μ a w = Classical.choose (hmin _ hex) := dif_pos hex
      rw [e]
      have := Classical.choose_spec (hmin _ hex)
      exact ⟨this.1, this.2 n hn⟩
    refine wpIn_loop (fun a w => ∃ n, p a w n) μ ?_ ?_
    · obtain ⟨vs, H', ⟨n, hi⟩, hs'⟩ := view_ok hk.glob hk.noref hs h0
      exact ⟨n, vs, H', hi, hs'⟩
    · rintro a w ⟨n0, hn0⟩
      obtain ⟨⟨vs, H', hi, hs'⟩, _⟩ := hμ a w n0 hn0
      have hb := (forceL_eq _ _).1 ((forceL_eq _ _).1 (hr _ vs H' hi))
      refine wpInMono ?_ (awp_ok x hk hY hR _ _ _ a w hb hs')
      intro e a' w' hp
      cases e with
      | normal =>
        obtain ⟨σ2, H2, hv, hs2⟩ := hp
        obtain ⟨hl2, hv⟩ := bif_ok hv
        have hl2 := beq_ok hl2
        obtain ⟨vs3, H3, ⟨m, hm, hi3⟩, hs3⟩ := view_ok hk.glob hk.noref hs2 hv
        rw [hl2] at hs3
        have hp3 : p a' w' m := ⟨vs3, H3, hi3, hs3⟩
        have := (hμ a' w' m hp3).2
        exact ⟨⟨m, hp3⟩, by omega⟩
      | exit i => exact hp
      | ret => exact hp
      | goto l => exact hp.elim
      | panic ch => exact hp.elim
      | outgrown => exact hp.elim
  | .exit i, E, S, ro, hk, hY, hR, Q, σ, H, a, w, h, hs => wpIn_exit ⟨σ, H, h, hs⟩
  | .ret, E, S, ro, hk, hY, hR, Q, σ, H, a, w, h, hs => wpIn_ret ⟨σ, H, h, hs⟩
  | .scope x, E, S, ro, hk, hY, hR, Q, σ, H, a, w, h, hs => by
    refine wpIn_scope_straight (wpInMono ?_ (awp_ok x hk hY hR Q σ H a w h hs))
    intro e a' w' hp
    cases e with
    | normal => exact hp
    | exit i => exact hp
    | ret => exact hp
    | goto l => exact hp.elim
    | panic ch => exact hp.elim
    | outgrown => exact hp.elim
  | .label l, E, S, ro, hk, hY, hR, Q, σ, H, a, w, h, hs => wpIn_label ⟨σ, H, h, hs⟩
  | .goto l, E, S, ro, hk, hY, hR, Q, σ, H, a, w, h, hs => h.elim
  | .rangeFunc f ps as c, E, S, ro, hk, hY, hR, Q, σ, H, a, w, h, hs => by
    obtain ⟨rfl, hRf⟩ := hR h.1
    exact range_ok hk hRf hs h (fun ro S Q σ H a w h hs => awp_ok as hk.inR (fun q hq => by cases hq) (fun hr => by cases hr) Q σ H a w h hs) (fun ro S Q σ H a w h hs => awp_ok c hk.inR (fun q hq => by cases hq) (fun hr => by cases hr) Q σ H a w h hs)
  | .refuse _, E, S, ro, hk, hY, hR, Q, σ, H, a, w, h, hs => h.elim
end Go.Proofs.Ytgljcfnplkcfhaa.Vc

/- Texts of this claim: S27.Pf, S27.Pg, S27.Ph, S27.Pq, S27.Pr, S27.L1, S27.L2. -/
import Derived.Test.YtmkphnlpbngenaaDoorS2
import Derived.Test.YtmkphnlpbngenaaDoorS1
set_option linter.unusedVariables false
set_option linter.unusedSimpArgs false
namespace Go.Proofs.YtmkphnlpbngenaaDoor.S27
open Go

abbrev Shr := Int × List UInt8 × Unit
abbrev Dl := Int × List Rw × Unit
def shB (l : List (List UInt8)) (h : Nat) : List UInt8 := l.map fun p => horner (pt (h : Int)) p
def shK (l : List (List UInt8)) (k : Nat) : List Shr := (List.range k).map fun h : Nat => ((h : Int), shB l h, ())
theorem shK_len (l : List (List UInt8)) (k : Nat) : (shK l k).length = k := by simp [shK]
theorem shK_snoc (l : List (List UInt8)) (k : Nat) : shK l (k + 1) = shK l k ++ [((k : Int), shB l k, ())] := by unfold shK; rw [List.range_succ, List.map_append]; rfl
theorem shB_len (l : List (List UInt8)) (h : Nat) : (shB l h).length = l.length := List.length_map ..
theorem mapT_len {α β : Type} (f : α → β) (l : List α) (k : Nat) (h : k ≤ l.length) : ((l.take k).map f).length = k := by rw [List.length_map, List.length_take]; omega

/-! ### shares renewed -/
def rnR (ds : List Dl) (h : Nat) : List Rw := ds.map fun d => rowD d.2.1 (h : Int)
def rnK (l : List Shr) (ds : List Dl) (k : Nat) : List Shr := (List.range k).map fun h : Nat => ((h : Int), updB (h : Int) (l.getD h (0, [], ())).2.1 (rnR ds h), ())
theorem rnK_len (l : List Shr) (ds : List Dl) (k : Nat) : (rnK l ds k).length = k := by simp [rnK]
theorem rnK_snoc (l : List Shr) (ds : List Dl) (k : Nat) : rnK l ds (k + 1) = rnK l ds k ++ [((k : Int), updB (k : Int) (l.getD k (0, [], ())).2.1 (rnR ds k), ())] := by unfold rnK; rw [List.range_succ, List.map_append]; rfl
structure RnOk (N : Nat) (l : List Shr) (ds : List Dl) : Prop where
  n : N ≤ 4096
  len : l.length ≤ 12
  dlen : ds.length ≤ 1000
  sh : ∀ h, h < l.length → (l.getD h (0, [], ())).1 = (h : Int) ∧ (l.getD h (0, [], ())).2.1.length = N
  dl : ∀ d ∈ ds, chkD d.1 d.2.1 = 0 ∧ n00 d.2.1 = N
def rnP (l : List Shr) (ds : List Dl) : Prop := ∃ N, RnOk N l ds
theorem deal_right {nd : Int} {cf : List Rw} (h : Deal nd cf) (x : Int) : rightB (rowD cf x) = true ∧ n0 (rowD cf x) = n00 cf := by
  obtain ⟨h1, h2, h3, h4, h5, h6, h7⟩ := h
  have hs : ∀ s ∈ rowD cf x, s.length = n00 cf := fun s hs => by
    obtain ⟨l, hl, rfl⟩ := List.mem_map.1 hs
    have hll := h4 l hl
    have key : ∀ (l : Rw) (N : Nat), 1 ≤ l.length → (∀ s ∈ l, s.length = N) → (atL l (pt x)).length = N := by
      intro l
      induction l with
      | nil => intro N h; simp at h
      | cons a r ih =>
        intro N _ hN
        cases r with
        | nil => exact hN a (by simp)
        | cons b r =>
          rw [atL, sum_len, scale_len, ih N (by simp) fun y hy => hN y (by simp [hy]), hN a (by simp)]
          omega
    exact key l _ (by omega) (h5 l hl)
  have hl : (rowD cf x).length = cf.length := rowD_len cf x
  have h0 : n0 (rowD cf x) = n00 cf := hs _ (getD_mem [] _ 0 (by omega))
  refine ⟨?_, h0⟩
  rw [right_all (by omega) (by omega), List.all_eq_true]
  intro s hm
  rw [hs s hm, h0, decide_eq_true rfl, decide_eq_true h6]; rfl
theorem rn_upd {N : Nat} {l : List Shr} {ds : List Dl} (h : RnOk N l ds) {k : Nat} (hk : k < l.length) :
    updE (l.getD k (0, [], ())).1 (l.getD k (0, [], ())).2.1 (rnR ds k) = 0 ∧ updH (l.getD k (0, [], ())).1 (l.getD k (0, [], ())).2.1 (rnR ds k) = (k : Int) ∧ updS (l.getD k (0, [], ())).1 (l.getD k (0, [], ())).2.1 (rnR ds k) = updB (k : Int) (l.getD k (0, [], ())).2.1 (rnR ds k) := by
  obtain ⟨h1, h2, _, h3, h4⟩ := h
  obtain ⟨a, b⟩ := h3 k hk
  have e : updE (l.getD k (0, [], ())).1 (l.getD k (0, [], ())).2.1 (rnR ds k) = 0 := by
    unfold updE
    rw [a, if_pos (show knw (k : Int) from ⟨by omega, by omega⟩), if_pos (by omega), if_pos]
    rw [List.all_eq_true]
    intro r hr
    obtain ⟨d, hd, rfl⟩ := List.mem_map.1 hr
    obtain ⟨h5, h6⟩ := h4 d hd
    obtain ⟨h7, h8⟩ := deal_right (chkD0 h5) (k : Int)
    exact updOk_yes h7 (by omega)
  refine ⟨e, ?_, ?_⟩
  · rw [updH, if_pos e, a]
  · rw [updS, if_pos e, a]

theorem rnR_snoc (ds : List Dl) (k i : Nat) (hi : i < ds.length) {r : Rw} (e : r = rowD (ds.getD i (0, [], ())).2.1 (k : Int)) : rnR (ds.take (i + 1)) k = rnR (ds.take i) k ++ [r] := by
  subst e; exact map_take_snoc (0, [], ()) _ ds i hi
theorem rnK_snoc' {l : List Shr} {ds : List Dl} {k : Nat} {a : Int} {b : List UInt8} (e1 : a = (k : Int)) (e2 : b = updB (k : Int) (l.getD k (0, [], ())).2.1 (rnR ds k)) : rnK l ds (k + 1) = rnK l ds k ++ [(a, b, ())] := by
  subst e1; subst e2; exact rnK_snoc l ds k
theorem rnR_le {ds : List Dl} {N : Nat} (h : ∀ d ∈ ds, d.2.1.length ≤ N) (k i : Nat) : ∀ r ∈ rnR (ds.take i) k, r.length ≤ N := fun r hr => by
  obtain ⟨d, hd, rfl⟩ := List.mem_map.1 hr
  rw [rowD_len]
  exact h d (List.mem_of_mem_take hd)

/-! ### the secret of shares -/
def xsL (l : List Shr) : List UInt8 := l.map fun s => pt s.1
def ysL (l : List Shr) (k : Nat) : List UInt8 := l.map fun s => s.2.1.getD k 0
def secK (l : List Shr) (nd : Int) (k : Nat) : List UInt8 := (List.range k).map fun i => horner 0 (tpL (xsL l) (ysL l i) (nd - 1)).1
theorem secK_len (l : List Shr) (nd : Int) (k : Nat) : (secK l nd k).length = k := by simp [secK]
theorem secK_snoc (l : List Shr) (nd : Int) (k : Nat) : secK l nd (k + 1) = secK l nd k ++ [horner 0 (tpL (xsL l) (ysL l k) (nd - 1)).1] := by unfold secK; rw [List.range_succ, List.map_append]; rfl
theorem secK_snoc' {l : List Shr} {nd : Int} {k : Nat} {r : UInt8} (e : r = horner 0 (tpL (xsL l) (ysL l k) (nd - 1)).1) : secK l nd (k + 1) = secK l nd k ++ [r] := by
  subst e; exact secK_snoc l nd k
def sN (l : List Shr) : Nat := (l.getD 0 (0, [], ())).2.1.length
structure SecOk (l : List Shr) (nd : Int) : Prop where
  nd1 : 1 ≤ nd
  nd2 : nd ≤ (l.length : Int)
  len : l.length ≤ 1000
  max : sN l ≤ 1048576
  hs : ∀ s ∈ l, knw s.1
  same : ∀ s ∈ l, s.2.1.length = sN l
  thr : ∀ k, k < sN l → (tpL (xsL l) (ysL l k) (nd - 1)).2 = 0
theorem tp_len (a b : List UInt8) (d : Int) : (tpL a b d).1.length ≤ 2 * a.length + 3 := by
  unfold tpL
  split
  · split
    · simp
    · split
      · exact Nat.zero_le _
      · have := thrL_len a b
        split <;> simp <;> omega
  · simp

/-! ### another polynomial -/
def othX (s : Int) (k : Nat) : List UInt8 := 0 :: ((List.range k).filter fun h => decide (bitP s h)).map fun h : Nat => pt (h : Int)
def othY (p : List UInt8) (s : Int) (z : UInt8) (k : Nat) : List UInt8 := z :: ((List.range k).filter fun h => decide (bitP s h)).map fun h : Nat => horner (pt (h : Int)) p
theorem oth_yes {s : Int} {k : Nat} (h : bitP s k) : ((List.range (k + 1)).filter fun h => decide (bitP s h)) = ((List.range k).filter fun h => decide (bitP s h)) ++ [k] := by
  rw [List.range_succ, List.filter_append]
  congr 1
  exact List.filter_cons_of_pos (decide_eq_true h)
theorem oth_no {s : Int} {k : Nat} (h : ¬ bitP s k) : ((List.range (k + 1)).filter fun h => decide (bitP s h)) = ((List.range k).filter fun h => decide (bitP s h)) := by
  rw [List.range_succ, List.filter_append, show List.filter (fun h => decide (bitP s h)) [k] = [] from List.filter_cons_of_neg (by rw [decide_eq_true_eq]; exact h), List.append_nil]
theorem othX_yes {s : Int} {k : Nat} (h : bitP s k) : othX s (k + 1) = othX s k ++ [pt (k : Int)] := by unfold othX; rw [oth_yes h, List.map_append]; rfl
theorem othX_no {s : Int} {k : Nat} (h : ¬ bitP s k) : othX s (k + 1) = othX s k := by unfold othX; rw [oth_no h]
theorem othY_yes {p : List UInt8} {s : Int} {z : UInt8} {k : Nat} (h : bitP s k) : othY p s z (k + 1) = othY p s z k ++ [horner (pt (k : Int)) p] := by unfold othY; rw [oth_yes h, List.map_append]; rfl
theorem othY_no {p : List UInt8} {s : Int} {z : UInt8} {k : Nat} (h : ¬ bitP s k) : othY p s z (k + 1) = othY p s z k := by unfold othY; rw [oth_no h]
theorem othX_len (s : Int) (k : Nat) : (othX s k).length ≤ k + 1 := by
  unfold othX
  rw [List.length_cons, List.length_map]
  have := List.length_filter_le (fun h => decide (bitP s h)) (List.range k)
  rw [List.length_range] at this
  omega
theorem othY_len (p : List UInt8) (s : Int) (z : UInt8) (k : Nat) : (othY p s z k).length = (othX s k).length := by unfold othY othX; simp
def othL (p : List UInt8) (s nd : Int) (z : UInt8) : List UInt8 := if (ipL (othX s 12) (othY p s z 12)).2 = 0 ∧ ((ipL (othX s 12) (othY p s z 12)).1.length : Int) ≤ nd then (ipL (othX s 12) (othY p s z 12)).1 else []
end Go.Proofs.YtmkphnlpbngenaaDoor.S27

namespace Go.Proofs.YtmkphnlpbngenaaDoor.S27
open Go

/-! ### sums -/
def xs' (f : Nat → UInt8) : Nat → UInt8
  | 0 => 0
  | n + 1 => xs' f n ^^^ f n
theorem xs_congr {f g : Nat → UInt8} : ∀ {n : Nat}, (∀ i, i < n → f i = g i) → xs' f n = xs' g n
  | 0, _ => rfl
  | n + 1, h => by
    show xs' f n ^^^ f n = xs' g n ^^^ g n
    rw [xs_congr fun i hi => h i (by omega), h n (by omega)]
theorem xs_zero : ∀ (n : Nat), xs' (fun _ => 0) n = 0
  | 0 => rfl
  | n + 1 => by
    show xs' _ n ^^^ 0 = 0
    rw [xs_zero n]; rfl
theorem xs_add (f g : Nat → UInt8) : ∀ n, xs' (fun i => f i ^^^ g i) n = xs' f n ^^^ xs' g n
  | 0 => by simp [xs']
  | n + 1 => by
    show xs' _ n ^^^ (f n ^^^ g n) = (xs' f n ^^^ f n) ^^^ (xs' g n ^^^ g n)
    rw [xs_add f g n]; ac_rfl
theorem xs_mul (c : UInt8) (f : Nat → UInt8) : ∀ n, xs' (fun i => mulL c (f i)) n = mulL c (xs' f n)
  | 0 => (mul_zero' c).symm
  | n + 1 => by
    show xs' _ n ^^^ mulL c (f n) = mulL c (xs' f n ^^^ f n)
    rw [xs_mul c f n, mulL_addr]
theorem xs_swap (f : Nat → Nat → UInt8) (m : Nat) : ∀ n, xs' (fun i => xs' (f i) m) n = xs' (fun j => xs' (fun i => f i j) n) m
  | 0 => (xs_zero m).symm
  | n + 1 => by
    show xs' (fun i => xs' (f i) m) n ^^^ xs' (f n) m = _
    rw [xs_swap f m n, ← xs_add]
    rfl
def pw (x : UInt8) : Nat → UInt8
  | 0 => 1
  | n + 1 => mulL x (pw x n)
theorem xs_shift (f : Nat → UInt8) : ∀ n, xs' f (n + 1) = f 0 ^^^ xs' (fun i => f (i + 1)) n
  | 0 => by show (0 : UInt8) ^^^ f 0 = f 0 ^^^ 0; simp
  | n + 1 => by
    show xs' f (n + 1) ^^^ f (n + 1) = f 0 ^^^ (xs' (fun i => f (i + 1)) n ^^^ f (n + 1))
    rw [xs_shift f n]; ac_rfl
theorem horner_xs (x : UInt8) : ∀ (p : List UInt8) (n : Nat), p.length ≤ n → horner x p = xs' (fun i => mulL (co p i) (pw x i)) n
  | [], n, _ => by
    rw [show (fun i => mulL (co [] i) (pw x i)) = fun _ => 0 from funext fun i => by rw [co_nil, zero_mul'], xs_zero]; rfl
  | c :: p, 0, h => by simp at h
  | c :: p, n + 1, h => by
    rw [xs_shift]
    show mulL (horner x p) x ^^^ c = mulL c (pw x 0) ^^^ _
    rw [show pw x 0 = 1 from rfl, mul_one', horner_xs x p n (by simpa using h), mul_comm' _ x, ← xs_mul, UInt8.xor_comm]
    congr 1
    exact xs_congr fun i _ => by
      show mulL x (mulL (co p i) (pw x i)) = mulL (co p i) (mulL x (pw x i))
      ac_rfl

/-! ### rows of strings, byte for byte -/
def colL (l : Rw) (k : Nat) : List UInt8 := l.map fun s => s.getD k 0
theorem colL_len (l : Rw) (k : Nat) : (colL l k).length = l.length := List.length_map ..
theorem co_col (l : Rw) (k i : Nat) : co (colL l k) i = (l.getD i []).getD k 0 := by
  unfold co colL
  rw [List.getD_eq_getElem?_getD, List.getElem?_map, List.getD_eq_getElem?_getD (l := l)]
  cases l[i]? <;> rfl
theorem scale_get {c : UInt8} {s : List UInt8} {k : Nat} (h : k < s.length) : (scaleB c s).getD k 0 = mulL c (s.getD k 0) := by
  simp [scaleB, scaleF, List.getD_eq_getElem?_getD, h]
theorem sum_get {a b : List UInt8} {k : Nat} (hl : a.length = b.length) (h : k < a.length) : (sumB a b).getD k 0 = a.getD k 0 ^^^ b.getD k 0 := by
  unfold sumB
  rw [if_neg (by omega)]
  simp [sumF, sumG, List.getD_eq_getElem?_getD, h, hl ▸ h]
theorem ext_get {a b : List UInt8} {N : Nat} (ha : a.length = N) (hb : b.length = N) (h : ∀ k, k < N → a.getD k 0 = b.getD k 0) : a = b := by
  apply List.ext_getElem (by omega)
  intro i h1 h2
  have := h i (by omega)
  simpa [List.getD_eq_getElem?_getD, h1, h2] using this
theorem row_ext {a b : Rw} {m N : Nat} (ha : a.length = m) (hb : b.length = m) (ha2 : ∀ s ∈ a, s.length = N) (hb2 : ∀ s ∈ b, s.length = N) (h : ∀ i j, i < m → j < N → (a.getD i []).getD j 0 = (b.getD i []).getD j 0) : a = b := by
  apply List.ext_getElem (by omega)
  intro i h1 h2
  have e1 : a.getD i [] = a[i] := by simp [List.getD_eq_getElem?_getD, h1]
  have e2 : b.getD i [] = b[i] := by simp [List.getD_eq_getElem?_getD, h2]
  rw [← e1, ← e2]
  exact ext_get (ha2 _ (getD_mem [] a i h1)) (hb2 _ (getD_mem [] b i h2)) fun k hk => h i k (by omega) hk
theorem at_len {x : UInt8} {N : Nat} : ∀ (l : Rw), 1 ≤ l.length → (∀ s ∈ l, s.length = N) → (atL l x).length = N
  | [], h, _ => by simp at h
  | [s], _, h => h s (by simp)
  | s :: t :: r, _, h => by
    rw [atL, sum_len, scale_len, at_len (t :: r) (by simp) fun y hy => h y (by simp [hy]), h s (by simp)]
    omega
theorem at_get {x : UInt8} {N k : Nat} (hk : k < N) : ∀ (l : Rw), 1 ≤ l.length → (∀ s ∈ l, s.length = N) → (atL l x).getD k 0 = horner x (colL l k)
  | [], h, _ => by simp at h
  | [s], _, h => by
    show s.getD k 0 = mulL 0 x ^^^ s.getD k 0
    rw [zero_mul']; simp
  | s :: t :: r, _, h => by
    have hl := at_len (x := x) (t :: r) (by simp) fun y hy => h y (by simp [hy])
    have hs := h s (by simp)
    rw [atL, sum_get (by rw [scale_len]; omega) (by rw [scale_len]; omega), scale_get (by omega), at_get hk (t :: r) (by simp) fun y hy => h y (by simp [hy]), mul_comm']
    rfl

/-! ### deals -/
theorem row_len {nd : Int} {cf : List Rw} (h : Deal nd cf) (x : Int) : ∀ s ∈ rowD cf x, s.length = n00 cf := fun s hs => by
  obtain ⟨l, hl, rfl⟩ := List.mem_map.1 hs
  have := h.rows l hl
  have h2 := h.n2
  have h3 := h.len
  exact at_len l (by omega) (h.strs l hl)
theorem row_get {nd : Int} {cf : List Rw} (h : Deal nd cf) (x : Int) (i : Nat) (hi : i < cf.length) : (rowD cf x).getD i [] = atL (cf.getD i []) (pt x) := by
  simp [rowD, List.getD_eq_getElem?_getD, hi]
theorem row_sym {nd : Int} {cf : List Rw} (h : Deal nd cf) (x y : Int) (j : Nat) (hj : j < n00 cf) : horner (pt y) (colL (rowD cf x) j) = horner (pt x) (colL (rowD cf y) j) := by
  have key : ∀ x y : Int, horner (pt y) (colL (rowD cf x) j) = xs' (fun a => xs' (fun b => mulL (mulL (((cf.getD a []).getD b []).getD j 0) (pw (pt x) b)) (pw (pt y) a)) cf.length) cf.length := fun x y => by
    rw [horner_xs _ _ cf.length (by rw [colL_len, rowD_len]; omega)]
    refine xs_congr fun a ha => ?_
    have hm := getD_mem [] cf a ha
    have hr := h.rows _ hm
    have h2 := h.n2
    have h3 := h.len
    rw [co_col, row_get h x a ha, at_get hj _ (by omega) (h.strs _ hm), horner_xs _ _ cf.length (by rw [colL_len]; omega), mul_comm', ← xs_mul]
    exact xs_congr fun b _ => by rw [co_col, mul_comm']
  rw [key x y, key y x, xs_swap]
  exact xs_congr fun b hb => xs_congr fun a ha => by
    rw [h.sym a b ha hb]; ac_rfl

/-! ### points -/
theorem pt_nat {h : Nat} (hh : h < 12) : (pt (h : Int)).toNat = h + 1 := by
  unfold pt
  rw [show (((h : Int) + 1) % 256).toNat = h + 1 by omega]
  simp; omega
theorem pt_inj {a b : Nat} (ha : a < 12) (hb : b < 12) (h : pt (a : Int) = pt (b : Int)) : a = b := by
  have := congrArg UInt8.toNat h
  rw [pt_nat ha, pt_nat hb] at this; omega
theorem pt_ne {a : Nat} (ha : a < 12) : pt (a : Int) ≠ 0 := fun h => by
  have := congrArg UInt8.toNat h
  rw [pt_nat ha] at this; simp at this
theorem nodup_pts : ∀ (l : List Nat), l.Nodup → (∀ i ∈ l, i < 12) → (l.map fun i : Nat => pt (i : Int)).Nodup
  | [], _, _ => List.nodup_nil
  | a :: l, hn, hl => by
    rw [List.map_cons, List.nodup_cons]
    rw [List.nodup_cons] at hn
    refine ⟨fun hm => ?_, nodup_pts l hn.2 fun i hi => hl i (by simp [hi])⟩
    obtain ⟨b, hb, e⟩ := List.mem_map.1 hm
    have := pt_inj (hl b (by simp [hb])) (hl a (by simp)) e
    subst this
    exact hn.1 hb

/-! ### the polynomial through points, as a sum -/
def lag (xs : List UInt8) (k : Nat) : List UInt8 := thrL xs (unitL xs.length k)
def lagS (xs : List UInt8) (v : Nat → UInt8) : Nat → List UInt8
  | 0 => []
  | n + 1 => sumL [lagS xs v n, (lag xs n).map (mulL (v n))]
theorem unit_len (m k : Nat) : (unitL m k).length = m := by simp [unitL]
theorem unit_get (m k i : Nat) (hi : i < m) : (unitL m k).getD i 0 = if i = k then 1 else 0 := by
  unfold unitL
  rw [List.getD_eq_getElem?_getD, List.getElem?_set]
  by_cases e : k = i
  · subst e; simp [hi]
  · rw [if_neg e, if_neg (fun h => e h.symm)]
    simp [hi]
theorem lagS_co (xs : List UInt8) (v : Nat → UInt8) (a : Nat) : ∀ n, co (lagS xs v n) a = xs' (fun k => mulL (co (lag xs k) a) (v k)) n
  | 0 => co_nil a
  | n + 1 => by
    show co (sumL [_, _]) a = xs' _ n ^^^ mulL (co (lag xs n) a) (v n)
    rw [co_sum, lagS_co xs v a n, co_map, mul_comm']
theorem lagS_val (xs : List UInt8) (v : Nat → UInt8) (z : UInt8) : ∀ n, horner z (lagS xs v n) = xs' (fun k => mulL (horner z (lag xs k)) (v k)) n
  | 0 => rfl
  | n + 1 => by
    show horner z (sumL [_, _]) = xs' _ n ^^^ mulL (horner z (lag xs n)) (v n)
    rw [horner_sum, lagS_val xs v z n, horner_map, mul_comm']
theorem sz_map (c : UInt8) (p : List UInt8) : sz (p.map (mulL c)) ≤ sz p := sz_le fun i hi => by rw [co_map, sz_co p i hi, mul_zero']
theorem lagS_sz (xs : List UInt8) (v : Nat → UInt8) : ∀ n, sz (lagS xs v n) ≤ xs.length
  | 0 => Nat.zero_le _
  | n + 1 => sz_sum_le _ _ _ (lagS_sz xs v n) (Nat.le_trans (sz_map _ _) (thrL_sz _ _))
theorem lag_val (xs : List UInt8) (hn : xs.Nodup) (k i : Nat) (hi : i < xs.length) : horner (xs.getD i 0) (lag xs k) = if i = k then 1 else 0 := by
  unfold lag
  rw [thrL_val xs _ ⟨hn, (unit_len _ _).symm⟩ i hi, unit_get _ _ _ hi]
theorem xs_pick (g : Nat → UInt8) (i : Nat) : ∀ n, xs' (fun k => mulL (if i = k then 1 else 0) (g k)) n = if i < n then g i else 0
  | 0 => rfl
  | n + 1 => by
    show xs' _ n ^^^ mulL (if i = n then 1 else 0) (g n) = _
    rw [xs_pick g i n]
    by_cases e : i = n
    · subst e; rw [if_neg (by omega), if_pos rfl, if_pos (by omega), one_mul']; simp
    · rw [if_neg e, zero_mul']
      by_cases h : i < n
      · rw [if_pos h, if_pos (by omega)]; simp
      · rw [if_neg h, if_neg (by omega)]; rfl
theorem lagS_at (xs : List UInt8) (hn : xs.Nodup) (v : Nat → UInt8) (i : Nat) (hi : i < xs.length) : horner (xs.getD i 0) (lagS xs v xs.length) = v i := by
  rw [lagS_val, show (fun k => mulL (horner (xs.getD i 0) (lag xs k)) (v k)) = fun k => mulL (if i = k then 1 else 0) (v k) from funext fun k => by rw [lag_val xs hn k i hi], xs_pick, if_pos hi]
theorem lagS_is (xs : List UInt8) (hn : xs.Nodup) (q : List UInt8) (hq : sz q ≤ xs.length) (v : Nat → UInt8) (hv : ∀ k, k < xs.length → v k = horner (xs.getD k 0) q) : trimL (lagS xs v xs.length) = trimL q := by
  refine poly_unique xs _ _ hn (fun x hx => ?_) (lagS_sz _ _ _) hq
  obtain ⟨i, hi, rfl⟩ := List.mem_iff_getElem.1 hx
  have e : xs.getD i 0 = xs[i] := by simp [List.getD_eq_getElem?_getD, hi]
  rw [← e, lagS_at xs hn v i hi, hv i hi]
/-- Its coefficients. -/
theorem lag_co (xs : List UInt8) (hn : xs.Nodup) (q : List UInt8) (hq : sz q ≤ xs.length) (v : Nat → UInt8) (hv : ∀ k, k < xs.length → v k = horner (xs.getD k 0) q) (a : Nat) : xs' (fun k => mulL (co (lag xs k) a) (v k)) xs.length = co q a := by
  rw [← lagS_co]
  exact co_eq_of_trim (lagS_is xs hn q hq v hv) a
/-- Its values. -/
theorem lag_at (xs : List UInt8) (hn : xs.Nodup) (q : List UInt8) (hq : sz q ≤ xs.length) (z : UInt8) : horner z q = xs' (fun k => mulL (horner z (lag xs k)) (horner (xs.getD k 0) q)) xs.length := by
  rw [← lagS_val, ← horner_trim z (lagS _ _ _), lagS_is xs hn q hq _ fun k _ => rfl, horner_trim]
end Go.Proofs.YtmkphnlpbngenaaDoor.S27

namespace Go.Proofs.YtmkphnlpbngenaaDoor.S27
open Go

/-! ### a row from others -/
structure RowsOk (rows : List Rw) (m N : Nat) : Prop where
  len : rows.length ≤ 12
  m1 : 1 ≤ m
  m11 : m ≤ 11
  nmax : N ≤ 4096
  row : ∀ k, k < rows.length → 0 < (rows.getD k []).length → (rows.getD k []).length = m ∧ ∀ s ∈ rows.getD k [], s.length = N
  agree : ∀ a b, a < rows.length → b < rows.length → 0 < (rows.getD a []).length → 0 < (rows.getD b []).length → ∀ j, j < N → horner (pt (b : Int)) (colL (rows.getD a []) j) = horner (pt (a : Int)) (colL (rows.getD b []) j)
theorem out_len' {ps : List UInt8} {vs : Rw} {m N : Nat} (hv : ∀ i, i < m → (vs.getD i []).length = N) {a : Nat} (ha : a < m) : ∀ k, k < m → ((outS ps vs m (k + 1)).getD a []).length = N
  | 0, hk => by
    rw [outS]
    simp [List.getD_eq_getElem?_getD, ha, outN, scale_len]
    have := hv 0 hk
    simpa [List.getD_eq_getElem?_getD] using this
  | k + 1, hk => by
    have h1 := out_len' (ps := ps) hv ha k (by omega)
    have h2 := hv (k + 1) hk
    rw [outS]
    have e : ((List.range m).map (outN ps vs m (k + 1) (outS ps vs m (k + 1)))).getD a [] = outN ps vs m (k + 1) (outS ps vs m (k + 1)) a := by simp [List.getD_eq_getElem?_getD, ha]
    rw [e, outN, if_neg (by omega), sum_len, scale_len, h1, h2]
    omega
theorem out_get' {ps : List UInt8} {vs : Rw} {m N : Nat} (hv : ∀ i, i < m → (vs.getD i []).length = N) {a j : Nat} (ha : a < m) (hj : j < N) : ∀ k, k < m → ((outS ps vs m (k + 1)).getD a []).getD j 0 = xs' (fun i => mulL (coefP ps m i a) ((vs.getD i []).getD j 0)) (k + 1)
  | 0, hk => by
    have e : (outS ps vs m (0 + 1)).getD a [] = scaleB (coefP ps m 0 a) (vs.getD 0 []) := by
      rw [outS]; simp [List.getD_eq_getElem?_getD, ha, outN]
    rw [e, scale_get (by rw [hv 0 hk]; exact hj)]
    show _ = 0 ^^^ _
    simp
  | k + 1, hk => by
    have h1 := out_len' (ps := ps) hv ha k (by omega)
    have h2 := hv (k + 1) hk
    have e : (outS ps vs m (k + 1 + 1)).getD a [] = sumB ((outS ps vs m (k + 1)).getD a []) (scaleB (coefP ps m (k + 1) a) (vs.getD (k + 1) [])) := by
      rw [outS]; simp only [List.getD_eq_getElem?_getD, List.getElem?_map, List.getElem?_range ha, Option.map_some, Option.getD_some, outN]
      rw [if_neg (by omega)]
    rw [e, sum_get (by rw [scale_len, h1, h2]) (by rw [h1]; exact hj), scale_get (by rw [h2]; exact hj), out_get' hv ha hj k (by omega)]
    rfl
def fI (rows : List Rw) (i : Nat) : Nat := (fullK rows rows.length).getD i 0
def psM (rows : List Rw) (m : Nat) : List UInt8 := (ptsK rows rows.length).take m
theorem full_nodup (rows : List Rw) (k : Nat) : (fullK rows k).Nodup := List.Nodup.sublist List.filter_sublist List.nodup_range
section
variable {rows : List Rw} {m N : Nat}
theorem fI_ok {i : Nat} (hi : i < (fullK rows rows.length).length) : fI rows i < rows.length ∧ 0 < (rows.getD (fI rows i) []).length := full_mem.1 (getD_mem 0 _ i hi)
theorem psM_len (hf : m ≤ (fullK rows rows.length).length) : (psM rows m).length = m := by
  unfold psM; rw [List.length_take, pts_len]; omega
theorem psM_nodup (hl : rows.length ≤ 12) : (psM rows m).Nodup := List.Nodup.sublist (List.take_sublist _ _) (nodup_pts _ (full_nodup _ _) fun i hi => by have := (full_mem.1 hi).1; omega)
theorem psM_get (hf : m ≤ (fullK rows rows.length).length) {i : Nat} (hi : i < m) : (psM rows m).getD i 0 = pt (fI rows i : Int) := by
  unfold psM ptsK fI
  have : i < (fullK rows rows.length).length := by omega
  simp [List.getD_eq_getElem?_getD, hi, this]
theorem vls_get (h : Int) {i : Nat} (hi : i < (fullK rows rows.length).length) : (vlsK rows h rows.length).getD i [] = atL (rows.getD (fI rows i) []) (pt h) := by
  unfold vlsK fI
  simp [List.getD_eq_getElem?_getD, hi]
theorem coef_lag (hl : rows.length ≤ 12) (hf : m ≤ (fullK rows rows.length).length) (i a : Nat) : coefP (psM rows m) m i a = co (lag (psM rows m) i) a := by
  unfold coefP ipL lag
  rw [psM_len hf, if_pos ⟨psM_nodup hl, by rw [psM_len hf, unit_len]⟩]
  rfl
theorem vls_ok (H : RowsOk rows m N) (h : Int) {i : Nat} (hi : i < (fullK rows rows.length).length) : ((vlsK rows h rows.length).getD i []).length = N ∧ ∀ j, j < N → ((vlsK rows h rows.length).getD i []).getD j 0 = horner (pt h) (colL (rows.getD (fI rows i) []) j) := by
  obtain ⟨h1, h2⟩ := fI_ok hi
  obtain ⟨h3, h4⟩ := H.row _ h1 h2
  rw [vls_get h hi]
  exact ⟨at_len _ (by omega) h4, fun j hj => at_get hj _ (by omega) h4⟩
theorem rfl_len (H : RowsOk rows m N) (h : Int) (hf : m ≤ (fullK rows rows.length).length) (hm : lastK rows rows.length = m) : (rflO rows h rows.length).length = m ∧ ∀ s ∈ rflO rows h rows.length, s.length = N := by
  have e : rflO rows h rows.length = outS (psM rows m) (vlsK rows h rows.length) m m := by unfold rflO psM; rw [hm]
  have hm1 := H.m1
  rw [e]
  refine ⟨outS_len _ _ _ _, fun s hs => ?_⟩
  obtain ⟨a, ha, rfl⟩ := getD_mem' (d := []) hs
  rw [outS_len] at ha
  obtain ⟨k, rfl⟩ : ∃ k, m = k + 1 := ⟨m - 1, by omega⟩
  exact out_len' (fun i hi => (vls_ok H h (by omega)).1) ha k (by omega)
theorem rfl_co (H : RowsOk rows m N) (h : Int) (hf : m ≤ (fullK rows rows.length).length) (hm : lastK rows rows.length = m) {a j : Nat} (ha : a < m) (hj : j < N) :
    ((rflO rows h rows.length).getD a []).getD j 0 = xs' (fun i => mulL (co (lag (psM rows m) i) a) (horner (pt h) (colL (rows.getD (fI rows i) []) j))) m := by
  have e : rflO rows h rows.length = outS (psM rows m) (vlsK rows h rows.length) m m := by unfold rflO psM; rw [hm]
  have hm1 := H.m1
  rw [e]
  obtain ⟨k, rfl⟩ : ∃ k, m = k + 1 := ⟨m - 1, by omega⟩
  rw [out_get' (fun i hi => (vls_ok H h (by omega)).1) ha hj k (by omega)]
  exact xs_congr fun i hi => by rw [coef_lag H.len hf, (vls_ok H h (by omega)).2 j hj]
/-- The row that fits the others is the one that is found. -/
theorem rfl_is (H : RowsOk rows m N) (h : Int) (hf : m ≤ (fullK rows rows.length).length) (hm : lastK rows rows.length = m) (T : Rw) (hT : T.length = m) (hTN : ∀ s ∈ T, s.length = N)
    (hv : ∀ f, f < rows.length → 0 < (rows.getD f []).length → ∀ j, j < N → horner (pt h) (colL (rows.getD f []) j) = horner (pt (f : Int)) (colL T j)) : rflO rows h rows.length = T := by
  obtain ⟨h1, h2⟩ := rfl_len H h hf hm
  refine row_ext h1 hT h2 hTN fun a j ha hj => ?_
  rw [rfl_co H h hf hm ha hj, ← co_col]
  have hp := psM_len hf
  have := lag_co (psM rows m) (psM_nodup H.len) (colL T j) (by rw [hp]; exact Nat.le_trans (sz_len _) (by rw [colL_len]; omega)) (fun i => horner (pt h) (colL (rows.getD (fI rows i) []) j)) (fun i hi => by
    rw [hp] at hi
    obtain ⟨k1, k2⟩ := fI_ok (rows := rows) (i := i) (by omega)
    show horner _ _ = _
    rw [psM_get hf hi, hv _ k1 k2 j hj]) a
  rw [hp] at this
  exact this
/-- The values of what is found. -/
theorem rfl_at (H : RowsOk rows m N) (h : Int) (hf : m ≤ (fullK rows rows.length).length) (hm : lastK rows rows.length = m) (z : UInt8) {j : Nat} (hj : j < N) :
    horner z (colL (rflO rows h rows.length) j) = xs' (fun i => mulL (horner z (lag (psM rows m) i)) (horner (pt h) (colL (rows.getD (fI rows i) []) j))) m := by
  obtain ⟨h1, h2⟩ := rfl_len H h hf hm
  have hp := psM_len hf
  rw [← lagS_val]
  refine horner_ext z fun a => ?_
  rw [co_col, lagS_co]
  rcases Nat.lt_or_ge a m with ha | ha
  · exact rfl_co H h hf hm ha hj
  · have e1 : (rflO rows h rows.length).getD a [] = [] := by simp [List.getD_eq_getElem?_getD, List.getElem?_eq_none (by omega : (rflO rows h rows.length).length ≤ a)]
    rw [e1, ← lagS_co]
    have := sz_co (lagS (psM rows m) (fun i => horner (pt h) (colL (rows.getD (fI rows i) []) j)) m) a (Nat.le_trans (lagS_sz _ _ _) (by omega))
    rw [this]; rfl
theorem rfl_sym (H : RowsOk rows m N) (g h : Int) (hf : m ≤ (fullK rows rows.length).length) (hm : lastK rows rows.length = m) {j : Nat} (hj : j < N) :
    horner (pt g) (colL (rflO rows h rows.length) j) = horner (pt h) (colL (rflO rows g rows.length) j) := by
  have hp := psM_len hf
  have key : ∀ g h : Int, horner (pt g) (colL (rflO rows h rows.length) j) = xs' (fun i => xs' (fun k => mulL (horner (pt g) (lag (psM rows m) i)) (mulL (horner (pt h) (lag (psM rows m) k)) (horner (pt (fI rows k : Int)) (colL (rows.getD (fI rows i) []) j)))) m) m := fun g h => by
    rw [rfl_at H h hf hm _ hj]
    refine xs_congr fun i hi => ?_
    obtain ⟨k1, k2⟩ := fI_ok (rows := rows) (i := i) (by omega)
    obtain ⟨k3, k4⟩ := H.row _ k1 k2
    have := lag_at (psM rows m) (psM_nodup H.len) (colL (rows.getD (fI rows i) []) j) (by rw [hp]; exact Nat.le_trans (sz_len _) (by rw [colL_len]; omega)) (pt h)
    rw [hp] at this
    rw [this, ← xs_mul]
    exact xs_congr fun k hk => by rw [psM_get hf hk]
  rw [key g h, key h g, xs_swap]
  refine xs_congr fun k hk => xs_congr fun i hi => ?_
  obtain ⟨a1, a2⟩ := fI_ok (rows := rows) (i := i) (by omega)
  obtain ⟨b1, b2⟩ := fI_ok (rows := rows) (i := k) (by omega)
  rw [H.agree _ _ a1 b1 a2 b2 j hj]
  ac_rfl
end

/-! ### rows without a complaint -/
theorem cmpL_nil {rows : List Rw} (h0 : cmpE rows = 0) : cmpL rows = [] ↔ ∀ p ∈ pairsL rows, agrP (rows.getD p.1 []) (p.1 : Int) (rows.getD p.2 []) (p.2 : Int) := by
  unfold cmpL cmpO
  rw [if_pos h0, List.map_eq_nil_iff, List.filter_eq_nil_iff]
  refine forall_congr' fun p => forall_congr' fun hp => ?_
  constructor
  · intro h
    refine Classical.byContradiction fun g => h (oddB_yes g)
  · exact fun h => oddB_no h
theorem last_mem {rows : List Rw} : ∀ k, k ≤ rows.length → (lastK rows k = 0 ∧ fullK rows k = []) ∨ ∃ i, i < k ∧ 0 < (rows.getD i []).length ∧ lastK rows k = (rows.getD i []).length
  | 0, _ => .inl ⟨rfl, rfl⟩
  | k + 1, hk => by
    by_cases h : 0 < (rows.getD k []).length
    · have hk2 : k < rows.length := hk
      exact .inr ⟨k, by omega, h, last_yes hk2 h⟩
    · have hk2 : k < rows.length := hk
      rw [last_no hk2 h, full_no h]
      rcases last_mem (rows := rows) k (Nat.le_of_lt hk2) with g | ⟨i, h1, h2, h3⟩
      · exact .inl g
      · exact .inr ⟨i, by omega, h2, h3⟩
theorem rows_ok {rows : List Rw} (h0 : cmpE rows = 0) (hl : cmpL rows = []) (h1 : lastK rows rows.length ≠ 0) : ∃ N, RowsOk rows (lastK rows rows.length) N := by
  obtain ⟨c1, c2, c3⟩ := cmp0 h0
  have c4 := (cmpL_nil h0).1 hl
  rcases last_mem rows.length (Nat.le_refl _) with g | ⟨i, hi, hi2, hi3⟩
  · exact absurd g.1 h1
  have ri := c2 _ (getD_mem [] rows i hi) hi2
  obtain ⟨i1, i2, i3, i4⟩ := right_ok ri
  have alk : ∀ k, k < rows.length → 0 < (rows.getD k []).length → alikeP (rows.getD k []) (rows.getD i []) := fun k hk hk2 => by
    rcases Nat.lt_trichotomy k i with g | g | g
    · exact c3 (k, i) (pairs_mem.2 ⟨g, hi, hk2, hi2⟩)
    · subst g; exact ⟨rfl, rfl⟩
    · have := c3 (i, k) (pairs_mem.2 ⟨g, hk, hi2, hk2⟩)
      exact ⟨this.1.symm, this.2.symm⟩
  have hrow : ∀ k, k < rows.length → 0 < (rows.getD k []).length → (rows.getD k []).length = lastK rows rows.length ∧ ∀ s ∈ rows.getD k [], s.length = n0 (rows.getD i []) := fun k hk hk2 => by
    have h := alk k hk hk2
    have := (right_ok (c2 _ (getD_mem [] rows k hk) hk2)).2.2.1
    exact ⟨by rw [h.1, hi3], fun s hs => by rw [this s hs, h.2]⟩
  refine ⟨n0 (rows.getD i []), c1, by omega, by omega, i4, hrow, fun a b ha hb ha2 hb2 j hj => ?_⟩
  have go : ∀ a b, a < b → a < rows.length → b < rows.length → 0 < (rows.getD a []).length → 0 < (rows.getD b []).length → horner (pt (b : Int)) (colL (rows.getD a []) j) = horner (pt (a : Int)) (colL (rows.getD b []) j) := fun a b hab ha hb ha2 hb2 => by
    have := c4 (a, b) (pairs_mem.2 ⟨hab, hb, ha2, hb2⟩)
    unfold agrP at this
    rw [← at_get hj _ ha2 (hrow a ha ha2).2, ← at_get hj _ hb2 (hrow b hb hb2).2]
    exact congrArg (·.getD j 0) this
  rcases Nat.lt_trichotomy a b with g | g | g
  · exact go a b g ha hb ha2 hb2
  · subst g; rfl
  · exact (go b a g hb ha hb2 ha2).symm
end Go.Proofs.YtmkphnlpbngenaaDoor.S27

namespace Go.Proofs.YtmkphnlpbngenaaDoor.S27
open Go

/-! ### RenewRefills -/
theorem bit_nat (n h : Nat) : bitP (n : Int) h ↔ n / 2 ^ h % 2 = 1 := by
  unfold bitP
  rw [show ((2 : Int) ^ h) = ((2 ^ h : Nat) : Int) by simp]
  omega
theorem cnt_bits : ∀ (f n : Nat), ((List.range f).filter fun h => decide (bitP (n : Int) h)).length = cntK f n
  | 0, _ => rfl
  | f + 1, n => by
    rw [List.range_succ_eq_map, cntK, ← cnt_bits f (n / 2)]
    have e : (List.map Nat.succ (List.range f)).filter (fun h => decide (bitP (n : Int) h)) = ((List.range f).filter fun h => decide (bitP ((n / 2 : Nat) : Int) h)).map Nat.succ := by
      rw [List.filter_map]
      congr 1
      apply List.filter_congr
      intro h _
      show decide (bitP (n : Int) (h + 1)) = decide (bitP ((n / 2 : Nat) : Int) h)
      apply decide_eq_decide.2
      rw [bit_nat, bit_nat, Nat.pow_succ, Nat.mul_comm, ← Nat.div_div_eq_div_mul]
    by_cases h : bitP (n : Int) 0
    · rw [List.filter_cons_of_pos (by simpa using h), e, List.length_cons, List.length_map]
      have := (bit_nat n 0).1 h
      simp at this
      omega
    · rw [List.filter_cons_of_neg (by simpa using h), e, List.length_map]
      have : ¬ n / 2 ^ 0 % 2 = 1 := fun g => h ((bit_nat n 0).2 g)
      simp at this
      omega
section
variable {nd : Int} {cf : List Rw} {s : Int}
theorem dlt_get (k : Nat) : (dltK cf s 12).getD k [] = if k < 12 ∧ bitP s k then rowD cf (k : Int) else [] := by
  unfold dltK
  rcases Nat.lt_or_ge k 12 with h | h
  · simp [List.getD_eq_getElem?_getD, h]
  · rw [if_neg (by omega)]
    simp [List.getD_eq_getElem?_getD, h]
theorem dlt_full (h : Deal nd cf) (k : Nat) : 0 < ((dltK cf s 12).getD k []).length ↔ k < 12 ∧ bitP s k := by
  rw [dlt_get]
  have h2 := h.n2
  have h3 := h.len
  split
  · rename_i g; rw [rowD_len]; exact ⟨fun _ => g, fun _ => by omega⟩
  · rename_i g; exact ⟨fun h => by simp at h, fun h => absurd h g⟩
theorem dlt_yes {k : Nat} (h : k < 12 ∧ bitP s k) : (dltK cf s 12).getD k [] = rowD cf (k : Int) := by rw [dlt_get, if_pos h]
theorem dlt_rows (h : Deal nd cf) : RowsOk (dltK cf s 12) cf.length (n00 cf) := by
  have h2 := h.n2
  have h3 := h.len
  have h4 := h.n12
  refine ⟨by rw [dltK_len]; omega, by omega, by omega, h.max, fun k hk hk2 => ?_, fun a b ha hb ha2 hb2 j hj => ?_⟩
  · rw [dlt_yes ((dlt_full h k).1 hk2)]
    exact ⟨rowD_len _ _, row_len h _⟩
  · rw [dlt_yes ((dlt_full h a).1 ha2), dlt_yes ((dlt_full h b).1 hb2)]
    exact row_sym h _ _ j hj
theorem dlt_cmp (h : Deal nd cf) : cmpE (dltK cf s 12) = 0 ∧ cmpL (dltK cf s 12) = [] := by
  have H := dlt_rows (s := s) h
  have e : cmpE (dltK cf s 12) = 0 := by
    unfold cmpE
    rw [if_neg (by rw [dltK_len]; omega), if_neg, if_neg]
    · rw [Bool.not_eq_false, List.all_eq_true]
      intro p hp
      obtain ⟨p1, p2, p3, p4⟩ := pairs_mem.1 hp
      refine alkB_yes ?_
      rw [dlt_yes ((dlt_full h _).1 p3), dlt_yes ((dlt_full h _).1 p4)]
      exact ⟨by rw [rowD_len, rowD_len], by rw [(deal_right h _).2, (deal_right h _).2]⟩
    · rw [Bool.not_eq_false, List.all_eq_true]
      intro r hr
      obtain ⟨k, hk, rfl⟩ := getD_mem' (d := []) hr
      rw [dlt_get]
      split
      · exact rgtB_yes (deal_right h _).1
      · exact rgtB_nil rfl
  refine ⟨e, (cmpL_nil e).2 fun p hp => ?_⟩
  obtain ⟨p1, p2, p3, p4⟩ := pairs_mem.1 hp
  have hl := p2
  have k1 := H.row _ (by omega) p3
  have k2 := H.row _ p2 p4
  unfold agrP
  refine ext_get (at_len _ p3 k1.2) (at_len _ p4 k2.2) fun j hj => ?_
  rw [at_get hj _ p3 k1.2, at_get hj _ p4 k2.2]
  exact H.agree _ _ (by omega) p2 p3 p4 j hj
theorem dlt_cnt (h : Deal nd cf) (hs : 0 ≤ s) : (fullK (dltK cf s 12) (dltK cf s 12).length).length = cntK 12 s.toNat := by
  rw [← cnt_bits, dltK_len]
  unfold fullK
  congr 1
  apply List.filter_congr
  intro k hk
  rw [List.mem_range] at hk
  apply decide_eq_decide.2
  rw [dlt_full h k, show ((s.toNat : Nat) : Int) = s by omega]
  exact ⟨fun g => g.2, fun g => ⟨hk, g⟩⟩
theorem dlt_last (h : Deal nd cf) : (lastK (dltK cf s 12) (dltK cf s 12).length = 0 ∧ (fullK (dltK cf s 12) (dltK cf s 12).length) = []) ∨ lastK (dltK cf s 12) (dltK cf s 12).length = cf.length := by
  rcases last_mem (rows := dltK cf s 12) _ (Nat.le_refl _) with g | ⟨i, h1, h2, h3⟩
  · exact .inl g
  · refine .inr ?_
    rw [h3]
    exact ((dlt_rows h).row i h1 h2).1
theorem dlt_few (h : Deal nd cf) (hs : 0 ≤ s) {x : Int} (hx : knw x) (hc : (cntK 12 s.toNat : Int) < nd - 1) : rflE (dltK cf s 12) x = 17 := by
  obtain ⟨c1, c2⟩ := dlt_cmp (s := s) h
  have h3 := h.len
  have hn := dlt_cnt h hs
  unfold rflE
  rw [if_pos c1, if_pos hx, if_pos]
  rcases dlt_last (s := s) h with g | g
  · exact .inl g.1
  · exact .inr (by omega)
theorem dlt_refill (h : Deal nd cf) (hs : 0 ≤ s) {x : Int} (hx : knw x) (hc : ¬ (cntK 12 s.toNat : Int) < nd - 1) : rflE (dltK cf s 12) x = 0 ∧ rflL (dltK cf s 12) x = rowD cf x := by
  obtain ⟨c1, c2⟩ := dlt_cmp (s := s) h
  have h2 := h.n2
  have h3 := h.len
  have hn := dlt_cnt h hs
  have hl : lastK (dltK cf s 12) (dltK cf s 12).length = cf.length := by
    rcases dlt_last (s := s) h with g | g
    · rw [g.2] at hn; simp at hn; omega
    · exact g
  have e : rflE (dltK cf s 12) x = 0 := by
    unfold rflE
    rw [if_pos c1, if_pos hx, if_neg (by rw [hl]; omega), if_pos c2]
  refine ⟨e, ?_⟩
  rw [rflL, if_pos e]
  refine rfl_is (dlt_rows h) x (by omega) hl _ (rowD_len _ _) (row_len h _) fun f hf hf2 j hj => ?_
  rw [dlt_yes ((dlt_full h f).1 hf2)]
  exact row_sym h _ _ j hj
end

/-! ### RenewIsOne -/
theorem rflE_cases {rows : List Rw} (h0 : cmpE rows = 0) (hl : cmpL rows = []) {x : Int} (hx : knw x) : rflE rows x = if lastK rows rows.length = 0 ∨ (fullK rows rows.length).length < lastK rows rows.length then 17 else 0 := by
  unfold rflE
  rw [if_pos h0, if_pos hx, if_pos hl]
def allR (rows : List Rw) (k : Nat) : List Rw := (List.range 12).map fun h => if h < k then rflL rows (h : Int) else []
theorem allR_len (rows : List Rw) (k : Nat) : (allR rows k).length = 12 := by simp [allR]
theorem allR_zero (rows : List Rw) : allR rows 0 = List.replicate 12 [] := by
  apply List.ext_getElem
  · simp [allR]
  · intro i h1 h2; rw [List.getElem_replicate]; simp [allR]
theorem allR_set {rows : List Rw} {k : Nat} (hk : k < 12) : (allR rows k).set k (rflL rows (k : Int)) = allR rows (k + 1) := by
  apply List.ext_getElem
  · simp [allR]
  · intro i h1 h2
    rw [List.getElem_set]
    simp only [allR, List.getElem_map, List.getElem_range]
    by_cases e : k = i
    · subst e; simp
    · rw [if_neg e]
      by_cases g : i < k
      · rw [if_pos g, if_pos (by omega)]
      · rw [if_neg g, if_neg (by omega)]
structure OneOk (rows : List Rw) : Prop where
  e : ∀ h : Nat, h < 12 → rflE rows (h : Int) = 0
  same : ∀ h : Nat, h < rows.length → 0 < (rows.getD h []).length → rflL rows (h : Int) = rows.getD h []
  cmp : cmpE (allR rows 12) = 0
  cmpl : cmpL (allR rows 12) = []
theorem one_ok {rows : List Rw} (h0 : cmpE rows = 0) (hl : cmpL rows = []) (h1 : rflE rows 0 = 0) : OneOk rows := by
  have hc := rflE_cases h0 hl (x := 0) ⟨by omega, by omega⟩
  have hn : ¬ (lastK rows rows.length = 0 ∨ (fullK rows rows.length).length < lastK rows rows.length) := fun g => by
    rw [if_pos g, h1] at hc; cases hc
  obtain ⟨N, H⟩ := rows_ok h0 hl fun g => hn (.inl g)
  have he : ∀ h : Nat, h < 12 → rflE rows (h : Int) = 0 := fun h hh => by rw [rflE_cases h0 hl ⟨by omega, by omega⟩, if_neg hn]
  have hL : ∀ h : Nat, h < 12 → rflL rows (h : Int) = rflO rows (h : Int) rows.length := fun h hh => by rw [rflL, if_pos (he h hh)]
  have hf : lastK rows rows.length ≤ (fullK rows rows.length).length := by omega
  have hg : ∀ h : Nat, h < 12 → (allR rows 12).getD h [] = rflO rows (h : Int) rows.length := fun h hh => by
    rw [← hL h hh]
    simp [allR, List.getD_eq_getElem?_getD, hh]
  have hm1 := H.m1
  have hm11 := H.m11
  have hr : ∀ h : Nat, h < 12 → ((allR rows 12).getD h []).length = lastK rows rows.length ∧ ∀ s ∈ (allR rows 12).getD h [], s.length = N := fun h hh => by
    rw [hg h hh]; exact rfl_len H _ hf rfl
  have hright : ∀ h : Nat, h < 12 → rightB ((allR rows 12).getD h []) = true ∧ n0 ((allR rows 12).getD h []) = N := fun h hh => by
    obtain ⟨a, b⟩ := hr h hh
    have h0 : n0 ((allR rows 12).getD h []) = N := b _ (getD_mem [] _ 0 (by omega))
    refine ⟨?_, h0⟩
    rw [right_all (by omega) (by omega), List.all_eq_true]
    intro s hs
    have := H.nmax
    rw [b s hs, h0, decide_eq_true rfl, decide_eq_true this]; rfl
  have hcmp : cmpE (allR rows 12) = 0 := by
    unfold cmpE
    rw [if_neg (by rw [allR_len]; omega), if_neg, if_neg]
    · rw [Bool.not_eq_false, List.all_eq_true]
      intro p hp
      obtain ⟨p1, p2, p3, p4⟩ := pairs_mem.1 hp
      rw [allR_len] at p2
      exact alkB_yes ⟨by rw [(hr _ (by omega)).1, (hr _ p2).1], by rw [(hright _ (by omega)).2, (hright _ p2).2]⟩
    · rw [Bool.not_eq_false, List.all_eq_true]
      intro r hr
      obtain ⟨k, hk, rfl⟩ := getD_mem' (d := []) hr
      rw [allR_len] at hk
      exact rgtB_yes (hright k hk).1
  refine ⟨he, fun h hh hh2 => ?_, hcmp, (cmpL_nil hcmp).2 fun p hp => ?_⟩
  · have hlen := H.len
    rw [hL h (by omega)]
    obtain ⟨k1, k2⟩ := H.row h hh hh2
    exact rfl_is H _ hf rfl _ k1 k2 fun f hf hf2 j hj => H.agree f h hf hh hf2 hh2 j hj
  · obtain ⟨p1, p2, p3, p4⟩ := pairs_mem.1 hp
    rw [allR_len] at p2
    have a := hr _ (show p.1 < 12 by omega)
    have b := hr _ p2
    unfold agrP
    refine ext_get (at_len _ p3 a.2) (at_len _ p4 b.2) fun j hj => ?_
    rw [at_get hj _ p3 a.2, at_get hj _ p4 b.2, hg _ (by omega), hg _ p2]
    exact rfl_sym H _ _ hf rfl hj
end Go.Proofs.YtmkphnlpbngenaaDoor.S27

namespace Go.Proofs.YtmkphnlpbngenaaDoor.S27
open Go

/-! ### shares renewed are shares of other polynomials -/
theorem horner_zero : ∀ p : List UInt8, horner 0 p = co p 0
  | [] => rfl
  | c :: p => by
    show mulL (horner 0 p) 0 ^^^ c = c
    rw [mul_zero']; simp
theorem sh_get (l : List (List UInt8)) (h k : Nat) : (shB l h).getD k 0 = horner (pt (h : Int)) (l.getD k []) := by
  unfold shB
  rw [List.getD_eq_getElem?_getD, List.getElem?_map, List.getD_eq_getElem?_getD]
  cases l[k]? <;> rfl
def c0 (d : Dl) (k : Nat) : List UInt8 := colL (d.2.1.getD 0 []) k
def rnQ (ds : List Dl) (k : Nat) (p : List UInt8) : List UInt8 := ds.foldl (fun p d => xorL p (0 :: c0 d k)) p
def rnL (l : List (List UInt8)) (ds : List Dl) : List (List UInt8) := (List.range l.length).map fun k => rnQ ds k (l.getD k [])
theorem rnL_len (l : List (List UInt8)) (ds : List Dl) : (rnL l ds).length = l.length := by simp [rnL]
theorem rnL_get {l : List (List UInt8)} {ds : List Dl} {k : Nat} (h : k < l.length) : (rnL l ds).getD k [] = rnQ ds k (l.getD k []) := by simp [rnL, List.getD_eq_getElem?_getD, h]
theorem rnQ_zero (k : Nat) : ∀ (ds : List Dl) (p : List UInt8), horner 0 (rnQ ds k p) = horner 0 p
  | [], p => rfl
  | d :: ds, p => by
    show horner 0 (rnQ ds k (xorL p (0 :: c0 d k))) = _
    rw [rnQ_zero k ds, horner_xor, horner_zero (0 :: _)]
    show _ ^^^ 0 = _
    simp
theorem rnQ_len (k : Nat) {n : Nat} : ∀ (ds : List Dl) (p : List UInt8), p.length ≤ n → (∀ d ∈ ds, (d.2.1.getD 0 []).length + 1 ≤ n) → (rnQ ds k p).length ≤ n
  | [], p, h, _ => h
  | d :: ds, p, h, hd => by
    have := hd d (by simp)
    exact rnQ_len k ds _ (by rw [xorL_length, List.length_cons, c0, colL_len]; omega) fun x hx => hd x (by simp [hx])
theorem upd_is {N : Nat} {l : List (List UInt8)} (hl : l.length = N) {h : Nat} (ds : List Dl) (hd : ∀ d ∈ ds, chkD d.1 d.2.1 = 0 ∧ n00 d.2.1 = N) :
    ∀ s : List UInt8, s.length = N → (updB (h : Int) s (rnR ds h)).length = N ∧ ∀ k, k < N → ∀ p, s.getD k 0 = horner (pt (h : Int)) p → (updB (h : Int) s (rnR ds h)).getD k 0 = horner (pt (h : Int)) (rnQ ds k p) := by
  induction ds with
  | nil => exact fun s hs => ⟨hs, fun k _ p hp => hp⟩
  | cons d ds ih =>
    intro s hs
    obtain ⟨h1, h2⟩ := hd d (by simp)
    have D := chkD0 h1
    have n2 := D.n2
    have n3 := D.len
    have hm := getD_mem [] d.2.1 0 (by omega)
    have hr0 : (rowD d.2.1 (h : Int)).getD 0 [] = atL (d.2.1.getD 0 []) (pt (h : Int)) := row_get D _ 0 (by omega)
    have hrl := D.rows _ hm
    have hrs := D.strs _ hm
    have hal : (atL (d.2.1.getD 0 []) (pt (h : Int))).length = N := by rw [← h2]; exact at_len _ (by omega) hrs
    have hs2 : (sumB s (scaleB (pt (h : Int)) ((rowD d.2.1 (h : Int)).getD 0 []))).length = N := by rw [sum_len, scale_len, hr0, hal, hs]; omega
    obtain ⟨i1, i2⟩ := ih (fun x hx => hd x (by simp [hx])) _ hs2
    refine ⟨i1, fun k hk p hp => ?_⟩
    refine i2 k hk (xorL p (0 :: c0 d k)) ?_
    rw [sum_get (by rw [scale_len, hr0, hal, hs]) (by omega), hp, hr0, scale_get (by omega), at_get (by rw [h2]; exact hk) _ (by omega) hrs, horner_xor]
    show _ = _ ^^^ (mulL (horner (pt (h : Int)) (c0 d k)) (pt (h : Int)) ^^^ 0)
    rw [mul_comm' (horner _ _)]
    simp [c0]
theorem shK_get (l : List (List UInt8)) {k : Nat} (h : k < 12) : (shK l 12).getD k (0, [], ()) = ((k : Int), shB l k, ()) := by simp [shK, List.getD_eq_getElem?_getD, h]
/-- What a need, deals and polynomials have to be. -/
structure FitOk (nd : Int) (ds : List Dl) (l : List (List UInt8)) : Prop where
  n2 : 2 ≤ nd
  n12 : nd ≤ 12
  dlen : ds.length ≤ 3
  len : l.length ≤ 8
  dl : ∀ d ∈ ds, d.1 = nd ∧ chkD d.1 d.2.1 = 0 ∧ n00 d.2.1 = l.length
  pl : ∀ p ∈ l, (p.length : Int) ≤ nd
theorem fit_ok {nd : Int} {ds : List Dl} {l : List (List UInt8)} (h : fitP nd ds l) : FitOk nd ds l := by
  obtain ⟨h1, h2, h3, h4, h5, h6⟩ := h
  refine ⟨h1, h2, h3, h4, fun d hd => ?_, fun p hp => of_decide_eq_true (List.all_eq_true.1 h6 p hp)⟩
  have := of_decide_eq_true (List.all_eq_true.1 h5 d hd)
  obtain ⟨a, b, c⟩ := this
  exact ⟨a, b.2, c⟩
theorem fit_rn {nd : Int} {ds : List Dl} {l l' : List (List UInt8)} (h : FitOk nd ds l) (hl : l'.length = l.length) : RnOk l.length (shK l' 12) ds := by
  have hlen := h.len
  have hd := h.dlen
  refine ⟨by omega, by rw [shK_len]; omega, by omega, fun k hk => ?_, fun d hd => (h.dl d hd).2⟩
  rw [shK_len] at hk
  rw [shK_get _ hk]
  exact ⟨rfl, by rw [← hl]; exact shB_len _ _⟩
theorem rn_shares {nd : Int} {ds : List Dl} {l l' : List (List UInt8)} (h : FitOk nd ds l) (hl : l'.length = l.length) : rnK (shK l' 12) ds 12 = shK (rnL l' ds) 12 := by
  unfold rnK shK
  apply List.map_congr_left
  intro k hk
  rw [List.mem_range] at hk
  have e : ((List.map (fun h : Nat => ((h : Int), shB l' h, ())) (List.range 12)).getD k (0, [], ())) = ((k : Int), shB l' k, ()) := shK_get l' hk
  rw [e]
  obtain ⟨u1, u2⟩ := upd_is (N := l.length) hl (h := k) ds (fun d hd => (h.dl d hd).2) (shB l' k) (by rw [shB_len, hl])
  have : updB (k : Int) (shB l' k) (rnR ds k) = shB (rnL l' ds) k := by
    refine ext_get u1 (by rw [shB_len, rnL_len, hl]) fun j hj => ?_
    rw [u2 j hj _ (sh_get _ _ _), sh_get, rnL_get (by omega)]
  rw [this]
theorem rnL_pl {nd : Int} {ds : List Dl} {l l' : List (List UInt8)} (h : FitOk nd ds l) (hp : ∀ p ∈ l', (p.length : Int) ≤ nd) : ∀ p ∈ rnL l' ds, (p.length : Int) ≤ nd := fun p hp' => by
  obtain ⟨k, hk, rfl⟩ := List.mem_map.1 hp'
  rw [List.mem_range] at hk
  have h1 := hp _ (getD_mem [] l' k hk)
  have := rnQ_len k (n := nd.toNat) ds (l'.getD k []) (by omega) fun d hd => by
    obtain ⟨a, b, _⟩ := h.dl d hd
    have D := chkD0 b
    have n2 := D.n2
    have n3 := D.len
    have := D.rows _ (getD_mem [] d.2.1 0 (by omega))
    omega
  have h2 := h.n2
  omega

/-! ### the secret that shares have -/
def xs12 : List UInt8 := (List.range 12).map fun h : Nat => pt (h : Int)
theorem xs12_nodup : xs12.Nodup := nodup_pts _ List.nodup_range fun i hi => List.mem_range.1 hi
theorem xsL_sh (l : List (List UInt8)) : xsL (shK l 12) = xs12 := by
  unfold xsL shK xs12
  rw [List.map_map]; rfl
theorem ysL_sh (l : List (List UInt8)) (k : Nat) : ysL (shK l 12) k = xs12.map fun x => horner x (l.getD k []) := by
  unfold ysL shK xs12
  rw [List.map_map, List.map_map]
  apply List.map_congr_left
  intro h _
  exact sh_get l h k
theorem tp_sh (p : List UInt8) (nd : Int) (h1 : 1 ≤ nd) (h2 : nd ≤ 12) (hp : (p.length : Int) ≤ nd) : tpL xs12 (xs12.map fun x => horner x p) (nd - 1) = (trimL p, 0) := by
  have hl : xs12.length = 12 := by simp [xs12]
  have hr : rightP xs12 (xs12.map fun x => horner x p) := ⟨xs12_nodup, by rw [List.length_map]⟩
  have hs : sz p ≤ p.length := sz_len p
  have ht : thrL xs12 (xs12.map fun x => horner x p) = trimL p := thrL_unique _ _ _ hr (by omega) fun k hk => by simp [List.getD_eq_getElem?_getD, hk]
  unfold tpL
  rw [if_pos hr, if_neg (by omega), if_neg (by omega), ht, if_neg (by rw [degL_sz, sz_trim]; omega)]
theorem sN_sh (l : List (List UInt8)) : sN (shK l 12) = l.length := by
  unfold sN
  rw [shK_get l (by omega)]; exact shB_len l 0
theorem sec_ok {nd : Int} {l : List (List UInt8)} (h1 : 1 ≤ nd) (h2 : nd ≤ 12) (hl : l.length ≤ 8) (hp : ∀ p ∈ l, (p.length : Int) ≤ nd) : SecOk (shK l 12) nd ∧ secK (shK l 12) nd (sN (shK l 12)) = l.map (horner 0) := by
  have ht : ∀ k, k < l.length → tpL (xsL (shK l 12)) (ysL (shK l 12) k) (nd - 1) = (trimL (l.getD k []), 0) := fun k hk => by
    rw [xsL_sh, ysL_sh]; exact tp_sh _ nd h1 h2 (hp _ (getD_mem [] l k hk))
  have hmem : ∀ s ∈ shK l 12, ∃ h : Nat, h < 12 ∧ s = ((h : Int), shB l h, ()) := fun s hs => by
    obtain ⟨h, hh, rfl⟩ := List.mem_map.1 hs
    exact ⟨h, List.mem_range.1 hh, rfl⟩
  refine ⟨⟨h1, by rw [shK_len]; omega, by rw [shK_len]; omega, by rw [sN_sh]; omega, fun s hs => ?_, fun s hs => ?_, fun k hk => ?_⟩, ?_⟩
  · obtain ⟨h, hh, rfl⟩ := hmem s hs
    exact ⟨by show (0 : Int) ≤ (h : Int); omega, by show (h : Int) < 12; omega⟩
  · obtain ⟨h, hh, rfl⟩ := hmem s hs
    rw [sN_sh]; exact shB_len l h
  · rw [sN_sh] at hk
    rw [ht k hk]
  · rw [sN_sh]
    unfold secK
    apply List.ext_getElem
    · simp
    · intro i a b
      have hi : i < l.length := by simpa using b
      simp only [List.getElem_map, List.getElem_range]
      rw [ht i hi]
      show horner 0 (trimL _) = _
      rw [horner_trim]
      simp [List.getD_eq_getElem?_getD, hi]
theorem rnL_zero (l : List (List UInt8)) (ds : List Dl) : (rnL l ds).map (horner 0) = l.map (horner 0) := by
  apply List.ext_getElem
  · simp [rnL_len]
  · intro i a b
    have hi : i < l.length := by simpa using b
    simp only [List.getElem_map]
    have e : (rnL l ds)[i]'(by rw [rnL_len]; exact hi) = rnQ ds i (l.getD i []) := by simp [rnL]
    rw [e, rnQ_zero]
    simp [List.getD_eq_getElem?_getD, hi]
/-- RenewKeepsSecret -/
theorem keeps {nd : Int} {ds : List Dl} {l : List (List UInt8)} (h : FitOk nd ds l) : SecOk (rnK (shK l 12) ds 12) nd ∧ secK (rnK (shK l 12) ds 12) nd (sN (rnK (shK l 12) ds 12)) = l.map (horner 0) := by
  rw [rn_shares h rfl]
  obtain ⟨a, b⟩ := sec_ok (l := rnL l ds) (nd := nd) (by have := h.n2; omega) h.n12 (by rw [rnL_len]; exact h.len) (rnL_pl h h.pl)
  exact ⟨a, by rw [b, rnL_zero]⟩

/-! ### other polynomials -/
theorem oth_ok {p : List UInt8} {s nd : Int} {z : UInt8} (hs : 0 ≤ s) (hn : nd ≤ 12) (hc : (cntK 12 s.toNat : Int) < nd) :
    ((othL p s nd z).length : Int) ≤ nd ∧ horner 0 (othL p s nd z) = z ∧ ∀ h : Nat, h < 12 → bitP s h → horner (pt (h : Int)) (othL p s nd z) = horner (pt (h : Int)) p := by
  have hcnt := cnt_bits 12 s.toNat
  rw [show ((s.toNat : Nat) : Int) = s by omega] at hcnt
  have hx : (othX s 12).length = cntK 12 s.toNat + 1 := by unfold othX; rw [List.length_cons, List.length_map, hcnt]
  have hy : (othY p s z 12).length = (othX s 12).length := othY_len _ _ _ _
  have hnd : (othX s 12).Nodup := by
    unfold othX
    rw [List.nodup_cons]
    refine ⟨fun hm => ?_, nodup_pts _ (List.Nodup.sublist List.filter_sublist List.nodup_range) fun i hi => List.mem_range.1 (List.mem_filter.1 hi).1⟩
    obtain ⟨i, hi, e⟩ := List.mem_map.1 hm
    exact pt_ne (List.mem_range.1 (List.mem_filter.1 hi).1) e
  have hr : rightP (othX s 12) (othY p s z 12) := ⟨hnd, hy.symm⟩
  have hip : ipL (othX s 12) (othY p s z 12) = (thrL (othX s 12) (othY p s z 12), 0) := if_pos hr
  have hsz := thrL_sz (othX s 12) (othY p s z 12)
  have hlen : (thrL (othX s 12) (othY p s z 12)).length ≤ (othX s 12).length := by
    have := thrL_trim (othX s 12) (othY p s z 12)
    unfold sz at hsz
    rwa [this] at hsz
  have ho : othL p s nd z = thrL (othX s 12) (othY p s z 12) := by
    unfold othL
    rw [hip, if_pos ⟨rfl, by show ((thrL _ _).length : Int) ≤ nd; omega⟩]
  rw [ho]
  refine ⟨by omega, ?_, fun h hh hb => ?_⟩
  · exact thrL_val _ _ hr 0 (by omega)
  · have hm : h ∈ (List.range 12).filter fun h => decide (bitP s h) := List.mem_filter.2 ⟨List.mem_range.2 hh, decide_eq_true hb⟩
    obtain ⟨i, hi, e⟩ := getD_mem' (d := 0) hm
    have h1 : (othX s 12).getD (i + 1) 0 = pt (h : Int) := by
      rw [← e]
      unfold othX
      show (List.map _ _).getD i 0 = _
      simp [List.getD_eq_getElem?_getD, hi]
    have h2 : (othY p s z 12).getD (i + 1) 0 = horner (pt (h : Int)) p := by
      rw [← e]
      unfold othY
      show (List.map _ _).getD i 0 = _
      simp [List.getD_eq_getElem?_getD, hi]
    rw [← h1, thrL_val _ _ hr (i + 1) (by rw [hx, ← hcnt]; omega), h2, h1]
def alsoK (l : List (List UInt8)) (s nd : Int) (sec : List UInt8) (k : Nat) : List (List UInt8) := (List.range k).map fun i => othL (l.getD i []) s nd (sec.getD i 0)
theorem also_len (l : List (List UInt8)) (s nd : Int) (sec : List UInt8) (k : Nat) : (alsoK l s nd sec k).length = k := by simp [alsoK]
theorem also_snoc (l : List (List UInt8)) (s nd : Int) (sec : List UInt8) (k : Nat) : alsoK l s nd sec (k + 1) = alsoK l s nd sec k ++ [othL (l.getD k []) s nd (sec.getD k 0)] := by unfold alsoK; rw [List.range_succ, List.map_append]; rfl
theorem also_get {l : List (List UInt8)} {s nd : Int} {sec : List UInt8} {n k : Nat} (h : k < n) : (alsoK l s nd sec n).getD k [] = othL (l.getD k []) s nd (sec.getD k 0) := by simp [alsoK, List.getD_eq_getElem?_getD, h]
structure AlsoOk (nd : Int) (l : List (List UInt8)) (s : Int) (sec : List UInt8) (also : List (List UInt8)) : Prop where
  len : also.length = l.length
  pl : ∀ p ∈ also, (p.length : Int) ≤ nd
  sec : also.map (horner 0) = sec
  same : ∀ h : Nat, h < 12 → bitP s h → shB also h = shB l h
theorem also_ok {nd s : Int} {l : List (List UInt8)} {sec : List UInt8} (hs : 0 ≤ s) (hn : nd ≤ 12) (hc : (cntK 12 s.toNat : Int) < nd) (hl : sec.length = l.length) : AlsoOk nd l s sec (alsoK l s nd sec l.length) := by
  refine ⟨also_len _ _ _ _ _, fun p hp => ?_, ?_, fun h hh hb => ?_⟩
  · obtain ⟨i, _, rfl⟩ := List.mem_map.1 hp
    exact (oth_ok hs hn hc).1
  · apply List.ext_getElem
    · rw [List.length_map, also_len, hl]
    · intro i a b
      have e : (alsoK l s nd sec l.length)[i]'(by rw [also_len]; omega) = othL (l.getD i []) s nd (sec.getD i 0) := by simp [alsoK]
      rw [List.getElem_map, e, (oth_ok hs hn hc).2.1]
      simp [List.getD_eq_getElem?_getD, b]
  · refine ext_get (N := l.length) (by rw [shB_len, also_len]) (shB_len _ _) fun k hk => ?_
    rw [sh_get, sh_get, also_get hk]
    exact (oth_ok hs hn hc).2.2 h hh hb
/-- RenewTellsNothing -/
theorem tells {nd s : Int} {ds : List Dl} {l also : List (List UInt8)} {sec : List UInt8} (F : FitOk nd ds l) (A : AlsoOk nd l s sec also) :
    (∀ h : Nat, h < 12 → bitP s h → (shK l 12).getD h (0, [], ()) = (shK also 12).getD h (0, [], ()) ∧ (rnK (shK l 12) ds 12).getD h (0, [], ()) = (rnK (shK also 12) ds 12).getD h (0, [], ())) ∧
    SecOk (rnK (shK also 12) ds 12) nd ∧ secK (rnK (shK also 12) ds 12) nd (sN (rnK (shK also 12) ds 12)) = sec := by
  refine ⟨fun h hh hb => ?_, ?_⟩
  · have e1 : (shK l 12).getD h (0, [], ()) = (shK also 12).getD h (0, [], ()) := by rw [shK_get _ hh, shK_get _ hh, A.same h hh hb]
    refine ⟨e1, ?_⟩
    unfold rnK
    simp only [List.getD_eq_getElem?_getD, List.getElem?_map, List.getElem?_range hh, Option.map_some, Option.getD_some]
    simp only [List.getD_eq_getElem?_getD] at e1
    rw [e1]
  · rw [rn_shares F A.len]
    obtain ⟨a, b⟩ := sec_ok (l := rnL also ds) (nd := nd) (by have := F.n2; omega) F.n12 (by rw [rnL_len, A.len]; exact F.len) (rnL_pl F A.pl)
    exact ⟨a, by rw [b, rnL_zero, A.sec]⟩
end Go.Proofs.YtmkphnlpbngenaaDoor.S27

namespace Go.Proofs.YtmkphnlpbngenaaDoor.S27
open Go Go.Proofs.YtmkphnlpbngenaaDoor.Vc Go.Proofs
set_option maxRecDepth 100000
set_option linter.unusedVariables false

def sDlt : List V → Option (Prop × V × List Blk)
  | [.agg [.int .i64 nd, .sl false (.sl .str) cf], .int .i64 s] => some (cf.length ≤ 1048576 ∧ (∀ l ∈ cf, l.length ≤ 1048576 ∧ ∀ x ∈ l, x.length ≤ 1048576) ∧ chkD nd cf = 0 ∧ 0 ≤ s ∧ s < 4096, .tup [.own (.sl .str) 0, .b True], [.row true (.sl .str) (dltK cf s 12)])
  | _ => none
set_option maxHeartbeats 1000000 in
theorem bDlt (nd : Int) (cf : List (List (List UInt8))) (s : Int) (hp0 : cf.length ≤ 1048576) (hp1 : (∀ l ∈ cf, l.length ≤ 1048576 ∧ ∀ x ∈ l, x.length ≤ 1048576)) (hp2 : chkD nd cf = 0) (hp3 : 0 ≤ s) (hp4 : s < 4096) : bodyP (En CCou tys G6 QPrs [1000002]) Tryd.f32 [.o (.sl .str), .k] [.agg [.int .i64 nd, .sl false (.sl .str) cf], .int .i64 s] (.tup [.own (.sl .str) 0, .b True]) [.row true (.sl .str) (dltK cf s 12)] := by
  obtain ⟨d1, d2, d3, d4, d5, d6, d7⟩ := chkD0 hp2
  refine ⟨⟨rfl, by show (0 : Int) ≤ 12; omega, by show 12 ≤ (1000000000 : Int); omega⟩, 1, [(1, .k), (2, .k), (6, .o (.sl .str)), (7, .k)], fun n vs H => ∃ (k : Nat), k ≤ 12 ∧ n = 12 - k ∧ vs = [.int .i64 s, .ptr 0 1 0 0, .own (.sl .str) 1, .int .i64 (k : Int)] ∧ H = [.cells [.int .i64 nd, .sl false (.sl .str) cf], .row true (.sl .str) (dltK cf s k)], ⟨rfl, 12, 0, by omega, by omega, rfl, by rw [dltK_zero]; rfl⟩, ?_⟩
  rintro n vs H ⟨k, hc1_0, rfl, rfl, rfl⟩
  refine ⟨fun h0 => ?_, fun h0 => ?_⟩
  · replace h0 : (k : Int) < 12 := h0
    have hrow := row0 (h := (k : Int)) hp2 ⟨by omega, by omega⟩
    have hrl := rowD_len cf (k : Int)
    have hdl := dltK_len cf s k
    refine ⟨⟨by show (0 : Int) ≤ (k : Int); omega, by show (k : Int) ≤ (64 : Int); omega⟩, .inr ⟨rfl, ?_⟩⟩
    refine ⟨fun h1 => ?_, fun h1 => ?_⟩
    · replace h1 : ((s / 2 ^ k) % 2) = 0 := h1
      refine ⟨⟨by show (-9223372036854775808 : Int) ≤ ((k : Int) + 1); omega, by show ((k : Int) + 1) ≤ (9223372036854775807 : Int); omega⟩, ?_⟩
      first
      | exact ⟨rfl, 12 - (k + 1), by omega, k + 1, by omega, rfl, rfl, by rw [← dltK_no (show ¬ s / 2 ^ k % 2 = 1 by omega)]; rfl⟩
      | exact ⟨rfl, 12 - (k + 1), by omega, k + 1, by omega, rfl, rfl, by rw [← dltK_yes (by omega) (show s / 2 ^ k % 2 = 1 by omega), hrow.2]; rfl⟩
    · replace h1 : ¬ (((s / 2 ^ k) % 2) = 0) := h1
      refine ⟨rfl, rfl, ⟨by show cf.length ≤ 1048576; first | omega | assumption, by first | assumption | simp⟩, fun h2 => ?_, fun h2 => ?_⟩
      · replace h2 : ¬ ((rowE nd cf (k : Int)) ≠ 0) := h2
        refine ⟨⟨by show (-9223372036854775808 : Int) ≤ (nd - 1); omega, by show (nd - 1) ≤ (9223372036854775807 : Int); omega⟩, fun h3 => ?_, fun h3 => ?_⟩
        · replace h3 : (((rowL nd cf (k : Int)).length : Nat) : Int) ≠ (nd - 1) := h3
          exact absurd (by rw [hrow.2, hrl]; omega) h3
        · replace h3 : ¬ ((((rowL nd cf (k : Int)).length : Nat) : Int) ≠ (nd - 1)) := h3
          refine ⟨⟨by show (0 : Int) ≤ (k : Int); omega, by show (k : Int) < ((dltK cf s k).length : Int); omega⟩, ⟨fun h => (by first | rfl | cases h), rfl, rfl⟩, ⟨by show (-9223372036854775808 : Int) ≤ ((k : Int) + 1); omega, by show ((k : Int) + 1) ≤ (9223372036854775807 : Int); omega⟩, ?_⟩
          first
          | exact ⟨rfl, 12 - (k + 1), by omega, k + 1, by omega, rfl, rfl, by rw [← dltK_no (show ¬ s / 2 ^ k % 2 = 1 by omega)]; rfl⟩
          | exact ⟨rfl, 12 - (k + 1), by omega, k + 1, by omega, rfl, rfl, by rw [← dltK_yes (by omega) (show s / 2 ^ k % 2 = 1 by omega), hrow.2]; rfl⟩
      · replace h2 : (rowE nd cf (k : Int)) ≠ 0 := h2
        exact absurd hrow.1 h2
  · replace h0 : ¬ ((k : Int) < 12) := h0
    rw [show k = 12 by omega]
    exact ⟨rfl, rfl, congrArg (fun p => V.tup [V.own (.sl .str) 0, V.b p]) (propext ⟨fun _ => trivial, fun _ => rfl⟩), rfl⟩
def CDlt : List (Nat × Con) := (32, pureC [.v (.cons (.int .i64) (.cons (.sl (.sl .str)) .nil)), .v (.int .i64)] sDlt) :: CCou
theorem kDlt : Known Tryd.prog (En CDlt tys G6 QPrs) := Known.frz0 <| (kCou.frz [1000002]).add Tryd.func32 Tryd.call32 [.o (.sl .str), .k] fun ds p v bs h hp => by
  unfold sDlt at h
  split at h <;> simp only [Option.some.injEq, Prod.mk.injEq, reduceCtorEq] at h
  obtain ⟨rfl, rfl, rfl⟩ := h
  exact bDlt _ _ _ hp.1 hp.2.1 hp.2.2.1 hp.2.2.2.1 hp.2.2.2.2
def sFit : List V → Option (Prop × V × List Blk)
  | [.int .i64 nd, .sl false (.cons (.int .i64) (.cons (.sl (.sl .str)) .nil)) ds, .sl false (.sl .u8) l] => some (ds.length ≤ 1048576 ∧ (∀ d ∈ ds, d.2.1.length ≤ 1048576 ∧ ∀ l ∈ d.2.1, l.length ≤ 1048576 ∧ ∀ x ∈ l, x.length ≤ 1048576) ∧ l.length ≤ 1048576 ∧ (∀ x ∈ l, x.length ≤ 1048576), .b (fitP nd ds l), [])
  | _ => none
set_option maxHeartbeats 1000000 in
theorem bFit (nd : Int) (ds : List (Int × (List (List (List UInt8)) × Unit))) (l : List (List UInt8)) (hp0 : ds.length ≤ 1048576) (hp1 : (∀ d ∈ ds, d.2.1.length ≤ 1048576 ∧ ∀ l ∈ d.2.1, l.length ≤ 1048576 ∧ ∀ x ∈ l, x.length ≤ 1048576)) (hp2 : l.length ≤ 1048576) (hp3 : (∀ x ∈ l, x.length ≤ 1048576)) : bodyP (En CDlt tys G6 QPrs) Tryd.f34 [.k] [.int .i64 nd, .sl false (.cons (.int .i64) (.cons (.sl (.sl .str)) .nil)) ds, .sl false (.sl .u8) l] (.b (fitP nd ds l)) [] := by
  refine ⟨fun h0 => ?_, fun h0 => ?_⟩
  · replace h0 : ¬ (nd < 2) := h0
    refine ⟨fun h1 => ?_, fun h1 => ?_⟩
    · replace h1 : ¬ (12 < nd) := h1
      refine ⟨fun h2 => ?_, fun h2 => ?_⟩
      · replace h2 : ¬ (3 < (ds.length : Int)) := h2
        refine ⟨fun h3 => ?_, fun h3 => ?_⟩
        · replace h3 : 8 < (l.length : Int) := h3
          exact ⟨rfl, rfl, congrArg V.b (no_b (fun h => by have := h.2.2.2.1; omega)), rfl⟩
        · replace h3 : ¬ (8 < (l.length : Int)) := h3
          refine ⟨0, [(0, .k), (1, .k), (2, .k), (7, .k)], fun n vs H => ∃ (k : Nat), k ≤ ds.length ∧ (ds.drop k).all (dealOk nd l.length) = ds.all (dealOk nd l.length) ∧ n = ds.length - k ∧ vs = [.int .i64 nd, .sl false (.cons (.int .i64) (.cons (.sl (.sl .str)) .nil)) ds, .sl false (.sl .u8) l, .int .i64 (k : Int)] ∧ H = [], ⟨rfl, ds.length, 0, by omega, rfl, by omega, rfl, rfl⟩, ?_⟩
          rintro n vs H ⟨k, hc1_0, hc1_1, rfl, rfl, rfl⟩
          refine ⟨fun h4 => ?_, fun h4 => ?_⟩
          · replace h4 : (k : Int) < (ds.length : Int) := h4
            have hk : k < ds.length := by omega
            have hd := hp1 _ (getD_mem (0, [], ()) ds k hk)
            refine ⟨⟨by show (0 : Int) ≤ (k : Int); omega, by show (k : Int) < (ds.length : Int); omega⟩, fun h5 => ?_, fun h5 => ?_⟩
            · replace h5 : ¬ (((ds.getD k (0, ([], ()))).1) ≠ nd) := h5
              refine ⟨⟨by show (0 : Int) ≤ (k : Int); omega, by show (k : Int) < (ds.length : Int); omega⟩, rfl, ⟨hd.1, hd.2⟩, fun h6 => ?_, fun h6 => ?_⟩
              · replace h6 : ¬ (¬ (lightP ((ds.getD k (0, ([], ()))).1) (((ds.getD k (0, ([], ()))).2).1))) := h6
                have hnz := light_nz (Classical.not_not.1 h6)
                refine ⟨⟨by show (0 : Int) ≤ (k : Int); omega, by show (k : Int) < (ds.length : Int); omega⟩, ⟨by show (0 : Int) ≤ 0; omega, by show 0 < ((((ds.getD k (0, ([], ()))).2).1).length : Int); omega⟩, ⟨by show (0 : Int) ≤ 0; omega, by show 0 < (((((ds.getD k (0, ([], ()))).2).1).getD 0 []).length : Int); omega⟩, fun h7 => ?_, fun h7 => ?_⟩
                · replace h7 : (((((((ds.getD k (0, ([], ()))).2).1).getD 0 []).getD 0 []).length : Nat) : Int) ≠ (l.length : Int) := h7
                  exact ⟨rfl, rfl, congrArg V.b (no_b (fun h => by have := all_bad (d := (0, [], ())) hk hc1_1 (p := dealOk nd l.length) (decide_eq_false (fun g => h7 (by have := g.2.2; unfold n00 n0 at this; omega))); rw [h.2.2.2.2.1] at this; cases this)), rfl⟩
                · replace h7 : ¬ ((((((((ds.getD k (0, ([], ()))).2).1).getD 0 []).getD 0 []).length : Nat) : Int) ≠ (l.length : Int)) := h7
                  have hok : dealOk nd l.length (ds.getD k (0, [], ())) = true := decide_eq_true ⟨Classical.not_not.1 h5, Classical.not_not.1 h6, by unfold n00 n0; omega⟩
                  refine ⟨⟨by show (-9223372036854775808 : Int) ≤ ((k : Int) + 1); omega, by show ((k : Int) + 1) ≤ (9223372036854775807 : Int); omega⟩, ?_⟩
                  exact ⟨rfl, ds.length - (k + 1), by omega, k + 1, by omega, all_next (d := (0, [], ())) hk hc1_1 hok, rfl, rfl, rfl⟩
              · replace h6 : ¬ (lightP ((ds.getD k (0, ([], ()))).1) (((ds.getD k (0, ([], ()))).2).1)) := h6
                exact ⟨rfl, rfl, congrArg V.b (no_b (fun h => by have := all_bad (d := (0, [], ())) hk hc1_1 (p := dealOk nd l.length) (decide_eq_false (fun g => h6 g.2.1)); rw [h.2.2.2.2.1] at this; cases this)), rfl⟩
            · replace h5 : ((ds.getD k (0, ([], ()))).1) ≠ nd := h5
              exact ⟨rfl, rfl, congrArg V.b (no_b (fun h => by have := all_bad (d := (0, [], ())) hk hc1_1 (p := dealOk nd l.length) (decide_eq_false (fun g => h5 g.1)); rw [h.2.2.2.2.1] at this; cases this)), rfl⟩
          · replace h4 : ¬ ((k : Int) < (ds.length : Int)) := h4
            have hall : ds.all (dealOk nd l.length) = true := all_stop (by omega) hc1_1
            refine ⟨0, [(0, .k), (2, .k), (8, .k)], fun n vs H => ∃ (k : Nat), k ≤ l.length ∧ (l.drop k).all (fun p => decide ((p.length : Int) ≤ nd)) = l.all (fun p => decide ((p.length : Int) ≤ nd)) ∧ n = l.length - k ∧ vs = [.int .i64 nd, .sl false (.sl .u8) l, .int .i64 (k : Int)] ∧ H = [], ⟨rfl, l.length, 0, by omega, rfl, by omega, rfl, rfl⟩, ?_⟩
            rintro n vs H ⟨k, hc2_0, hc2_1, rfl, rfl, rfl⟩
            refine ⟨fun h8 => ?_, fun h8 => ?_⟩
            · replace h8 : (k : Int) < (l.length : Int) := h8
              have hk : k < l.length := by omega
              have hd := hp3 _ (getD_mem [] l k hk)
              refine ⟨⟨by show (0 : Int) ≤ (k : Int); omega, by show (k : Int) < (l.length : Int); omega⟩, fun h9 => ?_, fun h9 => ?_⟩
              · replace h9 : nd < (((l.getD k []).length : Nat) : Int) := h9
                exact ⟨rfl, rfl, congrArg V.b (no_b (fun h => by have := all_bad (d := []) hk hc2_1 (p := fun p => decide ((p.length : Int) ≤ nd)) (decide_eq_false (by omega)); rw [h.2.2.2.2.2] at this; cases this)), rfl⟩
              · replace h9 : ¬ (nd < (((l.getD k []).length : Nat) : Int)) := h9
                have hok : decide (((l.getD k []).length : Int) ≤ nd) = true := decide_eq_true (by omega)
                refine ⟨⟨by show (-9223372036854775808 : Int) ≤ ((k : Int) + 1); omega, by show ((k : Int) + 1) ≤ (9223372036854775807 : Int); omega⟩, ?_⟩
                exact ⟨rfl, l.length - (k + 1), by omega, k + 1, by omega, all_next (d := []) hk hc2_1 hok, rfl, rfl, rfl⟩
            · replace h8 : ¬ ((k : Int) < (l.length : Int)) := h8
              exact ⟨rfl, rfl, congrArg V.b (yes_b ⟨by omega, by omega, by omega, by omega, hall, all_stop (by omega) hc2_1⟩), rfl⟩
      · replace h2 : 3 < (ds.length : Int) := h2
        exact ⟨rfl, rfl, congrArg V.b (no_b (fun h => by have := h.2.2.1; omega)), rfl⟩
    · replace h1 : 12 < nd := h1
      exact ⟨rfl, rfl, congrArg V.b (no_b (fun h => by have := h.2.1; omega)), rfl⟩
  · replace h0 : nd < 2 := h0
    exact ⟨rfl, rfl, congrArg V.b (no_b (fun h => by have := h.1; omega)), rfl⟩
def CFit : List (Nat × Con) := (34, pureC [.v (.int .i64), .v (.sl (.cons (.int .i64) (.cons (.sl (.sl .str)) .nil))), .v (.sl (.sl .u8))] sFit) :: CDlt
theorem kFit : Known Tryd.prog (En CFit tys G6 QPrs) := kDlt.add Tryd.func34 Tryd.call34 [.k] fun ds p v bs h hp => by
  unfold sFit at h
  split at h <;> simp only [Option.some.injEq, Prod.mk.injEq, reduceCtorEq] at h
  obtain ⟨rfl, rfl, rfl⟩ := h
  exact bFit _ _ _ hp.1 hp.2.1 hp.2.2.1 hp.2.2.2
def sShr : List V → Option (Prop × V × List Blk)
  | [.sl false (.sl .u8) l] => some (l.length ≤ 1048576 ∧ (∀ x ∈ l, x.length ≤ 1000000), .own (.cons (.int .i64) (.cons .str .nil)) 0, [.row true (.cons (.int .i64) (.cons .str .nil)) (shK l 12)])
  | _ => none
set_option maxHeartbeats 1000000 in
theorem bShr (l : List (List UInt8)) (hp0 : l.length ≤ 1048576) (hp1 : (∀ x ∈ l, x.length ≤ 1000000)) : bodyP (En CFit tys G6 QPrs) Tryd.f37 [.o (.cons (.int .i64) (.cons .str .nil))] [.sl false (.sl .u8) l] (.own (.cons (.int .i64) (.cons .str .nil)) 0) [.row true (.cons (.int .i64) (.cons .str .nil)) (shK l 12)] := by
  refine ⟨0, [(0, .k), (3, .o (.cons (.int .i64) (.cons .str .nil))), (4, .k)], fun n vs H => ∃ (k : Nat), k ≤ 12 ∧ n = 12 - k ∧ vs = [.sl false (.sl .u8) l, .own (.cons (.int .i64) (.cons .str .nil)) 0, .int .i64 (k : Int)] ∧ H = [.row true (.cons (.int .i64) (.cons .str .nil)) (shK l k)], ⟨rfl, 12, 0, by omega, by omega, rfl, rfl⟩, ?_⟩
  rintro n vs H ⟨k, hc1_0, rfl, rfl, rfl⟩
  have hsl := shK_len l k
  refine ⟨fun h0 => ?_, fun h0 => ?_⟩
  · replace h0 : (k : Int) < 12 := h0
    refine ⟨0, [(0, .k), (3, .o (.cons (.int .i64) (.cons .str .nil))), (4, .k), (5, .o .u8), (6, .k)], fun n vs H => ∃ (i : Nat), i ≤ l.length ∧ n = l.length - i ∧ vs = [.sl false (.sl .u8) l, .own (.cons (.int .i64) (.cons .str .nil)) 0, .int .i64 (k : Int), .own .u8 1, .int .i64 (i : Int)] ∧ H = [.row true (.cons (.int .i64) (.cons .str .nil)) (shK l k), .row true .u8 (shB (l.take i) k)], ⟨rfl, l.length, 0, by omega, by omega, rfl, rfl⟩, ?_⟩
    rintro n vs H ⟨i, hc2_0, rfl, rfl, rfl⟩
    have hml : (shB (l.take i) k).length = i := mapT_len _ l i (by omega)
    refine ⟨fun h1 => ?_, fun h1 => ?_⟩
    · replace h1 : (i : Int) < (l.length : Int) := h1
      have hk : i < l.length := by omega
      have hd := hp1 _ (getD_mem [] l i hk)
      refine ⟨⟨by show (0 : Int) ≤ (i : Int); omega, by show (i : Int) < (l.length : Int); omega⟩, ⟨by show (-9223372036854775808 : Int) ≤ ((k : Int) + 1); omega, by show ((k : Int) + 1) ≤ (9223372036854775807 : Int); omega⟩, by show (l.getD i []).length ≤ 1000000; first | omega | assumption | (simp only [List.length_cons, List.length_nil, List.length_append, List.length_take, List.length_drop, List.length_set, List.length_replicate]; omega), ⟨rfl, rfl⟩, by show (shB (l.take i) k).length + ([horner (UInt8.ofNat (((k : Int) + 1) % 256).toNat) (l.getD i [])] : List UInt8).length ≤ 1000000000; simp only [List.length_cons, List.length_nil]; omega, ⟨by show (-9223372036854775808 : Int) ≤ ((i : Int) + 1); omega, by show ((i : Int) + 1) ≤ (9223372036854775807 : Int); omega⟩, ?_⟩
      exact ⟨rfl, l.length - (i + 1), by omega, i + 1, by omega, rfl, rfl, by rw [show shB (l.take (i + 1)) k = _ from map_take_snoc [] _ l i hk]; rfl⟩
    · replace h1 : ¬ ((i : Int) < (l.length : Int)) := h1
      refine ⟨rfl, ⟨rfl, rfl⟩, by show (shK l k).length + ([((k : Int), shB (l.take i) k, ())] : List (Int × (List UInt8 × Unit))).length ≤ 1000000000; simp only [List.length_cons, List.length_nil]; omega, ⟨by show (-9223372036854775808 : Int) ≤ ((k : Int) + 1); omega, by show ((k : Int) + 1) ≤ (9223372036854775807 : Int); omega⟩, ?_⟩
      exact ⟨rfl, 12 - (k + 1), by omega, k + 1, by omega, rfl, rfl, by rw [shK_snoc, show shB l k = shB (l.take i) k by rw [List.take_of_length_le (by omega)]]; rfl⟩
  · replace h0 : ¬ ((k : Int) < 12) := h0
    rw [show k = 12 by omega]
    exact ⟨rfl, rfl, rfl, rfl⟩
def CShr : List (Nat × Con) := (37, pureC [.v (.sl (.sl .u8))] sShr) :: CFit
theorem kShr : Known Tryd.prog (En CShr tys G6 QPrs) := kFit.add Tryd.func37 Tryd.call37 [.o (.cons (.int .i64) (.cons .str .nil))] fun ds p v bs h hp => by
  unfold sShr at h
  split at h <;> simp only [Option.some.injEq, Prod.mk.injEq, reduceCtorEq] at h
  obtain ⟨rfl, rfl, rfl⟩ := h
  exact bShr _ hp.1 hp.2
end Go.Proofs.YtmkphnlpbngenaaDoor.S27

namespace Go.Proofs.YtmkphnlpbngenaaDoor.S27
open Go Go.Proofs.YtmkphnlpbngenaaDoor.Vc Go.Proofs
set_option maxRecDepth 100000
set_option linter.unusedVariables false

def sRnw : List V → Option (Prop × V × List Blk)
  | [.sl false (.cons (.int .i64) (.cons .str .nil)) l, .sl false (.cons (.int .i64) (.cons (.sl (.sl .str)) .nil)) ds] => some (rnP l ds ∧ (∀ d ∈ ds, d.2.1.length ≤ 1048576 ∧ ∀ l ∈ d.2.1, l.length ≤ 1048576 ∧ ∀ x ∈ l, x.length ≤ 1048576), .tup [.own (.cons (.int .i64) (.cons .str .nil)) 0, .b True], [.row true (.cons (.int .i64) (.cons .str .nil)) (rnK l ds l.length)])
  | _ => none
set_option maxHeartbeats 2000000 in
theorem bRnw (l : List (Int × (List UInt8 × Unit))) (ds : List (Int × (List (List (List UInt8)) × Unit))) (hp0 : rnP l ds) (hp1 : (∀ d ∈ ds, d.2.1.length ≤ 1048576 ∧ ∀ l ∈ d.2.1, l.length ≤ 1048576 ∧ ∀ x ∈ l, x.length ≤ 1048576)) : bodyP (En CShr tys G6 QPrs [1000002]) Tryd.f36 [.o (.cons (.int .i64) (.cons .str .nil)), .k] [.sl false (.cons (.int .i64) (.cons .str .nil)) l, .sl false (.cons (.int .i64) (.cons (.sl (.sl .str)) .nil)) ds] (.tup [.own (.cons (.int .i64) (.cons .str .nil)) 0, .b True]) [.row true (.cons (.int .i64) (.cons .str .nil)) (rnK l ds l.length)] := by
  obtain ⟨N, hN⟩ := hp0
  obtain ⟨q1, q2, q3, q4, q5⟩ := id hN
  refine ⟨0, [(0, .k), (1, .k), (6, .o (.cons (.int .i64) (.cons .str .nil))), (7, .k)], fun n vs H => ∃ (k : Nat), k ≤ l.length ∧ n = l.length - k ∧ vs = [.sl false (.cons (.int .i64) (.cons .str .nil)) l, .sl false (.cons (.int .i64) (.cons (.sl (.sl .str)) .nil)) ds, .own (.cons (.int .i64) (.cons .str .nil)) 0, .int .i64 (k : Int)] ∧ H = [.row true (.cons (.int .i64) (.cons .str .nil)) (rnK l ds k)], ⟨rfl, l.length, 0, by omega, by omega, rfl, rfl⟩, ?_⟩
  rintro n vs H ⟨k, hc1_0, rfl, rfl, rfl⟩
  have hsl := rnK_len l ds k
  refine ⟨fun h0 => ?_, fun h0 => ?_⟩
  · replace h0 : (k : Int) < (l.length : Int) := h0
    have hk : k < l.length := by omega
    have hu := rn_upd hN hk
    refine ⟨0, [(0, .k), (1, .k), (6, .o (.cons (.int .i64) (.cons .str .nil))), (7, .k), (8, .o (.sl .str)), (9, .k)], fun n vs H => ∃ (i : Nat), i ≤ ds.length ∧ n = ds.length - i ∧ vs = [.sl false (.cons (.int .i64) (.cons .str .nil)) l, .sl false (.cons (.int .i64) (.cons (.sl (.sl .str)) .nil)) ds, .own (.cons (.int .i64) (.cons .str .nil)) 0, .int .i64 (k : Int), .own (.sl .str) 1, .int .i64 (i : Int)] ∧ H = [.row true (.cons (.int .i64) (.cons .str .nil)) (rnK l ds k), .row true (.sl .str) (rnR (ds.take i) k)], ⟨rfl, ds.length, 0, by omega, by omega, rfl, rfl⟩, ?_⟩
    rintro n vs H ⟨i, hc2_0, rfl, rfl, rfl⟩
    have hml : (rnR (ds.take i) k).length = i := mapT_len _ ds i (by omega)
    refine ⟨fun h1 => ?_, fun h1 => ?_⟩
    · replace h1 : (i : Int) < (ds.length : Int) := h1
      have hi : i < ds.length := by omega
      have hm := getD_mem (0, [], ()) ds i hi
      have hd := hp1 _ hm
      obtain ⟨hc, hn⟩ := q5 _ hm
      have hrow := row0 (h := (k : Int)) hc ⟨by omega, by omega⟩
      refine ⟨⟨by show (0 : Int) ≤ (i : Int); omega, by show (i : Int) < (ds.length : Int); omega⟩, rfl, rfl, ⟨hd.1, hd.2⟩, fun h2 => ?_, fun h2 => ?_⟩
      · replace h2 : (rowE ((ds.getD i (0, ([], ()))).1) (((ds.getD i (0, ([], ()))).2).1) (k : Int)) ≠ 0 := h2
        exact absurd hrow.1 h2
      · replace h2 : ¬ ((rowE ((ds.getD i (0, ([], ()))).1) (((ds.getD i (0, ([], ()))).2).1) (k : Int)) ≠ 0) := h2
        refine ⟨⟨rfl, rfl⟩, by show (rnR (ds.take i) k).length + ([rowL ((ds.getD i (0, ([], ()))).1) (((ds.getD i (0, ([], ()))).2).1) (k : Int)] : List (List (List UInt8))).length ≤ 1000000000; simp only [List.length_cons, List.length_nil]; omega, ⟨by show (-9223372036854775808 : Int) ≤ ((i : Int) + 1); omega, by show ((i : Int) + 1) ≤ (9223372036854775807 : Int); omega⟩, ?_⟩
        exact ⟨rfl, ds.length - (i + 1), by omega, i + 1, by omega, rfl, rfl, by rw [rnR_snoc ds k i hi hrow.2]; rfl⟩
    · replace h1 : ¬ ((i : Int) < (ds.length : Int)) := h1
      have hir : rnR (ds.take i) k = rnR ds k := by rw [List.take_of_length_le (by omega)]
      rw [← hir] at hu
      have hrl := rnR_le (fun d hd => (hp1 d hd).1) k i
      refine ⟨⟨by show (0 : Int) ≤ (k : Int); omega, by show (k : Int) < (l.length : Int); omega⟩, rfl, ⟨by omega, hrl⟩, ⟨rfl, rfl, rfl, Nat.le_of_ble_eq_true rfl⟩, fun h3 => ?_, fun h3 => ?_⟩
      · replace h3 : ¬ ((updE ((l.getD k (0, ([], ()))).1) (((l.getD k (0, ([], ()))).2).1) (rnR (ds.take i) k)) ≠ 0) := h3
        refine ⟨fun h4 => ?_, fun h4 => ?_⟩
        · replace h4 : (updH ((l.getD k (0, ([], ()))).1) (((l.getD k (0, ([], ()))).2).1) (rnR (ds.take i) k)) ≠ (k : Int) := h4
          exact absurd hu.2.1 h4
        · replace h4 : ¬ ((updH ((l.getD k (0, ([], ()))).1) (((l.getD k (0, ([], ()))).2).1) (rnR (ds.take i) k)) ≠ (k : Int)) := h4
          refine ⟨rfl, ⟨rfl, rfl⟩, by show (rnK l ds k).length + ([(updH ((l.getD k (0, ([], ()))).1) (((l.getD k (0, ([], ()))).2).1) (rnR (ds.take i) k), updS ((l.getD k (0, ([], ()))).1) (((l.getD k (0, ([], ()))).2).1) (rnR (ds.take i) k), ())] : List (Int × (List UInt8 × Unit))).length ≤ 1000000000; simp only [List.length_cons, List.length_nil]; omega, ⟨by show (-9223372036854775808 : Int) ≤ ((k : Int) + 1); omega, by show ((k : Int) + 1) ≤ (9223372036854775807 : Int); omega⟩, ?_⟩
          exact ⟨rfl, l.length - (k + 1), by omega, k + 1, by omega, rfl, rfl, by rw [rnK_snoc' hu.2.1 (hu.2.2.trans (by rw [hir]))]; rfl⟩
      · replace h3 : (updE ((l.getD k (0, ([], ()))).1) (((l.getD k (0, ([], ()))).2).1) (rnR (ds.take i) k)) ≠ 0 := h3
        exact absurd hu.1 h3
  · replace h0 : ¬ ((k : Int) < (l.length : Int)) := h0
    rw [show k = l.length by omega]
    exact ⟨rfl, rfl, congrArg (fun p => V.tup [V.own (.cons (.int .i64) (.cons .str .nil)) 0, V.b p]) (propext ⟨fun _ => trivial, fun _ => rfl⟩), rfl⟩
def CRnw : List (Nat × Con) := (36, pureC [.v (.sl (.cons (.int .i64) (.cons .str .nil))), .v (.sl (.cons (.int .i64) (.cons (.sl (.sl .str)) .nil)))] sRnw) :: CShr
theorem kRnw : Known Tryd.prog (En CRnw tys G6 QPrs) := Known.frz0 <| (kShr.frz [1000002]).add Tryd.func36 Tryd.call36 [.o (.cons (.int .i64) (.cons .str .nil)), .k] fun ds p v bs h hp => by
  unfold sRnw at h
  split at h <;> simp only [Option.some.injEq, Prod.mk.injEq, reduceCtorEq] at h
  obtain ⟨rfl, rfl, rfl⟩ := h
  exact bRnw _ _ hp.1 hp.2
def sOth : List V → Option (Prop × V × List Blk)
  | [.sl false .u8 p, .int .i64 s, .int .i64 nd, .u8 z] => some (p.length ≤ 1000000 ∧ 0 ≤ s ∧ s < 4096, .sl true .u8 (othL p s nd z), [])
  | _ => none
set_option maxHeartbeats 1000000 in
theorem bOth (p : List UInt8) (s : Int) (nd : Int) (z : UInt8) (hp0 : p.length ≤ 1000000) (hp1 : 0 ≤ s) (hp2 : s < 4096) : bodyP (En CRnw tys G6 QPrs) Tryd.f39 [.d .u8] [.sl false .u8 p, .int .i64 s, .int .i64 nd, .u8 z] (.sl true .u8 (othL p s nd z)) [] := by
  refine ⟨0, [(0, .k), (1, .k), (2, .k), (9, .o .u8), (10, .o .u8), (11, .k)], fun n vs H => ∃ (k : Nat), k ≤ 12 ∧ n = 12 - k ∧ vs = [.sl false .u8 p, .int .i64 s, .int .i64 nd, .own .u8 0, .own .u8 1, .int .i64 (k : Int)] ∧ H = [.row true .u8 (othX s k), .row true .u8 (othY p s z k)], ⟨rfl, 12, 0, by omega, by omega, rfl, rfl⟩, ?_⟩
  rintro n vs H ⟨k, hc1_0, rfl, rfl, rfl⟩
  have hxl := othX_len s k
  have hyl := othY_len p s z k
  refine ⟨fun h0 => ?_, fun h0 => ?_⟩
  · replace h0 : (k : Int) < 12 := h0
    refine ⟨⟨by show (0 : Int) ≤ (k : Int); omega, by show (k : Int) ≤ (64 : Int); omega⟩, .inr ⟨rfl, ?_⟩⟩
    refine ⟨fun h1 => ?_, fun h1 => ?_⟩
    · replace h1 : ((s / 2 ^ k) % 2) = 1 := h1
      refine ⟨⟨by show (-9223372036854775808 : Int) ≤ ((k : Int) + 1); omega, by show ((k : Int) + 1) ≤ (9223372036854775807 : Int); omega⟩, ⟨rfl, rfl⟩, by show (othX s k).length + ([UInt8.ofNat (((k : Int) + 1) % 256).toNat] : List UInt8).length ≤ 1000000000; simp only [List.length_cons, List.length_nil]; omega, ⟨by show (-9223372036854775808 : Int) ≤ ((k : Int) + 1); omega, by show ((k : Int) + 1) ≤ (9223372036854775807 : Int); omega⟩, by show p.length ≤ 1000000; first | omega | assumption, ⟨rfl, rfl⟩, by show (othY p s z k).length + ([horner (UInt8.ofNat (((k : Int) + 1) % 256).toNat) p] : List UInt8).length ≤ 1000000000; simp only [List.length_cons, List.length_nil]; omega, ⟨by show (-9223372036854775808 : Int) ≤ ((k : Int) + 1); omega, by show ((k : Int) + 1) ≤ (9223372036854775807 : Int); omega⟩, ?_⟩
      first
      | exact ⟨rfl, 12 - (k + 1), by omega, k + 1, by omega, rfl, rfl, by rw [othX_yes (show s / 2 ^ k % 2 = 1 from h1), othY_yes (show s / 2 ^ k % 2 = 1 from h1)]; rfl⟩
      | exact ⟨rfl, 12 - (k + 1), by omega, k + 1, by omega, rfl, rfl, by rw [othX_no (show ¬ s / 2 ^ k % 2 = 1 from h1), othY_no (show ¬ s / 2 ^ k % 2 = 1 from h1)]; rfl⟩
    · replace h1 : ¬ (((s / 2 ^ k) % 2) = 1) := h1
      refine ⟨⟨by show (-9223372036854775808 : Int) ≤ ((k : Int) + 1); omega, by show ((k : Int) + 1) ≤ (9223372036854775807 : Int); omega⟩, ?_⟩
      first
      | exact ⟨rfl, 12 - (k + 1), by omega, k + 1, by omega, rfl, rfl, by rw [othX_yes (show s / 2 ^ k % 2 = 1 from h1), othY_yes (show s / 2 ^ k % 2 = 1 from h1)]; rfl⟩
      | exact ⟨rfl, 12 - (k + 1), by omega, k + 1, by omega, rfl, rfl, by rw [othX_no (show ¬ s / 2 ^ k % 2 = 1 from h1), othY_no (show ¬ s / 2 ^ k % 2 = 1 from h1)]; rfl⟩
  · replace h0 : ¬ ((k : Int) < 12) := h0
    have hol : othL p s nd z = if (ipL (othX s k) (othY p s z k)).2 = 0 ∧ ((ipL (othX s k) (othY p s z k)).1.length : Int) ≤ nd then (ipL (othX s k) (othY p s z k)).1 else [] := by rw [show k = 12 by omega]; rfl
    refine ⟨⟨by show (othX s k).length ≤ 10000; first | omega | assumption, by show (othY p s z k).length ≤ 10000; first | omega | assumption⟩, fun h2 => ?_, fun h2 => ?_⟩
    · replace h2 : ¬ (((ipL (othX s k) (othY p s z k)).2) ≠ 0) := h2
      refine ⟨fun h3 => ?_, fun h3 => ?_⟩
      · replace h3 : nd < ((((ipL (othX s k) (othY p s z k)).1).length : Nat) : Int) := h3
        rw [hol, if_neg (fun g => by omega)]
        exact ⟨rfl, rfl, rfl, rfl⟩
      · replace h3 : ¬ (nd < ((((ipL (othX s k) (othY p s z k)).1).length : Nat) : Int)) := h3
        rw [hol, if_pos ⟨by omega, by omega⟩]
        exact ⟨rfl, rfl, rfl, rfl⟩
    · replace h2 : ((ipL (othX s k) (othY p s z k)).2) ≠ 0 := h2
      rw [hol, if_neg (fun g => h2 g.1)]
      exact ⟨rfl, rfl, rfl, rfl⟩
def COth : List (Nat × Con) := (39, pureC [.v (.sl .u8), .v (.int .i64), .v (.int .i64), .v .u8] sOth) :: CRnw
theorem kOth : Known Tryd.prog (En COth tys G6 QPrs) := kRnw.add Tryd.func39 Tryd.call39 [.d .u8] fun ds p v bs h hp => by
  unfold sOth at h
  split at h <;> simp only [Option.some.injEq, Prod.mk.injEq, reduceCtorEq] at h
  obtain ⟨rfl, rfl, rfl⟩ := h
  exact bOth _ _ _ _ hp.1 hp.2.1 hp.2.2
def sSec : List V → Option (Prop × V × List Blk)
  | [.sl false (.cons (.int .i64) (.cons .str .nil)) l, .int .i64 nd] => some (SecOk l nd, .tup [.str (secK l nd (sN l)), .b True], [])
  | _ => none
set_option maxHeartbeats 2000000 in
theorem bSec (l : List (Int × (List UInt8 × Unit))) (nd : Int) (hp0 : SecOk l nd) : bodyP (En COth tys G6 QPrs) Tryd.f38 [.k, .k] [.sl false (.cons (.int .i64) (.cons .str .nil)) l, .int .i64 nd] (.tup [.str (secK l nd (sN l)), .b True]) [] := by
  obtain ⟨q1, q2, q3, q4, q5, q6, q7⟩ := hp0
  refine ⟨fun h0 => ?_, fun h0 => ?_⟩
  · replace h0 : (l.length : Int) < nd := h0
    omega
  · replace h0 : ¬ ((l.length : Int) < nd) := h0
    refine ⟨0, [(0, .k), (1, .k), (6, .o .u8), (7, .k)], fun n vs H => ∃ (k : Nat), k ≤ sN l ∧ n = sN l - k ∧ vs = [.sl false (.cons (.int .i64) (.cons .str .nil)) l, .int .i64 nd, .own .u8 0, .int .i64 (k : Int)] ∧ H = [.row true .u8 (secK l nd k)], ⟨rfl, sN l, 0, by omega, by omega, rfl, rfl⟩, ?_⟩
    rintro n vs H ⟨k, hc1_0, rfl, rfl, rfl⟩
    have hsl := secK_len l nd k
    have hs0 : ((l.getD 0 (0, [], ())).2.1).length = sN l := rfl
    refine ⟨⟨by show (0 : Int) ≤ 0; omega, by show 0 < (l.length : Int); omega⟩, fun h1 => ?_, fun h1 => ?_⟩
    · replace h1 : (k : Int) < (((((l.getD 0 (0, ([], ()))).2).1).length : Nat) : Int) := h1
      refine ⟨0, [(0, .k), (1, .k), (6, .o .u8), (7, .k), (8, .o .u8), (9, .o .u8), (10, .k)], fun n vs H => ∃ (i : Nat), i ≤ l.length ∧ n = l.length - i ∧ vs = [.sl false (.cons (.int .i64) (.cons .str .nil)) l, .int .i64 nd, .own .u8 0, .int .i64 (k : Int), .own .u8 1, .own .u8 2, .int .i64 (i : Int)] ∧ H = [.row true .u8 (secK l nd k), .row true .u8 (xsL (l.take i)), .row true .u8 (ysL (l.take i) k)], ⟨rfl, l.length, 0, by omega, by omega, rfl, rfl⟩, ?_⟩
      rintro n vs H ⟨i, hc2_0, rfl, rfl, rfl⟩
      have hxl : (xsL (l.take i)).length = i := mapT_len _ l i (by omega)
      have hyl : (ysL (l.take i) k).length = i := mapT_len _ l i (by omega)
      refine ⟨fun h2 => ?_, fun h2 => ?_⟩
      · replace h2 : (i : Int) < (l.length : Int) := h2
        have hi : i < l.length := by omega
        have hm := getD_mem (0, [], ()) l i hi
        obtain ⟨w1, w2⟩ := q5 _ hm
        have hsm := q6 _ hm
        refine ⟨by kernel_rfl, ⟨by show (0 : Int) ≤ (i : Int); omega, by show (i : Int) < (l.length : Int); omega⟩, ⟨by show (0 : Int) ≤ 0; omega, by show 0 < (l.length : Int); omega⟩, fun h3 => ?_, fun h3 => ?_⟩
        · replace h3 : (((((l.getD i (0, ([], ()))).2).1).length : Nat) : Int) ≠ (((((l.getD 0 (0, ([], ()))).2).1).length : Nat) : Int) := h3
          omega
        · replace h3 : ¬ ((((((l.getD i (0, ([], ()))).2).1).length : Nat) : Int) ≠ (((((l.getD 0 (0, ([], ()))).2).1).length : Nat) : Int)) := h3
          refine ⟨⟨by show (0 : Int) ≤ (i : Int); omega, by show (i : Int) < (l.length : Int); omega⟩, ⟨by show (-9223372036854775808 : Int) ≤ (((l.getD i (0, ([], ()))).1) + 1); omega, by show (((l.getD i (0, ([], ()))).1) + 1) ≤ (9223372036854775807 : Int); omega⟩, ⟨rfl, rfl⟩, by show (xsL (l.take i)).length + ([UInt8.ofNat ((((l.getD i (0, ([], ()))).1) + 1) % 256).toNat] : List UInt8).length ≤ 1000000000; simp only [List.length_cons, List.length_nil]; omega, ⟨by show (0 : Int) ≤ (i : Int); omega, by show (i : Int) < (l.length : Int); omega⟩, ⟨by show (0 : Int) ≤ (k : Int); omega, by show (k : Int) < ((((l.getD i (0, ([], ()))).2).1).length : Int); omega⟩, ⟨rfl, rfl⟩, by show (ysL (l.take i) k).length + ([(((l.getD i (0, ([], ()))).2).1).getD k 0] : List UInt8).length ≤ 1000000000; simp only [List.length_cons, List.length_nil]; omega, ⟨by show (-9223372036854775808 : Int) ≤ ((i : Int) + 1); omega, by show ((i : Int) + 1) ≤ (9223372036854775807 : Int); omega⟩, ?_⟩
          exact ⟨rfl, l.length - (i + 1), by omega, i + 1, by omega, rfl, rfl, by rw [show xsL (l.take (i + 1)) = _ from map_take_snoc (0, [], ()) _ l i hi, show ysL (l.take (i + 1)) k = _ from map_take_snoc (0, [], ()) _ l i hi]; rfl⟩
      · replace h2 : ¬ ((i : Int) < (l.length : Int)) := h2
        have hir : l.take i = l := List.take_of_length_le (by omega)
        have htp := q7 k (by omega)
        have htl := tp_len (xsL l) (ysL l k) (nd - 1)
        rw [← hir] at htp htl
        refine ⟨⟨by show (-9223372036854775808 : Int) ≤ (nd - 1); omega, by show (nd - 1) ≤ (9223372036854775807 : Int); omega⟩, rfl, ⟨by show (xsL (l.take i)).length ≤ 10000; first | omega | assumption | (simp only [List.length_cons, List.length_nil, List.length_append, List.length_take, List.length_drop, List.length_set, List.length_replicate]; omega), by show (ysL (l.take i) k).length ≤ 10000; first | omega | assumption | (simp only [List.length_cons, List.length_nil, List.length_append, List.length_take, List.length_drop, List.length_set, List.length_replicate]; omega)⟩, fun h4 => ?_, fun h4 => ?_⟩
        · replace h4 : ((tpL (xsL (l.take i)) (ysL (l.take i) k) (nd - 1)).2) ≠ 0 := h4
          exact absurd htp h4
        · replace h4 : ¬ (((tpL (xsL (l.take i)) (ysL (l.take i) k) (nd - 1)).2) ≠ 0) := h4
          refine ⟨by show ((tpL (xsL (l.take i)) (ysL (l.take i) k) (nd - 1)).1).length ≤ 1000000; first | omega | assumption | (simp only [List.length_cons, List.length_nil, List.length_append, List.length_take, List.length_drop, List.length_set, List.length_replicate]; omega), ⟨rfl, rfl⟩, by show (secK l nd k).length + ([horner 0 ((tpL (xsL (l.take i)) (ysL (l.take i) k) (nd - 1)).1)] : List UInt8).length ≤ 1000000000; simp only [List.length_cons, List.length_nil]; omega, ⟨by show (-9223372036854775808 : Int) ≤ ((k : Int) + 1); omega, by show ((k : Int) + 1) ≤ (9223372036854775807 : Int); omega⟩, ?_⟩
          exact ⟨rfl, sN l - (k + 1), by omega, k + 1, by omega, rfl, rfl, by rw [secK_snoc' (show horner 0 (tpL (xsL (l.take i)) (ysL (l.take i) k) (nd - 1)).1 = _ by rw [hir])]; rfl⟩
    · replace h1 : ¬ ((k : Int) < (((((l.getD 0 (0, ([], ()))).2).1).length : Nat) : Int)) := h1
      rw [show k = sN l by omega]
      exact ⟨rfl, rfl, congrArg (fun p => V.tup [V.str (secK l nd (sN l)), V.b p]) (propext ⟨fun _ => trivial, fun _ => rfl⟩), rfl⟩
def CSec : List (Nat × Con) := (38, pureC [.v (.sl (.cons (.int .i64) (.cons .str .nil))), .v (.int .i64)] sSec) :: COth
theorem kSec : Known Tryd.prog (En CSec tys G6 QPrs) := kOth.add Tryd.func38 Tryd.call38 [.k, .k] fun ds p v bs h hp => by
  unfold sSec at h
  split at h <;> simp only [Option.some.injEq, Prod.mk.injEq, reduceCtorEq] at h
  obtain ⟨rfl, rfl, rfl⟩ := h
  exact bSec _ _ hp
end Go.Proofs.YtmkphnlpbngenaaDoor.S27

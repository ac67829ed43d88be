/- The law FnBagOrd returns true for every input that the statement lets in; no condition of our own. -/
import Derived.Test.YtmgpdneehdnjlaaCdx8
namespace Go.Proofs.Ytmgpdneehdnjlaa.Pure
open Go.RowKit Go.Proofs.Ytmgpdneehdnjlaa.Cd Go.Proofs.YtmgpdneehdnjlaaW.PrintWords Go.Proofs.YtmgpdneehdnjlaaW.PrintLast
set_option linter.unusedVariables false
set_option linter.unusedSimpArgs false

-- part: base
/-! ### words of mine -/
theorem ev_s {α : Type} {g : Nat → Option α} {r : α} (h : Ev (fun k => g (k + 1)) r) : Ev g r := Ev.step (fun _ => rfl) h
theorem ev_eq {α : Type} {g : Nat → Option α} {r q : α} (h : Ev g r) (e : r = q) : Ev g q := e ▸ h
theorem ev_now {α : Type} {r q : α} (e : r = q) : Ev (fun _ => some r) q := e ▸ Ev.now r
theorem wrap_in {x : Int} (h0 : -9223372036854775808 ≤ x) (h1 : x ≤ 9223372036854775807) : wrap64 x = x := by unfold wrap64; omega
theorem rd_eq (xs : List Int) (i : Nat) : rd xs (i : Int) = xs.getD i 0 := by simp [rd]
theorem rd_get {xs : List Int} {i : Nat} (h : i < xs.length) : rd xs (i : Int) = xs[i] := by simp [rd, h]
theorem wrap_nat2 (a b : Nat) (h : a + b < 4611686018427387904) : wrap64 ((a : Int) + (b : Int)) = ((a + b : Nat) : Int) := by rw [wrap_in (by omega) (by omega)]; omega
theorem ev_const {α : Type} {x : Option α} {a : α} (h : x = some a) : Ev (fun _ => x) a := by subst h; exact Ev.now a

-- part: eqLoop
theorem eqIntS_l0 (F : Nat → List Int → List Int → Int → Option Bool)
    (h0 : ∀ k a b i, F (k + 1) a b i = if i < (a.length : Int) then (if 0 ≤ i then (if i < (b.length : Int) then (if (rd a i) = (rd b i) then (F k a b (wrap64 (i + 1))) else (some false)) else none) else none) else some true)
    (a b : List Int) (hl : a.length = b.length) (hb : a.length ≤ 140737488351232) : ∀ (d i : Nat), i + d = a.length → a.take i = b.take i → Ev (fun k => F k a b i) (decide (a = b)) := by
  intro d
  induction d with
  | zero =>
    intro i h ht
    refine ev_s ?_
    simp only [h0]
    simp only [if_neg (show ¬ ((i : Int) < (a.length : Int)) by omega)]
    rw [List.take_of_length_le (by omega), List.take_of_length_le (by omega)] at ht
    simp only [ht, decide_true]; exact Ev.now _
  | succ d ih =>
    intro i h ht
    refine ev_s ?_
    simp only [h0]
    simp only [if_pos (show (i : Int) < (a.length : Int) by omega), if_pos (show (0 : Int) ≤ (i : Int) by omega), if_pos (show (i : Int) < (b.length : Int) by omega), show wrap64 ((i : Int) + 1) = ((i + 1 : Nat) : Int) by rw [wrap_in (by omega) (by omega)]; rfl]
    rw [rd_get (show i < a.length by omega), rd_get (show i < b.length by omega)]
    by_cases he : a[i] = b[i]
    · simp only [if_pos he]
      refine ih (i + 1) (by omega) ?_
      rw [List.take_succ_eq_append_getElem (by omega), List.take_succ_eq_append_getElem (by omega), ht, he]
    · simp only [if_neg he]
      refine ev_now (Eq.symm (decide_eq_false (fun hab => he ?_)))
      subst hab; rfl

-- part: sameInts
theorem sameInts_ev (a b : List Int) (hb : a.length ≤ 140737488351232) : Ev (fun k => laws_sameInts.f k a b) (decide (a = b)) := by
  simp only [laws_sameInts.f]
  by_cases hl : a.length = b.length
  · simp only [if_pos (show (a.length : Int) = (b.length : Int) by omega)]
    exact eqIntS_l0 laws_sameInts.l0 (fun _ _ _ _ => rfl) a b hl hb a.length 0 (by omega) (by simp)
  · simp only [if_neg (show ¬ ((a.length : Int) = (b.length : Int)) by omega)]
    exact ev_now (Eq.symm (decide_eq_false (fun hab => hl (by rw [hab]))))

-- part: l1In
theorem l1In_eq (n lo hi : Int) : spec_l1In.f n lo hi = some (decide (lo ≤ n ∧ n ≤ hi)) := by
  unfold spec_l1In.f
  by_cases h : n ≥ lo
  · rw [if_pos h]; simp [show lo ≤ n from h]
  · rw [if_neg h]; simp [show ¬ lo ≤ n from h]

-- part: allB
def allB (f : Nat → Bool) : Nat → Nat → Bool
  | 0, _ => true
  | d + 1, i => f i && allB f d (i + 1)
theorem allB_iff (f : Nat → Bool) : ∀ d i, allB f d i = true ↔ ∀ m, i ≤ m → m < i + d → f m = true
  | 0, i => by simp [allB]; omega
  | d + 1, i => by
    rw [allB, Bool.and_eq_true, allB_iff f d (i + 1)]
    constructor
    · rintro ⟨h1, h2⟩ m hm hm2
      by_cases h : m = i
      · subst h; exact h1
      · exact h2 m (by omega) (by omega)
    · intro h
      exact ⟨h i (by omega) (by omega), fun m h1 h2 => h m (by omega) (by omega)⟩

-- part: BagValid
/-- What both of them ask at a place. -/
def bagAt (l : List Int) (i : Nat) : Bool := decide (0 ≤ rd l (i : Int) ∧ rd l (i : Int) ≤ 9 ∧ (0 < i → rd l (i : Int) ≤ rd l ((i - 1 : Nat) : Int)))
def bagOk (l : List Int) : Bool := allB (bagAt l) l.length 0 && decide (l.length ≤ 16)
theorem spec_BagValid_l0 (l : List Int) (hb : l.length ≤ 140737488351232) : ∀ (d i : Nat), i + d = l.length → Ev (fun k => spec_BagValid.l0 k l (i : Int)) (allB (bagAt l) d i && decide (l.length ≤ 16)) := by
  intro d
  induction d with
  | zero =>
    intro i h
    refine ev_s ?_
    simp only [spec_BagValid.l0, if_neg (show ¬ ((i : Int) < (l.length : Int)) by omega), allB, Bool.true_and]
    exact ev_now (decide_eq_decide.mpr (by omega))
  | succ d ih =>
    intro i h
    refine ev_s ?_
    simp only [spec_BagValid.l0, l1In_eq, Option.bind_some, if_pos (show (i : Int) < (l.length : Int) by omega), if_pos (show (0 : Int) ≤ (i : Int) by omega), show wrap64 ((i : Int) + 1) = ((i + 1 : Nat) : Int) by rw [wrap_in (by omega) (by omega)]; rfl, allB]
    by_cases h1 : 0 ≤ rd l (i : Int) ∧ rd l (i : Int) ≤ 9
    · simp only [decide_eq_true h1, if_true]
      by_cases h0 : (i : Int) > 0
      · have e : wrap64 ((i : Int) - 1) = ((i - 1 : Nat) : Int) := by rw [wrap_in (by omega) (by omega)]; omega
        simp only [if_pos h0, e, if_pos (show (0 : Int) ≤ ((i - 1 : Nat) : Int) by omega), if_pos (show ((i - 1 : Nat) : Int) < (l.length : Int) by omega)]
        by_cases h2 : rd l (i : Int) > rd l ((i - 1 : Nat) : Int)
        · have hf : bagAt l i = false := decide_eq_false (fun hh => by have := hh.2.2 (by omega); omega)
          simp only [if_pos h2, hf, Bool.false_and]; exact Ev.now _
        · have ht : bagAt l i = true := decide_eq_true ⟨h1.1, h1.2, fun _ => by omega⟩
          simp only [if_neg h2, ht, Bool.true_and]; exact ih (i + 1) (by omega)
      · have ht : bagAt l i = true := decide_eq_true ⟨h1.1, h1.2, fun _ => by omega⟩
        simp only [if_neg h0, ht, Bool.true_and]; exact ih (i + 1) (by omega)
    · have hf : bagAt l i = false := decide_eq_false (fun hh => h1 ⟨hh.1, hh.2.1⟩)
      simp only [decide_eq_false h1, Bool.false_eq_true, if_false, hf, Bool.false_and]; exact Ev.now _
theorem spec_BagValid_ev (l : List Int) (hb : l.length ≤ 140737488351232) : Ev (fun k => spec_BagValid.f k l) (bagOk l) := spec_BagValid_l0 l hb l.length 0 (by omega)
theorem impl_BagValid_l0 (l : List Int) (hb : l.length ≤ 140737488351232) : ∀ (d i : Nat), i + d = l.length → Ev (fun k => impl_BagValid.l0 k l l (l.length : Int) (i : Int)) (allB (bagAt l) d i && decide (l.length ≤ 16)) := by
  intro d
  induction d with
  | zero =>
    intro i h
    refine ev_s ?_
    simp only [impl_BagValid.l0, if_neg (show ¬ ((i : Int) < (l.length : Int)) by omega), allB, Bool.true_and]
    exact ev_now (decide_eq_decide.mpr (by omega))
  | succ d ih =>
    intro i h
    refine ev_s ?_
    simp only [impl_BagValid.l0, if_pos (show (i : Int) < (l.length : Int) by omega), if_pos (show (0 : Int) ≤ (i : Int) by omega), show wrap64 ((i : Int) + 1) = ((i + 1 : Nat) : Int) by rw [wrap_in (by omega) (by omega)]; rfl, allB]
    by_cases h1 : rd l (i : Int) < 0
    · have hf : bagAt l i = false := decide_eq_false (fun hh => by omega)
      simp only [if_pos h1, hf, Bool.false_and]; exact Ev.now _
    · by_cases h9 : rd l (i : Int) > 9
      · have hf : bagAt l i = false := decide_eq_false (fun hh => by omega)
        simp only [if_neg h1, if_pos h9, hf, Bool.false_and]; exact Ev.now _
      · simp only [if_neg h1, if_neg h9]
        by_cases h0 : (i : Int) > 0
        · have e : wrap64 ((i : Int) - 1) = ((i - 1 : Nat) : Int) := by rw [wrap_in (by omega) (by omega)]; omega
          simp only [if_pos h0, e, if_pos (show (0 : Int) ≤ ((i - 1 : Nat) : Int) by omega), if_pos (show ((i - 1 : Nat) : Int) < (l.length : Int) by omega)]
          by_cases h2 : rd l (i : Int) > rd l ((i - 1 : Nat) : Int)
          · have hf : bagAt l i = false := decide_eq_false (fun hh => by have := hh.2.2 (by omega); omega)
            simp only [if_pos h2, hf, Bool.false_and]; exact Ev.now _
          · have ht : bagAt l i = true := decide_eq_true ⟨by omega, by omega, fun _ => by omega⟩
            simp only [if_neg h2, ht, Bool.true_and]; exact ih (i + 1) (by omega)
        · have ht : bagAt l i = true := decide_eq_true ⟨by omega, by omega, fun _ => by omega⟩
          simp only [if_neg h0, ht, Bool.true_and]; exact ih (i + 1) (by omega)
theorem impl_BagValid_ev (l : List Int) (hb : l.length ≤ 140737488351232) : Ev (fun k => impl_BagValid.f k l) (bagOk l) := impl_BagValid_l0 l hb l.length 0 (by omega)
theorem rd_drop (l : List Int) (a i : Nat) : rd (l.drop a) (i : Int) = rd l ((a + i : Nat) : Int) := by simp only [rd, Int.toNat_natCast, List.getD_eq_getElem?_getD, List.getElem?_drop]
theorem bagOk_drop {l : List Int} (h : bagOk l = true) (a : Nat) : bagOk (l.drop a) = true := by
  simp only [bagOk, Bool.and_eq_true, allB_iff, decide_eq_true_eq, bagAt, rd_drop] at h ⊢
  refine ⟨fun m _ hm => ?_, by simp; omega⟩
  rw [List.length_drop] at hm
  obtain ⟨h1, h2, h3⟩ := h.1 (a + m) (by omega) (by omega)
  refine ⟨h1, h2, fun h0 => ?_⟩
  have := h3 (by omega)
  rw [show a + m - 1 = a + (m - 1) by omega] at this
  exact this

-- part: l6Many
theorem l6Many_l0 (l : List Int) (n : Int) (hb : l.length ≤ 140737488351232) : ∀ (d i c : Nat), i + d = l.length → c ≤ i → Ev (fun k => spec_l6Many.l0 k l n (c : Int) (i : Int)) ((c + (l.drop i).count n : Nat) : Int) := by
  intro d
  induction d with
  | zero =>
    intro i c h _
    refine ev_s ?_
    simp only [spec_l6Many.l0, if_neg (show ¬ ((i : Int) < (l.length : Int)) by omega)]
    rw [List.drop_of_length_le (by omega)]
    exact Ev.now _
  | succ d ih =>
    intro i c h hc
    refine ev_s ?_
    simp only [spec_l6Many.l0, if_pos (show (i : Int) < (l.length : Int) by omega), if_pos (show (0 : Int) ≤ (i : Int) by omega), show wrap64 ((i : Int) + 1) = ((i + 1 : Nat) : Int) by rw [wrap_in (by omega) (by omega)]; rfl, show wrap64 ((c : Int) + 1) = ((c + 1 : Nat) : Int) by rw [wrap_in (by omega) (by omega)]; rfl]
    rw [rd_get (show i < l.length by omega), List.drop_eq_getElem_cons (show i < l.length by omega)]
    by_cases he : l[i] = n
    · simp only [if_pos he]
      rw [he, List.count_cons_self, show c + ((l.drop (i + 1)).count n + 1) = (c + 1) + (l.drop (i + 1)).count n by omega]
      exact ih (i + 1) (c + 1) (by omega) (by omega)
    · simp only [if_neg he]
      rw [List.count_cons_of_ne (fun e => he e)]
      exact ih (i + 1) c (by omega) (by omega)
theorem l6Many_ev (l : List Int) (n : Int) (hb : l.length ≤ 140737488351232) : Ev (fun k => spec_l6Many.f k l n) ((l.count n : Nat) : Int) :=
  ev_eq (l6Many_l0 l n hb l.length 0 0 (by omega) (by omega)) (by simp)

-- part: bagCnt
/-! ### how often a number is in a multiset -/
def cn (l : List Int) (n : Int) : Int := ((l.countP (fun x => x == n) : Nat) : Int)
theorem cn_nonneg (l : List Int) (n : Int) : 0 ≤ cn l n := by unfold cn; omega
theorem cn_le (l : List Int) (n : Int) : cn l n ≤ l.length := by
  have := List.countP_le_length (p := fun x => x == n) (l := l)
  unfold cn; omega
theorem l6Many_cn (l : List Int) (n : Int) (hb : l.length ≤ 140737488351232) : Ev (fun k => spec_l6Many.f k l n) (cn l n) := l6Many_ev l n hb
theorem at_cn (l : List Int) (n : Nat) : impl_counts.at l n = cn l (n : Int) := rfl
theorem bagOk_all {l : List Int} (h : bagOk l = true) : (∀ x ∈ l, 0 ≤ x ∧ x < 10) ∧ l.length ≤ 16 := by
  simp only [bagOk, Bool.and_eq_true, allB_iff, decide_eq_true_eq, bagAt] at h
  refine ⟨fun x hx => ?_, h.2⟩
  obtain ⟨i, hi, rfl⟩ := List.mem_iff_getElem.1 hx
  have := h.1 i (by omega) (by omega)
  rw [rd_get hi] at this
  omega
theorem counts_eq {l : List Int} (h : bagOk l = true) {a : Int} (h0 : 0 ≤ a) (h1 : a < 10) : impl_counts.f l a = some (cn l a) := by
  have := bagOk_all h
  unfold impl_counts.f
  rw [if_pos ⟨⟨this.1, by omega⟩, h0, h1⟩, at_cn, Int.toNat_of_nonneg h0]

-- part: O
/-! ### ordinals -/
/-- An ordinal: a sum of terms w^e * n. -/
inductive O where
  | z : O
  | c (n : Nat) (e r : O) : O

-- part: coreO
def O.cmp : O → O → Ordering
  | .z, .z => .eq
  | .z, .c .. => .lt
  | .c .., .z => .gt
  | .c n e r, .c m f s => ((O.cmp e f).then (compare n m)).then (O.cmp r s)

theorem O.cmp_self : ∀ a : O, O.cmp a a = .eq
  | .z => rfl
  | .c n e r => by
    have h1 := O.cmp_self e
    have h2 := O.cmp_self r
    simp [O.cmp, h1, h2]

theorem O.eq_of_cmp : ∀ a b : O, O.cmp a b = .eq → a = b
  | .z, .z => fun _ => rfl
  | .z, .c .. => fun h => by simp [O.cmp] at h
  | .c .., .z => fun h => by simp [O.cmp] at h
  | .c n e r, .c m f s => fun h => by
    simp only [O.cmp, Ordering.then_eq_eq] at h
    obtain ⟨⟨h1, h2⟩, h3⟩ := h
    rw [O.eq_of_cmp e f h1, O.eq_of_cmp r s h3, Nat.compare_eq_eq.mp h2]

theorem O.cmp_swap : ∀ a b : O, (O.cmp a b).swap = O.cmp b a
  | .z, .z => rfl
  | .z, .c .. => rfl
  | .c .., .z => rfl
  | .c n e r, .c m f s => by
    have h1 := O.cmp_swap e f
    have h2 := O.cmp_swap r s
    simp only [O.cmp, Ordering.swap_then, h1, h2, Nat.compare_swap]

theorem O.cmp_gt_iff (a b : O) : O.cmp a b = .gt ↔ O.cmp b a = .lt := by
  rw [← O.cmp_swap a b]
  cases O.cmp a b <;> simp [Ordering.swap]

theorem O.lt_trans : ∀ a b c : O, O.cmp a b = .lt → O.cmp b c = .lt → O.cmp a c = .lt
  | .z, .z, _ => fun h => by simp [O.cmp] at h
  | .c .., .z, _ => fun h => by simp [O.cmp] at h
  | .z, .c .., .z => fun _ h => by simp [O.cmp] at h
  | .z, .c .., .c .. => fun _ _ => rfl
  | .c .., .c .., .z => fun _ h => by simp [O.cmp] at h
  | .c n e r, .c m f s, .c k g t => fun h1 h2 => by
    simp only [O.cmp, Ordering.then_eq_lt] at h1 h2 ⊢
    rcases h1 with (h1 | ⟨h1, h1'⟩) | ⟨h1, h1'⟩
    · rcases h2 with (h2 | ⟨h2, h2'⟩) | ⟨h2, h2'⟩
      · exact .inl (.inl (O.lt_trans _ _ _ h1 h2))
      · rw [← O.eq_of_cmp _ _ h2]; exact .inl (.inl h1)
      · rw [Ordering.then_eq_eq] at h2; rw [← O.eq_of_cmp _ _ h2.1]; exact .inl (.inl h1)
    · have := O.eq_of_cmp _ _ h1; subst this
      rcases h2 with (h2 | ⟨h2, h2'⟩) | ⟨h2, h2'⟩
      · exact .inl (.inl h2)
      · have h3 := O.eq_of_cmp _ _ h2; subst h3
        rw [Nat.compare_eq_lt] at h1' h2'
        exact .inl (.inr ⟨h2, Nat.compare_eq_lt.mpr (by omega)⟩)
      · rw [Ordering.then_eq_eq] at h2; rw [← Nat.compare_eq_eq.mp h2.2]; exact .inl (.inr ⟨h2.1, h1'⟩)
    · rw [Ordering.then_eq_eq] at h1
      have := O.eq_of_cmp _ _ h1.1; subst this
      have := Nat.compare_eq_eq.mp h1.2; subst this
      rcases h2 with (h2 | ⟨h2, h2'⟩) | ⟨h2, h2'⟩
      · exact .inl (.inl h2)
      · exact .inl (.inr ⟨h2, h2'⟩)
      · exact .inr ⟨h2, O.lt_trans _ _ _ h1' h2'⟩

theorem O.cmp_tri (a b : O) : O.cmp a b = .lt ∨ a = b ∨ O.cmp b a = .lt := by
  cases h : O.cmp a b with
  | lt => exact .inl rfl
  | eq => exact .inr (.inl (O.eq_of_cmp _ _ h))
  | gt => exact .inr (.inr ((O.cmp_gt_iff _ _).mp h))

theorem O.lt_irrefl (a : O) : O.cmp a a ≠ .lt := by rw [O.cmp_self]; simp
theorem O.lt_asymm {a b : O} (h : O.cmp a b = .lt) : O.cmp b a ≠ .lt := fun h' => O.lt_irrefl a (O.lt_trans _ _ _ h h')

/-- The first exponent is less than e. -/
def O.hd (e : O) : O → Prop
  | .z => True
  | .c _ f _ => O.cmp f e = .lt

/-- A normal form. -/
def O.NF : O → Prop
  | .z => True
  | .c n e r => 1 ≤ n ∧ O.NF e ∧ O.NF r ∧ O.hd e r

-- part: oRow
def O.len : O → Nat
  | .z => 0
  | .c _ _ r => O.len r + 1
def O.body : O → List Int
  | .z => []
  | .c n e r => (n : Int) :: (O.len e : Int) :: (O.body e ++ O.body r)
def O.row (o : O) : List Int := (O.len o : Int) :: O.body o
theorem O.len_le : ∀ o : O, o.len ≤ o.body.length
  | .z => Nat.le_refl _
  | .c n e r => by have := O.len_le r; simp only [O.len, O.body, List.length_cons, List.length_append]; omega
/-- These terms are this ordinal. -/
inductive IsO : List S57 → O → Prop where
  | nil : IsO [] .z
  | cons {n : Nat} {e r : List S57} {oe or_ : O} (he : IsO e oe) (hr : IsO r or_) : IsO (⟨(n : Int), e⟩ :: r) (.c n oe or_)
theorem IsO.len {l : List S57} {o : O} (h : IsO l o) : l.length = o.len := by
  induction h with
  | nil => rfl
  | cons he hr ihe ihr => simp [O.len, ihr]
theorem rd_T57_mid (pre suf : List S57) (x : S57) : rd_T57 (pre ++ x :: suf) ((pre.length : Nat) : Int) = x := by simp [rd_T57]
def O.num (n : Nat) : O := if n = 0 then .z else .c n .z .z
theorem number_eq (n : Nat) : ∃ l, impl_number.f (n : Int) = some l ∧ IsO l (O.num n) := by
  unfold impl_number.f O.num
  by_cases h : n = 0
  · subst h; exact ⟨[], rfl, .nil⟩
  · rw [if_neg (show ¬ ((n : Int) = 0) by omega), if_neg h]
    exact ⟨_, rfl, .cons .nil .nil⟩
theorem rowOf_l0 {suf : List S57} {o : O} (h : IsO suf o) : ∀ (pre : List S57) (out : List Int), pre.length + suf.length ≤ 1000000 → out.length + o.body.length ≤ 1000000 → Ev (fun k => impl_rowOf.l0 k out (pre ++ suf) (((pre ++ suf).length : Nat) : Int) (pre.length : Int)) (out ++ o.body) := by
  induction h with
  | nil =>
    intro pre out _ _
    refine ev_s ?_
    simp only [impl_rowOf.l0, List.append_nil, if_neg (show ¬ ((pre.length : Int) < (pre.length : Int)) by omega), O.body]
    exact Ev.now _
  | @cons n e r oe or_ he hr ihe ihr =>
    intro pre out hp ho
    simp only [List.length_cons] at hp
    simp only [O.body, List.length_cons, List.length_append] at ho
    have hlen : ((pre ++ (⟨(n : Int), e⟩ : S57) :: r).length : Nat) = pre.length + (r.length + 1) := by simp
    have he1 := IsO.len he
    have hel := O.len_le oe
    have hE : Ev (fun k => impl_rowOf.f k e) oe.row := by
      refine ev_s ?_
      simp only [impl_rowOf.f]
      have := ihe [] [(e.length : Int)] (by simp; omega) (by simp; omega)
      rw [List.nil_append] at this
      refine ev_eq this ?_
      rw [O.row, ← he1]; rfl
    refine ev_s ?_
    simp only [impl_rowOf.l0, rd_T57_mid, hlen, if_pos (show (pre.length : Int) < ((pre.length + (r.length + 1) : Nat) : Int) by omega), if_pos (show (0 : Int) ≤ (pre.length : Int) by omega), if_pos (show out.length < 17592186044416 by omega), Option.bind_some]
    refine Ev.bind hE ?_
    have hrow : oe.row.length = oe.body.length + 1 := by simp [O.row]
    simp only [List.length_append, List.length_singleton, hrow, if_pos (show out.length + 1 + (oe.body.length + 1) < 17592186044416 by omega), show wrap64 ((pre.length : Int) + 1) = ((pre.length + 1 : Nat) : Int) by rw [wrap_in (by omega) (by omega)]; rfl]
    have := ihr (pre ++ [⟨(n : Int), e⟩]) (out ++ [(n : Int)] ++ oe.row) (by simp; omega) (by simp [hrow]; omega)
    simp only [List.append_assoc, List.singleton_append, List.length_append, List.length_cons, List.length_nil] at this
    refine ev_eq ?_ (show out ++ ((n : Int) :: (oe.row ++ or_.body)) = out ++ (O.c n oe or_).body by simp [O.body, O.row])
    simp only [List.append_assoc, List.singleton_append]
    exact this
theorem rowOf_ev {l : List S57} {o : O} (h : IsO l o) (ho : o.body.length ≤ 100000) : Ev (fun k => impl_rowOf.f k l) o.row := by
  have hl := IsO.len h
  have := O.len_le o
  refine ev_s ?_
  simp only [impl_rowOf.f]
  have := rowOf_l0 h [] [(l.length : Int)] (by simp; omega) (by simp; omega)
  rw [List.nil_append] at this
  refine ev_eq this ?_
  rw [O.row, ← hl]; rfl

-- part: oBody
theorem O.row_length (o : O) : o.row.length = o.body.length + 1 := by simp [O.row]
theorem O.body_c (n : Nat) (e r : O) : (O.c n e r).body = (n : Int) :: (e.row ++ r.body) := by simp [O.body, O.row]

-- part: oAppDef
def O.app : O → O → O
  | .z, y => y
  | .c n e r, y => .c n e (O.app r y)
theorem O.app_z : ∀ x : O, O.app x .z = x
  | .z => rfl
  | .c n e r => by rw [O.app, O.app_z r]

-- part: oApp
theorem O.app_assoc : ∀ x y t : O, O.app (O.app x y) t = O.app x (O.app y t)
  | .z, _, _ => rfl
  | .c n e r, y, t => by simp only [O.app, O.app_assoc r y t]
theorem O.app_body : ∀ x y : O, (O.app x y).body = x.body ++ y.body
  | .z, _ => rfl
  | .c n e r, y => by simp only [O.app, O.body, O.app_body r y, List.cons_append, List.append_assoc]
theorem O.app_len : ∀ x y : O, (O.app x y).len = x.len + y.len
  | .z, _ => by simp [O.app, O.len]
  | .c n e r, y => by simp only [O.app, O.len, O.app_len r y]; omega
theorem IsO.app {a b : List S57} {x y : O} (ha : IsO a x) (hb : IsO b y) : IsO (a ++ b) (O.app x y) := by
  induction ha with
  | nil => exact hb
  | cons he _ _ ih => exact .cons he ih

-- part: oTerms
/-! ### reading ordinals back -/
/-- The terms of an ordinal. -/
def O.terms : O → List S57
  | .z => []
  | .c n e r => ⟨(n : Int), O.terms e⟩ :: O.terms r
theorem O.terms_is : ∀ o : O, IsO o.terms o
  | .z => .nil
  | .c n e r => .cons (O.terms_is e) (O.terms_is r)
theorem IsO.terms {l : List S57} {o : O} (h : IsO l o) : l = o.terms := by
  induction h with
  | nil => rfl
  | cons _ _ h1 h2 => rw [O.terms, h1, h2]
theorem O.terms_len (o : O) : o.terms.length = o.len := IsO.len o.terms_is
def ordI : Ordering → Int
  | .lt => -1
  | .eq => 0
  | .gt => 1
theorem ordI_swap (o : Ordering) : ordI o.swap = -ordI o := by cases o <;> rfl
theorem ordI_zero {o : Ordering} : ordI o = 0 ↔ o = .eq := by cases o <;> decide
theorem ordI_neg {o : Ordering} : ordI o < 0 ↔ o = .lt := by cases o <;> decide
theorem cmpInt_nat (x y : Nat) : cmp_Compare_int.f (x : Int) (y : Int) = some (ordI (compare x y)) := by
  simp only [cmp_Compare_int.f, cmp_isNaN_int.f, Option.bind_some, bne_self_eq_false, Bool.false_eq_true, if_false]
  by_cases h1 : x < y
  · rw [if_pos (show (x : Int) < (y : Int) by omega), Nat.compare_eq_lt.mpr h1]; rfl
  · by_cases h2 : y < x
    · rw [if_neg (show ¬ ((x : Int) < (y : Int)) by omega), if_pos (show (x : Int) > (y : Int) by omega), Nat.compare_eq_gt.mpr h2]; rfl
    · rw [if_neg (show ¬ ((x : Int) < (y : Int)) by omega), if_neg (show ¬ ((x : Int) > (y : Int)) by omega), Nat.compare_eq_eq.mpr (by omega)]; rfl
theorem ordI_then (a b : Ordering) : ordI (a.then b) = if ordI a = 0 then ordI b else ordI a := by cases a <;> rfl
theorem compare_step (n m : Nat) (e r f s : O) (pa pb : List S57) (hp : pa.length = pb.length) (hb : pa.length ≤ 1000000) (h1 : Ev (fun k => impl_compare.f k e.terms f.terms) (ordI (O.cmp e f)))
    (h2 : Ev (fun k => impl_compare.l0 k (pa ++ ((⟨(n : Int), O.terms e⟩ : S57) :: O.terms r)) (pb ++ ((⟨(m : Int), O.terms f⟩ : S57) :: O.terms s)) ((pa.length + 1 : Nat) : Int)) (ordI (O.cmp r s))) :
    Ev (fun k => impl_compare.l0 k (pa ++ ((⟨(n : Int), O.terms e⟩ : S57) :: O.terms r)) (pb ++ ((⟨(m : Int), O.terms f⟩ : S57) :: O.terms s)) (pa.length : Int)) (ordI (O.cmp (.c n e r) (.c m f s))) := by
  have hla : (pa ++ ((⟨(n : Int), O.terms e⟩ : S57) :: O.terms r)).length = pa.length + (r.terms.length + 1) := by simp
  have hlb : (pb ++ ((⟨(m : Int), O.terms f⟩ : S57) :: O.terms s)).length = pb.length + (s.terms.length + 1) := by simp
  have ea : rd_T57 (pa ++ ((⟨(n : Int), O.terms e⟩ : S57) :: O.terms r)) (pa.length : Int) = ⟨(n : Int), O.terms e⟩ := rd_T57_mid pa r.terms ⟨(n : Int), O.terms e⟩
  have eb : rd_T57 (pb ++ ((⟨(m : Int), O.terms f⟩ : S57) :: O.terms s)) (pa.length : Int) = ⟨(m : Int), O.terms f⟩ := by rw [hp]; exact rd_T57_mid pb s.terms ⟨(m : Int), O.terms f⟩
  generalize pa ++ ((⟨(n : Int), O.terms e⟩ : S57) :: O.terms r) = A at *
  generalize pb ++ ((⟨(m : Int), O.terms f⟩ : S57) :: O.terms s) = B at *
  have ew : wrap64 ((pa.length : Int) + 1) = ((pa.length + 1 : Nat) : Int) := wrap_nat2 pa.length 1 (by omega)
  have g1 : (pa.length : Int) < (A.length : Int) := by omega
  have g2 : (pa.length : Int) < (B.length : Int) := by omega
  refine ev_s ?_
  simp only [impl_compare.l0, if_pos g1, decide_eq_true g2]
  refine ev_s ?_
  simp only [impl_compare.j1, if_true, if_pos (show (0 : Int) ≤ (pa.length : Int) from Int.natCast_nonneg _), if_pos g1, if_pos g2, ea, eb, ew]
  refine Ev.bind h1 ?_
  rw [O.cmp, ordI_then, ordI_then]
  by_cases q1 : ordI (O.cmp e f) = 0
  · simp only [if_pos q1, cmpInt_nat, Option.bind_some]
    by_cases q2 : ordI (compare n m) = 0
    · simp only [if_pos q2]
      exact h2
    · simp only [if_neg q2]
      exact Ev.now _
  · simp only [if_neg q1]
    exact Ev.now _
theorem compare_l0 : ∀ (x y : O) (pa pb : List S57), pa.length = pb.length → pa.length + x.body.length ≤ 1000000 → pb.length + y.body.length ≤ 1000000 →
    Ev (fun k => impl_compare.l0 k (pa ++ x.terms) (pb ++ y.terms) (pa.length : Int)) (ordI (O.cmp x y))
  | .z, .z, pa, pb, hp, _, _ => by
    refine ev_s ?_
    simp only [impl_compare.l0, O.terms, List.append_nil, if_neg (show ¬ ((pa.length : Int) < (pa.length : Int)) by omega)]
    refine ev_s ?_
    simp only [impl_compare.j1, Bool.false_eq_true, if_false, cmpInt_nat, Option.bind_some, hp, Nat.compare_eq_eq.mpr]
    exact Ev.now _
  | .z, .c m f s, pa, pb, hp, _, _ => by
    refine ev_s ?_
    simp only [impl_compare.l0, O.terms, List.append_nil, if_neg (show ¬ ((pa.length : Int) < (pa.length : Int)) by omega)]
    refine ev_s ?_
    have hl : (pb ++ (⟨(m : Int), O.terms f⟩ :: O.terms s : List S57)).length = pb.length + (s.terms.length + 1) := by simp
    simp only [impl_compare.j1, Bool.false_eq_true, if_false, cmpInt_nat, Option.bind_some, hl, Nat.compare_eq_lt.mpr (show pa.length < pb.length + (s.terms.length + 1) by omega)]
    exact Ev.now _
  | .c n e r, .z, pa, pb, hp, _, _ => by
    refine ev_s ?_
    have hl : (pa ++ (⟨(n : Int), O.terms e⟩ :: O.terms r : List S57)).length = pa.length + (r.terms.length + 1) := by simp
    simp only [impl_compare.l0, O.terms, List.append_nil, hl, if_pos (show (pa.length : Int) < ((pa.length + (r.terms.length + 1) : Nat) : Int) by omega), decide_eq_false (show ¬ ((pa.length : Int) < (pb.length : Int)) by omega)]
    refine ev_s ?_
    simp only [impl_compare.j1, Bool.false_eq_true, if_false, hl, cmpInt_nat, Option.bind_some, Nat.compare_eq_gt.mpr (show pb.length < pa.length + (r.terms.length + 1) by omega)]
    exact Ev.now _
  | .c n e r, .c m f s, pa, pb, hp, ha, hb => by
    simp only [O.body, List.length_cons, List.length_append] at ha hb
    have ih1 : Ev (fun k => impl_compare.f k e.terms f.terms) (ordI (O.cmp e f)) := by
      have := compare_l0 e f [] [] rfl (by simp only [List.length_nil]; omega) (by simp only [List.length_nil]; omega)
      rw [List.nil_append, List.nil_append] at this
      refine ev_s ?_
      simp only [impl_compare.f]
      exact this
    have ih2 := compare_l0 r s (pa ++ [⟨(n : Int), e.terms⟩]) (pb ++ [⟨(m : Int), f.terms⟩]) (by simp only [List.length_append, List.length_singleton, hp]) (by simp only [List.length_append, List.length_singleton]; omega) (by simp only [List.length_append, List.length_singleton]; omega)
    simp only [List.append_assoc, List.singleton_append, List.length_append, List.length_singleton] at ih2
    exact compare_step n m e r f s pa pb hp (by omega) ih1 ih2
theorem compare_ev (x y : O) (hx : x.body.length ≤ 100000) (hy : y.body.length ≤ 100000) : Ev (fun k => impl_compare.f k x.terms y.terms) (ordI (O.cmp x y)) := by
  have := compare_l0 x y [] [] rfl (by simp; omega) (by simp; omega)
  rw [List.nil_append, List.nil_append] at this
  refine ev_s ?_
  simp only [impl_compare.f]
  exact this
/-- In reach of the reader: each sum has 60 terms at most, each number is in 1..9999, the exponents fall. -/
def O.Sm : O → Prop
  | .z => True
  | .c n e r => (1 ≤ n ∧ n ≤ 9999) ∧ (O.Sm e ∧ e.len ≤ 60) ∧ O.Sm r ∧ O.hd e r
theorem O.Sm.nf : ∀ {o : O}, o.Sm → o.NF
  | .z, _ => trivial
  | .c n e r, h => ⟨h.1.1, O.Sm.nf h.2.1.1, O.Sm.nf h.2.2.1, h.2.2.2⟩
/-- What stands last ahead: nothing, or a term with this exponent. -/
def LastE (pa : List S57) (r : O) : Prop := pa = [] ∨ ∃ pb m f, pa = pb ++ [⟨m, O.terms f⟩] ∧ f.body.length ≤ 100000 ∧ O.hd f r
theorem takeOrd_l0 : ∀ (r : O), r.Sm → ∀ (pa : List S57) (t : List Int), pa.length + r.len ≤ 60 → r.body.length ≤ 100000 → LastE pa r →
    Ev (fun k => impl_takeOrd.l0 k (r.body ++ t) pa ((pa.length + r.len : Nat) : Int) (pa.length : Int)) (pa ++ r.terms, t, true)
  | .z, _, pa, t, _, _, _ => by
    refine ev_s ?_
    simp only [impl_takeOrd.l0, O.len, O.body, O.terms, Nat.add_zero, List.nil_append, List.append_nil, Int.lt_irrefl, if_false]
    exact Ev.now _
  | .c n e r, hs, pa, t, hl, hb, hlast => by
    obtain ⟨hn, ⟨hse, hle⟩, hsr, hhd⟩ := hs
    simp only [O.len] at hl
    simp only [O.body, List.length_cons, List.length_append] at hb
    have ihr := takeOrd_l0 r hsr (pa ++ [⟨(n : Int), e.terms⟩]) t (by simp; omega) (by omega) (.inr ⟨pa, n, e, rfl, by omega, hhd⟩)
    have ihe : Ev (fun k => impl_takeOrd.f k ((e.len : Int) :: (e.body ++ (r.body ++ t)))) (e.terms, r.body ++ t, true) := by
      have := takeOrd_l0 e hse [] (r.body ++ t) (by simpa using hle) (by omega) (.inl rfl)
      simp only [List.length_nil, Nat.zero_add, List.nil_append] at this
      refine ev_s ?_
      have hc : rd ((e.len : Int) :: (e.body ++ (r.body ++ t))) 0 = (e.len : Int) := rfl
      simp only [impl_takeOrd.f, List.length_cons, if_neg (show ¬ (((e.body ++ (r.body ++ t)).length + 1 : Nat) : Int) = 0 by omega), if_pos (show (0 : Int) < (((e.body ++ (r.body ++ t)).length + 1 : Nat) : Int) by omega), if_pos (show (1 : Int) ≤ (((e.body ++ (r.body ++ t)).length + 1 : Nat) : Int) by omega), Option.bind_some, hc, List.drop_succ_cons, List.drop_zero, if_neg (show ¬ ((e.len : Int) < 0) by omega), decide_eq_false (show ¬ ((e.len : Int) > 60) by omega)]
      refine ev_s ?_
      simp only [impl_takeOrd.j0, Bool.false_eq_true, if_false]
      exact this
    have hbody : (O.c n e r).body ++ t = (n : Int) :: ((e.len : Int) :: (e.body ++ (r.body ++ t))) := by simp [O.body]
    have hc : rd ((n : Int) :: ((e.len : Int) :: (e.body ++ (r.body ++ t)))) 0 = (n : Int) := rfl
    have hw : wrap64 ((pa.length : Int) + 1) = (((pa ++ [(⟨(n : Int), e.terms⟩ : S57)]).length : Nat) : Int) := by
      rw [List.length_append, List.length_singleton]; exact wrap_nat2 pa.length 1 (by omega)
    have hcnt : ((pa.length + (O.c n e r).len : Nat) : Int) = (((pa ++ [(⟨(n : Int), e.terms⟩ : S57)]).length + r.len : Nat) : Int) := by
      simp only [O.len, List.length_append, List.length_singleton]; omega
    have hres : pa ++ (O.c n e r).terms = pa ++ [(⟨(n : Int), e.terms⟩ : S57)] ++ r.terms := by simp [O.terms]
    rw [hbody, hres]
    refine ev_s ?_
    simp only [impl_takeOrd.l0, List.length_cons, if_pos (show (pa.length : Int) < ((pa.length + (O.c n e r).len : Nat) : Int) by simp only [O.len]; omega), hc]
    have hlen : (((e.len : Int) :: (e.body ++ (r.body ++ t))).length : Nat) = (e.body ++ (r.body ++ t)).length + 1 := by simp
    simp only [if_neg (show ¬ ((((e.body ++ (r.body ++ t)).length + 1 + 1 : Nat) : Int) = 0) by omega), if_pos (show (0 : Int) < (((e.body ++ (r.body ++ t)).length + 1 + 1 : Nat) : Int) by omega), if_neg (show ¬ ((n : Int) < 1) by omega), decide_eq_false (show ¬ ((n : Int) > 9999) by omega)]
    refine ev_s ?_
    simp only [impl_takeOrd.j2, Bool.false_eq_true, if_false, List.length_cons, if_pos (show (1 : Int) ≤ (((e.body ++ (r.body ++ t)).length + 1 + 1 : Nat) : Int) by omega), List.drop_succ_cons, List.drop_zero]
    refine Ev.bind ihe ?_
    simp only [if_true, if_pos (show (0 : Int) < (((e.body ++ (r.body ++ t)).length + 1 + 1 : Nat) : Int) by omega), hc, if_pos (show pa.length < 4398046511104 by omega), hw, hcnt]
    rcases hlast with h0 | ⟨pb, m, f, hpa, hfb, hfd⟩
    · simp only [if_neg (show ¬ ((pa.length : Int) > 0) by rw [h0]; simp)]
      exact ihr
    · have hpl : pa.length = pb.length + 1 := by rw [hpa]; simp
      have hw1 : wrap64 ((pa.length : Int) - 1) = (pb.length : Int) := by rw [wrap_in (by omega) (by omega)]; omega
      have hrd : rd_T57 pa (pb.length : Int) = ⟨m, O.terms f⟩ := by rw [hpa]; exact rd_T57_mid pb [] ⟨m, O.terms f⟩
      simp only [if_pos (show (pa.length : Int) > 0 by omega), hw1, if_pos (show (0 : Int) ≤ (pb.length : Int) by omega), if_pos (show (pb.length : Int) < (pa.length : Int) by omega), hrd]
      refine Ev.bind (compare_ev e f (by omega) hfb) ?_
      have : ordI (O.cmp e f) = -1 := by rw [show O.cmp e f = .lt from hfd]; rfl
      simp only [this, if_neg (show ¬ ((-1 : Int) ≥ 0) by decide)]
      exact ihr
theorem takeOrd_ev {o : O} (hs : o.Sm) (hl : o.len ≤ 60) (hb : o.body.length ≤ 100000) (t : List Int) : Ev (fun k => impl_takeOrd.f k (o.row ++ t)) (o.terms, t, true) := by
  have := takeOrd_l0 o hs [] t (by simpa using hl) hb (.inl rfl)
  simp only [List.length_nil, Nat.zero_add, List.nil_append] at this
  refine ev_s ?_
  have hc : rd ((o.len : Int) :: (o.body ++ t)) 0 = (o.len : Int) := rfl
  simp only [O.row, List.cons_append, impl_takeOrd.f, List.length_cons, if_neg (show ¬ (((o.body ++ t).length + 1 : Nat) : Int) = 0 by omega), if_pos (show (0 : Int) < (((o.body ++ t).length + 1 : Nat) : Int) by omega), if_pos (show (1 : Int) ≤ (((o.body ++ t).length + 1 : Nat) : Int) by omega), Option.bind_some, hc, List.drop_succ_cons, List.drop_zero, if_neg (show ¬ ((o.len : Int) < 0) by omega), decide_eq_false (show ¬ ((o.len : Int) > 60) by omega)]
  refine ev_s ?_
  simp only [impl_takeOrd.j0, Bool.false_eq_true, if_false]
  exact this
theorem ordOf_ev {o : O} (hs : o.Sm) (hb : o.row.length ≤ 60) : Ev (fun k => impl_ordOf.f k o.row) (o.terms, true) := by
  have hlb := O.len_le o
  have hr : o.row.length = o.body.length + 1 := by simp [O.row]
  have h := takeOrd_ev hs (by omega) (by omega) []
  rw [List.append_nil] at h
  simp only [impl_ordOf.f, if_neg (show ¬ ((o.row.length : Int) < 1) by omega), if_neg (show ¬ ((o.row.length : Int) > 60) by omega)]
  refine Ev.bind h ?_
  simp only [if_true]
  exact ev_now (by simp)
theorem OrdCompare_ev {x y : O} (hx : x.Sm) (hy : y.Sm) (hxb : x.row.length ≤ 60) (hyb : y.row.length ≤ 60) : Ev (fun k => impl_OrdCompare.f k x.row y.row) (ordI (O.cmp x y)) := by
  have e1 : x.row.length = x.body.length + 1 := by simp [O.row]
  have e2 : y.row.length = y.body.length + 1 := by simp [O.row]
  simp only [impl_OrdCompare.f]
  refine Ev.bind (ordOf_ev hx hxb) ?_
  refine Ev.bind (ordOf_ev hy hyb) ?_
  simp only [if_true]
  refine Ev.bind (compare_ev x y (by omega) (by omega)) ?_
  exact Ev.now _

-- part: told
/-! ### an ordinal told, if it is valid -/
def O.most : O → Nat
  | .z => 0
  | .c n e r => max (max n (O.most e)) (O.most r)
theorem O.Sm_of : ∀ {x : O}, x.NF → x.most ≤ 9999 → x.row.length ≤ 60 → x.Sm
  | .z, _, _, _ => trivial
  | .c n e r, h, hm, hl => by
    have h1 := O.row_length e
    have h2 := O.row_length r
    have h3 := O.len_le e
    rw [O.row_length, O.body_c] at hl
    simp only [List.length_cons, List.length_append] at hl
    simp only [O.most] at hm
    exact ⟨⟨h.1, by omega⟩, ⟨O.Sm_of h.2.1 (by omega) (by omega), by omega⟩, O.Sm_of h.2.2.1 (by omega) (by omega), h.2.2.2⟩
theorem O.most_of : ∀ {x : O}, x.Sm → x.most ≤ 9999
  | .z, _ => by simp [O.most]
  | .c n e r, h => by
    have h1 := O.most_of h.2.1.1
    have h2 := O.most_of h.2.2.1
    have h3 := h.1.2
    simp only [O.most]; omega
theorem sizeOf_l0 : ∀ (r : O) (pre : List S57) (a : Nat), pre.length + r.body.length ≤ 1000000 → a + r.body.length ≤ 1000000 →
    Ev (fun k => impl_sizeOf.l0 k (a : Int) (pre ++ r.terms) (((pre ++ r.terms).length : Nat) : Int) (pre.length : Int)) ((a + r.body.length : Nat) : Int)
  | .z, pre, a, _, _ => by
    refine ev_s ?_
    simp only [impl_sizeOf.l0, O.terms, List.append_nil, Int.lt_irrefl, if_false]
    exact Ev.now _
  | .c n e r, pre, a, hp, ha => by
    rw [O.body_c] at hp ha
    simp only [List.length_cons, List.length_append] at hp ha
    have hre := O.row_length e
    have hE : Ev (fun k => impl_sizeOf.f k e.terms) (e.row.length : Int) := by
      refine ev_s ?_
      simp only [impl_sizeOf.f]
      have := sizeOf_l0 e [] 1 (by simp only [List.length_nil]; omega) (by omega)
      simp only [List.nil_append] at this
      exact ev_eq this (by omega)
    have hlen : (pre ++ (O.c n e r).terms).length = pre.length + (r.terms.length + 1) := by simp [O.terms]
    have hmid : rd_T57 (pre ++ (O.c n e r).terms) (pre.length : Int) = ⟨(n : Int), e.terms⟩ := rd_T57_mid pre r.terms ⟨(n : Int), e.terms⟩
    have happ : pre ++ (O.c n e r).terms = (pre ++ [⟨(n : Int), e.terms⟩]) ++ r.terms := by simp [O.terms]
    have ew : wrap64 ((pre.length : Int) + 1) = (((pre ++ [(⟨(n : Int), e.terms⟩ : S57)]).length : Nat) : Int) := by
      rw [List.length_append, List.length_singleton]; exact wrap_nat2 pre.length 1 (by omega)
    have g1 : (pre.length : Int) < (((pre ++ (O.c n e r).terms).length : Nat) : Int) := by omega
    have ih := sizeOf_l0 r (pre ++ [⟨(n : Int), e.terms⟩]) (a + (1 + e.row.length)) (by simp only [List.length_append, List.length_singleton]; omega) (by omega)
    refine ev_s ?_
    simp only [impl_sizeOf.l0, if_pos g1, if_pos (show (0 : Int) ≤ (pre.length : Int) from Int.natCast_nonneg _), hmid]
    refine Ev.bind hE ?_
    have hacc : wrap64 ((a : Int) + wrap64 (1 + (e.row.length : Int))) = ((a + (1 + e.row.length) : Nat) : Int) := by
      rw [wrap_in (x := 1 + (e.row.length : Int)) (by omega) (by omega), wrap_in (by omega) (by omega)]; omega
    rw [hacc, ew]
    rw [happ] at *
    exact ev_eq ih (by rw [O.body_c]; simp only [List.length_cons, List.length_append]; omega)
theorem sizeOf_ev {o : O} (hb : o.row.length ≤ 100000) : Ev (fun k => impl_sizeOf.f k o.terms) (o.row.length : Int) := by
  have hr := O.row_length o
  refine ev_s ?_
  simp only [impl_sizeOf.f]
  have := sizeOf_l0 o [] 1 (by simp only [List.length_nil]; omega) (by omega)
  simp only [List.nil_append] at this
  exact ev_eq this (by omega)
theorem most_l0 : ∀ (r : O) (pre : List S57) (a : Nat), pre.length + r.body.length ≤ 1000000 →
    Ev (fun k => impl_most.l0 k (a : Int) (pre ++ r.terms) (((pre ++ r.terms).length : Nat) : Int) (pre.length : Int)) ((max a r.most : Nat) : Int)
  | .z, pre, a, _ => by
    refine ev_s ?_
    simp only [impl_most.l0, O.terms, List.append_nil, Int.lt_irrefl, if_false, O.most]
    exact ev_now (by omega)
  | .c n e r, pre, a, hp => by
    rw [O.body_c] at hp
    simp only [List.length_cons, List.length_append] at hp
    have hre := O.row_length e
    have hE : Ev (fun k => impl_most.f k e.terms) (e.most : Int) := by
      refine ev_s ?_
      simp only [impl_most.f]
      have := most_l0 e [] 0 (by simp only [List.length_nil]; omega)
      simp only [List.nil_append] at this
      exact ev_eq this (by omega)
    have hlen : (pre ++ (O.c n e r).terms).length = pre.length + (r.terms.length + 1) := by simp [O.terms]
    have hmid : rd_T57 (pre ++ (O.c n e r).terms) (pre.length : Int) = ⟨(n : Int), e.terms⟩ := rd_T57_mid pre r.terms ⟨(n : Int), e.terms⟩
    have happ : pre ++ (O.c n e r).terms = (pre ++ [⟨(n : Int), e.terms⟩]) ++ r.terms := by simp [O.terms]
    have ew : wrap64 ((pre.length : Int) + 1) = (((pre ++ [(⟨(n : Int), e.terms⟩ : S57)]).length : Nat) : Int) := by
      rw [List.length_append, List.length_singleton]; exact wrap_nat2 pre.length 1 (by omega)
    have g1 : (pre.length : Int) < (((pre ++ (O.c n e r).terms).length : Nat) : Int) := by omega
    have ih := most_l0 r (pre ++ [⟨(n : Int), e.terms⟩]) (max (max a n) e.most) (by simp only [List.length_append, List.length_singleton]; omega)
    refine ev_s ?_
    simp only [impl_most.l0, if_pos g1, if_pos (show (0 : Int) ≤ (pre.length : Int) from Int.natCast_nonneg _), hmid]
    refine Ev.bind hE ?_
    have hacc : mx (mx (a : Int) (n : Int)) (e.most : Int) = ((max (max a n) e.most : Nat) : Int) := by
      unfold mx
      split <;> split <;> omega
    rw [hacc, ew]
    rw [happ] at *
    exact ev_eq ih (by simp only [O.most]; omega)
theorem most_ev {o : O} (hb : o.row.length ≤ 100000) : Ev (fun k => impl_most.f k o.terms) (o.most : Int) := by
  have hr := O.row_length o
  refine ev_s ?_
  simp only [impl_most.f]
  have := most_l0 o [] 0 (by simp only [List.length_nil]; omega)
  simp only [List.nil_append] at this
  exact ev_eq this (by omega)
/-- What is told of an ordinal: its row, if it is valid. -/
def O.fit (x : O) : List Int × Bool := if x.row.length ≤ 60 ∧ x.most ≤ 9999 then (x.row, true) else ([], false)
theorem O.fit_len (x : O) : x.fit.1.length ≤ 60 := by unfold O.fit; split <;> simp_all
theorem told_ev {x : O} (hb : x.row.length ≤ 100000) : Ev (fun k => impl_told.f k x.terms) x.fit := by
  have hr := O.row_length x
  have bad : Ev (fun k => impl_told.j0 k x.terms true) ([], false) := by
    refine ev_s ?_
    simp only [impl_told.j0, if_true]
    exact Ev.now _
  simp only [impl_told.f]
  refine Ev.bind (sizeOf_ev hb) ?_
  unfold O.fit
  by_cases h1 : x.row.length ≤ 60
  · simp only [if_neg (show ¬ ((x.row.length : Int) > 60) by omega)]
    refine Ev.bind (most_ev hb) ?_
    by_cases h2 : x.most ≤ 9999
    · rw [if_pos ⟨h1, h2⟩]
      simp only [decide_eq_false (show ¬ ((x.most : Int) > 9999) by omega)]
      refine ev_s ?_
      simp only [impl_told.j0, Bool.false_eq_true, if_false, slices_Clip_int_int.f, Option.bind_some]
      exact Ev.bind (rowOf_ev x.terms_is (by omega)) (Ev.now _)
    · rw [if_neg (fun h => h2 h.2)]
      simp only [decide_eq_true (show (x.most : Int) > 9999 by omega)]
      exact bad
  · rw [if_neg (fun h => h1 h.1)]
    simp only [if_pos (show (x.row.length : Int) > 60 by omega)]
    exact bad

-- part: l1Make
/-- Numbers and exponents, one behind the other. -/
def zipB : List Int → List (List Int) → List Int
  | t :: ts, e :: es => t :: e ++ zipB ts es
  | _, _ => []
theorem zipB_drop {t : List Int} {e : List (List Int)} {i : Nat} (ht : i < t.length) (he : i < e.length) : zipB (t.drop i) (e.drop i) = t[i] :: e[i] ++ zipB (t.drop (i + 1)) (e.drop (i + 1)) := by
  rw [List.drop_eq_getElem_cons ht, List.drop_eq_getElem_cons he]; rfl
theorem zipB_snoc : ∀ (t : List Int) (e : List (List Int)) (n : Int) (x : List Int), t.length = e.length → zipB (t ++ [n]) (e ++ [x]) = zipB t e ++ n :: x
  | [], [], n, x, _ => by simp [zipB]
  | [], _ :: _, _, _, h => by simp at h
  | _ :: _, [], _, _, h => by simp at h
  | a :: t, b :: e, n, x, h => by
    have := zipB_snoc t e n x (by simpa using h)
    simp [zipB, this]
theorem rdL1_get {xs : List (List Int)} {i : Nat} (h : i < xs.length) : rd_L2 xs (i : Int) = xs[i] := by simp [rd_L2, h]
theorem l1Make_l0 (t : List Int) (e : List (List Int)) (hl : t.length = e.length) (hb : t.length ≤ 1000000) : ∀ (d i : Nat) (out : List Int), i + d = t.length → out.length + (zipB (t.drop i) (e.drop i)).length ≤ 1000000 → Ev (fun k => spec_l1Make.l0 k t e out (i : Int)) (out ++ zipB (t.drop i) (e.drop i)) := by
  intro d
  induction d with
  | zero =>
    intro i out h _
    refine ev_s ?_
    simp only [spec_l1Make.l0, if_neg (show ¬ ((i : Int) < (t.length : Int)) by omega)]
    rw [List.drop_of_length_le (by omega)]
    exact ev_now (by simp [zipB])
  | succ d ih =>
    intro i out h ho
    rw [zipB_drop (show i < t.length by omega) (show i < e.length by omega)] at ho
    simp only [List.length_append, List.length_cons] at ho
    refine ev_s ?_
    simp only [spec_l1Make.l0, if_pos (show (i : Int) < (t.length : Int) by omega), if_pos (show (0 : Int) ≤ (i : Int) by omega), if_pos (show (i : Int) < (e.length : Int) by omega), if_pos (show out.length < 17592186044416 by omega), Option.bind_some, rdL1_get (show i < e.length by omega), rd_get (show i < t.length by omega), show wrap64 ((i : Int) + 1) = ((i + 1 : Nat) : Int) by rw [wrap_in (by omega) (by omega)]; rfl, List.length_append, List.length_singleton, if_pos (show out.length + 1 + e[i].length < 17592186044416 by omega)]
    refine ev_eq (ih (i + 1) _ (by omega) (by simp; omega)) ?_
    rw [zipB_drop (show i < t.length by omega) (show i < e.length by omega)]
    simp
theorem l1Make_ev (t : List Int) (e : List (List Int)) (hl : t.length = e.length) (hb : t.length ≤ 100000) (hz : (zipB t e).length ≤ 100000) : Ev (fun k => spec_l1Make.f k t e) ((t.length : Int) :: zipB t e) := by
  simp only [spec_l1Make.f]
  exact l1Make_l0 t e hl (by omega) t.length 0 [(t.length : Int)] (by omega) (by simp; omega)

-- part: numO
theorem cmp_num (i j : Nat) : O.cmp (O.num i) (O.num j) = compare i j := by
  unfold O.num
  by_cases h1 : i = 0
  · by_cases h2 : j = 0
    · subst h1; subst h2; rfl
    · subst h1; rw [if_pos rfl, if_neg h2, Nat.compare_eq_lt.mpr (by omega)]; rfl
  · by_cases h2 : j = 0
    · subst h2; rw [if_pos rfl, if_neg h1, Nat.compare_eq_gt.mpr (by omega)]; rfl
    · rw [if_neg h1, if_neg h2]
      simp only [O.cmp]
      cases compare i j <;> rfl
theorem num_Sm {n : Nat} (h : n ≤ 9999) : (O.num n).Sm ∧ (O.num n).len ≤ 60 := by
  unfold O.num
  by_cases h1 : n = 0
  · rw [if_pos h1]; exact ⟨trivial, by simp [O.len]⟩
  · rw [if_neg h1]; exact ⟨⟨by omega, ⟨trivial, by simp [O.len]⟩, trivial, trivial⟩, by simp [O.len]⟩
theorem hd_cmp {e f : O} {n : Nat} {r x : O} (h : O.hd e x) : O.cmp x (.c n e r) = .lt := by
  cases x with
  | z => rfl
  | c m g s =>
    have hg : O.cmp g e = .lt := h
    simp only [O.cmp, hg]; rfl

-- part: bagO
/-! ### the ordinal of a multiset -/
def bagO (l : List Int) : Nat → O
  | 0 => .z
  | n + 1 => if cn l n > 0 then .c (cn l n).toNat (O.num n) (bagO l n) else bagO l n
theorem numBody (n : Nat) : (O.num n).body.length ≤ 2 := by unfold O.num; split <;> simp [O.body]
theorem bagO_body (l : List Int) : ∀ n, (bagO l n).body.length ≤ 4 * n
  | 0 => by simp [bagO, O.body]
  | n + 1 => by
    have := bagO_body l n
    have := numBody n
    rw [bagO]; split
    · simp only [O.body, List.length_cons, List.length_append]; omega
    · omega
def bagOrd (l : List Int) : List Int := if bagOk l = true then O.row (bagO l 10) else []
theorem bagOrd_length (l : List Int) : (bagOrd l).length ≤ 100 := by
  unfold bagOrd; split
  · have := bagO_body l 10
    simp only [O.row, List.length_cons]; omega
  · simp

-- part: bagOrd
theorem impl_BagOrd_l0 {l : List Int} (h : bagOk l = true) : ∀ (n : Nat) (x : List S57) (o : O), n ≤ 10 → IsO x o → o.body.length ≤ 4 * (10 - n) → Ev (fun k => impl_BagOrd.l0 k l x ((n : Int) - 1)) (O.row (O.app o (bagO l n))) := by
  intro n
  induction n with
  | zero =>
    intro x o _ hx ho
    have hxl := IsO.len hx
    have hol := O.len_le o
    refine ev_s ?_
    simp only [impl_BagOrd.l0, if_neg (show ¬ ((((0 : Nat) : Int) - 1) ≥ 0) by decide)]
    rw [bagO, O.app_z]
    refine Ev.bind (rowOf_ev hx (by omega)) ?_
    exact Ev.now _
  | succ n ih =>
    intro x o hn hx ho
    have hxl := IsO.len hx
    have hol := O.len_le o
    obtain ⟨ln, hn1, hn2⟩ := number_eq n
    have e : (((n + 1 : Nat) : Int) - 1) = (n : Int) := by omega
    refine ev_s ?_
    simp only [e, impl_BagOrd.l0, if_pos (show (n : Int) ≥ 0 by omega), counts_eq h (show 0 ≤ (n : Int) by omega) (show (n : Int) < 10 by omega), Option.bind_some, hn1, if_pos (show x.length < 4398046511104 by omega), show wrap64 ((n : Int) - 1) = (n : Int) - 1 from wrap_in (by omega) (by omega)]
    rw [bagO]
    by_cases hc : cn l n > 0
    · simp only [if_pos hc]
      obtain ⟨m, hm⟩ := Int.eq_ofNat_of_zero_le (cn_nonneg l n)
      have hx2 : IsO (x ++ [(⟨cn l n, ln⟩ : S57)]) (O.app o (.c (cn l n).toNat (O.num n) .z)) := by
        rw [hm]
        exact IsO.app hx (.cons hn2 .nil)
      have hnb := numBody n
      refine ev_eq (ih _ _ (by omega) hx2 ?_) ?_
      · rw [O.app_body]; simp only [O.body, List.length_append, List.length_cons, List.length_nil]; omega
      · rw [O.app_assoc]; rfl
    · simp only [if_neg hc]
      exact ih x o (by omega) hx (by omega)
theorem impl_BagOrd_ev (l : List Int) (hb : l.length ≤ 140737488351232) : Ev (fun k => impl_BagOrd.f k l) (bagOrd l) := by
  simp only [impl_BagOrd.f]
  refine Ev.bind (impl_BagValid_ev l hb) ?_
  unfold bagOrd
  cases h : bagOk l with
  | false => simp only [Bool.false_eq_true, if_false]; exact Ev.now _
  | true =>
    simp only [if_true]
    refine ev_eq (impl_BagOrd_l0 h 10 [] .z (by omega) .nil (by simp [O.body])) ?_
    rfl

-- part: bagOrdSpec
theorem spec_OrdOf_num (n : Nat) (h : n ≤ 9999) : spec_OrdOf.f (n : Int) = some (O.num n).row := by
  unfold spec_OrdOf.f
  rw [l1In_eq, Option.bind_some, decide_eq_true (show 0 ≤ (n : Int) ∧ (n : Int) ≤ 9999 by omega), if_pos rfl]
  unfold O.num
  by_cases h0 : n = 0
  · subst h0; rfl
  · rw [if_neg (by omega), if_neg h0]; simp [O.row, O.body, O.len]
theorem spec_BagOrd_l0 (l : List Int) (hb : l.length ≤ 140737488351232) : ∀ (n : Nat) (t : List Int) (e : List (List Int)), n ≤ 10 → t.length = e.length → t.length ≤ 10 - n → (zipB t e).length ≤ 4 * (10 - n) → Ev (fun k => spec_BagOrd.l0 k l t e ((n : Int) - 1)) (((t.length + (bagO l n).len : Nat) : Int) :: (zipB t e ++ (bagO l n).body)) := by
  intro n
  induction n with
  | zero =>
    intro t e _ ht htn hz
    refine ev_s ?_
    simp only [spec_BagOrd.l0, if_neg (show ¬ ((((0 : Nat) : Int) - 1) ≥ 0) by decide)]
    refine Ev.bind (l1Make_ev t e ht (by omega) (by omega)) ?_
    exact ev_now (by simp [bagO, O.len, O.body])
  | succ n ih =>
    intro t e hn ht htn hz
    have e1 : (((n + 1 : Nat) : Int) - 1) = (n : Int) := by omega
    refine ev_s ?_
    simp only [e1, spec_BagOrd.l0, if_pos (show (n : Int) ≥ 0 by omega), spec_OrdOf_num n (by omega), Option.bind_some, if_pos (show t.length < 17592186044416 by omega), if_pos (show e.length < 5864062014805 by omega), show wrap64 ((n : Int) - 1) = (n : Int) - 1 from wrap_in (by omega) (by omega)]
    refine Ev.bind (l6Many_cn l n hb) ?_
    rw [bagO]
    by_cases hc : cn l n > 0
    · simp only [if_pos hc]
      refine Ev.bind (l6Many_cn l n hb) ?_
      have hnb := numBody n
      have hzs := zipB_snoc t e (cn l n) (O.num n).row ht
      refine ev_eq (ih _ _ (by omega) (by simp [ht]) (by simp; omega) ?_) ?_
      · rw [hzs]; simp only [O.row, List.length_append, List.length_cons]; omega
      · rw [hzs]
        have hm : ((cn l n).toNat : Int) = cn l n := by omega
        simp only [O.len, O.body, O.row, List.length_append, List.length_singleton, List.append_assoc, List.cons_append, hm, List.cons.injEq, and_true]
        omega
    · simp only [if_neg hc]
      exact ih t e (by omega) ht (by omega) (by omega)
theorem spec_BagOrd_ev (l : List Int) (hb : l.length ≤ 140737488351232) : Ev (fun k => spec_BagOrd.f k l) (bagOrd l) := by
  simp only [spec_BagOrd.f]
  refine Ev.bind (spec_BagValid_ev l hb) ?_
  unfold bagOrd
  cases h : bagOk l with
  | false => simp only [Bool.false_eq_true, if_false]; exact Ev.now _
  | true =>
    simp only [if_true]
    refine ev_eq (spec_BagOrd_l0 l hb 10 [] [] (by omega) rfl (by simp) (by simp [zipB])) ?_
    simp [O.row, zipB]

-- part: bagTo
/-! ### multisets compared -/
def bagTo (a b : List Int) : Nat → Int
  | 0 => 0
  | n + 1 => if cn a n = cn b n then bagTo a b n else if cn a n < cn b n then -1 else 1
def bagCmp (a b : List Int) : Int := if bagOk a = true then (if bagOk b = true then bagTo a b 10 else -2) else -2

-- part: bagCmpO
theorem bagO_hd (l : List Int) : ∀ n m : Nat, n ≤ m → O.hd (O.num m) (bagO l n)
  | 0, _, _ => trivial
  | n + 1, m, h => by
    rw [bagO]
    split
    · show O.cmp (O.num n) (O.num m) = .lt
      rw [cmp_num]; exact Nat.compare_eq_lt.mpr (by omega)
    · exact bagO_hd l n m (by omega)
theorem bagO_Sm (l : List Int) (hl : l.length ≤ 9999) : ∀ n : Nat, n ≤ 100 → (bagO l n).Sm
  | 0, _ => trivial
  | n + 1, h => by
    have h1 := cn_le l (n : Int)
    have ih := bagO_Sm l hl n (by omega)
    rw [bagO]
    split
    · exact ⟨⟨by omega, by omega⟩, num_Sm (by omega), ih, bagO_hd l n n (Nat.le_refl _)⟩
    · exact ih
theorem bagO_cmp (a b : List Int) : ∀ n : Nat, ordI (O.cmp (bagO a n) (bagO b n)) = bagTo a b n
  | 0 => rfl
  | n + 1 => by
    have hx := cn_nonneg a (n : Int)
    have hy := cn_nonneg b (n : Int)
    have ih := bagO_cmp a b n
    rw [bagTo, bagO, bagO]
    by_cases h1 : cn a n > 0
    · by_cases h2 : cn b n > 0
      · rw [if_pos h1, if_pos h2, O.cmp, O.cmp_self, ordI_then, ordI_then, if_pos (show ordI .eq = 0 from rfl)]
        obtain ⟨p, hp⟩ := Int.eq_ofNat_of_zero_le hx
        obtain ⟨q, hq⟩ := Int.eq_ofNat_of_zero_le hy
        rw [hp, hq, Int.toNat_natCast, Int.toNat_natCast]
        by_cases h3 : p < q
        · rw [if_neg (show ¬ ((p : Int) = (q : Int)) by omega), if_pos (show (p : Int) < (q : Int) by omega), Nat.compare_eq_lt.mpr h3]; rfl
        · by_cases h4 : q < p
          · rw [if_neg (show ¬ ((p : Int) = (q : Int)) by omega), if_neg (show ¬ ((p : Int) < (q : Int)) by omega), Nat.compare_eq_gt.mpr h4]; rfl
          · rw [if_pos (show (p : Int) = (q : Int) by omega), Nat.compare_eq_eq.mpr (by omega)]
            exact ih
      · have h5 : O.cmp (bagO b n) (.c (cn a n).toNat (O.num n) (bagO a n)) = .lt := hd_cmp (f := .z) (bagO_hd b n n (Nat.le_refl _))
        rw [if_pos h1, if_neg h2, if_neg (by omega), if_neg (by omega), (O.cmp_gt_iff _ _).mpr h5]; rfl
    · by_cases h2 : cn b n > 0
      · have h5 : O.cmp (bagO a n) (.c (cn b n).toNat (O.num n) (bagO b n)) = .lt := hd_cmp (f := .z) (bagO_hd a n n (Nat.le_refl _))
        rw [if_neg h1, if_pos h2, if_neg (by omega), if_pos (by omega), h5]; rfl
      · rw [if_neg h1, if_neg h2, if_pos (by omega)]
        exact ih
theorem BagsOrd_ev {a b : List Int} (ha : bagOk a = true) (hb : bagOk b = true) : Ev (fun k => impl_OrdCompare.f k (bagOrd a) (bagOrd b)) (bagTo a b 10) := by
  have hla := (bagOk_all ha).2
  have hlb := (bagOk_all hb).2
  have ba := bagO_body a 10
  have bb := bagO_body b 10
  unfold bagOrd
  rw [if_pos ha, if_pos hb, ← bagO_cmp a b 10]
  exact OrdCompare_ev (bagO_Sm a (by omega) 10 (by omega)) (bagO_Sm b (by omega) 10 (by omega)) (by simp only [O.row, List.length_cons]; omega) (by simp only [O.row, List.length_cons]; omega)
theorem bagTo_swap (a b : List Int) : ∀ n, bagTo b a n = -bagTo a b n
  | 0 => rfl
  | n + 1 => by
    rw [bagTo, bagTo]
    by_cases h1 : cn a n = cn b n
    · rw [if_pos h1, if_pos h1.symm]; exact bagTo_swap a b n
    · by_cases h2 : cn a n < cn b n
      · rw [if_neg h1, if_pos h2, if_neg (fun h => h1 h.symm), if_neg (by omega)]; rfl
      · rw [if_neg h1, if_neg h2, if_neg (fun h => h1 h.symm), if_pos (by omega)]

-- part: specBagOf
/-- The numbers below n, the greater ones first. -/
def bagFrom (l : List Int) : Nat → List Int
  | 0 => []
  | n + 1 => List.replicate (l.count (n : Int)) (n : Int) ++ bagFrom l n
def inAll (l : List Int) : Bool := l.all (fun x => decide (0 ≤ x ∧ x ≤ 9))
def bagOf (l : List Int) : List Int := if inAll l = true ∧ l.length ≤ 16 then bagFrom l 10 else []
theorem spec_BagOf_l2 (l : List Int) (n : Int) (r : List Int) : ∀ (m : Nat) (out : List Int), out.length + m ≤ 1000 → Ev (fun k => spec_BagOf.l1 k l (out ++ List.replicate m n) (wrap64 (n - 1))) r → Ev (fun k => spec_BagOf.l2 k l out n (m : Int)) r
  | 0, out, _, hc => by
    refine ev_s ?_
    simp only [spec_BagOf.l2, if_neg (show ¬ (((0 : Nat) : Int) > 0) by omega)]
    simpa using hc
  | m + 1, out, hm, hc => by
    refine ev_s ?_
    simp only [spec_BagOf.l2, if_pos (show ((m + 1 : Nat) : Int) > 0 by omega), if_pos (show out.length < 17592186044416 by omega), show wrap64 (((m + 1 : Nat) : Int) - 1) = (m : Int) by rw [wrap_in (by omega) (by omega)]; omega]
    refine spec_BagOf_l2 l n r m (out ++ [n]) (by simp; omega) ?_
    simpa [List.append_assoc, List.replicate_succ] using hc
theorem spec_BagOf_l1 (l : List Int) (hl : l.length ≤ 16) : ∀ (n : Nat) (out : List Int), n ≤ 10 → out.length + 16 * n ≤ 900 → Ev (fun k => spec_BagOf.l1 k l out ((n : Int) - 1)) (out ++ bagFrom l n)
  | 0, out, _, _ => by
    refine ev_s ?_
    simp only [spec_BagOf.l1, if_neg (show ¬ (((0 : Nat) : Int) - 1 ≥ 0) by omega)]
    refine ev_s ?_
    simp only [spec_BagOf.j2, Bool.false_eq_true, if_false]
    exact ev_now (by simp [bagFrom])
  | n + 1, out, hn, ho => by
    have hc : l.count (n : Int) ≤ l.length := List.count_le_length
    refine ev_s ?_
    simp only [show ((n + 1 : Nat) : Int) - 1 = (n : Int) by omega, spec_BagOf.l1, if_pos (show (n : Int) ≥ 0 by omega), show decide ((l.length : Int) ≤ 16) = true from decide_eq_true (by omega)]
    refine ev_s ?_
    simp only [spec_BagOf.j2, if_true]
    refine Ev.bind (l6Many_ev l (n : Int) (by omega)) ?_
    refine spec_BagOf_l2 l (n : Int) _ _ out (by omega) ?_
    rw [show wrap64 ((n : Int) - 1) = (n : Int) - 1 from wrap_in (by omega) (by omega)]
    have := spec_BagOf_l1 l hl n (out ++ List.replicate (l.count (n : Int)) (n : Int)) (by omega) (by simp; omega)
    rw [List.append_assoc] at this
    exact this
theorem spec_BagOf_l0 (l : List Int) (hb : l.length ≤ 140737488351232) : ∀ (d i : Nat), i + d = l.length → Ev (fun k => spec_BagOf.l0 k l [] (i : Int)) (if (l.drop i).all (fun x => decide (0 ≤ x ∧ x ≤ 9)) = true ∧ l.length ≤ 16 then bagFrom l 10 else []) := by
  intro d
  induction d with
  | zero =>
    intro i h
    refine ev_s ?_
    simp only [spec_BagOf.l0, if_neg (show ¬ ((i : Int) < (l.length : Int)) by omega)]
    rw [List.drop_of_length_le (by omega)]
    by_cases h16 : l.length ≤ 16
    · rw [if_pos ⟨rfl, h16⟩]
      exact spec_BagOf_l1 l h16 10 [] (by omega) (by simp)
    · rw [if_neg (fun hh => h16 hh.2)]
      refine ev_s ?_
      simp only [spec_BagOf.l1, if_pos (show (9 : Int) ≥ 0 by decide), show decide ((l.length : Int) ≤ 16) = false from decide_eq_false (by omega)]
      refine ev_s ?_
      simp only [spec_BagOf.j2, Bool.false_eq_true, if_false]
      exact Ev.now _
  | succ d ih =>
    intro i h
    refine ev_s ?_
    simp only [spec_BagOf.l0, l1In_eq, Option.bind_some, if_pos (show (i : Int) < (l.length : Int) by omega), if_pos (show (0 : Int) ≤ (i : Int) by omega), show wrap64 ((i : Int) + 1) = ((i + 1 : Nat) : Int) by rw [wrap_in (by omega) (by omega)]; rfl]
    rw [rd_get (show i < l.length by omega), List.drop_eq_getElem_cons (show i < l.length by omega), List.all_cons]
    by_cases hc : 0 ≤ l[i] ∧ l[i] ≤ 9
    · simp only [decide_eq_true hc, Bool.true_and, if_true]
      exact ih (i + 1) (by omega)
    · simp only [decide_eq_false hc, Bool.false_and, Bool.false_eq_true, if_false, false_and]
      exact Ev.now _
theorem spec_BagOf_ev (l : List Int) (hb : l.length ≤ 140737488351232) : Ev (fun k => spec_BagOf.f k l) (bagOf l) := spec_BagOf_l0 l hb l.length 0 (by omega)
theorem bagFrom_length (l : List Int) (hl : l.length ≤ 16) : ∀ n, (bagFrom l n).length ≤ 16 * n
  | 0 => by simp [bagFrom]
  | n + 1 => by have := bagFrom_length l hl n; have : l.count (n : Int) ≤ l.length := List.count_le_length; simp only [bagFrom, List.length_append, List.length_replicate]; omega
theorem bagOf_length (l : List Int) : (bagOf l).length ≤ 160 := by
  unfold bagOf; split
  · rename_i h; have := bagFrom_length l h.2 10; omega
  · simp

-- part: draw
/-! ### the reader of a code -/
def Bytes (b : List Int) : Prop := b.length ≤ 2000 ∧ ∀ x ∈ b, 0 ≤ x ∧ x ≤ 255
theorem u8_of_wf {x : Int} (h : (Lit.int .u8 x).wf = true) : 0 ≤ x ∧ x ≤ 255 := by
  simp [Lit.wf, IntKind.min, IntKind.max, IntKind.bits, IntKind.signed] at h
  omega
theorem open_ev (l : List Int) (h : ∀ x ∈ l, (Lit.int .u8 x).wf = true) : ∃ b, Bytes b ∧ spec_l20Open.f l = some (b, ((0 : Nat) : Int)) := by
  have h' : ∀ x ∈ l, 0 ≤ x ∧ x ≤ 255 := fun x hx => u8_of_wf (h x hx)
  unfold spec_l20Open.f
  by_cases hl : (l.length : Int) > 2000
  · rw [if_pos hl, if_pos (by omega)]
    exact ⟨l.take 2000, ⟨by simp; omega, fun x hx => h' x (List.mem_of_mem_take hx)⟩, rfl⟩
  · rw [if_neg hl]
    exact ⟨l, ⟨by omega, h'⟩, rfl⟩
theorem rd_byte {b : List Int} (hb : Bytes b) {i : Int} (h0 : 0 ≤ i) (h1 : i < (b.length : Int)) : 0 ≤ rd b i ∧ rd b i ≤ 255 := by
  obtain ⟨n, rfl⟩ := Int.eq_ofNat_of_zero_le h0
  rw [rd_get (show n < b.length by omega)]
  exact hb.2 _ (List.getElem_mem _)
theorem wraps_i64 (n : Int) (h0 : 0 ≤ n) (h1 : n < 2 ^ 62) : IntKind.i64.wrap n = n := by rw [IntKind.wrap_i64]; omega
theorem xor_pos (a b : Nat) (ha : a < 2 ^ 62) (hb : b < 2 ^ 62) : Go.bits .xor .i64 (a : Int) (b : Int) = ((a ^^^ b : Nat) : Int) := by
  have ha' : a % 2 ^ IntKind.i64.bits = a := Nat.mod_eq_of_lt (Nat.lt_of_lt_of_le ha (by decide))
  have hb' : b % 2 ^ IntKind.i64.bits = b := Nat.mod_eq_of_lt (Nat.lt_of_lt_of_le hb (by decide))
  simp only [bits, BitVec.ofInt_natCast, BitVec.toNat_xor, BitVec.toNat_ofNat, ha', hb']
  exact wraps_i64 _ (Int.natCast_nonneg _) (by exact_mod_cast Nat.xor_lt_two_pow ha hb)
theorem pick_sum (r1 r2 p t : Int) (h1 : 0 ≤ r1 ∧ r1 ≤ 255) (h2 : 0 ≤ r2 ∧ r2 ≤ 255) (hp : 0 ≤ p ∧ p ≤ 1000000000000) (ht : 0 ≤ t ∧ t ≤ 1000000000000) :
    wrap64 ((wrap64 ((wrap64 ((wrap64 ((wrap64 r1) * 131)) + (wrap64 ((wrap64 r2) * 1117)))) + (wrap64 (p * 29)))) + (wrap64 ((wrap64 t) * 53))) = r1 * 131 + r2 * 1117 + p * 29 + t * 53 := by
  rw [wrap_in (x := r1) (by omega) (by omega), wrap_in (x := r2) (by omega) (by omega), wrap_in (x := t) (by omega) (by omega), wrap_in (x := r1 * 131) (by omega) (by omega), wrap_in (x := r2 * 1117) (by omega) (by omega), wrap_in (x := p * 29) (by omega) (by omega), wrap_in (x := t * 53) (by omega) (by omega), wrap_in (x := r1 * 131 + r2 * 1117) (by omega) (by omega), wrap_in (x := r1 * 131 + r2 * 1117 + p * 29) (by omega) (by omega), wrap_in (by omega) (by omega)]
theorem pick_mod (x n : Int) (hx : 0 ≤ x) (hn : 0 < n) : 0 ≤ Int.tmod x n ∧ Int.tmod x n < n := by
  rw [Int.tmod_eq_emod_of_nonneg hx]
  exact ⟨Int.emod_nonneg _ (by omega), Int.emod_lt_of_pos _ hn⟩
theorem pick_ev (b : List Int) (hb : Bytes b) (p : Nat) (hp : p ≤ 100000000000) (n : Int) : ∃ v : Int, 0 ≤ v ∧ (v < n ∨ v = 0) ∧ Ev (fun k => spec_l20Rd_pick.f k b (p : Int) n) (v, ((p + 1 : Nat) : Int)) := by
  have e1 : wrap64 ((p : Int) + 1) = ((p + 1 : Nat) : Int) := by rw [wrap_in (by omega) (by omega)]; rfl
  have e2 : wrap64 (((p + 1 : Nat) : Int) - 1) = (p : Int) := by rw [wrap_in (by omega) (by omega)]; omega
  by_cases hn : n < 1
  · refine ⟨0, Int.le_refl _, .inr rfl, ?_⟩
    simp only [spec_l20Rd_pick.f, if_pos hn, e1]
    refine ev_s ?_
    simp only [spec_l20Rd_pick.j0, if_true]
    exact Ev.now _
  · by_cases hl : b.length = 0
    · refine ⟨0, Int.le_refl _, .inr rfl, ?_⟩
      simp only [spec_l20Rd_pick.f, if_neg hn, e1, hl]
      refine ev_s ?_
      simp only [spec_l20Rd_pick.j0]
      exact Ev.now _
    · by_cases hlt : (p : Int) < (b.length : Int)
      · have hby := rd_byte hb (show (0 : Int) ≤ (p : Int) by omega) hlt
        have hm := pick_mod (rd b p) n hby.1 (by omega)
        refine ⟨Int.tmod (rd b p) n, hm.1, .inl hm.2, ?_⟩
        simp only [spec_l20Rd_pick.f, if_neg hn, e1, show ((b.length : Int) == 0) = false by simp; exact fun h => hl (by rw [h]; rfl)]
        refine ev_s ?_
        simp only [spec_l20Rd_pick.j0, Bool.false_eq_true, if_false, e2, if_pos hlt, if_pos (show (0 : Int) ≤ (p : Int) by omega), if_neg (show ¬ n = 0 by omega), wrap_in (x := rd b p) (by omega) (by omega)]
        exact Ev.now _
      · have hl0 : ¬ ((b.length : Int) = 0) := by omega
        have m1 := pick_mod (p : Int) (b.length : Int) (by omega) (by omega)
        have m2 := pick_mod ((p : Int) * 7 + 3) (b.length : Int) (by omega) (by omega)
        have b1 := rd_byte hb m1.1 m1.2
        have b2 := rd_byte hb m2.1 m2.2
        have d1 : 0 ≤ Int.tdiv (p : Int) (b.length : Int) := Int.tdiv_nonneg (by omega) (by omega)
        have d2 : Int.tdiv (p : Int) (b.length : Int) ≤ (p : Int) := Int.tdiv_le_self _ (by omega)
        have hs := pick_sum _ _ (p : Int) (Int.tdiv (p : Int) (b.length : Int)) b1 b2 (by omega) (by omega)
        obtain ⟨X, hX⟩ : ∃ X : Int, X = rd b (Int.tmod (p : Int) (b.length : Int)) * 131 + rd b (Int.tmod ((p : Int) * 7 + 3) (b.length : Int)) * 1117 + (p : Int) * 29 + Int.tdiv (p : Int) (b.length : Int) * 53 := ⟨_, rfl⟩
        rw [← hX] at hs
        have x0 : 0 ≤ X ∧ X < 20000000000000 := by omega
        have t0 : 0 ≤ Int.tdiv X 64 := Int.tdiv_nonneg (by omega) (by omega)
        have t1 : Int.tdiv X 64 ≤ X := Int.tdiv_le_self _ (by omega)
        have hbit : 0 ≤ Go.bits .xor .i64 X (Int.tdiv X 64) := by
          obtain ⟨u, hu⟩ := Int.eq_ofNat_of_zero_le x0.1
          obtain ⟨v, hv⟩ := Int.eq_ofNat_of_zero_le t0
          rw [hv, hu]
          rw [xor_pos u v (by omega) (by omega)]
          omega
        have hm := pick_mod _ n hbit (by omega)
        refine ⟨_, hm.1, .inl hm.2, ?_⟩
        simp only [spec_l20Rd_pick.f, if_neg hn, e1, show ((b.length : Int) == 0) = false by simp; exact fun h => hl (by rw [h]; rfl)]
        refine ev_s ?_
        simp only [spec_l20Rd_pick.j0, Bool.false_eq_true, if_false, e2, if_neg hlt, if_neg hl0, wrap_in (x := (p : Int) * 7) (by omega) (by omega), wrap_in (x := (p : Int) * 7 + 3) (by omega) (by omega), if_pos m1.1, if_pos m1.2, if_pos m2.1, if_pos m2.2, if_neg (show ¬ n = 0 by omega), hs, wrap_in (x := Int.tdiv X 64) (by omega) (by omega)]
        exact Ev.now _
theorem odd_ev (b : List Int) (hb : Bytes b) (p : Nat) (hp : p ≤ 100000000000) (n : Int) (hn : n ≤ 1000000) : ∃ (v : Bool) (q : Nat), q ≤ p + 1 ∧ Ev (fun k => spec_l20Rd_odd.f k b (p : Int) n) (v, (q : Int)) := by
  by_cases h : n > 0
  · obtain ⟨v, h0, h1, he⟩ := pick_ev b hb p hp n
    refine ⟨(v == wrap64 (n - 1)), p + 1, Nat.le_refl _, ?_⟩
    simp only [spec_l20Rd_odd.f, if_pos h]
    refine Ev.bind he ?_
    exact Ev.now _
  · refine ⟨false, p, by omega, ?_⟩
    simp only [spec_l20Rd_odd.f, if_neg h]
    exact Ev.now _

-- part: l20Bag
theorem l20Bag_l0 (b : List Int) (hb : Bytes b) (n : Int) (hn : n ≤ 1000000) : ∀ (d p : Nat) (x : List Int), p + 3 * d ≤ 1000000000 → x.length + d ≤ 100 →
    ∃ (out : List Int) (q : Nat), q ≤ p + 3 * d + 5 ∧ out.length ≤ 200 ∧ Ev (fun k => spec_l20Bag.l0 k n x (d : Int) b (p : Int)) (out, (q : Int)) := by
  intro d
  induction d with
  | succ d ih =>
    intro p x hp hx
    obtain ⟨v1, _, _, he1⟩ := pick_ev b hb p (by omega) 6
    obtain ⟨v2, _, _, he2⟩ := pick_ev b hb (p + 1) (by omega) 9
    obtain ⟨v3, _, _, he3⟩ := pick_ev b hb (p + 1 + 1) (by omega) 4
    obtain ⟨out, q, hq, ho, hE⟩ := ih (p + 1 + 1 + 1) (x ++ [wrap64 (v1 + (wrap64 ((wrap64 (Int.tdiv v2 8)) * v3)))]) (by omega) (by simp; omega)
    refine ⟨out, q, by omega, ho, ?_⟩
    refine ev_s ?_
    simp only [spec_l20Bag.l0, if_pos (show ((d + 1 : Nat) : Int) > 0 by omega), show wrap64 (((d + 1 : Nat) : Int) - 1) = (d : Int) by rw [wrap_in (by omega) (by omega)]; omega]
    refine Ev.bind he1 ?_
    refine Ev.bind he2 ?_
    refine Ev.bind he3 ?_
    simp only [if_pos (show x.length < 17592186044416 by omega)]
    exact hE
  | zero =>
    intro p x hp hx
    have hlen := bagOf_length x
    obtain ⟨o, q, hq, he⟩ := odd_ev b hb p (by omega) n hn
    have hd : ∀ (out : List Int) (q' : Nat), Ev (fun k => (spec_l20Rd_odd.f k b (p : Int) n).bind fun bt142 => (if bt142.1 = true then ((spec_l20Rd_pick.f k b bt142.2 3).bind fun bt144 => (if bt144.1 = 0 then ((some (([0] : List Int) : List Int)).bind fun y146 => (if (bagOf x).length < 17592186044416 then ((some ((bagOf x) ++ [1] : List Int)).bind fun y149 => (if y146.length + y149.length < 17592186044416 then (some ((y146 ++ y149), bt144.2)) else (none))) else (none))) else (if bt144.1 = 1 then ((some (([10] : List Int) : List Int)).bind fun y155 => (if y155.length + (bagOf x).length < 17592186044416 then (some ((y155 ++ (bagOf x)), bt144.2)) else (none))) else (if 17 ≤ 35184372088832 then (some ((List.replicate 17 0), bt144.2)) else (none))))) else (some ((bagOf x), bt142.2)))) (out, (q' : Int)) → Ev (fun k => spec_l20Bag.l0 k n x ((0 : Nat) : Int) b (p : Int)) (out, (q' : Int)) := by
      intro out q' h
      refine ev_s ?_
      simp only [spec_l20Bag.l0, if_neg (show ¬ (((0 : Nat) : Int) > 0) by omega)]
      exact Ev.bind (spec_BagOf_ev x (by omega)) h
    cases o with
    | false =>
      refine ⟨bagOf x, q, by omega, by omega, hd _ _ ?_⟩
      refine Ev.bind he ?_
      simp only [Bool.false_eq_true, if_false]
      exact Ev.now _
    | true =>
      obtain ⟨v, _, _, he1⟩ := pick_ev b hb q (by omega) 3
      by_cases h0 : v = 0
      · subst h0
        refine ⟨[0] ++ (bagOf x ++ [1]), q + 1, by omega, by simp; omega, hd _ _ ?_⟩
        refine Ev.bind he ?_
        simp only [if_true]
        refine Ev.bind he1 ?_
        simp only [if_true, Option.bind_some, if_pos (show (bagOf x).length < 17592186044416 by omega), if_pos (show ([0] : List Int).length + (bagOf x ++ [1]).length < 17592186044416 by simp; omega)]
        exact Ev.now _
      · by_cases h1 : v = 1
        · subst h1
          refine ⟨[10] ++ bagOf x, q + 1, by omega, by simp; omega, hd _ _ ?_⟩
          refine Ev.bind he ?_
          simp only [if_true]
          refine Ev.bind he1 ?_
          simp only [if_neg h0, if_true, Option.bind_some, if_pos (show ([10] : List Int).length + (bagOf x).length < 17592186044416 by simp; omega)]
          exact Ev.now _
        · refine ⟨List.replicate 17 0, q + 1, by omega, by simp, hd _ _ ?_⟩
          refine Ev.bind he ?_
          simp only [if_true]
          refine Ev.bind he1 ?_
          simp only [if_neg h0, if_neg h1, if_pos (show 17 ≤ 35184372088832 by decide)]
          exact Ev.now _
theorem l20Bag_ev (b : List Int) (hb : Bytes b) (p : Nat) (hp : p ≤ 100000000) (n : Int) (hn : n ≤ 1000000) :
    ∃ (out : List Int) (q : Nat), q ≤ p + 30 ∧ out.length ≤ 200 ∧ Ev (fun k => spec_l20Bag.f k b (p : Int) n) (out, (q : Int)) := by
  obtain ⟨v, h0, h1, he⟩ := pick_ev b hb p (by omega) 7
  obtain ⟨m, rfl⟩ := Int.eq_ofNat_of_zero_le h0
  obtain ⟨out, q, hq, ho, hE⟩ := l20Bag_l0 b hb n hn m (p + 1) [] (by omega) (by simp; omega)
  refine ⟨out, q, by omega, ho, ?_⟩
  simp only [spec_l20Bag.f]
  refine Ev.bind he ?_
  exact hE

-- part: alive
theorem alive_ev : Ev (fun k => laws_alive.f k) true := Ev.of laws_alive.mono (k := 20) (by decide +kernel)

-- part: law_FnBagOrd
theorem num10_ev : Ev (fun k => impl_OrdOf.f k 10) (O.num 10).row := by
  unfold impl_OrdOf.f
  simp only [if_neg (show ¬ ((10 : Int) < 0) by decide), show decide ((10 : Int) > 9999) = false by decide]
  refine ev_s ?_
  obtain ⟨ln, hn1, hn2⟩ := number_eq 10
  have hn1 : impl_number.f 10 = some ln := hn1
  simp only [impl_OrdOf.j0, Bool.false_eq_true, if_false, hn1, Option.bind_some]
  refine Ev.bind (rowOf_ev hn2 (by decide)) ?_
  exact Ev.now _
theorem top_ev : Ev (fun k => impl_OrdPower.f k (O.num 10).row) ((O.c 1 (O.num 10) .z).row, true) := by
  unfold impl_OrdPower.f
  have hs : (O.num 10).Sm := (num_Sm (by omega)).1
  refine Ev.bind (ordOf_ev hs (by decide)) ?_
  simp only [if_true, impl_power.f, Option.bind_some]
  have h := told_ev (x := O.c 1 (O.num 10) .z) (by decide)
  have hf : (O.c 1 (O.num 10) .z).fit = ((O.c 1 (O.num 10) .z).row, true) := by decide
  rw [hf] at h
  refine Ev.bind h ?_
  exact Ev.now _
theorem bagO_z (l : List Int) : ∀ n : Nat, (bagO l n).len = 0 ↔ ∀ m : Nat, m < n → cn l m = 0
  | 0 => by simp [bagO, O.len]
  | n + 1 => by
    have h0 := cn_nonneg l (n : Int)
    rw [bagO]
    by_cases h : cn l n > 0
    · rw [if_pos h]
      simp only [O.len]
      exact ⟨fun g => by omega, fun g => by have := g n (by omega); omega⟩
    · rw [if_neg h, bagO_z l n]
      constructor
      · intro g m hm
        by_cases e : m = n
        · subst e; omega
        · exact g m (by omega)
      · intro g m hm; exact g m (by omega)
theorem bagO_empty {l : List Int} (h : bagOk l = true) : (bagO l 10).len = 0 ↔ l.length = 0 := by
  rw [bagO_z]
  constructor
  · intro g
    cases l with
    | nil => rfl
    | cons x r =>
      have hx := (bagOk_all h).1 x (by simp)
      have := g x.toNat (by omega)
      rw [Int.toNat_of_nonneg hx.1] at this
      have h2 : 0 < (x :: r).count x := List.count_pos_iff.2 (by simp)
      have h3 : cn (x :: r) x = (((x :: r).count x : Nat) : Int) := rfl
      omega
  · intro g m _
    rw [List.length_eq_zero_iff.1 g]; rfl
theorem row_one (o : O) : ((o.row.length : Int) == 1) = (o.len == 0) := by
  have h := O.len_le o
  rw [Bool.eq_iff_iff, beq_iff_eq, beq_iff_eq]
  simp only [O.row, List.length_cons]
  cases o with
  | z => simp [O.len, O.body]
  | c n e r => simp only [O.len, O.body, List.length_cons, List.length_append]; omega
theorem FnBagOrd : laws_FnBagOrd.Pure := by
  intro l0 _ _ hw
  refine Ev.rounds ?_
  simp only [laws_FnBagOrd.f]
  by_cases hb : (l0.length : Int) > 1048576
  · simp only [if_pos hb]; exact Ev.now _
  · simp only [if_neg hb]
    obtain ⟨bs, hby, ho⟩ := open_ev l0 hw
    obtain ⟨out, q, _, hl, hE⟩ := l20Bag_ev bs hby 0 (by omega) 9 (by omega)
    have hd : Ev (fun k => spec_DrawBagOrd.f k l0) out := by
      simp only [spec_DrawBagOrd.f, ho, Option.bind_some]
      refine Ev.bind hE ?_
      exact Ev.now _
    have hlen := bagOrd_length out
    refine Ev.bind hd ?_
    refine Ev.bind (impl_BagOrd_ev out (by omega)) ?_
    refine Ev.bind (spec_BagOrd_ev out (by omega)) ?_
    refine Ev.bind (sameInts_ev _ _ (by omega)) ?_
    simp only [decide_true, if_true]
    cases h : bagOk out with
    | false =>
      have hv : bagOrd out = [] := by unfold bagOrd; rw [h]; rfl
      simp only [hv, List.length_nil, if_pos (show ((0 : Nat) : Int) = 0 from rfl)]
      refine Ev.bind (ev_eq (impl_BagValid_ev out (by omega)) h) ?_
      simp only [Bool.false_eq_true, if_false]
      exact Ev.bind alive_ev (Ev.now _)
    | true =>
      have hv : bagOrd out = (bagO out 10).row := by unfold bagOrd; rw [if_pos h]
      have hbo := bagO_body out 10
      have hll := (bagOk_all h).2
      have hsm := bagO_Sm out (by omega) 10 (by omega)
      have hrow : (bagO out 10).row.length ≤ 60 := by simp only [O.row, List.length_cons]; omega
      have hrow1 : ¬ (((bagO out 10).row.length : Int) = 0) := by simp only [O.row, List.length_cons]; omega
      simp only [hv, if_neg hrow1]
      refine Ev.bind num10_ev ?_
      refine Ev.bind top_ev ?_
      have hval : Ev (fun k => impl_OrdValid.f k (bagO out 10).row) true := by
        unfold impl_OrdValid.f
        refine Ev.bind (ordOf_ev hsm hrow) ?_
        exact Ev.now _
      refine Ev.bind hval ?_
      simp only [if_true]
      have hts : (O.c 1 (O.num 10) .z).Sm := ⟨⟨by omega, by omega⟩, num_Sm (by omega), trivial, trivial⟩
      have hcmp : O.cmp (bagO out 10) (.c 1 (O.num 10) .z) = .lt := hd_cmp (f := .z) (bagO_hd out 10 10 (Nat.le_refl _))
      refine Ev.bind (OrdCompare_ev hsm hts hrow (by decide)) ?_
      simp only [hcmp, ordI, if_true]
      refine ev_now ?_
      rw [row_one]
      have he := bagO_empty h
      have e2 : ((bagO out 10).len == 0) = ((out.length : Int) == 0) := by
        rw [Bool.eq_iff_iff, beq_iff_eq, beq_iff_eq]
        omega
      rw [e2]; simp

end Go.Proofs.Ytmgpdneehdnjlaa.Pure

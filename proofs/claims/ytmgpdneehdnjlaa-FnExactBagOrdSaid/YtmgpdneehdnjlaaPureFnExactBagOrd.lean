/- The law FnExactBagOrd returns true for every input that the statement lets in; no condition of our own. -/
import Derived.Test.YtmgpdneehdnjlaaCax5
namespace Go.Proofs.Ytmgpdneehdnjlaa.Pure
open Go.RowKit Go.Proofs.Ytmgpdneehdnjlaa.Ca Go.Proofs.YtmgpdneehdnjlaaW.PrintWords Go.Proofs.YtmgpdneehdnjlaaW.PrintLast
set_option linter.unusedVariables false
set_option linter.unusedSimpArgs false

-- part: base
/-! ### words of mine -/
theorem ev_s {α : Type} {g : Nat → Option α} {r : α} (h : Ev (fun k => g (k + 1)) r) : Ev g r := Ev.step (fun _ => rfl) h
theorem ev_eq {α : Type} {g : Nat → Option α} {r q : α} (h : Ev g r) (e : r = q) : Ev g q := e ▸ h
theorem ev_now {α : Type} {r q : α} (e : r = q) : Ev (fun _ => some r) q := e ▸ Ev.now r
theorem wrap_in {x : Int} (h0 : -9223372036854775808 ≤ x) (h1 : x ≤ 9223372036854775807) : wrap64 x = x := by unfold wrap64; omega
theorem rd_eq (xs : List Int) (i : Nat) : rd xs (i : Int) = xs.getD i 0 := by simp [rd]
theorem rd_get {xs : List Int} {i : Nat} (h : i < xs.length) : rd xs (i : Int) = xs[i] := by simp [rd, h]
theorem wrap_nat2 (a b : Nat) (h : a + b < 4611686018427387904) : wrap64 ((a : Int) + (b : Int)) = ((a + b : Nat) : Int) := by rw [wrap_in (by omega) (by omega)]; omega
theorem ev_const {α : Type} {x : Option α} {a : α} (h : x = some a) : Ev (fun _ => x) a := by subst h; exact Ev.now a

-- part: toIntS
theorem toIntS_l0 (l : List Int) (hl : l.length ≤ 35184372088832) : ∀ (d i : Nat) (x : List Int), i + d = l.length → x.length = l.length → x.take i = l.take i → Ev (fun k => laws_toIntS.l0 k l x i) l := by
  intro d
  induction d with
  | zero =>
    intro i x h hx ht
    refine ev_s ?_
    simp only [laws_toIntS.l0]
    rw [show i = l.length by omega] at ht ⊢
    simp only [if_neg (show ¬ ((l.length : Int) < (l.length : Int)) by omega)]
    rw [List.take_of_length_le (by omega), List.take_length] at ht
    rw [ht]; exact Ev.now _
  | succ d ih =>
    intro i x h hx ht
    refine ev_s ?_
    simp only [laws_toIntS.l0]
    simp only [if_pos (show (i : Int) < (l.length : Int) by omega), if_pos (show (0 : Int) ≤ (i : Int) by omega), if_pos (show (i : Int) < (x.length : Int) by omega), show wrap64 ((i : Int) + 1) = ((i + 1 : Nat) : Int) by rw [wrap_in (by omega) (by omega)]; rfl, Int.toNat_natCast]
    refine ih (i + 1) _ (by omega) (by simpa using hx) ?_
    rw [rd_get (show i < l.length by omega)]
    apply List.ext_getElem?
    intro j
    have := congrArg (fun z => z[j]?) ht
    simp only [List.getElem?_take] at this ⊢
    by_cases hj : j < i
    · rw [if_pos hj, if_pos hj] at this
      rw [if_pos (by omega), if_pos (by omega), List.getElem?_set_ne (by omega)]; exact this
    · by_cases hji : j = i
      · subst hji
        rw [if_pos (by omega), if_pos (by omega), List.getElem?_set_self (by omega), List.getElem?_eq_getElem (by omega)]
      · rw [if_neg (by omega), if_neg (by omega)]
theorem toIntS_ev (l : List Int) (hl : l.length ≤ 35184372088832) : Ev (fun k => laws_toIntS.f k l) l := by
  simp only [laws_toIntS.f, Int.toNat_natCast, if_pos (show (0 : Int) ≤ (l.length : Int) by omega), if_pos hl]
  exact toIntS_l0 l hl l.length 0 _ (by omega) (by simp) (by simp)

-- part: eqLoop
theorem eqIntS_l0 (F : Nat → List Int → List Int → Int → Option Bool)
    (h0 : ∀ k a b i, F (k + 1) a b i = if i < (a.length : Int) then (if 0 ≤ i then (if i < (b.length : Int) then (if (rd a i) = (rd b i) then (F k a b (wrap64 (i + 1))) else (some false)) else none) else none) else some true)
    (a b : List Int) (hl : a.length = b.length) (hb : a.length ≤ 140737488351232) : ∀ (d i : Nat), i + d = a.length → a.take i = b.take i → Ev (fun k => F k a b i) (decide (a = b)) := by
  intro d
  induction d with
  | zero =>
    intro i h ht
    refine ev_s ?_
    simp only [h0]
    simp only [if_neg (show ¬ ((i : Int) < (a.length : Int)) by omega)]
    rw [List.take_of_length_le (by omega), List.take_of_length_le (by omega)] at ht
    simp only [ht, decide_true]; exact Ev.now _
  | succ d ih =>
    intro i h ht
    refine ev_s ?_
    simp only [h0]
    simp only [if_pos (show (i : Int) < (a.length : Int) by omega), if_pos (show (0 : Int) ≤ (i : Int) by omega), if_pos (show (i : Int) < (b.length : Int) by omega), show wrap64 ((i : Int) + 1) = ((i + 1 : Nat) : Int) by rw [wrap_in (by omega) (by omega)]; rfl]
    rw [rd_get (show i < a.length by omega), rd_get (show i < b.length by omega)]
    by_cases he : a[i] = b[i]
    · simp only [if_pos he]
      refine ih (i + 1) (by omega) ?_
      rw [List.take_succ_eq_append_getElem (by omega), List.take_succ_eq_append_getElem (by omega), ht, he]
    · simp only [if_neg he]
      refine ev_now (Eq.symm (decide_eq_false (fun hab => he ?_)))
      subst hab; rfl

-- part: eqIntS
theorem eqIntS_ev (a b : List Int) (hb : a.length ≤ 140737488351232) : Ev (fun k => laws_eqIntS.f k a b) (decide (a = b)) := by
  simp only [laws_eqIntS.f]
  by_cases hl : a.length = b.length
  · simp only [if_pos (show (a.length : Int) = (b.length : Int) by omega)]
    exact eqIntS_l0 laws_eqIntS.l0 (fun _ _ _ _ => rfl) a b hl hb a.length 0 (by omega) (by simp)
  · simp only [if_neg (show ¬ ((a.length : Int) = (b.length : Int)) by omega)]
    exact ev_now (Eq.symm (decide_eq_false (fun hab => hl (by rw [hab]))))

-- part: mark
/-! ### marks -/
def marksOf (a n : Nat) : List Int := (List.range n).map (fun i => ((a + i : Nat) : Int))
theorem marksOf_length (a n : Nat) : (marksOf a n).length = n := by simp [marksOf]
theorem markIntS_l0 (a : Nat) (n : Nat) (hn : a + n ≤ 1000000000000000) : ∀ (d i : Nat) (x : List Int), i + d = n → x.length = n → x.take i = marksOf a i → Ev (fun k => laws_markIntS.l0 k x ((a + i : Nat) : Int) (i : Int)) (((a + n : Nat) : Int), marksOf a n) := by
  intro d
  induction d with
  | zero =>
    intro i x h hx ht
    refine ev_s ?_
    simp only [laws_markIntS.l0, if_neg (show ¬ ((i : Int) < (x.length : Int)) by omega)]
    rw [List.take_of_length_le (by omega)] at ht
    obtain rfl : i = n := by omega
    rw [← ht]; exact Ev.now _
  | succ d ih =>
    intro i x h hx ht
    refine ev_s ?_
    simp only [laws_markIntS.l0, if_pos (show (i : Int) < (x.length : Int) by omega), if_pos (show (0 : Int) ≤ (i : Int) by omega), Int.toNat_natCast, show wrap64 ((i : Int) + 1) = ((i + 1 : Nat) : Int) by rw [wrap_in (by omega) (by omega)]; rfl, show wrap64 (((a + i : Nat) : Int) + 1) = ((a + (i + 1) : Nat) : Int) by rw [wrap_in (by omega) (by omega)]; omega]
    refine ih (i + 1) _ (by omega) (by simpa using hx) ?_
    have e : marksOf a (i + 1) = marksOf a i ++ [((a + i : Nat) : Int)] := by simp [marksOf, List.range_succ]
    rw [e, ← ht, List.take_succ_eq_append_getElem (by simp; omega), List.getElem_set_self]
    congr 1
    rw [List.take_set_of_le (by omega)]
theorem markIntS_ev (l : List Int) (a : Nat) (hn : a + l.length ≤ 1000000000000000) : Ev (fun k => laws_markIntS.f k l (a : Int)) (((a + l.length : Nat) : Int), marksOf a l.length) :=
  markIntS_l0 a l.length hn l.length 0 l (by omega) rfl (by simp [marksOf])
theorem heldIntS_l0 (a n : Nat) (hn : a + n ≤ 1000000000000000) : ∀ (d i : Nat), i + d = n → Ev (fun k => laws_heldIntS.l0 k (marksOf a n) ((a + i : Nat) : Int) (i : Int)) ((a + n : Nat) : Int) := by
  intro d
  induction d with
  | zero =>
    intro i h
    refine ev_s ?_
    simp only [laws_heldIntS.l0, marksOf_length, if_neg (show ¬ ((i : Int) < (n : Int)) by omega)]
    exact ev_now (by rw [show i = n by omega])
  | succ d ih =>
    intro i h
    refine ev_s ?_
    have hr : rd (marksOf a n) (i : Int) = ((a + i : Nat) : Int) := by rw [rd_get (by rw [marksOf_length]; omega)]; simp [marksOf]
    simp only [laws_heldIntS.l0, marksOf_length, if_pos (show (i : Int) < (n : Int) by omega), if_pos (show (0 : Int) ≤ (i : Int) by omega), hr, if_true, show wrap64 ((i : Int) + 1) = ((i + 1 : Nat) : Int) by rw [wrap_in (by omega) (by omega)]; rfl, show wrap64 (((a + i : Nat) : Int) + 1) = ((a + (i + 1) : Nat) : Int) by rw [wrap_in (by omega) (by omega)]; omega]
    exact ih (i + 1) (by omega)
theorem heldIntS_ev (a n : Nat) (hn : a + n ≤ 1000000000000000) : Ev (fun k => laws_heldIntS.f k (marksOf a n) (a : Int)) ((a + n : Nat) : Int) :=
  heldIntS_l0 a n hn n 0 (by omega)

-- part: l1In
theorem l1In_eq (n lo hi : Int) : spec_l1In.f n lo hi = some (decide (lo ≤ n ∧ n ≤ hi)) := by
  unfold spec_l1In.f
  by_cases h : n ≥ lo
  · rw [if_pos h]; simp [show lo ≤ n from h]
  · rw [if_neg h]; simp [show ¬ lo ≤ n from h]

-- part: allB
def allB (f : Nat → Bool) : Nat → Nat → Bool
  | 0, _ => true
  | d + 1, i => f i && allB f d (i + 1)
theorem allB_iff (f : Nat → Bool) : ∀ d i, allB f d i = true ↔ ∀ m, i ≤ m → m < i + d → f m = true
  | 0, i => by simp [allB]; omega
  | d + 1, i => by
    rw [allB, Bool.and_eq_true, allB_iff f d (i + 1)]
    constructor
    · rintro ⟨h1, h2⟩ m hm hm2
      by_cases h : m = i
      · subst h; exact h1
      · exact h2 m (by omega) (by omega)
    · intro h
      exact ⟨h i (by omega) (by omega), fun m h1 h2 => h m (by omega) (by omega)⟩

-- part: BagValid
/-- What both of them ask at a place. -/
def bagAt (l : List Int) (i : Nat) : Bool := decide (0 ≤ rd l (i : Int) ∧ rd l (i : Int) ≤ 9 ∧ (0 < i → rd l (i : Int) ≤ rd l ((i - 1 : Nat) : Int)))
def bagOk (l : List Int) : Bool := allB (bagAt l) l.length 0 && decide (l.length ≤ 16)
theorem spec_BagValid_l0 (l : List Int) (hb : l.length ≤ 140737488351232) : ∀ (d i : Nat), i + d = l.length → Ev (fun k => spec_BagValid.l0 k l (i : Int)) (allB (bagAt l) d i && decide (l.length ≤ 16)) := by
  intro d
  induction d with
  | zero =>
    intro i h
    refine ev_s ?_
    simp only [spec_BagValid.l0, if_neg (show ¬ ((i : Int) < (l.length : Int)) by omega), allB, Bool.true_and]
    exact ev_now (decide_eq_decide.mpr (by omega))
  | succ d ih =>
    intro i h
    refine ev_s ?_
    simp only [spec_BagValid.l0, l1In_eq, Option.bind_some, if_pos (show (i : Int) < (l.length : Int) by omega), if_pos (show (0 : Int) ≤ (i : Int) by omega), show wrap64 ((i : Int) + 1) = ((i + 1 : Nat) : Int) by rw [wrap_in (by omega) (by omega)]; rfl, allB]
    by_cases h1 : 0 ≤ rd l (i : Int) ∧ rd l (i : Int) ≤ 9
    · simp only [decide_eq_true h1, if_true]
      by_cases h0 : (i : Int) > 0
      · have e : wrap64 ((i : Int) - 1) = ((i - 1 : Nat) : Int) := by rw [wrap_in (by omega) (by omega)]; omega
        simp only [if_pos h0, e, if_pos (show (0 : Int) ≤ ((i - 1 : Nat) : Int) by omega), if_pos (show ((i - 1 : Nat) : Int) < (l.length : Int) by omega)]
        by_cases h2 : rd l (i : Int) > rd l ((i - 1 : Nat) : Int)
        · have hf : bagAt l i = false := decide_eq_false (fun hh => by have := hh.2.2 (by omega); omega)
          simp only [if_pos h2, hf, Bool.false_and]; exact Ev.now _
        · have ht : bagAt l i = true := decide_eq_true ⟨h1.1, h1.2, fun _ => by omega⟩
          simp only [if_neg h2, ht, Bool.true_and]; exact ih (i + 1) (by omega)
      · have ht : bagAt l i = true := decide_eq_true ⟨h1.1, h1.2, fun _ => by omega⟩
        simp only [if_neg h0, ht, Bool.true_and]; exact ih (i + 1) (by omega)
    · have hf : bagAt l i = false := decide_eq_false (fun hh => h1 ⟨hh.1, hh.2.1⟩)
      simp only [decide_eq_false h1, Bool.false_eq_true, if_false, hf, Bool.false_and]; exact Ev.now _
theorem spec_BagValid_ev (l : List Int) (hb : l.length ≤ 140737488351232) : Ev (fun k => spec_BagValid.f k l) (bagOk l) := spec_BagValid_l0 l hb l.length 0 (by omega)
theorem impl_BagValid_l0 (l : List Int) (hb : l.length ≤ 140737488351232) : ∀ (d i : Nat), i + d = l.length → Ev (fun k => impl_BagValid.l0 k l l (l.length : Int) (i : Int)) (allB (bagAt l) d i && decide (l.length ≤ 16)) := by
  intro d
  induction d with
  | zero =>
    intro i h
    refine ev_s ?_
    simp only [impl_BagValid.l0, if_neg (show ¬ ((i : Int) < (l.length : Int)) by omega), allB, Bool.true_and]
    exact ev_now (decide_eq_decide.mpr (by omega))
  | succ d ih =>
    intro i h
    refine ev_s ?_
    simp only [impl_BagValid.l0, if_pos (show (i : Int) < (l.length : Int) by omega), if_pos (show (0 : Int) ≤ (i : Int) by omega), show wrap64 ((i : Int) + 1) = ((i + 1 : Nat) : Int) by rw [wrap_in (by omega) (by omega)]; rfl, allB]
    by_cases h1 : rd l (i : Int) < 0
    · have hf : bagAt l i = false := decide_eq_false (fun hh => by omega)
      simp only [if_pos h1, hf, Bool.false_and]; exact Ev.now _
    · by_cases h9 : rd l (i : Int) > 9
      · have hf : bagAt l i = false := decide_eq_false (fun hh => by omega)
        simp only [if_neg h1, if_pos h9, hf, Bool.false_and]; exact Ev.now _
      · simp only [if_neg h1, if_neg h9]
        by_cases h0 : (i : Int) > 0
        · have e : wrap64 ((i : Int) - 1) = ((i - 1 : Nat) : Int) := by rw [wrap_in (by omega) (by omega)]; omega
          simp only [if_pos h0, e, if_pos (show (0 : Int) ≤ ((i - 1 : Nat) : Int) by omega), if_pos (show ((i - 1 : Nat) : Int) < (l.length : Int) by omega)]
          by_cases h2 : rd l (i : Int) > rd l ((i - 1 : Nat) : Int)
          · have hf : bagAt l i = false := decide_eq_false (fun hh => by have := hh.2.2 (by omega); omega)
            simp only [if_pos h2, hf, Bool.false_and]; exact Ev.now _
          · have ht : bagAt l i = true := decide_eq_true ⟨by omega, by omega, fun _ => by omega⟩
            simp only [if_neg h2, ht, Bool.true_and]; exact ih (i + 1) (by omega)
        · have ht : bagAt l i = true := decide_eq_true ⟨by omega, by omega, fun _ => by omega⟩
          simp only [if_neg h0, ht, Bool.true_and]; exact ih (i + 1) (by omega)
theorem impl_BagValid_ev (l : List Int) (hb : l.length ≤ 140737488351232) : Ev (fun k => impl_BagValid.f k l) (bagOk l) := impl_BagValid_l0 l hb l.length 0 (by omega)
theorem rd_drop (l : List Int) (a i : Nat) : rd (l.drop a) (i : Int) = rd l ((a + i : Nat) : Int) := by simp only [rd, Int.toNat_natCast, List.getD_eq_getElem?_getD, List.getElem?_drop]
theorem bagOk_drop {l : List Int} (h : bagOk l = true) (a : Nat) : bagOk (l.drop a) = true := by
  simp only [bagOk, Bool.and_eq_true, allB_iff, decide_eq_true_eq, bagAt, rd_drop] at h ⊢
  refine ⟨fun m _ hm => ?_, by simp; omega⟩
  rw [List.length_drop] at hm
  obtain ⟨h1, h2, h3⟩ := h.1 (a + m) (by omega) (by omega)
  refine ⟨h1, h2, fun h0 => ?_⟩
  have := h3 (by omega)
  rw [show a + m - 1 = a + (m - 1) by omega] at this
  exact this

-- part: l6Many
theorem l6Many_l0 (l : List Int) (n : Int) (hb : l.length ≤ 140737488351232) : ∀ (d i c : Nat), i + d = l.length → c ≤ i → Ev (fun k => spec_l6Many.l0 k l n (c : Int) (i : Int)) ((c + (l.drop i).count n : Nat) : Int) := by
  intro d
  induction d with
  | zero =>
    intro i c h _
    refine ev_s ?_
    simp only [spec_l6Many.l0, if_neg (show ¬ ((i : Int) < (l.length : Int)) by omega)]
    rw [List.drop_of_length_le (by omega)]
    exact Ev.now _
  | succ d ih =>
    intro i c h hc
    refine ev_s ?_
    simp only [spec_l6Many.l0, if_pos (show (i : Int) < (l.length : Int) by omega), if_pos (show (0 : Int) ≤ (i : Int) by omega), show wrap64 ((i : Int) + 1) = ((i + 1 : Nat) : Int) by rw [wrap_in (by omega) (by omega)]; rfl, show wrap64 ((c : Int) + 1) = ((c + 1 : Nat) : Int) by rw [wrap_in (by omega) (by omega)]; rfl]
    rw [rd_get (show i < l.length by omega), List.drop_eq_getElem_cons (show i < l.length by omega)]
    by_cases he : l[i] = n
    · simp only [if_pos he]
      rw [he, List.count_cons_self, show c + ((l.drop (i + 1)).count n + 1) = (c + 1) + (l.drop (i + 1)).count n by omega]
      exact ih (i + 1) (c + 1) (by omega) (by omega)
    · simp only [if_neg he]
      rw [List.count_cons_of_ne (fun e => he e)]
      exact ih (i + 1) c (by omega) (by omega)
theorem l6Many_ev (l : List Int) (n : Int) (hb : l.length ≤ 140737488351232) : Ev (fun k => spec_l6Many.f k l n) ((l.count n : Nat) : Int) :=
  ev_eq (l6Many_l0 l n hb l.length 0 0 (by omega) (by omega)) (by simp)

-- part: bagCnt
/-! ### how often a number is in a multiset -/
def cn (l : List Int) (n : Int) : Int := ((l.countP (fun x => x == n) : Nat) : Int)
theorem cn_nonneg (l : List Int) (n : Int) : 0 ≤ cn l n := by unfold cn; omega
theorem cn_le (l : List Int) (n : Int) : cn l n ≤ l.length := by
  have := List.countP_le_length (p := fun x => x == n) (l := l)
  unfold cn; omega
theorem l6Many_cn (l : List Int) (n : Int) (hb : l.length ≤ 140737488351232) : Ev (fun k => spec_l6Many.f k l n) (cn l n) := l6Many_ev l n hb
theorem at_cn (l : List Int) (n : Nat) : impl_counts.at l n = cn l (n : Int) := rfl
theorem bagOk_all {l : List Int} (h : bagOk l = true) : (∀ x ∈ l, 0 ≤ x ∧ x < 10) ∧ l.length ≤ 16 := by
  simp only [bagOk, Bool.and_eq_true, allB_iff, decide_eq_true_eq, bagAt] at h
  refine ⟨fun x hx => ?_, h.2⟩
  obtain ⟨i, hi, rfl⟩ := List.mem_iff_getElem.1 hx
  have := h.1 i (by omega) (by omega)
  rw [rd_get hi] at this
  omega
theorem counts_eq {l : List Int} (h : bagOk l = true) {a : Int} (h0 : 0 ≤ a) (h1 : a < 10) : impl_counts.f l a = some (cn l a) := by
  have := bagOk_all h
  unfold impl_counts.f
  rw [if_pos ⟨⟨this.1, by omega⟩, h0, h1⟩, at_cn, Int.toNat_of_nonneg h0]

-- part: O
/-! ### ordinals -/
/-- An ordinal: a sum of terms w^e * n. -/
inductive O where
  | z : O
  | c (n : Nat) (e r : O) : O

-- part: oRow
def O.len : O → Nat
  | .z => 0
  | .c _ _ r => O.len r + 1
def O.body : O → List Int
  | .z => []
  | .c n e r => (n : Int) :: (O.len e : Int) :: (O.body e ++ O.body r)
def O.row (o : O) : List Int := (O.len o : Int) :: O.body o
theorem O.len_le : ∀ o : O, o.len ≤ o.body.length
  | .z => Nat.le_refl _
  | .c n e r => by have := O.len_le r; simp only [O.len, O.body, List.length_cons, List.length_append]; omega
/-- These terms are this ordinal. -/
inductive IsO : List S57 → O → Prop where
  | nil : IsO [] .z
  | cons {n : Nat} {e r : List S57} {oe or_ : O} (he : IsO e oe) (hr : IsO r or_) : IsO (⟨(n : Int), e⟩ :: r) (.c n oe or_)
theorem IsO.len {l : List S57} {o : O} (h : IsO l o) : l.length = o.len := by
  induction h with
  | nil => rfl
  | cons he hr ihe ihr => simp [O.len, ihr]
theorem rd_T57_mid (pre suf : List S57) (x : S57) : rd_T57 (pre ++ x :: suf) ((pre.length : Nat) : Int) = x := by simp [rd_T57]
def O.num (n : Nat) : O := if n = 0 then .z else .c n .z .z
theorem number_eq (n : Nat) : ∃ l, impl_number.f (n : Int) = some l ∧ IsO l (O.num n) := by
  unfold impl_number.f O.num
  by_cases h : n = 0
  · subst h; exact ⟨[], rfl, .nil⟩
  · rw [if_neg (show ¬ ((n : Int) = 0) by omega), if_neg h]
    exact ⟨_, rfl, .cons .nil .nil⟩
theorem rowOf_l0 {suf : List S57} {o : O} (h : IsO suf o) : ∀ (pre : List S57) (out : List Int), pre.length + suf.length ≤ 1000000 → out.length + o.body.length ≤ 1000000 → Ev (fun k => impl_rowOf.l0 k out (pre ++ suf) (((pre ++ suf).length : Nat) : Int) (pre.length : Int)) (out ++ o.body) := by
  induction h with
  | nil =>
    intro pre out _ _
    refine ev_s ?_
    simp only [impl_rowOf.l0, List.append_nil, if_neg (show ¬ ((pre.length : Int) < (pre.length : Int)) by omega), O.body]
    exact Ev.now _
  | @cons n e r oe or_ he hr ihe ihr =>
    intro pre out hp ho
    simp only [List.length_cons] at hp
    simp only [O.body, List.length_cons, List.length_append] at ho
    have hlen : ((pre ++ (⟨(n : Int), e⟩ : S57) :: r).length : Nat) = pre.length + (r.length + 1) := by simp
    have he1 := IsO.len he
    have hel := O.len_le oe
    have hE : Ev (fun k => impl_rowOf.f k e) oe.row := by
      refine ev_s ?_
      simp only [impl_rowOf.f]
      have := ihe [] [(e.length : Int)] (by simp; omega) (by simp; omega)
      rw [List.nil_append] at this
      refine ev_eq this ?_
      rw [O.row, ← he1]; rfl
    refine ev_s ?_
    simp only [impl_rowOf.l0, rd_T57_mid, hlen, if_pos (show (pre.length : Int) < ((pre.length + (r.length + 1) : Nat) : Int) by omega), if_pos (show (0 : Int) ≤ (pre.length : Int) by omega), if_pos (show out.length < 17592186044416 by omega), Option.bind_some]
    refine Ev.bind hE ?_
    have hrow : oe.row.length = oe.body.length + 1 := by simp [O.row]
    simp only [List.length_append, List.length_singleton, hrow, if_pos (show out.length + 1 + (oe.body.length + 1) < 17592186044416 by omega), show wrap64 ((pre.length : Int) + 1) = ((pre.length + 1 : Nat) : Int) by rw [wrap_in (by omega) (by omega)]; rfl]
    have := ihr (pre ++ [⟨(n : Int), e⟩]) (out ++ [(n : Int)] ++ oe.row) (by simp; omega) (by simp [hrow]; omega)
    simp only [List.append_assoc, List.singleton_append, List.length_append, List.length_cons, List.length_nil] at this
    refine ev_eq ?_ (show out ++ ((n : Int) :: (oe.row ++ or_.body)) = out ++ (O.c n oe or_).body by simp [O.body, O.row])
    simp only [List.append_assoc, List.singleton_append]
    exact this
theorem rowOf_ev {l : List S57} {o : O} (h : IsO l o) (ho : o.body.length ≤ 100000) : Ev (fun k => impl_rowOf.f k l) o.row := by
  have hl := IsO.len h
  have := O.len_le o
  refine ev_s ?_
  simp only [impl_rowOf.f]
  have := rowOf_l0 h [] [(l.length : Int)] (by simp; omega) (by simp; omega)
  rw [List.nil_append] at this
  refine ev_eq this ?_
  rw [O.row, ← hl]; rfl

-- part: oAppDef
def O.app : O → O → O
  | .z, y => y
  | .c n e r, y => .c n e (O.app r y)
theorem O.app_z : ∀ x : O, O.app x .z = x
  | .z => rfl
  | .c n e r => by rw [O.app, O.app_z r]

-- part: oApp
theorem O.app_assoc : ∀ x y t : O, O.app (O.app x y) t = O.app x (O.app y t)
  | .z, _, _ => rfl
  | .c n e r, y, t => by simp only [O.app, O.app_assoc r y t]
theorem O.app_body : ∀ x y : O, (O.app x y).body = x.body ++ y.body
  | .z, _ => rfl
  | .c n e r, y => by simp only [O.app, O.body, O.app_body r y, List.cons_append, List.append_assoc]
theorem O.app_len : ∀ x y : O, (O.app x y).len = x.len + y.len
  | .z, _ => by simp [O.app, O.len]
  | .c n e r, y => by simp only [O.app, O.len, O.app_len r y]; omega
theorem IsO.app {a b : List S57} {x y : O} (ha : IsO a x) (hb : IsO b y) : IsO (a ++ b) (O.app x y) := by
  induction ha with
  | nil => exact hb
  | cons he _ _ ih => exact .cons he ih

-- part: l1Make
/-- Numbers and exponents, one behind the other. -/
def zipB : List Int → List (List Int) → List Int
  | t :: ts, e :: es => t :: e ++ zipB ts es
  | _, _ => []
theorem zipB_drop {t : List Int} {e : List (List Int)} {i : Nat} (ht : i < t.length) (he : i < e.length) : zipB (t.drop i) (e.drop i) = t[i] :: e[i] ++ zipB (t.drop (i + 1)) (e.drop (i + 1)) := by
  rw [List.drop_eq_getElem_cons ht, List.drop_eq_getElem_cons he]; rfl
theorem zipB_snoc : ∀ (t : List Int) (e : List (List Int)) (n : Int) (x : List Int), t.length = e.length → zipB (t ++ [n]) (e ++ [x]) = zipB t e ++ n :: x
  | [], [], n, x, _ => by simp [zipB]
  | [], _ :: _, _, _, h => by simp at h
  | _ :: _, [], _, _, h => by simp at h
  | a :: t, b :: e, n, x, h => by
    have := zipB_snoc t e n x (by simpa using h)
    simp [zipB, this]
theorem rdL1_get {xs : List (List Int)} {i : Nat} (h : i < xs.length) : rd_L2 xs (i : Int) = xs[i] := by simp [rd_L2, h]
theorem l1Make_l0 (t : List Int) (e : List (List Int)) (hl : t.length = e.length) (hb : t.length ≤ 1000000) : ∀ (d i : Nat) (out : List Int), i + d = t.length → out.length + (zipB (t.drop i) (e.drop i)).length ≤ 1000000 → Ev (fun k => spec_l1Make.l0 k t e out (i : Int)) (out ++ zipB (t.drop i) (e.drop i)) := by
  intro d
  induction d with
  | zero =>
    intro i out h _
    refine ev_s ?_
    simp only [spec_l1Make.l0, if_neg (show ¬ ((i : Int) < (t.length : Int)) by omega)]
    rw [List.drop_of_length_le (by omega)]
    exact ev_now (by simp [zipB])
  | succ d ih =>
    intro i out h ho
    rw [zipB_drop (show i < t.length by omega) (show i < e.length by omega)] at ho
    simp only [List.length_append, List.length_cons] at ho
    refine ev_s ?_
    simp only [spec_l1Make.l0, if_pos (show (i : Int) < (t.length : Int) by omega), if_pos (show (0 : Int) ≤ (i : Int) by omega), if_pos (show (i : Int) < (e.length : Int) by omega), if_pos (show out.length < 17592186044416 by omega), Option.bind_some, rdL1_get (show i < e.length by omega), rd_get (show i < t.length by omega), show wrap64 ((i : Int) + 1) = ((i + 1 : Nat) : Int) by rw [wrap_in (by omega) (by omega)]; rfl, List.length_append, List.length_singleton, if_pos (show out.length + 1 + e[i].length < 17592186044416 by omega)]
    refine ev_eq (ih (i + 1) _ (by omega) (by simp; omega)) ?_
    rw [zipB_drop (show i < t.length by omega) (show i < e.length by omega)]
    simp
theorem l1Make_ev (t : List Int) (e : List (List Int)) (hl : t.length = e.length) (hb : t.length ≤ 100000) (hz : (zipB t e).length ≤ 100000) : Ev (fun k => spec_l1Make.f k t e) ((t.length : Int) :: zipB t e) := by
  simp only [spec_l1Make.f]
  exact l1Make_l0 t e hl (by omega) t.length 0 [(t.length : Int)] (by omega) (by simp; omega)

-- part: bagO
/-! ### the ordinal of a multiset -/
def bagO (l : List Int) : Nat → O
  | 0 => .z
  | n + 1 => if cn l n > 0 then .c (cn l n).toNat (O.num n) (bagO l n) else bagO l n
theorem numBody (n : Nat) : (O.num n).body.length ≤ 2 := by unfold O.num; split <;> simp [O.body]
theorem bagO_body (l : List Int) : ∀ n, (bagO l n).body.length ≤ 4 * n
  | 0 => by simp [bagO, O.body]
  | n + 1 => by
    have := bagO_body l n
    have := numBody n
    rw [bagO]; split
    · simp only [O.body, List.length_cons, List.length_append]; omega
    · omega
def bagOrd (l : List Int) : List Int := if bagOk l = true then O.row (bagO l 10) else []
theorem bagOrd_length (l : List Int) : (bagOrd l).length ≤ 100 := by
  unfold bagOrd; split
  · have := bagO_body l 10
    simp only [O.row, List.length_cons]; omega
  · simp

-- part: bagOrd
theorem impl_BagOrd_l0 {l : List Int} (h : bagOk l = true) : ∀ (n : Nat) (x : List S57) (o : O), n ≤ 10 → IsO x o → o.body.length ≤ 4 * (10 - n) → Ev (fun k => impl_BagOrd.l0 k l x ((n : Int) - 1)) (O.row (O.app o (bagO l n))) := by
  intro n
  induction n with
  | zero =>
    intro x o _ hx ho
    have hxl := IsO.len hx
    have hol := O.len_le o
    refine ev_s ?_
    simp only [impl_BagOrd.l0, if_neg (show ¬ ((((0 : Nat) : Int) - 1) ≥ 0) by decide)]
    rw [bagO, O.app_z]
    refine Ev.bind (rowOf_ev hx (by omega)) ?_
    exact Ev.now _
  | succ n ih =>
    intro x o hn hx ho
    have hxl := IsO.len hx
    have hol := O.len_le o
    obtain ⟨ln, hn1, hn2⟩ := number_eq n
    have e : (((n + 1 : Nat) : Int) - 1) = (n : Int) := by omega
    refine ev_s ?_
    simp only [e, impl_BagOrd.l0, if_pos (show (n : Int) ≥ 0 by omega), counts_eq h (show 0 ≤ (n : Int) by omega) (show (n : Int) < 10 by omega), Option.bind_some, hn1, if_pos (show x.length < 4398046511104 by omega), show wrap64 ((n : Int) - 1) = (n : Int) - 1 from wrap_in (by omega) (by omega)]
    rw [bagO]
    by_cases hc : cn l n > 0
    · simp only [if_pos hc]
      obtain ⟨m, hm⟩ := Int.eq_ofNat_of_zero_le (cn_nonneg l n)
      have hx2 : IsO (x ++ [(⟨cn l n, ln⟩ : S57)]) (O.app o (.c (cn l n).toNat (O.num n) .z)) := by
        rw [hm]
        exact IsO.app hx (.cons hn2 .nil)
      have hnb := numBody n
      refine ev_eq (ih _ _ (by omega) hx2 ?_) ?_
      · rw [O.app_body]; simp only [O.body, List.length_append, List.length_cons, List.length_nil]; omega
      · rw [O.app_assoc]; rfl
    · simp only [if_neg hc]
      exact ih x o (by omega) hx (by omega)
theorem impl_BagOrd_ev (l : List Int) (hb : l.length ≤ 140737488351232) : Ev (fun k => impl_BagOrd.f k l) (bagOrd l) := by
  simp only [impl_BagOrd.f]
  refine Ev.bind (impl_BagValid_ev l hb) ?_
  unfold bagOrd
  cases h : bagOk l with
  | false => simp only [Bool.false_eq_true, if_false]; exact Ev.now _
  | true =>
    simp only [if_true]
    refine ev_eq (impl_BagOrd_l0 h 10 [] .z (by omega) .nil (by simp [O.body])) ?_
    rfl

-- part: bagOrdSpec
theorem spec_OrdOf_num (n : Nat) (h : n ≤ 9999) : spec_OrdOf.f (n : Int) = some (O.num n).row := by
  unfold spec_OrdOf.f
  rw [l1In_eq, Option.bind_some, decide_eq_true (show 0 ≤ (n : Int) ∧ (n : Int) ≤ 9999 by omega), if_pos rfl]
  unfold O.num
  by_cases h0 : n = 0
  · subst h0; rfl
  · rw [if_neg (by omega), if_neg h0]; simp [O.row, O.body, O.len]
theorem spec_BagOrd_l0 (l : List Int) (hb : l.length ≤ 140737488351232) : ∀ (n : Nat) (t : List Int) (e : List (List Int)), n ≤ 10 → t.length = e.length → t.length ≤ 10 - n → (zipB t e).length ≤ 4 * (10 - n) → Ev (fun k => spec_BagOrd.l0 k l t e ((n : Int) - 1)) (((t.length + (bagO l n).len : Nat) : Int) :: (zipB t e ++ (bagO l n).body)) := by
  intro n
  induction n with
  | zero =>
    intro t e _ ht htn hz
    refine ev_s ?_
    simp only [spec_BagOrd.l0, if_neg (show ¬ ((((0 : Nat) : Int) - 1) ≥ 0) by decide)]
    refine Ev.bind (l1Make_ev t e ht (by omega) (by omega)) ?_
    exact ev_now (by simp [bagO, O.len, O.body])
  | succ n ih =>
    intro t e hn ht htn hz
    have e1 : (((n + 1 : Nat) : Int) - 1) = (n : Int) := by omega
    refine ev_s ?_
    simp only [e1, spec_BagOrd.l0, if_pos (show (n : Int) ≥ 0 by omega), spec_OrdOf_num n (by omega), Option.bind_some, if_pos (show t.length < 17592186044416 by omega), if_pos (show e.length < 5864062014805 by omega), show wrap64 ((n : Int) - 1) = (n : Int) - 1 from wrap_in (by omega) (by omega)]
    refine Ev.bind (l6Many_cn l n hb) ?_
    rw [bagO]
    by_cases hc : cn l n > 0
    · simp only [if_pos hc]
      refine Ev.bind (l6Many_cn l n hb) ?_
      have hnb := numBody n
      have hzs := zipB_snoc t e (cn l n) (O.num n).row ht
      refine ev_eq (ih _ _ (by omega) (by simp [ht]) (by simp; omega) ?_) ?_
      · rw [hzs]; simp only [O.row, List.length_append, List.length_cons]; omega
      · rw [hzs]
        have hm : ((cn l n).toNat : Int) = cn l n := by omega
        simp only [O.len, O.body, O.row, List.length_append, List.length_singleton, List.append_assoc, List.cons_append, hm, List.cons.injEq, and_true]
        omega
    · simp only [if_neg hc]
      exact ih t e (by omega) ht (by omega) (by omega)
theorem spec_BagOrd_ev (l : List Int) (hb : l.length ≤ 140737488351232) : Ev (fun k => spec_BagOrd.f k l) (bagOrd l) := by
  simp only [spec_BagOrd.f]
  refine Ev.bind (spec_BagValid_ev l hb) ?_
  unfold bagOrd
  cases h : bagOk l with
  | false => simp only [Bool.false_eq_true, if_false]; exact Ev.now _
  | true =>
    simp only [if_true]
    refine ev_eq (spec_BagOrd_l0 l hb 10 [] [] (by omega) rfl (by simp) (by simp [zipB])) ?_
    simp [O.row, zipB]

-- part: law_FnExactBagOrd
theorem FnExactBagOrd : laws_FnExactBagOrd.Pure := by
  intro l0 _ hl _
  refine Ev.rounds ?_
  simp only [laws_FnExactBagOrd.f]
  by_cases hb : (l0.length : Int) > 1048576
  · simp only [if_pos hb]; exact Ev.now _
  · simp only [if_neg hb]
    have ht := toIntS_ev l0 (by omega)
    have hlen : (bagOrd l0).length ≤ 1048576 := by have := bagOrd_length l0; omega
    have heq : Ev (fun k => laws_eqIntS.f k (bagOrd l0) (bagOrd l0)) true := ev_eq (eqIntS_ev _ _ (by omega)) (by simp)
    have hheld := heldIntS_ev 1 (bagOrd l0).length (by omega)
    refine Ev.bind ht ?_
    refine Ev.bind (spec_BagOrd_ev l0 (by omega)) ?_
    refine Ev.bind ht ?_
    refine Ev.bind (impl_BagOrd_ev l0 (by omega)) ?_
    refine Ev.bind heq ?_
    simp only [if_true]
    refine Ev.bind ht ?_
    refine Ev.bind (eqIntS_ev l0 l0 (by omega)) ?_
    simp only [decide_true, if_true]
    refine Ev.bind (markIntS_ev l0 1 (by omega)) ?_
    simp only [if_neg (show ¬ (((1 + l0.length : Nat) : Int) < 0) by omega)]
    refine Ev.bind heq ?_
    refine ev_s ?_
    simp only [laws_FnExactBagOrd.j0, Bool.not_true, Bool.false_eq_true, if_false]
    refine Ev.bind (markIntS_ev (bagOrd l0) 1 (by omega)) ?_
    refine Ev.bind hheld ?_
    simp only [if_neg (show ¬ (((1 + (bagOrd l0).length : Nat) : Int) < 0) by omega), if_true]
    refine Ev.bind ht ?_
    refine Ev.bind (impl_BagOrd_ev l0 (by omega)) ?_
    refine Ev.bind heq ?_
    simp only [if_true]
    refine Ev.bind hheld ?_
    simp only [if_neg (show ¬ (((1 + (bagOrd l0).length : Nat) : Int) < 0) by omega), if_true]
    exact Ev.now _

end Go.Proofs.Ytmgpdneehdnjlaa.Pure

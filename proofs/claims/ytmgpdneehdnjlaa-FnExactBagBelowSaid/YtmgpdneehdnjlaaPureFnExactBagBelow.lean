/- The law FnExactBagBelow returns true for every input that the statement lets in; no condition of our own. -/
import Derived.Test.YtmgpdneehdnjlaaCax3
namespace Go.Proofs.Ytmgpdneehdnjlaa.Pure
open Go.RowKit Go.Proofs.Ytmgpdneehdnjlaa.Ca Go.Proofs.YtmgpdneehdnjlaaW.PrintWords Go.Proofs.YtmgpdneehdnjlaaW.PrintLast
set_option linter.unusedVariables false
set_option linter.unusedSimpArgs false

-- part: base
/-! ### words of mine -/
theorem ev_s {α : Type} {g : Nat → Option α} {r : α} (h : Ev (fun k => g (k + 1)) r) : Ev g r := Ev.step (fun _ => rfl) h
theorem ev_eq {α : Type} {g : Nat → Option α} {r q : α} (h : Ev g r) (e : r = q) : Ev g q := e ▸ h
theorem ev_now {α : Type} {r q : α} (e : r = q) : Ev (fun _ => some r) q := e ▸ Ev.now r
theorem wrap_in {x : Int} (h0 : -9223372036854775808 ≤ x) (h1 : x ≤ 9223372036854775807) : wrap64 x = x := by unfold wrap64; omega
theorem rd_eq (xs : List Int) (i : Nat) : rd xs (i : Int) = xs.getD i 0 := by simp [rd]
theorem rd_get {xs : List Int} {i : Nat} (h : i < xs.length) : rd xs (i : Int) = xs[i] := by simp [rd, h]
theorem wrap_nat2 (a b : Nat) (h : a + b < 4611686018427387904) : wrap64 ((a : Int) + (b : Int)) = ((a + b : Nat) : Int) := by rw [wrap_in (by omega) (by omega)]; omega
theorem ev_const {α : Type} {x : Option α} {a : α} (h : x = some a) : Ev (fun _ => x) a := by subst h; exact Ev.now a

-- part: toIntS
theorem toIntS_l0 (l : List Int) (hl : l.length ≤ 35184372088832) : ∀ (d i : Nat) (x : List Int), i + d = l.length → x.length = l.length → x.take i = l.take i → Ev (fun k => laws_toIntS.l0 k l x i) l := by
  intro d
  induction d with
  | zero =>
    intro i x h hx ht
    refine ev_s ?_
    simp only [laws_toIntS.l0]
    rw [show i = l.length by omega] at ht ⊢
    simp only [if_neg (show ¬ ((l.length : Int) < (l.length : Int)) by omega)]
    rw [List.take_of_length_le (by omega), List.take_length] at ht
    rw [ht]; exact Ev.now _
  | succ d ih =>
    intro i x h hx ht
    refine ev_s ?_
    simp only [laws_toIntS.l0]
    simp only [if_pos (show (i : Int) < (l.length : Int) by omega), if_pos (show (0 : Int) ≤ (i : Int) by omega), if_pos (show (i : Int) < (x.length : Int) by omega), show wrap64 ((i : Int) + 1) = ((i + 1 : Nat) : Int) by rw [wrap_in (by omega) (by omega)]; rfl, Int.toNat_natCast]
    refine ih (i + 1) _ (by omega) (by simpa using hx) ?_
    rw [rd_get (show i < l.length by omega)]
    apply List.ext_getElem?
    intro j
    have := congrArg (fun z => z[j]?) ht
    simp only [List.getElem?_take] at this ⊢
    by_cases hj : j < i
    · rw [if_pos hj, if_pos hj] at this
      rw [if_pos (by omega), if_pos (by omega), List.getElem?_set_ne (by omega)]; exact this
    · by_cases hji : j = i
      · subst hji
        rw [if_pos (by omega), if_pos (by omega), List.getElem?_set_self (by omega), List.getElem?_eq_getElem (by omega)]
      · rw [if_neg (by omega), if_neg (by omega)]
theorem toIntS_ev (l : List Int) (hl : l.length ≤ 35184372088832) : Ev (fun k => laws_toIntS.f k l) l := by
  simp only [laws_toIntS.f, Int.toNat_natCast, if_pos (show (0 : Int) ≤ (l.length : Int) by omega), if_pos hl]
  exact toIntS_l0 l hl l.length 0 _ (by omega) (by simp) (by simp)

-- part: eqLoop
theorem eqIntS_l0 (F : Nat → List Int → List Int → Int → Option Bool)
    (h0 : ∀ k a b i, F (k + 1) a b i = if i < (a.length : Int) then (if 0 ≤ i then (if i < (b.length : Int) then (if (rd a i) = (rd b i) then (F k a b (wrap64 (i + 1))) else (some false)) else none) else none) else some true)
    (a b : List Int) (hl : a.length = b.length) (hb : a.length ≤ 140737488351232) : ∀ (d i : Nat), i + d = a.length → a.take i = b.take i → Ev (fun k => F k a b i) (decide (a = b)) := by
  intro d
  induction d with
  | zero =>
    intro i h ht
    refine ev_s ?_
    simp only [h0]
    simp only [if_neg (show ¬ ((i : Int) < (a.length : Int)) by omega)]
    rw [List.take_of_length_le (by omega), List.take_of_length_le (by omega)] at ht
    simp only [ht, decide_true]; exact Ev.now _
  | succ d ih =>
    intro i h ht
    refine ev_s ?_
    simp only [h0]
    simp only [if_pos (show (i : Int) < (a.length : Int) by omega), if_pos (show (0 : Int) ≤ (i : Int) by omega), if_pos (show (i : Int) < (b.length : Int) by omega), show wrap64 ((i : Int) + 1) = ((i + 1 : Nat) : Int) by rw [wrap_in (by omega) (by omega)]; rfl]
    rw [rd_get (show i < a.length by omega), rd_get (show i < b.length by omega)]
    by_cases he : a[i] = b[i]
    · simp only [if_pos he]
      refine ih (i + 1) (by omega) ?_
      rw [List.take_succ_eq_append_getElem (by omega), List.take_succ_eq_append_getElem (by omega), ht, he]
    · simp only [if_neg he]
      refine ev_now (Eq.symm (decide_eq_false (fun hab => he ?_)))
      subst hab; rfl

-- part: eqIntS
theorem eqIntS_ev (a b : List Int) (hb : a.length ≤ 140737488351232) : Ev (fun k => laws_eqIntS.f k a b) (decide (a = b)) := by
  simp only [laws_eqIntS.f]
  by_cases hl : a.length = b.length
  · simp only [if_pos (show (a.length : Int) = (b.length : Int) by omega)]
    exact eqIntS_l0 laws_eqIntS.l0 (fun _ _ _ _ => rfl) a b hl hb a.length 0 (by omega) (by simp)
  · simp only [if_neg (show ¬ ((a.length : Int) = (b.length : Int)) by omega)]
    exact ev_now (Eq.symm (decide_eq_false (fun hab => hl (by rw [hab]))))

-- part: l1In
theorem l1In_eq (n lo hi : Int) : spec_l1In.f n lo hi = some (decide (lo ≤ n ∧ n ≤ hi)) := by
  unfold spec_l1In.f
  by_cases h : n ≥ lo
  · rw [if_pos h]; simp [show lo ≤ n from h]
  · rw [if_neg h]; simp [show ¬ lo ≤ n from h]

-- part: allB
def allB (f : Nat → Bool) : Nat → Nat → Bool
  | 0, _ => true
  | d + 1, i => f i && allB f d (i + 1)
theorem allB_iff (f : Nat → Bool) : ∀ d i, allB f d i = true ↔ ∀ m, i ≤ m → m < i + d → f m = true
  | 0, i => by simp [allB]; omega
  | d + 1, i => by
    rw [allB, Bool.and_eq_true, allB_iff f d (i + 1)]
    constructor
    · rintro ⟨h1, h2⟩ m hm hm2
      by_cases h : m = i
      · subst h; exact h1
      · exact h2 m (by omega) (by omega)
    · intro h
      exact ⟨h i (by omega) (by omega), fun m h1 h2 => h m (by omega) (by omega)⟩

-- part: BagValid
/-- What both of them ask at a place. -/
def bagAt (l : List Int) (i : Nat) : Bool := decide (0 ≤ rd l (i : Int) ∧ rd l (i : Int) ≤ 9 ∧ (0 < i → rd l (i : Int) ≤ rd l ((i - 1 : Nat) : Int)))
def bagOk (l : List Int) : Bool := allB (bagAt l) l.length 0 && decide (l.length ≤ 16)
theorem spec_BagValid_l0 (l : List Int) (hb : l.length ≤ 140737488351232) : ∀ (d i : Nat), i + d = l.length → Ev (fun k => spec_BagValid.l0 k l (i : Int)) (allB (bagAt l) d i && decide (l.length ≤ 16)) := by
  intro d
  induction d with
  | zero =>
    intro i h
    refine ev_s ?_
    simp only [spec_BagValid.l0, if_neg (show ¬ ((i : Int) < (l.length : Int)) by omega), allB, Bool.true_and]
    exact ev_now (decide_eq_decide.mpr (by omega))
  | succ d ih =>
    intro i h
    refine ev_s ?_
    simp only [spec_BagValid.l0, l1In_eq, Option.bind_some, if_pos (show (i : Int) < (l.length : Int) by omega), if_pos (show (0 : Int) ≤ (i : Int) by omega), show wrap64 ((i : Int) + 1) = ((i + 1 : Nat) : Int) by rw [wrap_in (by omega) (by omega)]; rfl, allB]
    by_cases h1 : 0 ≤ rd l (i : Int) ∧ rd l (i : Int) ≤ 9
    · simp only [decide_eq_true h1, if_true]
      by_cases h0 : (i : Int) > 0
      · have e : wrap64 ((i : Int) - 1) = ((i - 1 : Nat) : Int) := by rw [wrap_in (by omega) (by omega)]; omega
        simp only [if_pos h0, e, if_pos (show (0 : Int) ≤ ((i - 1 : Nat) : Int) by omega), if_pos (show ((i - 1 : Nat) : Int) < (l.length : Int) by omega)]
        by_cases h2 : rd l (i : Int) > rd l ((i - 1 : Nat) : Int)
        · have hf : bagAt l i = false := decide_eq_false (fun hh => by have := hh.2.2 (by omega); omega)
          simp only [if_pos h2, hf, Bool.false_and]; exact Ev.now _
        · have ht : bagAt l i = true := decide_eq_true ⟨h1.1, h1.2, fun _ => by omega⟩
          simp only [if_neg h2, ht, Bool.true_and]; exact ih (i + 1) (by omega)
      · have ht : bagAt l i = true := decide_eq_true ⟨h1.1, h1.2, fun _ => by omega⟩
        simp only [if_neg h0, ht, Bool.true_and]; exact ih (i + 1) (by omega)
    · have hf : bagAt l i = false := decide_eq_false (fun hh => h1 ⟨hh.1, hh.2.1⟩)
      simp only [decide_eq_false h1, Bool.false_eq_true, if_false, hf, Bool.false_and]; exact Ev.now _
theorem spec_BagValid_ev (l : List Int) (hb : l.length ≤ 140737488351232) : Ev (fun k => spec_BagValid.f k l) (bagOk l) := spec_BagValid_l0 l hb l.length 0 (by omega)
theorem impl_BagValid_l0 (l : List Int) (hb : l.length ≤ 140737488351232) : ∀ (d i : Nat), i + d = l.length → Ev (fun k => impl_BagValid.l0 k l l (l.length : Int) (i : Int)) (allB (bagAt l) d i && decide (l.length ≤ 16)) := by
  intro d
  induction d with
  | zero =>
    intro i h
    refine ev_s ?_
    simp only [impl_BagValid.l0, if_neg (show ¬ ((i : Int) < (l.length : Int)) by omega), allB, Bool.true_and]
    exact ev_now (decide_eq_decide.mpr (by omega))
  | succ d ih =>
    intro i h
    refine ev_s ?_
    simp only [impl_BagValid.l0, if_pos (show (i : Int) < (l.length : Int) by omega), if_pos (show (0 : Int) ≤ (i : Int) by omega), show wrap64 ((i : Int) + 1) = ((i + 1 : Nat) : Int) by rw [wrap_in (by omega) (by omega)]; rfl, allB]
    by_cases h1 : rd l (i : Int) < 0
    · have hf : bagAt l i = false := decide_eq_false (fun hh => by omega)
      simp only [if_pos h1, hf, Bool.false_and]; exact Ev.now _
    · by_cases h9 : rd l (i : Int) > 9
      · have hf : bagAt l i = false := decide_eq_false (fun hh => by omega)
        simp only [if_neg h1, if_pos h9, hf, Bool.false_and]; exact Ev.now _
      · simp only [if_neg h1, if_neg h9]
        by_cases h0 : (i : Int) > 0
        · have e : wrap64 ((i : Int) - 1) = ((i - 1 : Nat) : Int) := by rw [wrap_in (by omega) (by omega)]; omega
          simp only [if_pos h0, e, if_pos (show (0 : Int) ≤ ((i - 1 : Nat) : Int) by omega), if_pos (show ((i - 1 : Nat) : Int) < (l.length : Int) by omega)]
          by_cases h2 : rd l (i : Int) > rd l ((i - 1 : Nat) : Int)
          · have hf : bagAt l i = false := decide_eq_false (fun hh => by have := hh.2.2 (by omega); omega)
            simp only [if_pos h2, hf, Bool.false_and]; exact Ev.now _
          · have ht : bagAt l i = true := decide_eq_true ⟨by omega, by omega, fun _ => by omega⟩
            simp only [if_neg h2, ht, Bool.true_and]; exact ih (i + 1) (by omega)
        · have ht : bagAt l i = true := decide_eq_true ⟨by omega, by omega, fun _ => by omega⟩
          simp only [if_neg h0, ht, Bool.true_and]; exact ih (i + 1) (by omega)
theorem impl_BagValid_ev (l : List Int) (hb : l.length ≤ 140737488351232) : Ev (fun k => impl_BagValid.f k l) (bagOk l) := impl_BagValid_l0 l hb l.length 0 (by omega)
theorem rd_drop (l : List Int) (a i : Nat) : rd (l.drop a) (i : Int) = rd l ((a + i : Nat) : Int) := by simp only [rd, Int.toNat_natCast, List.getD_eq_getElem?_getD, List.getElem?_drop]
theorem bagOk_drop {l : List Int} (h : bagOk l = true) (a : Nat) : bagOk (l.drop a) = true := by
  simp only [bagOk, Bool.and_eq_true, allB_iff, decide_eq_true_eq, bagAt, rd_drop] at h ⊢
  refine ⟨fun m _ hm => ?_, by simp; omega⟩
  rw [List.length_drop] at hm
  obtain ⟨h1, h2, h3⟩ := h.1 (a + m) (by omega) (by omega)
  refine ⟨h1, h2, fun h0 => ?_⟩
  have := h3 (by omega)
  rw [show a + m - 1 = a + (m - 1) by omega] at this
  exact this

-- part: l6Many
theorem l6Many_l0 (l : List Int) (n : Int) (hb : l.length ≤ 140737488351232) : ∀ (d i c : Nat), i + d = l.length → c ≤ i → Ev (fun k => spec_l6Many.l0 k l n (c : Int) (i : Int)) ((c + (l.drop i).count n : Nat) : Int) := by
  intro d
  induction d with
  | zero =>
    intro i c h _
    refine ev_s ?_
    simp only [spec_l6Many.l0, if_neg (show ¬ ((i : Int) < (l.length : Int)) by omega)]
    rw [List.drop_of_length_le (by omega)]
    exact Ev.now _
  | succ d ih =>
    intro i c h hc
    refine ev_s ?_
    simp only [spec_l6Many.l0, if_pos (show (i : Int) < (l.length : Int) by omega), if_pos (show (0 : Int) ≤ (i : Int) by omega), show wrap64 ((i : Int) + 1) = ((i + 1 : Nat) : Int) by rw [wrap_in (by omega) (by omega)]; rfl, show wrap64 ((c : Int) + 1) = ((c + 1 : Nat) : Int) by rw [wrap_in (by omega) (by omega)]; rfl]
    rw [rd_get (show i < l.length by omega), List.drop_eq_getElem_cons (show i < l.length by omega)]
    by_cases he : l[i] = n
    · simp only [if_pos he]
      rw [he, List.count_cons_self, show c + ((l.drop (i + 1)).count n + 1) = (c + 1) + (l.drop (i + 1)).count n by omega]
      exact ih (i + 1) (c + 1) (by omega) (by omega)
    · simp only [if_neg he]
      rw [List.count_cons_of_ne (fun e => he e)]
      exact ih (i + 1) c (by omega) (by omega)
theorem l6Many_ev (l : List Int) (n : Int) (hb : l.length ≤ 140737488351232) : Ev (fun k => spec_l6Many.f k l n) ((l.count n : Nat) : Int) :=
  ev_eq (l6Many_l0 l n hb l.length 0 0 (by omega) (by omega)) (by simp)

-- part: bagCnt
/-! ### how often a number is in a multiset -/
def cn (l : List Int) (n : Int) : Int := ((l.countP (fun x => x == n) : Nat) : Int)
theorem cn_nonneg (l : List Int) (n : Int) : 0 ≤ cn l n := by unfold cn; omega
theorem cn_le (l : List Int) (n : Int) : cn l n ≤ l.length := by
  have := List.countP_le_length (p := fun x => x == n) (l := l)
  unfold cn; omega
theorem l6Many_cn (l : List Int) (n : Int) (hb : l.length ≤ 140737488351232) : Ev (fun k => spec_l6Many.f k l n) (cn l n) := l6Many_ev l n hb
theorem at_cn (l : List Int) (n : Nat) : impl_counts.at l n = cn l (n : Int) := rfl
theorem bagOk_all {l : List Int} (h : bagOk l = true) : (∀ x ∈ l, 0 ≤ x ∧ x < 10) ∧ l.length ≤ 16 := by
  simp only [bagOk, Bool.and_eq_true, allB_iff, decide_eq_true_eq, bagAt] at h
  refine ⟨fun x hx => ?_, h.2⟩
  obtain ⟨i, hi, rfl⟩ := List.mem_iff_getElem.1 hx
  have := h.1 i (by omega) (by omega)
  rw [rd_get hi] at this
  omega
theorem counts_eq {l : List Int} (h : bagOk l = true) {a : Int} (h0 : 0 ≤ a) (h1 : a < 10) : impl_counts.f l a = some (cn l a) := by
  have := bagOk_all h
  unfold impl_counts.f
  rw [if_pos ⟨⟨this.1, by omega⟩, h0, h1⟩, at_cn, Int.toNat_of_nonneg h0]

-- part: bagTo
/-! ### multisets compared -/
def bagTo (a b : List Int) : Nat → Int
  | 0 => 0
  | n + 1 => if cn a n = cn b n then bagTo a b n else if cn a n < cn b n then -1 else 1
def bagCmp (a b : List Int) : Int := if bagOk a = true then (if bagOk b = true then bagTo a b 10 else -2) else -2

-- part: bagCmp
theorem to_bagTo (a b : List Int) : ∀ n, impl_BagCompare.to a b n = bagTo a b n
  | 0 => rfl
  | n + 1 => by rw [impl_BagCompare.to, bagTo, to_bagTo a b n, at_cn, at_cn]
theorem impl_BagCompare_ev (a b : List Int) (ha : a.length ≤ 140737488351232) (hb : b.length ≤ 140737488351232) : Ev (fun k => impl_BagCompare.f k a b) (bagCmp a b) := by
  unfold impl_BagCompare.f bagCmp
  refine Ev.bind (impl_BagValid_ev a ha) ?_
  cases h1 : bagOk a with
  | false => simp only [Bool.false_eq_true, if_false]; exact Ev.now _
  | true =>
    simp only [if_true]
    refine Ev.bind (impl_BagValid_ev b hb) ?_
    cases h2 : bagOk b with
    | false => simp only [Bool.false_eq_true, if_false]; exact Ev.now _
    | true =>
      simp only [if_true, counts_eq h1 (a := 0) (by decide) (by decide), counts_eq h2 (a := 0) (by decide) (by decide), Option.bind_some]
      exact ev_now (to_bagTo a b 10)
theorem spec_BagCompare_l0 (a b : List Int) (ha : a.length ≤ 140737488351232) (hb : b.length ≤ 140737488351232) : ∀ n : Nat, n ≤ 10 → Ev (fun k => spec_BagCompare.l0 k a b ((n : Int) - 1)) (bagTo a b n) := by
  intro n
  induction n with
  | zero =>
    intro _
    refine ev_s ?_
    simp only [spec_BagCompare.l0, if_neg (show ¬ ((((0 : Nat) : Int) - 1) ≥ 0) by decide)]
    exact Ev.now _
  | succ n ih =>
    intro hn
    refine ev_s ?_
    have e : (((n + 1 : Nat) : Int) - 1) = (n : Int) := by omega
    simp only [e, spec_BagCompare.l0, if_pos (show (n : Int) ≥ 0 by omega)]
    refine Ev.bind (l6Many_cn a n ha) ?_
    refine Ev.bind (l6Many_cn b n hb) ?_
    rw [bagTo]
    by_cases h1 : cn a n < cn b n
    · simp only [if_pos h1, if_neg (show ¬ cn a n = cn b n by omega)]; exact Ev.now _
    · by_cases h2 : cn a n > cn b n
      · simp only [if_neg h1, if_pos h2, if_neg (show ¬ cn a n = cn b n by omega)]; exact Ev.now _
      · simp only [if_neg h1, if_neg h2, if_pos (show cn a n = cn b n by omega), show wrap64 ((n : Int) - 1) = (n : Int) - 1 from wrap_in (by omega) (by omega)]
        exact ih (by omega)
theorem spec_BagCompare_ev (a b : List Int) (ha : a.length ≤ 140737488351232) (hb : b.length ≤ 140737488351232) : Ev (fun k => spec_BagCompare.f k a b) (bagCmp a b) := by
  unfold spec_BagCompare.f bagCmp
  refine Ev.bind (spec_BagValid_ev a ha) ?_
  cases h1 : bagOk a with
  | false =>
    simp only [Bool.false_eq_true, if_false]
    refine ev_s ?_
    simp only [spec_BagCompare.j0, if_true]; exact Ev.now _
  | true =>
    simp only [if_true]
    refine Ev.bind (spec_BagValid_ev b hb) ?_
    cases h2 : bagOk b with
    | false =>
      simp only [Bool.false_eq_true, if_false, Bool.not_false]
      refine ev_s ?_
      simp only [spec_BagCompare.j0, if_true]; exact Ev.now _
    | true =>
      simp only [if_true, Bool.not_true]
      refine ev_s ?_
      simp only [spec_BagCompare.j0, Bool.false_eq_true, if_false]
      exact spec_BagCompare_l0 a b ha hb 10 (by omega)

-- part: bagBelow
/-! ### one below the other -/
theorem slices_Equal_ev (a b : List Int) (hb : a.length ≤ 140737488351232) : Ev (fun k => slices_Equal_int_int.f k a b) (decide (a = b)) := by
  unfold slices_Equal_int_int.f
  by_cases hl : (a.length : Int) = (b.length : Int)
  · simp only [if_pos hl]
    refine eqIntS_l0 (fun k a b i => slices_Equal_int_int.l0 k a b (a.length : Int) i) ?_ a b (by omega) hb a.length 0 (by omega) (by simp)
    intro k a b i
    simp only [slices_Equal_int_int.l0]
    by_cases h1 : i < (a.length : Int)
    · simp only [if_pos h1]
    · simp only [if_neg h1]
  · simp only [if_neg hl]
    exact ev_now (Eq.symm (decide_eq_false (fun h => hl (by rw [h]))))
theorem cn_cons (x : Int) (l : List Int) (n : Int) : cn (x :: l) n = cn l n + if x = n then 1 else 0 := by
  unfold cn; rw [List.countP_cons]
  by_cases h : x = n <;> simp [h]
theorem cn_pos {l : List Int} {n : Int} (h : 0 < cn l n) : n ∈ l := by
  unfold cn at h
  have : 0 < l.countP (fun x => x == n) := by omega
  obtain ⟨x, hx, he⟩ := List.countP_pos_iff.1 this
  have : x = n := by simpa using he
  exact this ▸ hx
theorem bagOk_head {x : Int} {l : List Int} (h : bagOk (x :: l) = true) : ∀ y ∈ l, y ≤ x := by
  have hd := h
  simp only [bagOk, Bool.and_eq_true, allB_iff, decide_eq_true_eq, bagAt] at h
  have key : ∀ i, i < (x :: l).length → rd (x :: l) (i : Int) ≤ x := by
    intro i
    induction i with
    | zero => intro _; simp [rd]
    | succ i ih =>
      intro hi
      have h3 := (h.1 (i + 1) (by omega) (by omega)).2.2 (by omega)
      have := ih (by omega)
      rw [Nat.add_sub_cancel] at h3
      omega
  intro y hy
  obtain ⟨i, hi, rfl⟩ := List.mem_iff_getElem.1 hy
  have := key (i + 1) (by simp; omega)
  rw [rd_get (by simp; omega)] at this
  simpa using this
theorem bag_ext : ∀ (a b : List Int), bagOk a = true → bagOk b = true → (∀ n : Int, cn a n = cn b n) → a = b
  | [], [], _, _, _ => rfl
  | [], y :: b, _, _, h => by
    have h1 := h y
    rw [cn_cons, if_pos rfl] at h1
    have h2 := cn_nonneg b y
    have h3 : cn [] y = 0 := rfl
    omega
  | x :: a, [], _, _, h => by
    have h1 := h x
    rw [cn_cons, if_pos rfl] at h1
    have h2 := cn_nonneg a x
    have h3 : cn [] x = 0 := rfl
    omega
  | x :: a, y :: b, ha, hb, h => by
    have hxy : x = y := by
      have hx := h x
      have hy := h y
      rw [cn_cons, if_pos rfl] at hx
      rw [cn_cons y b y, if_pos rfl] at hy
      have p1 := cn_nonneg a x
      have p2 := cn_nonneg b y
      have m1 : x ∈ y :: b := cn_pos (by omega)
      have m2 : y ∈ x :: a := cn_pos (by omega)
      have l1 : x ≤ y := by
        rcases List.mem_cons.1 m1 with e | e
        · omega
        · exact bagOk_head hb x e
      have l2 : y ≤ x := by
        rcases List.mem_cons.1 m2 with e | e
        · omega
        · exact bagOk_head ha y e
      omega
    subst hxy
    have ha' : bagOk a = true := bagOk_drop ha 1
    have hb' : bagOk b = true := bagOk_drop hb 1
    rw [bag_ext a b ha' hb' (fun n => by have := h n; rw [cn_cons, cn_cons] at this; omega)]
theorem cn_out {l : List Int} (h : bagOk l = true) {n : Int} (hn : ¬ (0 ≤ n ∧ n < 10)) : cn l n = 0 := by
  have h0 := cn_nonneg l n
  by_cases hp : 0 < cn l n
  · exact absurd ((bagOk_all h).1 n (cn_pos hp)) hn
  · omega
theorem bagTo_zero (a b : List Int) : ∀ n, bagTo a b n = 0 ↔ ∀ m : Nat, m < n → cn a m = cn b m
  | 0 => by simp [bagTo]
  | n + 1 => by
    rw [bagTo]
    by_cases h : cn a n = cn b n
    · rw [if_pos h, bagTo_zero a b n]
      constructor
      · intro g m hm
        by_cases e : m = n
        · subst e; exact h
        · exact g m (by omega)
      · intro g m hm; exact g m (by omega)
    · rw [if_neg h]
      constructor
      · intro g; split at g <;> omega
      · intro g; exact absurd (g n (by omega)) h
theorem bagTo_range (a b : List Int) : ∀ n, bagTo a b n = 0 ∨ bagTo a b n = -1 ∨ bagTo a b n = 1
  | 0 => .inl rfl
  | n + 1 => by
    rw [bagTo]; split
    · exact bagTo_range a b n
    · split
      · exact .inr (.inl rfl)
      · exact .inr (.inr rfl)
theorem bag_eq_iff {a b : List Int} (ha : bagOk a = true) (hb : bagOk b = true) : bagTo a b 10 = 0 ↔ a = b := by
  rw [bagTo_zero]
  constructor
  · intro h
    refine bag_ext a b ha hb fun n => ?_
    by_cases hn : 0 ≤ n ∧ n < 10
    · have := h n.toNat (by omega)
      rw [Int.toNat_of_nonneg hn.1] at this
      exact this
    · rw [cn_out ha hn, cn_out hb hn]
  · intro h m _; rw [h]
/-- What the program asks, from above. -/
def belTo (a b : List Int) : Nat → Bool → Bool
  | 0, _ => true
  | n + 1, c => if cn b n < cn a n ∧ c = false then false else belTo a b n (c || decide (cn a n < cn b n))
theorem to_belTo (a b : List Int) : ∀ n c, impl_BagBelow.to a b n c = belTo a b n c
  | 0, _ => rfl
  | n + 1, c => by rw [impl_BagBelow.to, belTo, to_belTo a b n, at_cn, at_cn]
theorem belTo_iff (a b : List Int) : ∀ n c, belTo a b n c = true ↔ ∀ j : Nat, j < n → cn b j < cn a j → c = true ∨ ∃ m : Nat, j < m ∧ m < n ∧ cn a m < cn b m
  | 0, c => by simp [belTo]
  | n + 1, c => by
    rw [belTo]
    by_cases h : cn b n < cn a n ∧ c = false
    · rw [if_pos h]
      refine ⟨fun g => absurd g (by simp), fun g => ?_⟩
      rcases g n (by omega) h.1 with e | ⟨m, h1, h2, _⟩
      · rw [h.2] at e; exact e
      · omega
    · rw [if_neg h, belTo_iff a b n]
      constructor
      · intro g j hj hl
        by_cases e : j = n
        · subst e
          refine .inl ?_
          cases c with
          | true => rfl
          | false => exact absurd ⟨hl, rfl⟩ h
        · rcases g j (by omega) hl with e1 | ⟨m, h1, h2, h3⟩
          · rw [Bool.or_eq_true, decide_eq_true_eq] at e1
            rcases e1 with e1 | e1
            · exact .inl e1
            · exact .inr ⟨n, by omega, by omega, e1⟩
          · exact .inr ⟨m, h1, by omega, h3⟩
      · intro g j hj hl
        rcases g j (by omega) hl with e1 | ⟨m, h1, h2, h3⟩
        · exact .inl (by simp [e1])
        · by_cases e : m = n
          · subst e; exact .inl (by simp [h3])
          · exact .inr ⟨m, h1, by omega, h3⟩
def bagBel (a b : List Int) : Bool := bagOk a && bagOk b && decide (a ≠ b) && belTo a b 10 false
theorem impl_BagBelow_ev (a b : List Int) (ha : a.length ≤ 140737488351232) (hb : b.length ≤ 140737488351232) : Ev (fun k => impl_BagBelow.f k a b) (bagBel a b) := by
  unfold impl_BagBelow.f bagBel
  refine Ev.bind (impl_BagValid_ev a ha) ?_
  cases h1 : bagOk a with
  | false => simp only [Bool.false_eq_true, if_false, Bool.false_and]; exact Ev.now _
  | true =>
    simp only [if_true, Bool.true_and]
    refine Ev.bind (impl_BagValid_ev b hb) ?_
    cases h2 : bagOk b with
    | false => simp only [Bool.false_eq_true, if_false, Bool.false_and]; exact Ev.now _
    | true =>
      simp only [if_true, Bool.true_and]
      refine Ev.bind (slices_Equal_ev a b ha) ?_
      by_cases h : a = b
      · simp only [h, decide_true, if_true]; exact ev_now (by simp)
      · simp only [h, decide_false, Bool.false_eq_true, if_false, counts_eq h1 (a := 0) (by decide) (by decide), counts_eq h2 (a := 0) (by decide) (by decide), Option.bind_some]
        exact ev_now (by rw [to_belTo]; simp [h])

-- part: bagBelowSpec
/-! ### the reference's way -/
theorem bool_of (P : Prop) : ∃ b : Bool, b = true ↔ P := by
  by_cases h : P
  · exact ⟨true, by simp [h]⟩
  · exact ⟨false, by simp [h]⟩
theorem spec_BagBelow_l1 (a b : List Int) (ha : a.length ≤ 140737488351232) (hb : b.length ≤ 140737488351232) (n : Nat) (hn : n < 10) {R : Bool} (hR : Ev (fun k => spec_BagBelow.l0 k a b ((n + 1 : Nat) : Int)) R) : ∀ (d m : Nat) (s T : Bool), m + d = 10 → (T = true ↔ (s = true ∨ ∃ q : Nat, m ≤ q ∧ q < 10 ∧ cn a q < cn b q) ∧ R = true) → Ev (fun k => spec_BagBelow.l1 k a b (n : Int) s (m : Int)) T := by
  intro d
  induction d with
  | zero =>
    intro m s T h hT
    refine ev_s ?_
    simp only [spec_BagBelow.l1, if_neg (show ¬ ((m : Int) ≤ 9) by omega)]
    have he : ¬ ∃ q : Nat, m ≤ q ∧ q < 10 ∧ cn a q < cn b q := by rintro ⟨q, h1, h2, _⟩; omega
    cases s with
    | false =>
      simp only [Bool.false_eq_true, if_false]
      refine ev_now ?_
      cases T with
      | false => rfl
      | true =>
        rcases (hT.1 rfl).1 with e | e
        · exact absurd e (by simp)
        · exact absurd e he
    | true =>
      simp only [if_true, show wrap64 ((n : Int) + 1) = ((n + 1 : Nat) : Int) from wrap_nat2 n 1 (by omega)]
      refine ev_eq hR ?_
      rw [Bool.eq_iff_iff, hT]
      exact ⟨fun h => ⟨.inl rfl, h⟩, fun h => h.2⟩
  | succ d ih =>
    intro m s T h hT
    refine ev_s ?_
    simp only [spec_BagBelow.l1, if_pos (show (m : Int) ≤ 9 by omega), show wrap64 ((m : Int) + 1) = ((m + 1 : Nat) : Int) from wrap_nat2 m 1 (by omega)]
    cases s with
    | true =>
      simp only [if_true]
      refine ih (m + 1) true T (by omega) ?_
      rw [hT]
      exact ⟨fun g => ⟨.inl rfl, g.2⟩, fun g => ⟨.inl rfl, g.2⟩⟩
    | false =>
      simp only [Bool.false_eq_true, if_false]
      refine Ev.bind (l6Many_cn b m hb) ?_
      refine Ev.bind (l6Many_cn a m ha) ?_
      refine ih (m + 1) _ T (by omega) ?_
      rw [hT, decide_eq_true_eq]
      constructor
      · rintro ⟨h1 | ⟨q, h1, h2, h3⟩, hr⟩
        · exact absurd h1 (by simp)
        · refine ⟨?_, hr⟩
          by_cases e : q = m
          · subst e; exact .inl h3
          · exact .inr ⟨q, by omega, h2, h3⟩
      · rintro ⟨h1 | ⟨q, h1, h2, h3⟩, hr⟩
        · exact ⟨.inr ⟨m, Nat.le_refl _, by omega, h1⟩, hr⟩
        · exact ⟨.inr ⟨q, by omega, h2, h3⟩, hr⟩
theorem spec_BagBelow_l0 (a b : List Int) (ha : a.length ≤ 140737488351232) (hb : b.length ≤ 140737488351232) : ∀ (d n : Nat) (T : Bool), n + d = 10 → (T = true ↔ ∀ j : Nat, n ≤ j → j < 10 → cn b j < cn a j → ∃ m : Nat, j < m ∧ m < 10 ∧ cn a m < cn b m) → Ev (fun k => spec_BagBelow.l0 k a b (n : Int)) T := by
  intro d
  induction d with
  | zero =>
    intro n T h hT
    refine ev_s ?_
    simp only [spec_BagBelow.l0, if_neg (show ¬ ((n : Int) ≤ 9) by omega)]
    exact ev_now (Eq.symm (hT.2 (fun j h1 h2 => by omega)))
  | succ d ih =>
    intro n T h hT
    obtain ⟨R, hR⟩ := bool_of (∀ j : Nat, n + 1 ≤ j → j < 10 → cn b j < cn a j → ∃ m : Nat, j < m ∧ m < 10 ∧ cn a m < cn b m)
    have ih := ih (n + 1) R (by omega) hR
    refine ev_s ?_
    simp only [spec_BagBelow.l0, if_pos (show (n : Int) ≤ 9 by omega), show wrap64 ((n : Int) + 1) = ((n + 1 : Nat) : Int) from wrap_nat2 n 1 (by omega)]
    refine Ev.bind (l6Many_cn a n ha) ?_
    refine Ev.bind (l6Many_cn b n hb) ?_
    by_cases hle : cn a n ≤ cn b n
    · simp only [if_pos hle]
      refine ev_eq ih ?_
      rw [Bool.eq_iff_iff, hT, hR]
      constructor
      · intro g j h1 h2 h3
        by_cases e : j = n
        · subst e; omega
        · exact g j (by omega) h2 h3
      · intro g j h1 h2 h3; exact g j (by omega) h2 h3
    · simp only [if_neg hle]
      refine spec_BagBelow_l1 a b ha hb n (by omega) ih (9 - n) (n + 1) false T (by omega) ?_
      rw [hT, hR]
      constructor
      · intro g
        obtain ⟨m, h1, h2, h3⟩ := g n (Nat.le_refl _) (by omega) (by omega)
        exact ⟨.inr ⟨m, by omega, h2, h3⟩, fun j h4 h5 h6 => g j (by omega) h5 h6⟩
      · rintro ⟨h1 | ⟨q, h1, h2, h3⟩, g⟩ j h4 h5 h6
        · exact absurd h1 (by simp)
        · by_cases e : j = n
          · subst e; exact ⟨q, by omega, h2, h3⟩
          · exact g j (by omega) h5 h6
theorem spec_BagBelow_ev (a b : List Int) (ha : a.length ≤ 140737488351232) (hb : b.length ≤ 140737488351232) : Ev (fun k => spec_BagBelow.f k a b) (bagBel a b) := by
  unfold spec_BagBelow.f
  have hc := spec_BagCompare_ev a b ha hb
  refine Ev.bind hc ?_
  by_cases hm : bagCmp a b = -2
  · simp only [if_pos hm]
    refine ev_s ?_
    simp only [spec_BagBelow.j0, if_true]
    refine ev_now ?_
    unfold bagBel
    cases h1 : bagOk a with
    | false => simp
    | true =>
      cases h2 : bagOk b with
      | false => simp
      | true =>
        unfold bagCmp at hm
        rw [if_pos h1, if_pos h2] at hm
        have := bagTo_range a b 10
        omega
  · simp only [if_neg hm]
    refine Ev.bind hc ?_
    have hok : bagOk a = true ∧ bagOk b = true := by
      unfold bagCmp at hm
      by_cases h1 : bagOk a = true
      · by_cases h2 : bagOk b = true
        · exact ⟨h1, h2⟩
        · rw [if_pos h1, if_neg h2] at hm; exact absurd rfl hm
      · rw [if_neg h1] at hm; exact absurd rfl hm
    have hce : bagCmp a b = bagTo a b 10 := by unfold bagCmp; rw [if_pos hok.1, if_pos hok.2]
    refine ev_s ?_
    simp only [spec_BagBelow.j0, hce]
    by_cases h0 : bagTo a b 10 = 0
    · have he := (bag_eq_iff hok.1 hok.2).1 h0
      simp only [h0, BEq.rfl, if_true]
      exact ev_now (by simp [bagBel, he])
    · have he : a ≠ b := fun e => h0 ((bag_eq_iff hok.1 hok.2).2 e)
      have hb0 : (bagTo a b 10 == 0) = false := by simpa using h0
      simp only [hb0, Bool.false_eq_true, if_false]
      refine spec_BagBelow_l0 a b ha hb 10 0 (bagBel a b) (by omega) ?_
      unfold bagBel
      rw [hok.1, hok.2, decide_eq_true he, Bool.true_and, Bool.true_and, Bool.true_and, belTo_iff]
      constructor
      · intro g j _ h1 h2
        rcases g j h1 h2 with e | e
        · exact absurd e (by simp)
        · exact e
      · intro g j h1 h2; exact .inr (g j (by omega) h1 h2)

-- part: law_FnExactBagBelow
theorem FnExactBagBelow : laws_FnExactBagBelow.Pure := by
  intro l0 l1 _ hl _ _ hl1 _
  refine Ev.rounds ?_
  simp only [laws_FnExactBagBelow.f]
  by_cases hb : (l0.length : Int) > 1048576
  · simp only [if_pos hb]; exact Ev.now _
  · simp only [if_neg hb]
    by_cases hb1 : (l1.length : Int) > 1048576
    · simp only [if_pos hb1]; exact Ev.now _
    · simp only [if_neg hb1]
      have ht := toIntS_ev l0 (by omega)
      have ht1 := toIntS_ev l1 (by omega)
      refine Ev.bind ht ?_
      refine Ev.bind ht1 ?_
      refine Ev.bind (spec_BagBelow_ev l0 l1 (by omega) (by omega)) ?_
      refine Ev.bind ht ?_
      refine Ev.bind ht1 ?_
      refine Ev.bind (impl_BagBelow_ev l0 l1 (by omega) (by omega)) ?_
      simp only [bne_self_eq_false, Bool.false_eq_true, if_false]
      refine Ev.bind ht ?_
      refine Ev.bind (eqIntS_ev l0 l0 (by omega)) ?_
      simp only [decide_true, if_true]
      refine Ev.bind ht1 ?_
      refine Ev.bind (eqIntS_ev l1 l1 (by omega)) ?_
      simp only [decide_true, if_true]
      exact Ev.now _

end Go.Proofs.Ytmgpdneehdnjlaa.Pure

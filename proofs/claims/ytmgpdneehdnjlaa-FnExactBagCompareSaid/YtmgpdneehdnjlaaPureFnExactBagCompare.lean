/- The law FnExactBagCompare returns true for every input that the statement lets in; no condition of our own. -/
import Derived.Test.YtmgpdneehdnjlaaCax2
namespace Go.Proofs.Ytmgpdneehdnjlaa.Pure
open Go.RowKit Go.Proofs.Ytmgpdneehdnjlaa.Ca Go.Proofs.YtmgpdneehdnjlaaW.PrintWords Go.Proofs.YtmgpdneehdnjlaaW.PrintLast
set_option linter.unusedVariables false
set_option linter.unusedSimpArgs false

-- part: base
/-! ### words of mine -/
theorem ev_s {α : Type} {g : Nat → Option α} {r : α} (h : Ev (fun k => g (k + 1)) r) : Ev g r := Ev.step (fun _ => rfl) h
theorem ev_eq {α : Type} {g : Nat → Option α} {r q : α} (h : Ev g r) (e : r = q) : Ev g q := e ▸ h
theorem ev_now {α : Type} {r q : α} (e : r = q) : Ev (fun _ => some r) q := e ▸ Ev.now r
theorem wrap_in {x : Int} (h0 : -9223372036854775808 ≤ x) (h1 : x ≤ 9223372036854775807) : wrap64 x = x := by unfold wrap64; omega
theorem rd_eq (xs : List Int) (i : Nat) : rd xs (i : Int) = xs.getD i 0 := by simp [rd]
theorem rd_get {xs : List Int} {i : Nat} (h : i < xs.length) : rd xs (i : Int) = xs[i] := by simp [rd, h]
theorem wrap_nat2 (a b : Nat) (h : a + b < 4611686018427387904) : wrap64 ((a : Int) + (b : Int)) = ((a + b : Nat) : Int) := by rw [wrap_in (by omega) (by omega)]; omega
theorem ev_const {α : Type} {x : Option α} {a : α} (h : x = some a) : Ev (fun _ => x) a := by subst h; exact Ev.now a

-- part: toIntS
theorem toIntS_l0 (l : List Int) (hl : l.length ≤ 35184372088832) : ∀ (d i : Nat) (x : List Int), i + d = l.length → x.length = l.length → x.take i = l.take i → Ev (fun k => laws_toIntS.l0 k l x i) l := by
  intro d
  induction d with
  | zero =>
    intro i x h hx ht
    refine ev_s ?_
    simp only [laws_toIntS.l0]
    rw [show i = l.length by omega] at ht ⊢
    simp only [if_neg (show ¬ ((l.length : Int) < (l.length : Int)) by omega)]
    rw [List.take_of_length_le (by omega), List.take_length] at ht
    rw [ht]; exact Ev.now _
  | succ d ih =>
    intro i x h hx ht
    refine ev_s ?_
    simp only [laws_toIntS.l0]
    simp only [if_pos (show (i : Int) < (l.length : Int) by omega), if_pos (show (0 : Int) ≤ (i : Int) by omega), if_pos (show (i : Int) < (x.length : Int) by omega), show wrap64 ((i : Int) + 1) = ((i + 1 : Nat) : Int) by rw [wrap_in (by omega) (by omega)]; rfl, Int.toNat_natCast]
    refine ih (i + 1) _ (by omega) (by simpa using hx) ?_
    rw [rd_get (show i < l.length by omega)]
    apply List.ext_getElem?
    intro j
    have := congrArg (fun z => z[j]?) ht
    simp only [List.getElem?_take] at this ⊢
    by_cases hj : j < i
    · rw [if_pos hj, if_pos hj] at this
      rw [if_pos (by omega), if_pos (by omega), List.getElem?_set_ne (by omega)]; exact this
    · by_cases hji : j = i
      · subst hji
        rw [if_pos (by omega), if_pos (by omega), List.getElem?_set_self (by omega), List.getElem?_eq_getElem (by omega)]
      · rw [if_neg (by omega), if_neg (by omega)]
theorem toIntS_ev (l : List Int) (hl : l.length ≤ 35184372088832) : Ev (fun k => laws_toIntS.f k l) l := by
  simp only [laws_toIntS.f, Int.toNat_natCast, if_pos (show (0 : Int) ≤ (l.length : Int) by omega), if_pos hl]
  exact toIntS_l0 l hl l.length 0 _ (by omega) (by simp) (by simp)

-- part: eqLoop
theorem eqIntS_l0 (F : Nat → List Int → List Int → Int → Option Bool)
    (h0 : ∀ k a b i, F (k + 1) a b i = if i < (a.length : Int) then (if 0 ≤ i then (if i < (b.length : Int) then (if (rd a i) = (rd b i) then (F k a b (wrap64 (i + 1))) else (some false)) else none) else none) else some true)
    (a b : List Int) (hl : a.length = b.length) (hb : a.length ≤ 140737488351232) : ∀ (d i : Nat), i + d = a.length → a.take i = b.take i → Ev (fun k => F k a b i) (decide (a = b)) := by
  intro d
  induction d with
  | zero =>
    intro i h ht
    refine ev_s ?_
    simp only [h0]
    simp only [if_neg (show ¬ ((i : Int) < (a.length : Int)) by omega)]
    rw [List.take_of_length_le (by omega), List.take_of_length_le (by omega)] at ht
    simp only [ht, decide_true]; exact Ev.now _
  | succ d ih =>
    intro i h ht
    refine ev_s ?_
    simp only [h0]
    simp only [if_pos (show (i : Int) < (a.length : Int) by omega), if_pos (show (0 : Int) ≤ (i : Int) by omega), if_pos (show (i : Int) < (b.length : Int) by omega), show wrap64 ((i : Int) + 1) = ((i + 1 : Nat) : Int) by rw [wrap_in (by omega) (by omega)]; rfl]
    rw [rd_get (show i < a.length by omega), rd_get (show i < b.length by omega)]
    by_cases he : a[i] = b[i]
    · simp only [if_pos he]
      refine ih (i + 1) (by omega) ?_
      rw [List.take_succ_eq_append_getElem (by omega), List.take_succ_eq_append_getElem (by omega), ht, he]
    · simp only [if_neg he]
      refine ev_now (Eq.symm (decide_eq_false (fun hab => he ?_)))
      subst hab; rfl

-- part: eqIntS
theorem eqIntS_ev (a b : List Int) (hb : a.length ≤ 140737488351232) : Ev (fun k => laws_eqIntS.f k a b) (decide (a = b)) := by
  simp only [laws_eqIntS.f]
  by_cases hl : a.length = b.length
  · simp only [if_pos (show (a.length : Int) = (b.length : Int) by omega)]
    exact eqIntS_l0 laws_eqIntS.l0 (fun _ _ _ _ => rfl) a b hl hb a.length 0 (by omega) (by simp)
  · simp only [if_neg (show ¬ ((a.length : Int) = (b.length : Int)) by omega)]
    exact ev_now (Eq.symm (decide_eq_false (fun hab => hl (by rw [hab]))))

-- part: l1In
theorem l1In_eq (n lo hi : Int) : spec_l1In.f n lo hi = some (decide (lo ≤ n ∧ n ≤ hi)) := by
  unfold spec_l1In.f
  by_cases h : n ≥ lo
  · rw [if_pos h]; simp [show lo ≤ n from h]
  · rw [if_neg h]; simp [show ¬ lo ≤ n from h]

-- part: allB
def allB (f : Nat → Bool) : Nat → Nat → Bool
  | 0, _ => true
  | d + 1, i => f i && allB f d (i + 1)
theorem allB_iff (f : Nat → Bool) : ∀ d i, allB f d i = true ↔ ∀ m, i ≤ m → m < i + d → f m = true
  | 0, i => by simp [allB]; omega
  | d + 1, i => by
    rw [allB, Bool.and_eq_true, allB_iff f d (i + 1)]
    constructor
    · rintro ⟨h1, h2⟩ m hm hm2
      by_cases h : m = i
      · subst h; exact h1
      · exact h2 m (by omega) (by omega)
    · intro h
      exact ⟨h i (by omega) (by omega), fun m h1 h2 => h m (by omega) (by omega)⟩

-- part: BagValid
/-- What both of them ask at a place. -/
def bagAt (l : List Int) (i : Nat) : Bool := decide (0 ≤ rd l (i : Int) ∧ rd l (i : Int) ≤ 9 ∧ (0 < i → rd l (i : Int) ≤ rd l ((i - 1 : Nat) : Int)))
def bagOk (l : List Int) : Bool := allB (bagAt l) l.length 0 && decide (l.length ≤ 16)
theorem spec_BagValid_l0 (l : List Int) (hb : l.length ≤ 140737488351232) : ∀ (d i : Nat), i + d = l.length → Ev (fun k => spec_BagValid.l0 k l (i : Int)) (allB (bagAt l) d i && decide (l.length ≤ 16)) := by
  intro d
  induction d with
  | zero =>
    intro i h
    refine ev_s ?_
    simp only [spec_BagValid.l0, if_neg (show ¬ ((i : Int) < (l.length : Int)) by omega), allB, Bool.true_and]
    exact ev_now (decide_eq_decide.mpr (by omega))
  | succ d ih =>
    intro i h
    refine ev_s ?_
    simp only [spec_BagValid.l0, l1In_eq, Option.bind_some, if_pos (show (i : Int) < (l.length : Int) by omega), if_pos (show (0 : Int) ≤ (i : Int) by omega), show wrap64 ((i : Int) + 1) = ((i + 1 : Nat) : Int) by rw [wrap_in (by omega) (by omega)]; rfl, allB]
    by_cases h1 : 0 ≤ rd l (i : Int) ∧ rd l (i : Int) ≤ 9
    · simp only [decide_eq_true h1, if_true]
      by_cases h0 : (i : Int) > 0
      · have e : wrap64 ((i : Int) - 1) = ((i - 1 : Nat) : Int) := by rw [wrap_in (by omega) (by omega)]; omega
        simp only [if_pos h0, e, if_pos (show (0 : Int) ≤ ((i - 1 : Nat) : Int) by omega), if_pos (show ((i - 1 : Nat) : Int) < (l.length : Int) by omega)]
        by_cases h2 : rd l (i : Int) > rd l ((i - 1 : Nat) : Int)
        · have hf : bagAt l i = false := decide_eq_false (fun hh => by have := hh.2.2 (by omega); omega)
          simp only [if_pos h2, hf, Bool.false_and]; exact Ev.now _
        · have ht : bagAt l i = true := decide_eq_true ⟨h1.1, h1.2, fun _ => by omega⟩
          simp only [if_neg h2, ht, Bool.true_and]; exact ih (i + 1) (by omega)
      · have ht : bagAt l i = true := decide_eq_true ⟨h1.1, h1.2, fun _ => by omega⟩
        simp only [if_neg h0, ht, Bool.true_and]; exact ih (i + 1) (by omega)
    · have hf : bagAt l i = false := decide_eq_false (fun hh => h1 ⟨hh.1, hh.2.1⟩)
      simp only [decide_eq_false h1, Bool.false_eq_true, if_false, hf, Bool.false_and]; exact Ev.now _
theorem spec_BagValid_ev (l : List Int) (hb : l.length ≤ 140737488351232) : Ev (fun k => spec_BagValid.f k l) (bagOk l) := spec_BagValid_l0 l hb l.length 0 (by omega)
theorem impl_BagValid_l0 (l : List Int) (hb : l.length ≤ 140737488351232) : ∀ (d i : Nat), i + d = l.length → Ev (fun k => impl_BagValid.l0 k l l (l.length : Int) (i : Int)) (allB (bagAt l) d i && decide (l.length ≤ 16)) := by
  intro d
  induction d with
  | zero =>
    intro i h
    refine ev_s ?_
    simp only [impl_BagValid.l0, if_neg (show ¬ ((i : Int) < (l.length : Int)) by omega), allB, Bool.true_and]
    exact ev_now (decide_eq_decide.mpr (by omega))
  | succ d ih =>
    intro i h
    refine ev_s ?_
    simp only [impl_BagValid.l0, if_pos (show (i : Int) < (l.length : Int) by omega), if_pos (show (0 : Int) ≤ (i : Int) by omega), show wrap64 ((i : Int) + 1) = ((i + 1 : Nat) : Int) by rw [wrap_in (by omega) (by omega)]; rfl, allB]
    by_cases h1 : rd l (i : Int) < 0
    · have hf : bagAt l i = false := decide_eq_false (fun hh => by omega)
      simp only [if_pos h1, hf, Bool.false_and]; exact Ev.now _
    · by_cases h9 : rd l (i : Int) > 9
      · have hf : bagAt l i = false := decide_eq_false (fun hh => by omega)
        simp only [if_neg h1, if_pos h9, hf, Bool.false_and]; exact Ev.now _
      · simp only [if_neg h1, if_neg h9]
        by_cases h0 : (i : Int) > 0
        · have e : wrap64 ((i : Int) - 1) = ((i - 1 : Nat) : Int) := by rw [wrap_in (by omega) (by omega)]; omega
          simp only [if_pos h0, e, if_pos (show (0 : Int) ≤ ((i - 1 : Nat) : Int) by omega), if_pos (show ((i - 1 : Nat) : Int) < (l.length : Int) by omega)]
          by_cases h2 : rd l (i : Int) > rd l ((i - 1 : Nat) : Int)
          · have hf : bagAt l i = false := decide_eq_false (fun hh => by have := hh.2.2 (by omega); omega)
            simp only [if_pos h2, hf, Bool.false_and]; exact Ev.now _
          · have ht : bagAt l i = true := decide_eq_true ⟨by omega, by omega, fun _ => by omega⟩
            simp only [if_neg h2, ht, Bool.true_and]; exact ih (i + 1) (by omega)
        · have ht : bagAt l i = true := decide_eq_true ⟨by omega, by omega, fun _ => by omega⟩
          simp only [if_neg h0, ht, Bool.true_and]; exact ih (i + 1) (by omega)
theorem impl_BagValid_ev (l : List Int) (hb : l.length ≤ 140737488351232) : Ev (fun k => impl_BagValid.f k l) (bagOk l) := impl_BagValid_l0 l hb l.length 0 (by omega)
theorem rd_drop (l : List Int) (a i : Nat) : rd (l.drop a) (i : Int) = rd l ((a + i : Nat) : Int) := by simp only [rd, Int.toNat_natCast, List.getD_eq_getElem?_getD, List.getElem?_drop]
theorem bagOk_drop {l : List Int} (h : bagOk l = true) (a : Nat) : bagOk (l.drop a) = true := by
  simp only [bagOk, Bool.and_eq_true, allB_iff, decide_eq_true_eq, bagAt, rd_drop] at h ⊢
  refine ⟨fun m _ hm => ?_, by simp; omega⟩
  rw [List.length_drop] at hm
  obtain ⟨h1, h2, h3⟩ := h.1 (a + m) (by omega) (by omega)
  refine ⟨h1, h2, fun h0 => ?_⟩
  have := h3 (by omega)
  rw [show a + m - 1 = a + (m - 1) by omega] at this
  exact this

-- part: l6Many
theorem l6Many_l0 (l : List Int) (n : Int) (hb : l.length ≤ 140737488351232) : ∀ (d i c : Nat), i + d = l.length → c ≤ i → Ev (fun k => spec_l6Many.l0 k l n (c : Int) (i : Int)) ((c + (l.drop i).count n : Nat) : Int) := by
  intro d
  induction d with
  | zero =>
    intro i c h _
    refine ev_s ?_
    simp only [spec_l6Many.l0, if_neg (show ¬ ((i : Int) < (l.length : Int)) by omega)]
    rw [List.drop_of_length_le (by omega)]
    exact Ev.now _
  | succ d ih =>
    intro i c h hc
    refine ev_s ?_
    simp only [spec_l6Many.l0, if_pos (show (i : Int) < (l.length : Int) by omega), if_pos (show (0 : Int) ≤ (i : Int) by omega), show wrap64 ((i : Int) + 1) = ((i + 1 : Nat) : Int) by rw [wrap_in (by omega) (by omega)]; rfl, show wrap64 ((c : Int) + 1) = ((c + 1 : Nat) : Int) by rw [wrap_in (by omega) (by omega)]; rfl]
    rw [rd_get (show i < l.length by omega), List.drop_eq_getElem_cons (show i < l.length by omega)]
    by_cases he : l[i] = n
    · simp only [if_pos he]
      rw [he, List.count_cons_self, show c + ((l.drop (i + 1)).count n + 1) = (c + 1) + (l.drop (i + 1)).count n by omega]
      exact ih (i + 1) (c + 1) (by omega) (by omega)
    · simp only [if_neg he]
      rw [List.count_cons_of_ne (fun e => he e)]
      exact ih (i + 1) c (by omega) (by omega)
theorem l6Many_ev (l : List Int) (n : Int) (hb : l.length ≤ 140737488351232) : Ev (fun k => spec_l6Many.f k l n) ((l.count n : Nat) : Int) :=
  ev_eq (l6Many_l0 l n hb l.length 0 0 (by omega) (by omega)) (by simp)

-- part: bagCnt
/-! ### how often a number is in a multiset -/
def cn (l : List Int) (n : Int) : Int := ((l.countP (fun x => x == n) : Nat) : Int)
theorem cn_nonneg (l : List Int) (n : Int) : 0 ≤ cn l n := by unfold cn; omega
theorem cn_le (l : List Int) (n : Int) : cn l n ≤ l.length := by
  have := List.countP_le_length (p := fun x => x == n) (l := l)
  unfold cn; omega
theorem l6Many_cn (l : List Int) (n : Int) (hb : l.length ≤ 140737488351232) : Ev (fun k => spec_l6Many.f k l n) (cn l n) := l6Many_ev l n hb
theorem at_cn (l : List Int) (n : Nat) : impl_counts.at l n = cn l (n : Int) := rfl
theorem bagOk_all {l : List Int} (h : bagOk l = true) : (∀ x ∈ l, 0 ≤ x ∧ x < 10) ∧ l.length ≤ 16 := by
  simp only [bagOk, Bool.and_eq_true, allB_iff, decide_eq_true_eq, bagAt] at h
  refine ⟨fun x hx => ?_, h.2⟩
  obtain ⟨i, hi, rfl⟩ := List.mem_iff_getElem.1 hx
  have := h.1 i (by omega) (by omega)
  rw [rd_get hi] at this
  omega
theorem counts_eq {l : List Int} (h : bagOk l = true) {a : Int} (h0 : 0 ≤ a) (h1 : a < 10) : impl_counts.f l a = some (cn l a) := by
  have := bagOk_all h
  unfold impl_counts.f
  rw [if_pos ⟨⟨this.1, by omega⟩, h0, h1⟩, at_cn, Int.toNat_of_nonneg h0]

-- part: bagTo
/-! ### multisets compared -/
def bagTo (a b : List Int) : Nat → Int
  | 0 => 0
  | n + 1 => if cn a n = cn b n then bagTo a b n else if cn a n < cn b n then -1 else 1
def bagCmp (a b : List Int) : Int := if bagOk a = true then (if bagOk b = true then bagTo a b 10 else -2) else -2

-- part: bagCmp
theorem to_bagTo (a b : List Int) : ∀ n, impl_BagCompare.to a b n = bagTo a b n
  | 0 => rfl
  | n + 1 => by rw [impl_BagCompare.to, bagTo, to_bagTo a b n, at_cn, at_cn]
theorem impl_BagCompare_ev (a b : List Int) (ha : a.length ≤ 140737488351232) (hb : b.length ≤ 140737488351232) : Ev (fun k => impl_BagCompare.f k a b) (bagCmp a b) := by
  unfold impl_BagCompare.f bagCmp
  refine Ev.bind (impl_BagValid_ev a ha) ?_
  cases h1 : bagOk a with
  | false => simp only [Bool.false_eq_true, if_false]; exact Ev.now _
  | true =>
    simp only [if_true]
    refine Ev.bind (impl_BagValid_ev b hb) ?_
    cases h2 : bagOk b with
    | false => simp only [Bool.false_eq_true, if_false]; exact Ev.now _
    | true =>
      simp only [if_true, counts_eq h1 (a := 0) (by decide) (by decide), counts_eq h2 (a := 0) (by decide) (by decide), Option.bind_some]
      exact ev_now (to_bagTo a b 10)
theorem spec_BagCompare_l0 (a b : List Int) (ha : a.length ≤ 140737488351232) (hb : b.length ≤ 140737488351232) : ∀ n : Nat, n ≤ 10 → Ev (fun k => spec_BagCompare.l0 k a b ((n : Int) - 1)) (bagTo a b n) := by
  intro n
  induction n with
  | zero =>
    intro _
    refine ev_s ?_
    simp only [spec_BagCompare.l0, if_neg (show ¬ ((((0 : Nat) : Int) - 1) ≥ 0) by decide)]
    exact Ev.now _
  | succ n ih =>
    intro hn
    refine ev_s ?_
    have e : (((n + 1 : Nat) : Int) - 1) = (n : Int) := by omega
    simp only [e, spec_BagCompare.l0, if_pos (show (n : Int) ≥ 0 by omega)]
    refine Ev.bind (l6Many_cn a n ha) ?_
    refine Ev.bind (l6Many_cn b n hb) ?_
    rw [bagTo]
    by_cases h1 : cn a n < cn b n
    · simp only [if_pos h1, if_neg (show ¬ cn a n = cn b n by omega)]; exact Ev.now _
    · by_cases h2 : cn a n > cn b n
      · simp only [if_neg h1, if_pos h2, if_neg (show ¬ cn a n = cn b n by omega)]; exact Ev.now _
      · simp only [if_neg h1, if_neg h2, if_pos (show cn a n = cn b n by omega), show wrap64 ((n : Int) - 1) = (n : Int) - 1 from wrap_in (by omega) (by omega)]
        exact ih (by omega)
theorem spec_BagCompare_ev (a b : List Int) (ha : a.length ≤ 140737488351232) (hb : b.length ≤ 140737488351232) : Ev (fun k => spec_BagCompare.f k a b) (bagCmp a b) := by
  unfold spec_BagCompare.f bagCmp
  refine Ev.bind (spec_BagValid_ev a ha) ?_
  cases h1 : bagOk a with
  | false =>
    simp only [Bool.false_eq_true, if_false]
    refine ev_s ?_
    simp only [spec_BagCompare.j0, if_true]; exact Ev.now _
  | true =>
    simp only [if_true]
    refine Ev.bind (spec_BagValid_ev b hb) ?_
    cases h2 : bagOk b with
    | false =>
      simp only [Bool.false_eq_true, if_false, Bool.not_false]
      refine ev_s ?_
      simp only [spec_BagCompare.j0, if_true]; exact Ev.now _
    | true =>
      simp only [if_true, Bool.not_true]
      refine ev_s ?_
      simp only [spec_BagCompare.j0, Bool.false_eq_true, if_false]
      exact spec_BagCompare_l0 a b ha hb 10 (by omega)

-- part: law_FnExactBagCompare
theorem FnExactBagCompare : laws_FnExactBagCompare.Pure := by
  intro l0 l1 _ hl _ _ hl1 _
  refine Ev.rounds ?_
  simp only [laws_FnExactBagCompare.f]
  by_cases hb : (l0.length : Int) > 1048576
  · simp only [if_pos hb]; exact Ev.now _
  · simp only [if_neg hb]
    by_cases hb1 : (l1.length : Int) > 1048576
    · simp only [if_pos hb1]; exact Ev.now _
    · simp only [if_neg hb1]
      have ht := toIntS_ev l0 (by omega)
      have ht1 := toIntS_ev l1 (by omega)
      refine Ev.bind ht ?_
      refine Ev.bind ht1 ?_
      refine Ev.bind (spec_BagCompare_ev l0 l1 (by omega) (by omega)) ?_
      refine Ev.bind ht ?_
      refine Ev.bind ht1 ?_
      refine Ev.bind (impl_BagCompare_ev l0 l1 (by omega) (by omega)) ?_
      simp only [if_true]
      refine Ev.bind ht ?_
      refine Ev.bind (eqIntS_ev l0 l0 (by omega)) ?_
      simp only [decide_true, if_true]
      refine Ev.bind ht1 ?_
      refine Ev.bind (eqIntS_ev l1 l1 (by omega)) ?_
      simp only [decide_true, if_true]
      exact Ev.now _

end Go.Proofs.Ytmgpdneehdnjlaa.Pure

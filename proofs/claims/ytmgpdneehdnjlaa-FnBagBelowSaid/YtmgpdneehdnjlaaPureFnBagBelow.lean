/- The law FnBagBelow returns true for every input that the statement lets in; no condition of our own. -/
import Derived.Test.YtmgpdneehdnjlaaCcx5
namespace Go.Proofs.Ytmgpdneehdnjlaa.Pure
open Go.RowKit Go.Proofs.Ytmgpdneehdnjlaa.Cc Go.Proofs.YtmgpdneehdnjlaaW.PrintWords Go.Proofs.YtmgpdneehdnjlaaW.PrintLast
set_option linter.unusedVariables false
set_option linter.unusedSimpArgs false

-- part: base
/-! ### words of mine -/
theorem ev_s {α : Type} {g : Nat → Option α} {r : α} (h : Ev (fun k => g (k + 1)) r) : Ev g r := Ev.step (fun _ => rfl) h
theorem ev_eq {α : Type} {g : Nat → Option α} {r q : α} (h : Ev g r) (e : r = q) : Ev g q := e ▸ h
theorem ev_now {α : Type} {r q : α} (e : r = q) : Ev (fun _ => some r) q := e ▸ Ev.now r
theorem wrap_in {x : Int} (h0 : -9223372036854775808 ≤ x) (h1 : x ≤ 9223372036854775807) : wrap64 x = x := by unfold wrap64; omega
theorem rd_eq (xs : List Int) (i : Nat) : rd xs (i : Int) = xs.getD i 0 := by simp [rd]
theorem rd_get {xs : List Int} {i : Nat} (h : i < xs.length) : rd xs (i : Int) = xs[i] := by simp [rd, h]
theorem wrap_nat2 (a b : Nat) (h : a + b < 4611686018427387904) : wrap64 ((a : Int) + (b : Int)) = ((a + b : Nat) : Int) := by rw [wrap_in (by omega) (by omega)]; omega
theorem ev_const {α : Type} {x : Option α} {a : α} (h : x = some a) : Ev (fun _ => x) a := by subst h; exact Ev.now a

-- part: eqLoop
theorem eqIntS_l0 (F : Nat → List Int → List Int → Int → Option Bool)
    (h0 : ∀ k a b i, F (k + 1) a b i = if i < (a.length : Int) then (if 0 ≤ i then (if i < (b.length : Int) then (if (rd a i) = (rd b i) then (F k a b (wrap64 (i + 1))) else (some false)) else none) else none) else some true)
    (a b : List Int) (hl : a.length = b.length) (hb : a.length ≤ 140737488351232) : ∀ (d i : Nat), i + d = a.length → a.take i = b.take i → Ev (fun k => F k a b i) (decide (a = b)) := by
  intro d
  induction d with
  | zero =>
    intro i h ht
    refine ev_s ?_
    simp only [h0]
    simp only [if_neg (show ¬ ((i : Int) < (a.length : Int)) by omega)]
    rw [List.take_of_length_le (by omega), List.take_of_length_le (by omega)] at ht
    simp only [ht, decide_true]; exact Ev.now _
  | succ d ih =>
    intro i h ht
    refine ev_s ?_
    simp only [h0]
    simp only [if_pos (show (i : Int) < (a.length : Int) by omega), if_pos (show (0 : Int) ≤ (i : Int) by omega), if_pos (show (i : Int) < (b.length : Int) by omega), show wrap64 ((i : Int) + 1) = ((i + 1 : Nat) : Int) by rw [wrap_in (by omega) (by omega)]; rfl]
    rw [rd_get (show i < a.length by omega), rd_get (show i < b.length by omega)]
    by_cases he : a[i] = b[i]
    · simp only [if_pos he]
      refine ih (i + 1) (by omega) ?_
      rw [List.take_succ_eq_append_getElem (by omega), List.take_succ_eq_append_getElem (by omega), ht, he]
    · simp only [if_neg he]
      refine ev_now (Eq.symm (decide_eq_false (fun hab => he ?_)))
      subst hab; rfl

-- part: l1In
theorem l1In_eq (n lo hi : Int) : spec_l1In.f n lo hi = some (decide (lo ≤ n ∧ n ≤ hi)) := by
  unfold spec_l1In.f
  by_cases h : n ≥ lo
  · rw [if_pos h]; simp [show lo ≤ n from h]
  · rw [if_neg h]; simp [show ¬ lo ≤ n from h]

-- part: allB
def allB (f : Nat → Bool) : Nat → Nat → Bool
  | 0, _ => true
  | d + 1, i => f i && allB f d (i + 1)
theorem allB_iff (f : Nat → Bool) : ∀ d i, allB f d i = true ↔ ∀ m, i ≤ m → m < i + d → f m = true
  | 0, i => by simp [allB]; omega
  | d + 1, i => by
    rw [allB, Bool.and_eq_true, allB_iff f d (i + 1)]
    constructor
    · rintro ⟨h1, h2⟩ m hm hm2
      by_cases h : m = i
      · subst h; exact h1
      · exact h2 m (by omega) (by omega)
    · intro h
      exact ⟨h i (by omega) (by omega), fun m h1 h2 => h m (by omega) (by omega)⟩

-- part: BagValid
/-- What both of them ask at a place. -/
def bagAt (l : List Int) (i : Nat) : Bool := decide (0 ≤ rd l (i : Int) ∧ rd l (i : Int) ≤ 9 ∧ (0 < i → rd l (i : Int) ≤ rd l ((i - 1 : Nat) : Int)))
def bagOk (l : List Int) : Bool := allB (bagAt l) l.length 0 && decide (l.length ≤ 16)
theorem spec_BagValid_l0 (l : List Int) (hb : l.length ≤ 140737488351232) : ∀ (d i : Nat), i + d = l.length → Ev (fun k => spec_BagValid.l0 k l (i : Int)) (allB (bagAt l) d i && decide (l.length ≤ 16)) := by
  intro d
  induction d with
  | zero =>
    intro i h
    refine ev_s ?_
    simp only [spec_BagValid.l0, if_neg (show ¬ ((i : Int) < (l.length : Int)) by omega), allB, Bool.true_and]
    exact ev_now (decide_eq_decide.mpr (by omega))
  | succ d ih =>
    intro i h
    refine ev_s ?_
    simp only [spec_BagValid.l0, l1In_eq, Option.bind_some, if_pos (show (i : Int) < (l.length : Int) by omega), if_pos (show (0 : Int) ≤ (i : Int) by omega), show wrap64 ((i : Int) + 1) = ((i + 1 : Nat) : Int) by rw [wrap_in (by omega) (by omega)]; rfl, allB]
    by_cases h1 : 0 ≤ rd l (i : Int) ∧ rd l (i : Int) ≤ 9
    · simp only [decide_eq_true h1, if_true]
      by_cases h0 : (i : Int) > 0
      · have e : wrap64 ((i : Int) - 1) = ((i - 1 : Nat) : Int) := by rw [wrap_in (by omega) (by omega)]; omega
        simp only [if_pos h0, e, if_pos (show (0 : Int) ≤ ((i - 1 : Nat) : Int) by omega), if_pos (show ((i - 1 : Nat) : Int) < (l.length : Int) by omega)]
        by_cases h2 : rd l (i : Int) > rd l ((i - 1 : Nat) : Int)
        · have hf : bagAt l i = false := decide_eq_false (fun hh => by have := hh.2.2 (by omega); omega)
          simp only [if_pos h2, hf, Bool.false_and]; exact Ev.now _
        · have ht : bagAt l i = true := decide_eq_true ⟨h1.1, h1.2, fun _ => by omega⟩
          simp only [if_neg h2, ht, Bool.true_and]; exact ih (i + 1) (by omega)
      · have ht : bagAt l i = true := decide_eq_true ⟨h1.1, h1.2, fun _ => by omega⟩
        simp only [if_neg h0, ht, Bool.true_and]; exact ih (i + 1) (by omega)
    · have hf : bagAt l i = false := decide_eq_false (fun hh => h1 ⟨hh.1, hh.2.1⟩)
      simp only [decide_eq_false h1, Bool.false_eq_true, if_false, hf, Bool.false_and]; exact Ev.now _
theorem spec_BagValid_ev (l : List Int) (hb : l.length ≤ 140737488351232) : Ev (fun k => spec_BagValid.f k l) (bagOk l) := spec_BagValid_l0 l hb l.length 0 (by omega)
theorem impl_BagValid_l0 (l : List Int) (hb : l.length ≤ 140737488351232) : ∀ (d i : Nat), i + d = l.length → Ev (fun k => impl_BagValid.l0 k l l (l.length : Int) (i : Int)) (allB (bagAt l) d i && decide (l.length ≤ 16)) := by
  intro d
  induction d with
  | zero =>
    intro i h
    refine ev_s ?_
    simp only [impl_BagValid.l0, if_neg (show ¬ ((i : Int) < (l.length : Int)) by omega), allB, Bool.true_and]
    exact ev_now (decide_eq_decide.mpr (by omega))
  | succ d ih =>
    intro i h
    refine ev_s ?_
    simp only [impl_BagValid.l0, if_pos (show (i : Int) < (l.length : Int) by omega), if_pos (show (0 : Int) ≤ (i : Int) by omega), show wrap64 ((i : Int) + 1) = ((i + 1 : Nat) : Int) by rw [wrap_in (by omega) (by omega)]; rfl, allB]
    by_cases h1 : rd l (i : Int) < 0
    · have hf : bagAt l i = false := decide_eq_false (fun hh => by omega)
      simp only [if_pos h1, hf, Bool.false_and]; exact Ev.now _
    · by_cases h9 : rd l (i : Int) > 9
      · have hf : bagAt l i = false := decide_eq_false (fun hh => by omega)
        simp only [if_neg h1, if_pos h9, hf, Bool.false_and]; exact Ev.now _
      · simp only [if_neg h1, if_neg h9]
        by_cases h0 : (i : Int) > 0
        · have e : wrap64 ((i : Int) - 1) = ((i - 1 : Nat) : Int) := by rw [wrap_in (by omega) (by omega)]; omega
          simp only [if_pos h0, e, if_pos (show (0 : Int) ≤ ((i - 1 : Nat) : Int) by omega), if_pos (show ((i - 1 : Nat) : Int) < (l.length : Int) by omega)]
          by_cases h2 : rd l (i : Int) > rd l ((i - 1 : Nat) : Int)
          · have hf : bagAt l i = false := decide_eq_false (fun hh => by have := hh.2.2 (by omega); omega)
            simp only [if_pos h2, hf, Bool.false_and]; exact Ev.now _
          · have ht : bagAt l i = true := decide_eq_true ⟨by omega, by omega, fun _ => by omega⟩
            simp only [if_neg h2, ht, Bool.true_and]; exact ih (i + 1) (by omega)
        · have ht : bagAt l i = true := decide_eq_true ⟨by omega, by omega, fun _ => by omega⟩
          simp only [if_neg h0, ht, Bool.true_and]; exact ih (i + 1) (by omega)
theorem impl_BagValid_ev (l : List Int) (hb : l.length ≤ 140737488351232) : Ev (fun k => impl_BagValid.f k l) (bagOk l) := impl_BagValid_l0 l hb l.length 0 (by omega)
theorem rd_drop (l : List Int) (a i : Nat) : rd (l.drop a) (i : Int) = rd l ((a + i : Nat) : Int) := by simp only [rd, Int.toNat_natCast, List.getD_eq_getElem?_getD, List.getElem?_drop]
theorem bagOk_drop {l : List Int} (h : bagOk l = true) (a : Nat) : bagOk (l.drop a) = true := by
  simp only [bagOk, Bool.and_eq_true, allB_iff, decide_eq_true_eq, bagAt, rd_drop] at h ⊢
  refine ⟨fun m _ hm => ?_, by simp; omega⟩
  rw [List.length_drop] at hm
  obtain ⟨h1, h2, h3⟩ := h.1 (a + m) (by omega) (by omega)
  refine ⟨h1, h2, fun h0 => ?_⟩
  have := h3 (by omega)
  rw [show a + m - 1 = a + (m - 1) by omega] at this
  exact this

-- part: l6Many
theorem l6Many_l0 (l : List Int) (n : Int) (hb : l.length ≤ 140737488351232) : ∀ (d i c : Nat), i + d = l.length → c ≤ i → Ev (fun k => spec_l6Many.l0 k l n (c : Int) (i : Int)) ((c + (l.drop i).count n : Nat) : Int) := by
  intro d
  induction d with
  | zero =>
    intro i c h _
    refine ev_s ?_
    simp only [spec_l6Many.l0, if_neg (show ¬ ((i : Int) < (l.length : Int)) by omega)]
    rw [List.drop_of_length_le (by omega)]
    exact Ev.now _
  | succ d ih =>
    intro i c h hc
    refine ev_s ?_
    simp only [spec_l6Many.l0, if_pos (show (i : Int) < (l.length : Int) by omega), if_pos (show (0 : Int) ≤ (i : Int) by omega), show wrap64 ((i : Int) + 1) = ((i + 1 : Nat) : Int) by rw [wrap_in (by omega) (by omega)]; rfl, show wrap64 ((c : Int) + 1) = ((c + 1 : Nat) : Int) by rw [wrap_in (by omega) (by omega)]; rfl]
    rw [rd_get (show i < l.length by omega), List.drop_eq_getElem_cons (show i < l.length by omega)]
    by_cases he : l[i] = n
    · simp only [if_pos he]
      rw [he, List.count_cons_self, show c + ((l.drop (i + 1)).count n + 1) = (c + 1) + (l.drop (i + 1)).count n by omega]
      exact ih (i + 1) (c + 1) (by omega) (by omega)
    · simp only [if_neg he]
      rw [List.count_cons_of_ne (fun e => he e)]
      exact ih (i + 1) c (by omega) (by omega)
theorem l6Many_ev (l : List Int) (n : Int) (hb : l.length ≤ 140737488351232) : Ev (fun k => spec_l6Many.f k l n) ((l.count n : Nat) : Int) :=
  ev_eq (l6Many_l0 l n hb l.length 0 0 (by omega) (by omega)) (by simp)

-- part: bagCnt
/-! ### how often a number is in a multiset -/
def cn (l : List Int) (n : Int) : Int := ((l.countP (fun x => x == n) : Nat) : Int)
theorem cn_nonneg (l : List Int) (n : Int) : 0 ≤ cn l n := by unfold cn; omega
theorem cn_le (l : List Int) (n : Int) : cn l n ≤ l.length := by
  have := List.countP_le_length (p := fun x => x == n) (l := l)
  unfold cn; omega
theorem l6Many_cn (l : List Int) (n : Int) (hb : l.length ≤ 140737488351232) : Ev (fun k => spec_l6Many.f k l n) (cn l n) := l6Many_ev l n hb
theorem at_cn (l : List Int) (n : Nat) : impl_counts.at l n = cn l (n : Int) := rfl
theorem bagOk_all {l : List Int} (h : bagOk l = true) : (∀ x ∈ l, 0 ≤ x ∧ x < 10) ∧ l.length ≤ 16 := by
  simp only [bagOk, Bool.and_eq_true, allB_iff, decide_eq_true_eq, bagAt] at h
  refine ⟨fun x hx => ?_, h.2⟩
  obtain ⟨i, hi, rfl⟩ := List.mem_iff_getElem.1 hx
  have := h.1 i (by omega) (by omega)
  rw [rd_get hi] at this
  omega
theorem counts_eq {l : List Int} (h : bagOk l = true) {a : Int} (h0 : 0 ≤ a) (h1 : a < 10) : impl_counts.f l a = some (cn l a) := by
  have := bagOk_all h
  unfold impl_counts.f
  rw [if_pos ⟨⟨this.1, by omega⟩, h0, h1⟩, at_cn, Int.toNat_of_nonneg h0]

-- part: bagTo
/-! ### multisets compared -/
def bagTo (a b : List Int) : Nat → Int
  | 0 => 0
  | n + 1 => if cn a n = cn b n then bagTo a b n else if cn a n < cn b n then -1 else 1
def bagCmp (a b : List Int) : Int := if bagOk a = true then (if bagOk b = true then bagTo a b 10 else -2) else -2

-- part: bagCmp
theorem to_bagTo (a b : List Int) : ∀ n, impl_BagCompare.to a b n = bagTo a b n
  | 0 => rfl
  | n + 1 => by rw [impl_BagCompare.to, bagTo, to_bagTo a b n, at_cn, at_cn]
theorem impl_BagCompare_ev (a b : List Int) (ha : a.length ≤ 140737488351232) (hb : b.length ≤ 140737488351232) : Ev (fun k => impl_BagCompare.f k a b) (bagCmp a b) := by
  unfold impl_BagCompare.f bagCmp
  refine Ev.bind (impl_BagValid_ev a ha) ?_
  cases h1 : bagOk a with
  | false => simp only [Bool.false_eq_true, if_false]; exact Ev.now _
  | true =>
    simp only [if_true]
    refine Ev.bind (impl_BagValid_ev b hb) ?_
    cases h2 : bagOk b with
    | false => simp only [Bool.false_eq_true, if_false]; exact Ev.now _
    | true =>
      simp only [if_true, counts_eq h1 (a := 0) (by decide) (by decide), counts_eq h2 (a := 0) (by decide) (by decide), Option.bind_some]
      exact ev_now (to_bagTo a b 10)
theorem spec_BagCompare_l0 (a b : List Int) (ha : a.length ≤ 140737488351232) (hb : b.length ≤ 140737488351232) : ∀ n : Nat, n ≤ 10 → Ev (fun k => spec_BagCompare.l0 k a b ((n : Int) - 1)) (bagTo a b n) := by
  intro n
  induction n with
  | zero =>
    intro _
    refine ev_s ?_
    simp only [spec_BagCompare.l0, if_neg (show ¬ ((((0 : Nat) : Int) - 1) ≥ 0) by decide)]
    exact Ev.now _
  | succ n ih =>
    intro hn
    refine ev_s ?_
    have e : (((n + 1 : Nat) : Int) - 1) = (n : Int) := by omega
    simp only [e, spec_BagCompare.l0, if_pos (show (n : Int) ≥ 0 by omega)]
    refine Ev.bind (l6Many_cn a n ha) ?_
    refine Ev.bind (l6Many_cn b n hb) ?_
    rw [bagTo]
    by_cases h1 : cn a n < cn b n
    · simp only [if_pos h1, if_neg (show ¬ cn a n = cn b n by omega)]; exact Ev.now _
    · by_cases h2 : cn a n > cn b n
      · simp only [if_neg h1, if_pos h2, if_neg (show ¬ cn a n = cn b n by omega)]; exact Ev.now _
      · simp only [if_neg h1, if_neg h2, if_pos (show cn a n = cn b n by omega), show wrap64 ((n : Int) - 1) = (n : Int) - 1 from wrap_in (by omega) (by omega)]
        exact ih (by omega)
theorem spec_BagCompare_ev (a b : List Int) (ha : a.length ≤ 140737488351232) (hb : b.length ≤ 140737488351232) : Ev (fun k => spec_BagCompare.f k a b) (bagCmp a b) := by
  unfold spec_BagCompare.f bagCmp
  refine Ev.bind (spec_BagValid_ev a ha) ?_
  cases h1 : bagOk a with
  | false =>
    simp only [Bool.false_eq_true, if_false]
    refine ev_s ?_
    simp only [spec_BagCompare.j0, if_true]; exact Ev.now _
  | true =>
    simp only [if_true]
    refine Ev.bind (spec_BagValid_ev b hb) ?_
    cases h2 : bagOk b with
    | false =>
      simp only [Bool.false_eq_true, if_false, Bool.not_false]
      refine ev_s ?_
      simp only [spec_BagCompare.j0, if_true]; exact Ev.now _
    | true =>
      simp only [if_true, Bool.not_true]
      refine ev_s ?_
      simp only [spec_BagCompare.j0, Bool.false_eq_true, if_false]
      exact spec_BagCompare_l0 a b ha hb 10 (by omega)

-- part: bagBelow
/-! ### one below the other -/
theorem slices_Equal_ev (a b : List Int) (hb : a.length ≤ 140737488351232) : Ev (fun k => slices_Equal_int_int.f k a b) (decide (a = b)) := by
  unfold slices_Equal_int_int.f
  by_cases hl : (a.length : Int) = (b.length : Int)
  · simp only [if_pos hl]
    refine eqIntS_l0 (fun k a b i => slices_Equal_int_int.l0 k a b (a.length : Int) i) ?_ a b (by omega) hb a.length 0 (by omega) (by simp)
    intro k a b i
    simp only [slices_Equal_int_int.l0]
    by_cases h1 : i < (a.length : Int)
    · simp only [if_pos h1]
    · simp only [if_neg h1]
  · simp only [if_neg hl]
    exact ev_now (Eq.symm (decide_eq_false (fun h => hl (by rw [h]))))
theorem cn_cons (x : Int) (l : List Int) (n : Int) : cn (x :: l) n = cn l n + if x = n then 1 else 0 := by
  unfold cn; rw [List.countP_cons]
  by_cases h : x = n <;> simp [h]
theorem cn_pos {l : List Int} {n : Int} (h : 0 < cn l n) : n ∈ l := by
  unfold cn at h
  have : 0 < l.countP (fun x => x == n) := by omega
  obtain ⟨x, hx, he⟩ := List.countP_pos_iff.1 this
  have : x = n := by simpa using he
  exact this ▸ hx
theorem bagOk_head {x : Int} {l : List Int} (h : bagOk (x :: l) = true) : ∀ y ∈ l, y ≤ x := by
  have hd := h
  simp only [bagOk, Bool.and_eq_true, allB_iff, decide_eq_true_eq, bagAt] at h
  have key : ∀ i, i < (x :: l).length → rd (x :: l) (i : Int) ≤ x := by
    intro i
    induction i with
    | zero => intro _; simp [rd]
    | succ i ih =>
      intro hi
      have h3 := (h.1 (i + 1) (by omega) (by omega)).2.2 (by omega)
      have := ih (by omega)
      rw [Nat.add_sub_cancel] at h3
      omega
  intro y hy
  obtain ⟨i, hi, rfl⟩ := List.mem_iff_getElem.1 hy
  have := key (i + 1) (by simp; omega)
  rw [rd_get (by simp; omega)] at this
  simpa using this
theorem bag_ext : ∀ (a b : List Int), bagOk a = true → bagOk b = true → (∀ n : Int, cn a n = cn b n) → a = b
  | [], [], _, _, _ => rfl
  | [], y :: b, _, _, h => by
    have h1 := h y
    rw [cn_cons, if_pos rfl] at h1
    have h2 := cn_nonneg b y
    have h3 : cn [] y = 0 := rfl
    omega
  | x :: a, [], _, _, h => by
    have h1 := h x
    rw [cn_cons, if_pos rfl] at h1
    have h2 := cn_nonneg a x
    have h3 : cn [] x = 0 := rfl
    omega
  | x :: a, y :: b, ha, hb, h => by
    have hxy : x = y := by
      have hx := h x
      have hy := h y
      rw [cn_cons, if_pos rfl] at hx
      rw [cn_cons y b y, if_pos rfl] at hy
      have p1 := cn_nonneg a x
      have p2 := cn_nonneg b y
      have m1 : x ∈ y :: b := cn_pos (by omega)
      have m2 : y ∈ x :: a := cn_pos (by omega)
      have l1 : x ≤ y := by
        rcases List.mem_cons.1 m1 with e | e
        · omega
        · exact bagOk_head hb x e
      have l2 : y ≤ x := by
        rcases List.mem_cons.1 m2 with e | e
        · omega
        · exact bagOk_head ha y e
      omega
    subst hxy
    have ha' : bagOk a = true := bagOk_drop ha 1
    have hb' : bagOk b = true := bagOk_drop hb 1
    rw [bag_ext a b ha' hb' (fun n => by have := h n; rw [cn_cons, cn_cons] at this; omega)]
theorem cn_out {l : List Int} (h : bagOk l = true) {n : Int} (hn : ¬ (0 ≤ n ∧ n < 10)) : cn l n = 0 := by
  have h0 := cn_nonneg l n
  by_cases hp : 0 < cn l n
  · exact absurd ((bagOk_all h).1 n (cn_pos hp)) hn
  · omega
theorem bagTo_zero (a b : List Int) : ∀ n, bagTo a b n = 0 ↔ ∀ m : Nat, m < n → cn a m = cn b m
  | 0 => by simp [bagTo]
  | n + 1 => by
    rw [bagTo]
    by_cases h : cn a n = cn b n
    · rw [if_pos h, bagTo_zero a b n]
      constructor
      · intro g m hm
        by_cases e : m = n
        · subst e; exact h
        · exact g m (by omega)
      · intro g m hm; exact g m (by omega)
    · rw [if_neg h]
      constructor
      · intro g; split at g <;> omega
      · intro g; exact absurd (g n (by omega)) h
theorem bagTo_range (a b : List Int) : ∀ n, bagTo a b n = 0 ∨ bagTo a b n = -1 ∨ bagTo a b n = 1
  | 0 => .inl rfl
  | n + 1 => by
    rw [bagTo]; split
    · exact bagTo_range a b n
    · split
      · exact .inr (.inl rfl)
      · exact .inr (.inr rfl)
theorem bag_eq_iff {a b : List Int} (ha : bagOk a = true) (hb : bagOk b = true) : bagTo a b 10 = 0 ↔ a = b := by
  rw [bagTo_zero]
  constructor
  · intro h
    refine bag_ext a b ha hb fun n => ?_
    by_cases hn : 0 ≤ n ∧ n < 10
    · have := h n.toNat (by omega)
      rw [Int.toNat_of_nonneg hn.1] at this
      exact this
    · rw [cn_out ha hn, cn_out hb hn]
  · intro h m _; rw [h]
/-- What the program asks, from above. -/
def belTo (a b : List Int) : Nat → Bool → Bool
  | 0, _ => true
  | n + 1, c => if cn b n < cn a n ∧ c = false then false else belTo a b n (c || decide (cn a n < cn b n))
theorem to_belTo (a b : List Int) : ∀ n c, impl_BagBelow.to a b n c = belTo a b n c
  | 0, _ => rfl
  | n + 1, c => by rw [impl_BagBelow.to, belTo, to_belTo a b n, at_cn, at_cn]
theorem belTo_iff (a b : List Int) : ∀ n c, belTo a b n c = true ↔ ∀ j : Nat, j < n → cn b j < cn a j → c = true ∨ ∃ m : Nat, j < m ∧ m < n ∧ cn a m < cn b m
  | 0, c => by simp [belTo]
  | n + 1, c => by
    rw [belTo]
    by_cases h : cn b n < cn a n ∧ c = false
    · rw [if_pos h]
      refine ⟨fun g => absurd g (by simp), fun g => ?_⟩
      rcases g n (by omega) h.1 with e | ⟨m, h1, h2, _⟩
      · rw [h.2] at e; exact e
      · omega
    · rw [if_neg h, belTo_iff a b n]
      constructor
      · intro g j hj hl
        by_cases e : j = n
        · subst e
          refine .inl ?_
          cases c with
          | true => rfl
          | false => exact absurd ⟨hl, rfl⟩ h
        · rcases g j (by omega) hl with e1 | ⟨m, h1, h2, h3⟩
          · rw [Bool.or_eq_true, decide_eq_true_eq] at e1
            rcases e1 with e1 | e1
            · exact .inl e1
            · exact .inr ⟨n, by omega, by omega, e1⟩
          · exact .inr ⟨m, h1, by omega, h3⟩
      · intro g j hj hl
        rcases g j (by omega) hl with e1 | ⟨m, h1, h2, h3⟩
        · exact .inl (by simp [e1])
        · by_cases e : m = n
          · subst e; exact .inl (by simp [h3])
          · exact .inr ⟨m, h1, by omega, h3⟩
def bagBel (a b : List Int) : Bool := bagOk a && bagOk b && decide (a ≠ b) && belTo a b 10 false
theorem impl_BagBelow_ev (a b : List Int) (ha : a.length ≤ 140737488351232) (hb : b.length ≤ 140737488351232) : Ev (fun k => impl_BagBelow.f k a b) (bagBel a b) := by
  unfold impl_BagBelow.f bagBel
  refine Ev.bind (impl_BagValid_ev a ha) ?_
  cases h1 : bagOk a with
  | false => simp only [Bool.false_eq_true, if_false, Bool.false_and]; exact Ev.now _
  | true =>
    simp only [if_true, Bool.true_and]
    refine Ev.bind (impl_BagValid_ev b hb) ?_
    cases h2 : bagOk b with
    | false => simp only [Bool.false_eq_true, if_false, Bool.false_and]; exact Ev.now _
    | true =>
      simp only [if_true, Bool.true_and]
      refine Ev.bind (slices_Equal_ev a b ha) ?_
      by_cases h : a = b
      · simp only [h, decide_true, if_true]; exact ev_now (by simp)
      · simp only [h, decide_false, Bool.false_eq_true, if_false, counts_eq h1 (a := 0) (by decide) (by decide), counts_eq h2 (a := 0) (by decide) (by decide), Option.bind_some]
        exact ev_now (by rw [to_belTo]; simp [h])

-- part: bagBelowSpec
/-! ### the reference's way -/
theorem bool_of (P : Prop) : ∃ b : Bool, b = true ↔ P := by
  by_cases h : P
  · exact ⟨true, by simp [h]⟩
  · exact ⟨false, by simp [h]⟩
theorem spec_BagBelow_l1 (a b : List Int) (ha : a.length ≤ 140737488351232) (hb : b.length ≤ 140737488351232) (n : Nat) (hn : n < 10) {R : Bool} (hR : Ev (fun k => spec_BagBelow.l0 k a b ((n + 1 : Nat) : Int)) R) : ∀ (d m : Nat) (s T : Bool), m + d = 10 → (T = true ↔ (s = true ∨ ∃ q : Nat, m ≤ q ∧ q < 10 ∧ cn a q < cn b q) ∧ R = true) → Ev (fun k => spec_BagBelow.l1 k a b (n : Int) s (m : Int)) T := by
  intro d
  induction d with
  | zero =>
    intro m s T h hT
    refine ev_s ?_
    simp only [spec_BagBelow.l1, if_neg (show ¬ ((m : Int) ≤ 9) by omega)]
    have he : ¬ ∃ q : Nat, m ≤ q ∧ q < 10 ∧ cn a q < cn b q := by rintro ⟨q, h1, h2, _⟩; omega
    cases s with
    | false =>
      simp only [Bool.false_eq_true, if_false]
      refine ev_now ?_
      cases T with
      | false => rfl
      | true =>
        rcases (hT.1 rfl).1 with e | e
        · exact absurd e (by simp)
        · exact absurd e he
    | true =>
      simp only [if_true, show wrap64 ((n : Int) + 1) = ((n + 1 : Nat) : Int) from wrap_nat2 n 1 (by omega)]
      refine ev_eq hR ?_
      rw [Bool.eq_iff_iff, hT]
      exact ⟨fun h => ⟨.inl rfl, h⟩, fun h => h.2⟩
  | succ d ih =>
    intro m s T h hT
    refine ev_s ?_
    simp only [spec_BagBelow.l1, if_pos (show (m : Int) ≤ 9 by omega), show wrap64 ((m : Int) + 1) = ((m + 1 : Nat) : Int) from wrap_nat2 m 1 (by omega)]
    cases s with
    | true =>
      simp only [if_true]
      refine ih (m + 1) true T (by omega) ?_
      rw [hT]
      exact ⟨fun g => ⟨.inl rfl, g.2⟩, fun g => ⟨.inl rfl, g.2⟩⟩
    | false =>
      simp only [Bool.false_eq_true, if_false]
      refine Ev.bind (l6Many_cn b m hb) ?_
      refine Ev.bind (l6Many_cn a m ha) ?_
      refine ih (m + 1) _ T (by omega) ?_
      rw [hT, decide_eq_true_eq]
      constructor
      · rintro ⟨h1 | ⟨q, h1, h2, h3⟩, hr⟩
        · exact absurd h1 (by simp)
        · refine ⟨?_, hr⟩
          by_cases e : q = m
          · subst e; exact .inl h3
          · exact .inr ⟨q, by omega, h2, h3⟩
      · rintro ⟨h1 | ⟨q, h1, h2, h3⟩, hr⟩
        · exact ⟨.inr ⟨m, Nat.le_refl _, by omega, h1⟩, hr⟩
        · exact ⟨.inr ⟨q, by omega, h2, h3⟩, hr⟩
theorem spec_BagBelow_l0 (a b : List Int) (ha : a.length ≤ 140737488351232) (hb : b.length ≤ 140737488351232) : ∀ (d n : Nat) (T : Bool), n + d = 10 → (T = true ↔ ∀ j : Nat, n ≤ j → j < 10 → cn b j < cn a j → ∃ m : Nat, j < m ∧ m < 10 ∧ cn a m < cn b m) → Ev (fun k => spec_BagBelow.l0 k a b (n : Int)) T := by
  intro d
  induction d with
  | zero =>
    intro n T h hT
    refine ev_s ?_
    simp only [spec_BagBelow.l0, if_neg (show ¬ ((n : Int) ≤ 9) by omega)]
    exact ev_now (Eq.symm (hT.2 (fun j h1 h2 => by omega)))
  | succ d ih =>
    intro n T h hT
    obtain ⟨R, hR⟩ := bool_of (∀ j : Nat, n + 1 ≤ j → j < 10 → cn b j < cn a j → ∃ m : Nat, j < m ∧ m < 10 ∧ cn a m < cn b m)
    have ih := ih (n + 1) R (by omega) hR
    refine ev_s ?_
    simp only [spec_BagBelow.l0, if_pos (show (n : Int) ≤ 9 by omega), show wrap64 ((n : Int) + 1) = ((n + 1 : Nat) : Int) from wrap_nat2 n 1 (by omega)]
    refine Ev.bind (l6Many_cn a n ha) ?_
    refine Ev.bind (l6Many_cn b n hb) ?_
    by_cases hle : cn a n ≤ cn b n
    · simp only [if_pos hle]
      refine ev_eq ih ?_
      rw [Bool.eq_iff_iff, hT, hR]
      constructor
      · intro g j h1 h2 h3
        by_cases e : j = n
        · subst e; omega
        · exact g j (by omega) h2 h3
      · intro g j h1 h2 h3; exact g j (by omega) h2 h3
    · simp only [if_neg hle]
      refine spec_BagBelow_l1 a b ha hb n (by omega) ih (9 - n) (n + 1) false T (by omega) ?_
      rw [hT, hR]
      constructor
      · intro g
        obtain ⟨m, h1, h2, h3⟩ := g n (Nat.le_refl _) (by omega) (by omega)
        exact ⟨.inr ⟨m, by omega, h2, h3⟩, fun j h4 h5 h6 => g j (by omega) h5 h6⟩
      · rintro ⟨h1 | ⟨q, h1, h2, h3⟩, g⟩ j h4 h5 h6
        · exact absurd h1 (by simp)
        · by_cases e : j = n
          · subst e; exact ⟨q, by omega, h2, h3⟩
          · exact g j (by omega) h5 h6
theorem spec_BagBelow_ev (a b : List Int) (ha : a.length ≤ 140737488351232) (hb : b.length ≤ 140737488351232) : Ev (fun k => spec_BagBelow.f k a b) (bagBel a b) := by
  unfold spec_BagBelow.f
  have hc := spec_BagCompare_ev a b ha hb
  refine Ev.bind hc ?_
  by_cases hm : bagCmp a b = -2
  · simp only [if_pos hm]
    refine ev_s ?_
    simp only [spec_BagBelow.j0, if_true]
    refine ev_now ?_
    unfold bagBel
    cases h1 : bagOk a with
    | false => simp
    | true =>
      cases h2 : bagOk b with
      | false => simp
      | true =>
        unfold bagCmp at hm
        rw [if_pos h1, if_pos h2] at hm
        have := bagTo_range a b 10
        omega
  · simp only [if_neg hm]
    refine Ev.bind hc ?_
    have hok : bagOk a = true ∧ bagOk b = true := by
      unfold bagCmp at hm
      by_cases h1 : bagOk a = true
      · by_cases h2 : bagOk b = true
        · exact ⟨h1, h2⟩
        · rw [if_pos h1, if_neg h2] at hm; exact absurd rfl hm
      · rw [if_neg h1] at hm; exact absurd rfl hm
    have hce : bagCmp a b = bagTo a b 10 := by unfold bagCmp; rw [if_pos hok.1, if_pos hok.2]
    refine ev_s ?_
    simp only [spec_BagBelow.j0, hce]
    by_cases h0 : bagTo a b 10 = 0
    · have he := (bag_eq_iff hok.1 hok.2).1 h0
      simp only [h0, BEq.rfl, if_true]
      exact ev_now (by simp [bagBel, he])
    · have he : a ≠ b := fun e => h0 ((bag_eq_iff hok.1 hok.2).2 e)
      have hb0 : (bagTo a b 10 == 0) = false := by simpa using h0
      simp only [hb0, Bool.false_eq_true, if_false]
      refine spec_BagBelow_l0 a b ha hb 10 0 (bagBel a b) (by omega) ?_
      unfold bagBel
      rw [hok.1, hok.2, decide_eq_true he, Bool.true_and, Bool.true_and, Bool.true_and, belTo_iff]
      constructor
      · intro g j _ h1 h2
        rcases g j h1 h2 with e | e
        · exact absurd e (by simp)
        · exact e
      · intro g j h1 h2; exact .inr (g j (by omega) h1 h2)

-- part: bagBelCmp
/-! ### both orders are one -/
theorem belTo_cmp (a b : List Int) : ∀ n, belTo a b n false = true ↔ (bagTo a b n = 0 ∨ bagTo a b n = -1)
  | 0 => by simp [belTo, bagTo]
  | n + 1 => by
    rw [belTo, bagTo]
    by_cases h1 : cn b n < cn a n
    · rw [if_pos ⟨h1, rfl⟩, if_neg (show ¬ cn a n = cn b n by omega), if_neg (show ¬ cn a n < cn b n by omega)]
      simp
    · rw [if_neg (fun h => h1 h.1)]
      by_cases h2 : cn a n < cn b n
      · rw [if_neg (show ¬ cn a n = cn b n by omega), if_pos h2, decide_eq_true h2, Bool.false_or]
        refine ⟨fun _ => .inr rfl, fun _ => (belTo_iff a b n true).2 (fun _ _ _ => .inl rfl)⟩
      · rw [if_pos (show cn a n = cn b n by omega), decide_eq_false h2, Bool.false_or]
        exact belTo_cmp a b n
theorem bagBel_cmp (a b : List Int) : bagBel a b = (bagCmp a b == -1) := by
  unfold bagBel bagCmp
  cases h1 : bagOk a with
  | false => simp
  | true =>
    cases h2 : bagOk b with
    | false => simp
    | true =>
      simp only [Bool.true_and, if_true]
      rw [Bool.eq_iff_iff, Bool.and_eq_true, decide_eq_true_eq, belTo_cmp, beq_iff_eq]
      have := bag_eq_iff h1 h2
      constructor
      · rintro ⟨h3, h4 | h4⟩
        · exact absurd (this.1 h4) h3
        · exact h4
      · intro h4
        refine ⟨fun h3 => ?_, .inr h4⟩
        have := this.2 h3
        omega

-- part: specBagOf
/-- The numbers below n, the greater ones first. -/
def bagFrom (l : List Int) : Nat → List Int
  | 0 => []
  | n + 1 => List.replicate (l.count (n : Int)) (n : Int) ++ bagFrom l n
def inAll (l : List Int) : Bool := l.all (fun x => decide (0 ≤ x ∧ x ≤ 9))
def bagOf (l : List Int) : List Int := if inAll l = true ∧ l.length ≤ 16 then bagFrom l 10 else []
theorem spec_BagOf_l2 (l : List Int) (n : Int) (r : List Int) : ∀ (m : Nat) (out : List Int), out.length + m ≤ 1000 → Ev (fun k => spec_BagOf.l1 k l (out ++ List.replicate m n) (wrap64 (n - 1))) r → Ev (fun k => spec_BagOf.l2 k l out n (m : Int)) r
  | 0, out, _, hc => by
    refine ev_s ?_
    simp only [spec_BagOf.l2, if_neg (show ¬ (((0 : Nat) : Int) > 0) by omega)]
    simpa using hc
  | m + 1, out, hm, hc => by
    refine ev_s ?_
    simp only [spec_BagOf.l2, if_pos (show ((m + 1 : Nat) : Int) > 0 by omega), if_pos (show out.length < 17592186044416 by omega), show wrap64 (((m + 1 : Nat) : Int) - 1) = (m : Int) by rw [wrap_in (by omega) (by omega)]; omega]
    refine spec_BagOf_l2 l n r m (out ++ [n]) (by simp; omega) ?_
    simpa [List.append_assoc, List.replicate_succ] using hc
theorem spec_BagOf_l1 (l : List Int) (hl : l.length ≤ 16) : ∀ (n : Nat) (out : List Int), n ≤ 10 → out.length + 16 * n ≤ 900 → Ev (fun k => spec_BagOf.l1 k l out ((n : Int) - 1)) (out ++ bagFrom l n)
  | 0, out, _, _ => by
    refine ev_s ?_
    simp only [spec_BagOf.l1, if_neg (show ¬ (((0 : Nat) : Int) - 1 ≥ 0) by omega)]
    refine ev_s ?_
    simp only [spec_BagOf.j2, Bool.false_eq_true, if_false]
    exact ev_now (by simp [bagFrom])
  | n + 1, out, hn, ho => by
    have hc : l.count (n : Int) ≤ l.length := List.count_le_length
    refine ev_s ?_
    simp only [show ((n + 1 : Nat) : Int) - 1 = (n : Int) by omega, spec_BagOf.l1, if_pos (show (n : Int) ≥ 0 by omega), show decide ((l.length : Int) ≤ 16) = true from decide_eq_true (by omega)]
    refine ev_s ?_
    simp only [spec_BagOf.j2, if_true]
    refine Ev.bind (l6Many_ev l (n : Int) (by omega)) ?_
    refine spec_BagOf_l2 l (n : Int) _ _ out (by omega) ?_
    rw [show wrap64 ((n : Int) - 1) = (n : Int) - 1 from wrap_in (by omega) (by omega)]
    have := spec_BagOf_l1 l hl n (out ++ List.replicate (l.count (n : Int)) (n : Int)) (by omega) (by simp; omega)
    rw [List.append_assoc] at this
    exact this
theorem spec_BagOf_l0 (l : List Int) (hb : l.length ≤ 140737488351232) : ∀ (d i : Nat), i + d = l.length → Ev (fun k => spec_BagOf.l0 k l [] (i : Int)) (if (l.drop i).all (fun x => decide (0 ≤ x ∧ x ≤ 9)) = true ∧ l.length ≤ 16 then bagFrom l 10 else []) := by
  intro d
  induction d with
  | zero =>
    intro i h
    refine ev_s ?_
    simp only [spec_BagOf.l0, if_neg (show ¬ ((i : Int) < (l.length : Int)) by omega)]
    rw [List.drop_of_length_le (by omega)]
    by_cases h16 : l.length ≤ 16
    · rw [if_pos ⟨rfl, h16⟩]
      exact spec_BagOf_l1 l h16 10 [] (by omega) (by simp)
    · rw [if_neg (fun hh => h16 hh.2)]
      refine ev_s ?_
      simp only [spec_BagOf.l1, if_pos (show (9 : Int) ≥ 0 by decide), show decide ((l.length : Int) ≤ 16) = false from decide_eq_false (by omega)]
      refine ev_s ?_
      simp only [spec_BagOf.j2, Bool.false_eq_true, if_false]
      exact Ev.now _
  | succ d ih =>
    intro i h
    refine ev_s ?_
    simp only [spec_BagOf.l0, l1In_eq, Option.bind_some, if_pos (show (i : Int) < (l.length : Int) by omega), if_pos (show (0 : Int) ≤ (i : Int) by omega), show wrap64 ((i : Int) + 1) = ((i + 1 : Nat) : Int) by rw [wrap_in (by omega) (by omega)]; rfl]
    rw [rd_get (show i < l.length by omega), List.drop_eq_getElem_cons (show i < l.length by omega), List.all_cons]
    by_cases hc : 0 ≤ l[i] ∧ l[i] ≤ 9
    · simp only [decide_eq_true hc, Bool.true_and, if_true]
      exact ih (i + 1) (by omega)
    · simp only [decide_eq_false hc, Bool.false_and, Bool.false_eq_true, if_false, false_and]
      exact Ev.now _
theorem spec_BagOf_ev (l : List Int) (hb : l.length ≤ 140737488351232) : Ev (fun k => spec_BagOf.f k l) (bagOf l) := spec_BagOf_l0 l hb l.length 0 (by omega)
theorem bagFrom_length (l : List Int) (hl : l.length ≤ 16) : ∀ n, (bagFrom l n).length ≤ 16 * n
  | 0 => by simp [bagFrom]
  | n + 1 => by have := bagFrom_length l hl n; have : l.count (n : Int) ≤ l.length := List.count_le_length; simp only [bagFrom, List.length_append, List.length_replicate]; omega
theorem bagOf_length (l : List Int) : (bagOf l).length ≤ 160 := by
  unfold bagOf; split
  · rename_i h; have := bagFrom_length l h.2 10; omega
  · simp

-- part: bagPutSpec
/-! ### the reference puts in -/
def putAll (t : List Int) (n : Int) : Bool := t.all (fun x => decide (0 ≤ x ∧ x ≤ n - 1))
def bagPut (l : List Int) (n : Int) (t : List Int) : List Int × Bool :=
  if bagOk l = true ∧ l.count n ≠ 0 then (if putAll t n = true then (if (t ++ l.erase n).length > 16 then ([], false) else (bagOf (t ++ l.erase n), true)) else ([], false)) else ([], false)
theorem spec_BagPut_l1 (l : List Int) (n : Int) (hl : l.length ≤ 1000000) : ∀ (d i : Nat) (out : List Int) (g : Bool), i + d = l.length → out.length + d ≤ 3000000 →
    Ev (fun k => spec_BagPut.l1 k l n out g (i : Int)) (if (out ++ (if g = true then l.drop i else (l.drop i).erase n)).length > 16 then ([], false) else (bagOf (out ++ (if g = true then l.drop i else (l.drop i).erase n)), true)) := by
  intro d
  induction d with
  | zero =>
    intro i out g h ho
    refine ev_s ?_
    simp only [spec_BagPut.l1, if_neg (show ¬ ((i : Int) < (l.length : Int)) by omega)]
    have e : (if g = true then l.drop i else (l.drop i).erase n) = [] := by
      rw [List.drop_of_length_le (by omega)]; split <;> rfl
    rw [e, List.append_nil]
    by_cases h16 : out.length > 16
    · simp only [if_pos h16, if_pos (show (out.length : Int) > 16 by omega)]; exact Ev.now _
    · simp only [if_neg h16, if_neg (show ¬ (out.length : Int) > 16 by omega)]
      refine Ev.bind (spec_BagOf_ev out (by omega)) ?_
      exact Ev.now _
  | succ d ih =>
    intro i out g h ho
    have hi : i < l.length := by omega
    refine ev_s ?_
    simp only [spec_BagPut.l1, if_pos (show (i : Int) < (l.length : Int) by omega), if_pos (show (0 : Int) ≤ (i : Int) by omega), rd_get hi, if_pos (show out.length < 17592186044416 by omega), show wrap64 ((i : Int) + 1) = ((i + 1 : Nat) : Int) from wrap_nat2 i 1 (by omega)]
    rw [List.drop_eq_getElem_cons hi]
    by_cases hx : l[i] = n
    · simp only [if_pos hx]
      cases g with
      | true =>
        simp only [if_true]
        refine ev_eq (ih (i + 1) (out ++ [l[i]]) true (by omega) (by simp; omega)) ?_
        simp only [if_true, List.append_assoc, List.singleton_append]
      | false =>
        simp only [Bool.false_eq_true, if_false]
        refine ev_eq (ih (i + 1) out true (by omega) (by omega)) ?_
        rw [hx, List.erase_cons_head]
        simp only [if_true]
    · simp only [if_neg hx]
      refine ev_eq (ih (i + 1) (out ++ [l[i]]) g (by omega) (by simp; omega)) ?_
      cases g with
      | true => simp only [if_true, List.append_assoc, List.singleton_append]
      | false =>
        rw [List.erase_cons_tail (by simpa using hx)]
        simp only [Bool.false_eq_true, if_false, List.append_assoc, List.singleton_append]
theorem spec_BagPut_l0 (l t : List Int) (n : Int) (hl : l.length ≤ 1000000) (ht : t.length ≤ 1048576) (h0 : 0 ≤ n) (h9 : n ≤ 9) : ∀ (d i : Nat), i + d = t.length →
    Ev (fun k => spec_BagPut.l0 k l n t t false (i : Int)) (if (t.drop i).all (fun x => decide (0 ≤ x ∧ x ≤ n - 1)) = true then (if (t ++ l.erase n).length > 16 then ([], false) else (bagOf (t ++ l.erase n), true)) else ([], false)) := by
  intro d
  induction d with
  | zero =>
    intro i h
    refine ev_s ?_
    simp only [spec_BagPut.l0, if_neg (show ¬ ((i : Int) < (t.length : Int)) by omega)]
    rw [List.drop_of_length_le (by omega)]
    simp only [List.all_nil, if_true]
    refine ev_eq (spec_BagPut_l1 l n hl l.length 0 t false (by omega) (by omega)) ?_
    simp only [Bool.false_eq_true, if_false, List.drop_zero]
  | succ d ih =>
    intro i h
    have hi : i < t.length := by omega
    refine ev_s ?_
    simp only [spec_BagPut.l0, l1In_eq, Option.bind_some, if_pos (show (i : Int) < (t.length : Int) by omega), if_pos (show (0 : Int) ≤ (i : Int) by omega), rd_get hi, show wrap64 ((i : Int) + 1) = ((i + 1 : Nat) : Int) from wrap_nat2 i 1 (by omega), show wrap64 (n - 1) = n - 1 from wrap_in (by omega) (by omega)]
    rw [List.drop_eq_getElem_cons hi, List.all_cons]
    by_cases hc : 0 ≤ t[i] ∧ t[i] ≤ n - 1
    · simp only [decide_eq_true hc, Bool.true_and, if_true]
      exact ih (i + 1) (by omega)
    · simp only [decide_eq_false hc, Bool.false_and, Bool.false_eq_true, if_false]
      exact Ev.now _
theorem spec_BagPut_ev (l t : List Int) (n : Int) (hl : l.length ≤ 1048576) (ht : t.length ≤ 1048576) : Ev (fun k => spec_BagPut.f k l n t) (bagPut l n t) := by
  simp only [spec_BagPut.f]
  refine Ev.bind (spec_BagValid_ev l (by omega)) ?_
  unfold bagPut
  cases h1 : bagOk l with
  | false =>
    simp only [Bool.false_eq_true, if_false, false_and]
    refine ev_s ?_
    simp only [spec_BagPut.j0, if_true]; exact Ev.now _
  | true =>
    have hall := bagOk_all h1
    simp only [if_true, true_and]
    refine Ev.bind (l6Many_ev l n (by omega)) ?_
    by_cases hc : l.count n = 0
    · have e : (((l.count n : Nat) : Int) == 0) = true := by simp [hc]
      simp only [e, if_neg (show ¬ (l.count n ≠ 0) by simp [hc])]
      refine ev_s ?_
      simp only [spec_BagPut.j0, if_true]; exact Ev.now _
    · have e : (((l.count n : Nat) : Int) == 0) = false := by
        have : ((l.count n : Nat) : Int) ≠ 0 := by omega
        simpa using this
      have hm : n ∈ l := List.count_pos_iff.1 (by omega)
      have hn := hall.1 n hm
      simp only [e, if_pos hc]
      refine ev_s ?_
      simp only [spec_BagPut.j0, Bool.false_eq_true, if_false, Option.bind_some, List.nil_append, List.length_nil, if_pos (show 0 + t.length < 17592186044416 by omega)]
      exact spec_BagPut_l0 l t n (by omega) ht (by omega) (by omega) t.length 0 (by omega)
theorem bagPut_length (l t : List Int) (n : Int) : (bagPut l n t).1.length ≤ 160 := by
  unfold bagPut
  split
  · split
    · split
      · simp
      · exact bagOf_length _
    · simp
  · simp

-- part: draw
/-! ### the reader of a code -/
def Bytes (b : List Int) : Prop := b.length ≤ 2000 ∧ ∀ x ∈ b, 0 ≤ x ∧ x ≤ 255
theorem u8_of_wf {x : Int} (h : (Lit.int .u8 x).wf = true) : 0 ≤ x ∧ x ≤ 255 := by
  simp [Lit.wf, IntKind.min, IntKind.max, IntKind.bits, IntKind.signed] at h
  omega
theorem open_ev (l : List Int) (h : ∀ x ∈ l, (Lit.int .u8 x).wf = true) : ∃ b, Bytes b ∧ spec_l20Open.f l = some (b, ((0 : Nat) : Int)) := by
  have h' : ∀ x ∈ l, 0 ≤ x ∧ x ≤ 255 := fun x hx => u8_of_wf (h x hx)
  unfold spec_l20Open.f
  by_cases hl : (l.length : Int) > 2000
  · rw [if_pos hl, if_pos (by omega)]
    exact ⟨l.take 2000, ⟨by simp; omega, fun x hx => h' x (List.mem_of_mem_take hx)⟩, rfl⟩
  · rw [if_neg hl]
    exact ⟨l, ⟨by omega, h'⟩, rfl⟩
theorem rd_byte {b : List Int} (hb : Bytes b) {i : Int} (h0 : 0 ≤ i) (h1 : i < (b.length : Int)) : 0 ≤ rd b i ∧ rd b i ≤ 255 := by
  obtain ⟨n, rfl⟩ := Int.eq_ofNat_of_zero_le h0
  rw [rd_get (show n < b.length by omega)]
  exact hb.2 _ (List.getElem_mem _)
theorem wraps_i64 (n : Int) (h0 : 0 ≤ n) (h1 : n < 2 ^ 62) : IntKind.i64.wrap n = n := by rw [IntKind.wrap_i64]; omega
theorem xor_pos (a b : Nat) (ha : a < 2 ^ 62) (hb : b < 2 ^ 62) : Go.bits .xor .i64 (a : Int) (b : Int) = ((a ^^^ b : Nat) : Int) := by
  have ha' : a % 2 ^ IntKind.i64.bits = a := Nat.mod_eq_of_lt (Nat.lt_of_lt_of_le ha (by decide))
  have hb' : b % 2 ^ IntKind.i64.bits = b := Nat.mod_eq_of_lt (Nat.lt_of_lt_of_le hb (by decide))
  simp only [bits, BitVec.ofInt_natCast, BitVec.toNat_xor, BitVec.toNat_ofNat, ha', hb']
  exact wraps_i64 _ (Int.natCast_nonneg _) (by exact_mod_cast Nat.xor_lt_two_pow ha hb)
theorem pick_sum (r1 r2 p t : Int) (h1 : 0 ≤ r1 ∧ r1 ≤ 255) (h2 : 0 ≤ r2 ∧ r2 ≤ 255) (hp : 0 ≤ p ∧ p ≤ 1000000000000) (ht : 0 ≤ t ∧ t ≤ 1000000000000) :
    wrap64 ((wrap64 ((wrap64 ((wrap64 ((wrap64 r1) * 131)) + (wrap64 ((wrap64 r2) * 1117)))) + (wrap64 (p * 29)))) + (wrap64 ((wrap64 t) * 53))) = r1 * 131 + r2 * 1117 + p * 29 + t * 53 := by
  rw [wrap_in (x := r1) (by omega) (by omega), wrap_in (x := r2) (by omega) (by omega), wrap_in (x := t) (by omega) (by omega), wrap_in (x := r1 * 131) (by omega) (by omega), wrap_in (x := r2 * 1117) (by omega) (by omega), wrap_in (x := p * 29) (by omega) (by omega), wrap_in (x := t * 53) (by omega) (by omega), wrap_in (x := r1 * 131 + r2 * 1117) (by omega) (by omega), wrap_in (x := r1 * 131 + r2 * 1117 + p * 29) (by omega) (by omega), wrap_in (by omega) (by omega)]
theorem pick_mod (x n : Int) (hx : 0 ≤ x) (hn : 0 < n) : 0 ≤ Int.tmod x n ∧ Int.tmod x n < n := by
  rw [Int.tmod_eq_emod_of_nonneg hx]
  exact ⟨Int.emod_nonneg _ (by omega), Int.emod_lt_of_pos _ hn⟩
theorem pick_ev (b : List Int) (hb : Bytes b) (p : Nat) (hp : p ≤ 100000000000) (n : Int) : ∃ v : Int, 0 ≤ v ∧ (v < n ∨ v = 0) ∧ Ev (fun k => spec_l20Rd_pick.f k b (p : Int) n) (v, ((p + 1 : Nat) : Int)) := by
  have e1 : wrap64 ((p : Int) + 1) = ((p + 1 : Nat) : Int) := by rw [wrap_in (by omega) (by omega)]; rfl
  have e2 : wrap64 (((p + 1 : Nat) : Int) - 1) = (p : Int) := by rw [wrap_in (by omega) (by omega)]; omega
  by_cases hn : n < 1
  · refine ⟨0, Int.le_refl _, .inr rfl, ?_⟩
    simp only [spec_l20Rd_pick.f, if_pos hn, e1]
    refine ev_s ?_
    simp only [spec_l20Rd_pick.j0, if_true]
    exact Ev.now _
  · by_cases hl : b.length = 0
    · refine ⟨0, Int.le_refl _, .inr rfl, ?_⟩
      simp only [spec_l20Rd_pick.f, if_neg hn, e1, hl]
      refine ev_s ?_
      simp only [spec_l20Rd_pick.j0]
      exact Ev.now _
    · by_cases hlt : (p : Int) < (b.length : Int)
      · have hby := rd_byte hb (show (0 : Int) ≤ (p : Int) by omega) hlt
        have hm := pick_mod (rd b p) n hby.1 (by omega)
        refine ⟨Int.tmod (rd b p) n, hm.1, .inl hm.2, ?_⟩
        simp only [spec_l20Rd_pick.f, if_neg hn, e1, show ((b.length : Int) == 0) = false by simp; exact fun h => hl (by rw [h]; rfl)]
        refine ev_s ?_
        simp only [spec_l20Rd_pick.j0, Bool.false_eq_true, if_false, e2, if_pos hlt, if_pos (show (0 : Int) ≤ (p : Int) by omega), if_neg (show ¬ n = 0 by omega), wrap_in (x := rd b p) (by omega) (by omega)]
        exact Ev.now _
      · have hl0 : ¬ ((b.length : Int) = 0) := by omega
        have m1 := pick_mod (p : Int) (b.length : Int) (by omega) (by omega)
        have m2 := pick_mod ((p : Int) * 7 + 3) (b.length : Int) (by omega) (by omega)
        have b1 := rd_byte hb m1.1 m1.2
        have b2 := rd_byte hb m2.1 m2.2
        have d1 : 0 ≤ Int.tdiv (p : Int) (b.length : Int) := Int.tdiv_nonneg (by omega) (by omega)
        have d2 : Int.tdiv (p : Int) (b.length : Int) ≤ (p : Int) := Int.tdiv_le_self _ (by omega)
        have hs := pick_sum _ _ (p : Int) (Int.tdiv (p : Int) (b.length : Int)) b1 b2 (by omega) (by omega)
        obtain ⟨X, hX⟩ : ∃ X : Int, X = rd b (Int.tmod (p : Int) (b.length : Int)) * 131 + rd b (Int.tmod ((p : Int) * 7 + 3) (b.length : Int)) * 1117 + (p : Int) * 29 + Int.tdiv (p : Int) (b.length : Int) * 53 := ⟨_, rfl⟩
        rw [← hX] at hs
        have x0 : 0 ≤ X ∧ X < 20000000000000 := by omega
        have t0 : 0 ≤ Int.tdiv X 64 := Int.tdiv_nonneg (by omega) (by omega)
        have t1 : Int.tdiv X 64 ≤ X := Int.tdiv_le_self _ (by omega)
        have hbit : 0 ≤ Go.bits .xor .i64 X (Int.tdiv X 64) := by
          obtain ⟨u, hu⟩ := Int.eq_ofNat_of_zero_le x0.1
          obtain ⟨v, hv⟩ := Int.eq_ofNat_of_zero_le t0
          rw [hv, hu]
          rw [xor_pos u v (by omega) (by omega)]
          omega
        have hm := pick_mod _ n hbit (by omega)
        refine ⟨_, hm.1, .inl hm.2, ?_⟩
        simp only [spec_l20Rd_pick.f, if_neg hn, e1, show ((b.length : Int) == 0) = false by simp; exact fun h => hl (by rw [h]; rfl)]
        refine ev_s ?_
        simp only [spec_l20Rd_pick.j0, Bool.false_eq_true, if_false, e2, if_neg hlt, if_neg hl0, wrap_in (x := (p : Int) * 7) (by omega) (by omega), wrap_in (x := (p : Int) * 7 + 3) (by omega) (by omega), if_pos m1.1, if_pos m1.2, if_pos m2.1, if_pos m2.2, if_neg (show ¬ n = 0 by omega), hs, wrap_in (x := Int.tdiv X 64) (by omega) (by omega)]
        exact Ev.now _
theorem odd_ev (b : List Int) (hb : Bytes b) (p : Nat) (hp : p ≤ 100000000000) (n : Int) (hn : n ≤ 1000000) : ∃ (v : Bool) (q : Nat), q ≤ p + 1 ∧ Ev (fun k => spec_l20Rd_odd.f k b (p : Int) n) (v, (q : Int)) := by
  by_cases h : n > 0
  · obtain ⟨v, h0, h1, he⟩ := pick_ev b hb p hp n
    refine ⟨(v == wrap64 (n - 1)), p + 1, Nat.le_refl _, ?_⟩
    simp only [spec_l20Rd_odd.f, if_pos h]
    refine Ev.bind he ?_
    exact Ev.now _
  · refine ⟨false, p, by omega, ?_⟩
    simp only [spec_l20Rd_odd.f, if_neg h]
    exact Ev.now _

-- part: l20Bag
theorem l20Bag_l0 (b : List Int) (hb : Bytes b) (n : Int) (hn : n ≤ 1000000) : ∀ (d p : Nat) (x : List Int), p + 3 * d ≤ 1000000000 → x.length + d ≤ 100 →
    ∃ (out : List Int) (q : Nat), q ≤ p + 3 * d + 5 ∧ out.length ≤ 200 ∧ Ev (fun k => spec_l20Bag.l0 k n x (d : Int) b (p : Int)) (out, (q : Int)) := by
  intro d
  induction d with
  | succ d ih =>
    intro p x hp hx
    obtain ⟨v1, _, _, he1⟩ := pick_ev b hb p (by omega) 6
    obtain ⟨v2, _, _, he2⟩ := pick_ev b hb (p + 1) (by omega) 9
    obtain ⟨v3, _, _, he3⟩ := pick_ev b hb (p + 1 + 1) (by omega) 4
    obtain ⟨out, q, hq, ho, hE⟩ := ih (p + 1 + 1 + 1) (x ++ [wrap64 (v1 + (wrap64 ((wrap64 (Int.tdiv v2 8)) * v3)))]) (by omega) (by simp; omega)
    refine ⟨out, q, by omega, ho, ?_⟩
    refine ev_s ?_
    simp only [spec_l20Bag.l0, if_pos (show ((d + 1 : Nat) : Int) > 0 by omega), show wrap64 (((d + 1 : Nat) : Int) - 1) = (d : Int) by rw [wrap_in (by omega) (by omega)]; omega]
    refine Ev.bind he1 ?_
    refine Ev.bind he2 ?_
    refine Ev.bind he3 ?_
    simp only [if_pos (show x.length < 17592186044416 by omega)]
    exact hE
  | zero =>
    intro p x hp hx
    have hlen := bagOf_length x
    obtain ⟨o, q, hq, he⟩ := odd_ev b hb p (by omega) n hn
    have hd : ∀ (out : List Int) (q' : Nat), Ev (fun k => (spec_l20Rd_odd.f k b (p : Int) n).bind fun bt142 => (if bt142.1 = true then ((spec_l20Rd_pick.f k b bt142.2 3).bind fun bt144 => (if bt144.1 = 0 then ((some (([0] : List Int) : List Int)).bind fun y146 => (if (bagOf x).length < 17592186044416 then ((some ((bagOf x) ++ [1] : List Int)).bind fun y149 => (if y146.length + y149.length < 17592186044416 then (some ((y146 ++ y149), bt144.2)) else (none))) else (none))) else (if bt144.1 = 1 then ((some (([10] : List Int) : List Int)).bind fun y155 => (if y155.length + (bagOf x).length < 17592186044416 then (some ((y155 ++ (bagOf x)), bt144.2)) else (none))) else (if 17 ≤ 35184372088832 then (some ((List.replicate 17 0), bt144.2)) else (none))))) else (some ((bagOf x), bt142.2)))) (out, (q' : Int)) → Ev (fun k => spec_l20Bag.l0 k n x ((0 : Nat) : Int) b (p : Int)) (out, (q' : Int)) := by
      intro out q' h
      refine ev_s ?_
      simp only [spec_l20Bag.l0, if_neg (show ¬ (((0 : Nat) : Int) > 0) by omega)]
      exact Ev.bind (spec_BagOf_ev x (by omega)) h
    cases o with
    | false =>
      refine ⟨bagOf x, q, by omega, by omega, hd _ _ ?_⟩
      refine Ev.bind he ?_
      simp only [Bool.false_eq_true, if_false]
      exact Ev.now _
    | true =>
      obtain ⟨v, _, _, he1⟩ := pick_ev b hb q (by omega) 3
      by_cases h0 : v = 0
      · subst h0
        refine ⟨[0] ++ (bagOf x ++ [1]), q + 1, by omega, by simp; omega, hd _ _ ?_⟩
        refine Ev.bind he ?_
        simp only [if_true]
        refine Ev.bind he1 ?_
        simp only [if_true, Option.bind_some, if_pos (show (bagOf x).length < 17592186044416 by omega), if_pos (show ([0] : List Int).length + (bagOf x ++ [1]).length < 17592186044416 by simp; omega)]
        exact Ev.now _
      · by_cases h1 : v = 1
        · subst h1
          refine ⟨[10] ++ bagOf x, q + 1, by omega, by simp; omega, hd _ _ ?_⟩
          refine Ev.bind he ?_
          simp only [if_true]
          refine Ev.bind he1 ?_
          simp only [if_neg h0, if_true, Option.bind_some, if_pos (show ([10] : List Int).length + (bagOf x).length < 17592186044416 by simp; omega)]
          exact Ev.now _
        · refine ⟨List.replicate 17 0, q + 1, by omega, by simp, hd _ _ ?_⟩
          refine Ev.bind he ?_
          simp only [if_true]
          refine Ev.bind he1 ?_
          simp only [if_neg h0, if_neg h1, if_pos (show 17 ≤ 35184372088832 by decide)]
          exact Ev.now _
theorem l20Bag_ev (b : List Int) (hb : Bytes b) (p : Nat) (hp : p ≤ 100000000) (n : Int) (hn : n ≤ 1000000) :
    ∃ (out : List Int) (q : Nat), q ≤ p + 30 ∧ out.length ≤ 200 ∧ Ev (fun k => spec_l20Bag.f k b (p : Int) n) (out, (q : Int)) := by
  obtain ⟨v, h0, h1, he⟩ := pick_ev b hb p (by omega) 7
  obtain ⟨m, rfl⟩ := Int.eq_ofNat_of_zero_le h0
  obtain ⟨out, q, hq, ho, hE⟩ := l20Bag_l0 b hb n hn m (p + 1) [] (by omega) (by simp; omega)
  refine ⟨out, q, by omega, ho, ?_⟩
  simp only [spec_l20Bag.f]
  refine Ev.bind he ?_
  exact hE

-- part: l20Bags
/-! ### two multisets drawn -/
theorem l20Bags_j2 (b : List Int) (hb : Bytes b) (x y : List Int) (n : Int) (p : Nat) (hp : p ≤ 10000000) (hx : x.length ≤ 200) (hy : y.length ≤ 200) : ∃ (u v : List Int) (q : Nat), u.length ≤ 200 ∧ v.length ≤ 200 ∧ Ev (fun k => spec_l20Bags.j2 k x y n b (p : Int)) (u, v, (q : Int)) := by
  have he := spec_BagPut_ev x y n (by omega) (by omega)
  have hlen := bagPut_length x y n
  cases hk : (bagPut x n y).2 with
  | true =>
    refine ⟨(bagPut x n y).1, x, p, by omega, hx, ?_⟩
    refine ev_s ?_
    simp only [spec_l20Bags.j2]
    refine Ev.bind he ?_
    simp only [hk, if_true]
    exact Ev.now _
  | false =>
    obtain ⟨out, q, _, ho, hE⟩ := l20Bag_ev b hb p (by omega) 14 (by omega)
    refine ⟨x, out, q, hx, ho, ?_⟩
    refine ev_s ?_
    simp only [spec_l20Bags.j2]
    refine Ev.bind he ?_
    simp only [hk, Bool.false_eq_true, if_false]
    refine Ev.bind hE ?_
    exact Ev.now _
theorem l20Bags_l0 (b : List Int) (hb : Bytes b) (x : List Int) (n : Int) (hx : x.length ≤ 200) (hn : n ≤ 1000000) : ∀ (d p : Nat) (y : List Int), p + d ≤ 1000000 → y.length + d ≤ 200 → ∃ (u v : List Int) (q : Nat), u.length ≤ 200 ∧ v.length ≤ 200 ∧ Ev (fun k => spec_l20Bags.l0 k x y n (d : Int) b (p : Int)) (u, v, (q : Int)) := by
  intro d
  induction d with
  | zero =>
    intro p y hp hy
    obtain ⟨u, v, q, h1, h2, hE⟩ := l20Bags_j2 b hb x y n p (by omega) hx (by omega)
    refine ⟨u, v, q, h1, h2, ?_⟩
    refine ev_s ?_
    simp only [spec_l20Bags.l0, if_neg (show ¬ (((0 : Nat) : Int) > 0) by omega)]
    exact hE
  | succ d ih =>
    intro p y hp hy
    by_cases h0 : n > 0
    · obtain ⟨w, hw0, hw1, he⟩ := pick_ev b hb p (by omega) n.toNat
      rw [Int.toNat_of_nonneg (by omega)] at he
      obtain ⟨u, v, q, h1, h2, hE⟩ := ih (p + 1) (y ++ [w]) (by omega) (by simp; omega)
      refine ⟨u, v, q, h1, h2, ?_⟩
      refine ev_s ?_
      simp only [spec_l20Bags.l0, if_pos (show ((d + 1 : Nat) : Int) > 0 by omega), if_pos h0, show wrap64 (((d + 1 : Nat) : Int) - 1) = (d : Int) by rw [wrap_in (by omega) (by omega)]; omega]
      refine Ev.bind he ?_
      simp only [if_pos (show y.length < 17592186044416 by omega)]
      exact hE
    · obtain ⟨u, v, q, h1, h2, hE⟩ := l20Bags_j2 b hb x y n p (by omega) hx (by omega)
      refine ⟨u, v, q, h1, h2, ?_⟩
      refine ev_s ?_
      simp only [spec_l20Bags.l0, if_pos (show ((d + 1 : Nat) : Int) > 0 by omega), if_neg h0]
      exact hE
theorem l20Bags_j0 (b : List Int) (hb : Bytes b) (x : List Int) (s : Bool) (p : Nat) (hp : p ≤ 10000) (hx : x.length ≤ 200) (hs : s = true → 0 < x.length ∧ ∀ i : Nat, i < x.length → rd x (i : Int) ≤ 1000) : ∃ (u v : List Int) (q : Nat), u.length ≤ 200 ∧ v.length ≤ 200 ∧ Ev (fun k => spec_l20Bags.j0 k x s b (p : Int)) (u, v, (q : Int)) := by
  cases s with
  | false =>
    obtain ⟨out, q, _, ho, hE⟩ := l20Bag_ev b hb p (by omega) 14 (by omega)
    refine ⟨x, out, q, hx, ho, ?_⟩
    refine ev_s ?_
    simp only [spec_l20Bags.j0, Bool.false_eq_true, if_false]
    refine Ev.bind hE ?_
    exact Ev.now _
  | true =>
    obtain ⟨hpos, hsm⟩ := hs rfl
    obtain ⟨w, hw0, hw1, he⟩ := pick_ev b hb p (by omega) x.length
    obtain ⟨i, rfl⟩ := Int.eq_ofNat_of_zero_le hw0
    have hi : i < x.length := by omega
    obtain ⟨m, hm0, hm1, he2⟩ := pick_ev b hb (p + 1) (by omega) 4
    obtain ⟨j, rfl⟩ := Int.eq_ofNat_of_zero_le hm0
    obtain ⟨u, v, q, h1, h2, hE⟩ := l20Bags_l0 b hb x (rd x (i : Int)) hx (by have := hsm i hi; omega) j (p + 1 + 1) [] (by omega) (by simp; omega)
    refine ⟨u, v, q, h1, h2, ?_⟩
    refine ev_s ?_
    simp only [spec_l20Bags.j0, if_true]
    refine Ev.bind he ?_
    simp only [if_pos (show (0 : Int) ≤ (i : Int) by omega), if_pos (show (i : Int) < (x.length : Int) by omega)]
    refine Ev.bind he2 ?_
    exact hE
theorem l20Bags_ev (b : List Int) (hb : Bytes b) (p : Nat) (hp : p ≤ 1000) : ∃ (u v : List Int) (q : Nat), u.length ≤ 200 ∧ v.length ≤ 200 ∧ Ev (fun k => spec_l20Bags.f k b (p : Int)) (u, v, (q : Int)) := by
  obtain ⟨x, q, hq, hx, hE⟩ := l20Bag_ev b hb p (by omega) 14 (by omega)
  have hno : ∃ (u v : List Int) (q' : Nat), u.length ≤ 200 ∧ v.length ≤ 200 ∧ Ev (fun k => spec_l20Bags.j0 k x false b (q : Int)) (u, v, (q' : Int)) := l20Bags_j0 b hb x false q (by omega) hx (fun h => absurd h (by simp))
  by_cases h0 : (x.length : Int) > 0
  · cases h1 : bagOk x with
    | false =>
      obtain ⟨u, v, q', a1, a2, hJ⟩ := hno
      refine ⟨u, v, q', a1, a2, ?_⟩
      simp only [spec_l20Bags.f]
      refine Ev.bind hE ?_
      simp only [if_pos h0]
      refine Ev.bind (ev_eq (spec_BagValid_ev x (by omega)) h1) ?_
      simp only [Bool.false_eq_true, if_false]
      exact hJ
    | true =>
      obtain ⟨w, hw0, hw1, he⟩ := pick_ev b hb q (by omega) 2
      obtain ⟨u, v, q', a1, a2, hJ⟩ := l20Bags_j0 b hb x (w == 0) (q + 1) (by omega) hx (fun _ => ⟨by omega, fun i hi => by
        have := (bagOk_all h1).1 (rd x (i : Int)) (by rw [rd_get hi]; exact List.getElem_mem hi)
        omega⟩)
      refine ⟨u, v, q', a1, a2, ?_⟩
      simp only [spec_l20Bags.f]
      refine Ev.bind hE ?_
      simp only [if_pos h0]
      refine Ev.bind (ev_eq (spec_BagValid_ev x (by omega)) h1) ?_
      simp only [if_true]
      refine Ev.bind he ?_
      exact hJ
  · obtain ⟨u, v, q', a1, a2, hJ⟩ := hno
    refine ⟨u, v, q', a1, a2, ?_⟩
    simp only [spec_l20Bags.f]
    refine Ev.bind hE ?_
    simp only [if_neg h0]
    exact hJ

-- part: alive
theorem alive_ev : Ev (fun k => laws_alive.f k) true := Ev.of laws_alive.mono (k := 20) (by decide +kernel)

-- part: law_FnBagBelow
theorem FnBagBelow : laws_FnBagBelow.Pure := by
  intro l0 _ _ hw
  refine Ev.rounds ?_
  simp only [laws_FnBagBelow.f]
  by_cases hb : (l0.length : Int) > 1048576
  · simp only [if_pos hb]; exact Ev.now _
  · simp only [if_neg hb]
    obtain ⟨bs, hby, ho⟩ := open_ev l0 hw
    obtain ⟨a, b, q, ha, hbl, hE⟩ := l20Bags_ev bs hby 0 (by omega)
    have hd : Ev (fun k => spec_DrawBagBelow.f k l0) (a, b) := by
      simp only [spec_DrawBagBelow.f, ho, Option.bind_some]
      refine Ev.bind hE ?_
      exact Ev.now _
    refine Ev.bind hd ?_
    refine Ev.bind (impl_BagBelow_ev a b (by omega) (by omega)) ?_
    refine Ev.bind (spec_BagBelow_ev a b (by omega) (by omega)) ?_
    simp only [bne_self_eq_false, Bool.false_eq_true, if_false]
    refine Ev.bind (impl_BagCompare_ev a b (by omega) (by omega)) ?_
    have he : (bagBel a b == (bagCmp a b == -1)) = true := by rw [bagBel_cmp]; simp
    simp only [he, if_true]
    refine Ev.bind alive_ev ?_
    exact Ev.now _

end Go.Proofs.Ytmgpdneehdnjlaa.Pure

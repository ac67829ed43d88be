/- The law FnBagPut returns true for every input that the statement lets in; no condition of our own. -/
import Derived.Test.YtmgpdneehdnjlaaChx9
namespace Go.Proofs.Ytmgpdneehdnjlaa.Pure
open Go.RowKit Go.Proofs.Ytmgpdneehdnjlaa.Ch Go.Proofs.YtmgpdneehdnjlaaW.PrintWords Go.Proofs.YtmgpdneehdnjlaaW.PrintLast
set_option linter.unusedVariables false
set_option linter.unusedSimpArgs false

-- part: base
/-! ### words of mine -/
theorem ev_s {α : Type} {g : Nat → Option α} {r : α} (h : Ev (fun k => g (k + 1)) r) : Ev g r := Ev.step (fun _ => rfl) h
theorem ev_eq {α : Type} {g : Nat → Option α} {r q : α} (h : Ev g r) (e : r = q) : Ev g q := e ▸ h
theorem ev_now {α : Type} {r q : α} (e : r = q) : Ev (fun _ => some r) q := e ▸ Ev.now r
theorem wrap_in {x : Int} (h0 : -9223372036854775808 ≤ x) (h1 : x ≤ 9223372036854775807) : wrap64 x = x := by unfold wrap64; omega
theorem rd_eq (xs : List Int) (i : Nat) : rd xs (i : Int) = xs.getD i 0 := by simp [rd]
theorem rd_get {xs : List Int} {i : Nat} (h : i < xs.length) : rd xs (i : Int) = xs[i] := by simp [rd, h]
theorem wrap_nat2 (a b : Nat) (h : a + b < 4611686018427387904) : wrap64 ((a : Int) + (b : Int)) = ((a + b : Nat) : Int) := by rw [wrap_in (by omega) (by omega)]; omega
theorem ev_const {α : Type} {x : Option α} {a : α} (h : x = some a) : Ev (fun _ => x) a := by subst h; exact Ev.now a

-- part: eqLoop
theorem eqIntS_l0 (F : Nat → List Int → List Int → Int → Option Bool)
    (h0 : ∀ k a b i, F (k + 1) a b i = if i < (a.length : Int) then (if 0 ≤ i then (if i < (b.length : Int) then (if (rd a i) = (rd b i) then (F k a b (wrap64 (i + 1))) else (some false)) else none) else none) else some true)
    (a b : List Int) (hl : a.length = b.length) (hb : a.length ≤ 140737488351232) : ∀ (d i : Nat), i + d = a.length → a.take i = b.take i → Ev (fun k => F k a b i) (decide (a = b)) := by
  intro d
  induction d with
  | zero =>
    intro i h ht
    refine ev_s ?_
    simp only [h0]
    simp only [if_neg (show ¬ ((i : Int) < (a.length : Int)) by omega)]
    rw [List.take_of_length_le (by omega), List.take_of_length_le (by omega)] at ht
    simp only [ht, decide_true]; exact Ev.now _
  | succ d ih =>
    intro i h ht
    refine ev_s ?_
    simp only [h0]
    simp only [if_pos (show (i : Int) < (a.length : Int) by omega), if_pos (show (0 : Int) ≤ (i : Int) by omega), if_pos (show (i : Int) < (b.length : Int) by omega), show wrap64 ((i : Int) + 1) = ((i + 1 : Nat) : Int) by rw [wrap_in (by omega) (by omega)]; rfl]
    rw [rd_get (show i < a.length by omega), rd_get (show i < b.length by omega)]
    by_cases he : a[i] = b[i]
    · simp only [if_pos he]
      refine ih (i + 1) (by omega) ?_
      rw [List.take_succ_eq_append_getElem (by omega), List.take_succ_eq_append_getElem (by omega), ht, he]
    · simp only [if_neg he]
      refine ev_now (Eq.symm (decide_eq_false (fun hab => he ?_)))
      subst hab; rfl

-- part: sameInts
theorem sameInts_ev (a b : List Int) (hb : a.length ≤ 140737488351232) : Ev (fun k => laws_sameInts.f k a b) (decide (a = b)) := by
  simp only [laws_sameInts.f]
  by_cases hl : a.length = b.length
  · simp only [if_pos (show (a.length : Int) = (b.length : Int) by omega)]
    exact eqIntS_l0 laws_sameInts.l0 (fun _ _ _ _ => rfl) a b hl hb a.length 0 (by omega) (by simp)
  · simp only [if_neg (show ¬ ((a.length : Int) = (b.length : Int)) by omega)]
    exact ev_now (Eq.symm (decide_eq_false (fun hab => hl (by rw [hab]))))

-- part: l1In
theorem l1In_eq (n lo hi : Int) : spec_l1In.f n lo hi = some (decide (lo ≤ n ∧ n ≤ hi)) := by
  unfold spec_l1In.f
  by_cases h : n ≥ lo
  · rw [if_pos h]; simp [show lo ≤ n from h]
  · rw [if_neg h]; simp [show ¬ lo ≤ n from h]

-- part: allB
def allB (f : Nat → Bool) : Nat → Nat → Bool
  | 0, _ => true
  | d + 1, i => f i && allB f d (i + 1)
theorem allB_iff (f : Nat → Bool) : ∀ d i, allB f d i = true ↔ ∀ m, i ≤ m → m < i + d → f m = true
  | 0, i => by simp [allB]; omega
  | d + 1, i => by
    rw [allB, Bool.and_eq_true, allB_iff f d (i + 1)]
    constructor
    · rintro ⟨h1, h2⟩ m hm hm2
      by_cases h : m = i
      · subst h; exact h1
      · exact h2 m (by omega) (by omega)
    · intro h
      exact ⟨h i (by omega) (by omega), fun m h1 h2 => h m (by omega) (by omega)⟩

-- part: BagValid
/-- What both of them ask at a place. -/
def bagAt (l : List Int) (i : Nat) : Bool := decide (0 ≤ rd l (i : Int) ∧ rd l (i : Int) ≤ 9 ∧ (0 < i → rd l (i : Int) ≤ rd l ((i - 1 : Nat) : Int)))
def bagOk (l : List Int) : Bool := allB (bagAt l) l.length 0 && decide (l.length ≤ 16)
theorem spec_BagValid_l0 (l : List Int) (hb : l.length ≤ 140737488351232) : ∀ (d i : Nat), i + d = l.length → Ev (fun k => spec_BagValid.l0 k l (i : Int)) (allB (bagAt l) d i && decide (l.length ≤ 16)) := by
  intro d
  induction d with
  | zero =>
    intro i h
    refine ev_s ?_
    simp only [spec_BagValid.l0, if_neg (show ¬ ((i : Int) < (l.length : Int)) by omega), allB, Bool.true_and]
    exact ev_now (decide_eq_decide.mpr (by omega))
  | succ d ih =>
    intro i h
    refine ev_s ?_
    simp only [spec_BagValid.l0, l1In_eq, Option.bind_some, if_pos (show (i : Int) < (l.length : Int) by omega), if_pos (show (0 : Int) ≤ (i : Int) by omega), show wrap64 ((i : Int) + 1) = ((i + 1 : Nat) : Int) by rw [wrap_in (by omega) (by omega)]; rfl, allB]
    by_cases h1 : 0 ≤ rd l (i : Int) ∧ rd l (i : Int) ≤ 9
    · simp only [decide_eq_true h1, if_true]
      by_cases h0 : (i : Int) > 0
      · have e : wrap64 ((i : Int) - 1) = ((i - 1 : Nat) : Int) := by rw [wrap_in (by omega) (by omega)]; omega
        simp only [if_pos h0, e, if_pos (show (0 : Int) ≤ ((i - 1 : Nat) : Int) by omega), if_pos (show ((i - 1 : Nat) : Int) < (l.length : Int) by omega)]
        by_cases h2 : rd l (i : Int) > rd l ((i - 1 : Nat) : Int)
        · have hf : bagAt l i = false := decide_eq_false (fun hh => by have := hh.2.2 (by omega); omega)
          simp only [if_pos h2, hf, Bool.false_and]; exact Ev.now _
        · have ht : bagAt l i = true := decide_eq_true ⟨h1.1, h1.2, fun _ => by omega⟩
          simp only [if_neg h2, ht, Bool.true_and]; exact ih (i + 1) (by omega)
      · have ht : bagAt l i = true := decide_eq_true ⟨h1.1, h1.2, fun _ => by omega⟩
        simp only [if_neg h0, ht, Bool.true_and]; exact ih (i + 1) (by omega)
    · have hf : bagAt l i = false := decide_eq_false (fun hh => h1 ⟨hh.1, hh.2.1⟩)
      simp only [decide_eq_false h1, Bool.false_eq_true, if_false, hf, Bool.false_and]; exact Ev.now _
theorem spec_BagValid_ev (l : List Int) (hb : l.length ≤ 140737488351232) : Ev (fun k => spec_BagValid.f k l) (bagOk l) := spec_BagValid_l0 l hb l.length 0 (by omega)
theorem impl_BagValid_l0 (l : List Int) (hb : l.length ≤ 140737488351232) : ∀ (d i : Nat), i + d = l.length → Ev (fun k => impl_BagValid.l0 k l l (l.length : Int) (i : Int)) (allB (bagAt l) d i && decide (l.length ≤ 16)) := by
  intro d
  induction d with
  | zero =>
    intro i h
    refine ev_s ?_
    simp only [impl_BagValid.l0, if_neg (show ¬ ((i : Int) < (l.length : Int)) by omega), allB, Bool.true_and]
    exact ev_now (decide_eq_decide.mpr (by omega))
  | succ d ih =>
    intro i h
    refine ev_s ?_
    simp only [impl_BagValid.l0, if_pos (show (i : Int) < (l.length : Int) by omega), if_pos (show (0 : Int) ≤ (i : Int) by omega), show wrap64 ((i : Int) + 1) = ((i + 1 : Nat) : Int) by rw [wrap_in (by omega) (by omega)]; rfl, allB]
    by_cases h1 : rd l (i : Int) < 0
    · have hf : bagAt l i = false := decide_eq_false (fun hh => by omega)
      simp only [if_pos h1, hf, Bool.false_and]; exact Ev.now _
    · by_cases h9 : rd l (i : Int) > 9
      · have hf : bagAt l i = false := decide_eq_false (fun hh => by omega)
        simp only [if_neg h1, if_pos h9, hf, Bool.false_and]; exact Ev.now _
      · simp only [if_neg h1, if_neg h9]
        by_cases h0 : (i : Int) > 0
        · have e : wrap64 ((i : Int) - 1) = ((i - 1 : Nat) : Int) := by rw [wrap_in (by omega) (by omega)]; omega
          simp only [if_pos h0, e, if_pos (show (0 : Int) ≤ ((i - 1 : Nat) : Int) by omega), if_pos (show ((i - 1 : Nat) : Int) < (l.length : Int) by omega)]
          by_cases h2 : rd l (i : Int) > rd l ((i - 1 : Nat) : Int)
          · have hf : bagAt l i = false := decide_eq_false (fun hh => by have := hh.2.2 (by omega); omega)
            simp only [if_pos h2, hf, Bool.false_and]; exact Ev.now _
          · have ht : bagAt l i = true := decide_eq_true ⟨by omega, by omega, fun _ => by omega⟩
            simp only [if_neg h2, ht, Bool.true_and]; exact ih (i + 1) (by omega)
        · have ht : bagAt l i = true := decide_eq_true ⟨by omega, by omega, fun _ => by omega⟩
          simp only [if_neg h0, ht, Bool.true_and]; exact ih (i + 1) (by omega)
theorem impl_BagValid_ev (l : List Int) (hb : l.length ≤ 140737488351232) : Ev (fun k => impl_BagValid.f k l) (bagOk l) := impl_BagValid_l0 l hb l.length 0 (by omega)
theorem rd_drop (l : List Int) (a i : Nat) : rd (l.drop a) (i : Int) = rd l ((a + i : Nat) : Int) := by simp only [rd, Int.toNat_natCast, List.getD_eq_getElem?_getD, List.getElem?_drop]
theorem bagOk_drop {l : List Int} (h : bagOk l = true) (a : Nat) : bagOk (l.drop a) = true := by
  simp only [bagOk, Bool.and_eq_true, allB_iff, decide_eq_true_eq, bagAt, rd_drop] at h ⊢
  refine ⟨fun m _ hm => ?_, by simp; omega⟩
  rw [List.length_drop] at hm
  obtain ⟨h1, h2, h3⟩ := h.1 (a + m) (by omega) (by omega)
  refine ⟨h1, h2, fun h0 => ?_⟩
  have := h3 (by omega)
  rw [show a + m - 1 = a + (m - 1) by omega] at this
  exact this

-- part: l6Many
theorem l6Many_l0 (l : List Int) (n : Int) (hb : l.length ≤ 140737488351232) : ∀ (d i c : Nat), i + d = l.length → c ≤ i → Ev (fun k => spec_l6Many.l0 k l n (c : Int) (i : Int)) ((c + (l.drop i).count n : Nat) : Int) := by
  intro d
  induction d with
  | zero =>
    intro i c h _
    refine ev_s ?_
    simp only [spec_l6Many.l0, if_neg (show ¬ ((i : Int) < (l.length : Int)) by omega)]
    rw [List.drop_of_length_le (by omega)]
    exact Ev.now _
  | succ d ih =>
    intro i c h hc
    refine ev_s ?_
    simp only [spec_l6Many.l0, if_pos (show (i : Int) < (l.length : Int) by omega), if_pos (show (0 : Int) ≤ (i : Int) by omega), show wrap64 ((i : Int) + 1) = ((i + 1 : Nat) : Int) by rw [wrap_in (by omega) (by omega)]; rfl, show wrap64 ((c : Int) + 1) = ((c + 1 : Nat) : Int) by rw [wrap_in (by omega) (by omega)]; rfl]
    rw [rd_get (show i < l.length by omega), List.drop_eq_getElem_cons (show i < l.length by omega)]
    by_cases he : l[i] = n
    · simp only [if_pos he]
      rw [he, List.count_cons_self, show c + ((l.drop (i + 1)).count n + 1) = (c + 1) + (l.drop (i + 1)).count n by omega]
      exact ih (i + 1) (c + 1) (by omega) (by omega)
    · simp only [if_neg he]
      rw [List.count_cons_of_ne (fun e => he e)]
      exact ih (i + 1) c (by omega) (by omega)
theorem l6Many_ev (l : List Int) (n : Int) (hb : l.length ≤ 140737488351232) : Ev (fun k => spec_l6Many.f k l n) ((l.count n : Nat) : Int) :=
  ev_eq (l6Many_l0 l n hb l.length 0 0 (by omega) (by omega)) (by simp)

-- part: bagCn
/-! ### how often a number is in a multiset -/
def cn (l : List Int) (n : Int) : Int := ((l.countP (fun x => x == n) : Nat) : Int)
theorem cn_nonneg (l : List Int) (n : Int) : 0 ≤ cn l n := by unfold cn; omega
theorem cn_le (l : List Int) (n : Int) : cn l n ≤ l.length := by
  have := List.countP_le_length (p := fun x => x == n) (l := l)
  unfold cn; omega
theorem l6Many_cn (l : List Int) (n : Int) (hb : l.length ≤ 140737488351232) : Ev (fun k => spec_l6Many.f k l n) (cn l n) := l6Many_ev l n hb
theorem bagOk_all {l : List Int} (h : bagOk l = true) : (∀ x ∈ l, 0 ≤ x ∧ x < 10) ∧ l.length ≤ 16 := by
  simp only [bagOk, Bool.and_eq_true, allB_iff, decide_eq_true_eq, bagAt] at h
  refine ⟨fun x hx => ?_, h.2⟩
  obtain ⟨i, hi, rfl⟩ := List.mem_iff_getElem.1 hx
  have := h.1 i (by omega) (by omega)
  rw [rd_get hi] at this
  omega

-- part: bagCnt
theorem at_cn (l : List Int) (n : Nat) : impl_counts.at l n = cn l (n : Int) := rfl
theorem counts_eq {l : List Int} (h : bagOk l = true) {a : Int} (h0 : 0 ≤ a) (h1 : a < 10) : impl_counts.f l a = some (cn l a) := by
  have := bagOk_all h
  unfold impl_counts.f
  rw [if_pos ⟨⟨this.1, by omega⟩, h0, h1⟩, at_cn, Int.toNat_of_nonneg h0]

-- part: bagTo
/-! ### multisets compared -/
def bagTo (a b : List Int) : Nat → Int
  | 0 => 0
  | n + 1 => if cn a n = cn b n then bagTo a b n else if cn a n < cn b n then -1 else 1
def bagCmp (a b : List Int) : Int := if bagOk a = true then (if bagOk b = true then bagTo a b 10 else -2) else -2

-- part: bagCmp
theorem to_bagTo (a b : List Int) : ∀ n, impl_BagCompare.to a b n = bagTo a b n
  | 0 => rfl
  | n + 1 => by rw [impl_BagCompare.to, bagTo, to_bagTo a b n, at_cn, at_cn]
theorem impl_BagCompare_ev (a b : List Int) (ha : a.length ≤ 140737488351232) (hb : b.length ≤ 140737488351232) : Ev (fun k => impl_BagCompare.f k a b) (bagCmp a b) := by
  unfold impl_BagCompare.f bagCmp
  refine Ev.bind (impl_BagValid_ev a ha) ?_
  cases h1 : bagOk a with
  | false => simp only [Bool.false_eq_true, if_false]; exact Ev.now _
  | true =>
    simp only [if_true]
    refine Ev.bind (impl_BagValid_ev b hb) ?_
    cases h2 : bagOk b with
    | false => simp only [Bool.false_eq_true, if_false]; exact Ev.now _
    | true =>
      simp only [if_true, counts_eq h1 (a := 0) (by decide) (by decide), counts_eq h2 (a := 0) (by decide) (by decide), Option.bind_some]
      exact ev_now (to_bagTo a b 10)

-- part: bagExt
theorem cn_cons (x : Int) (l : List Int) (n : Int) : cn (x :: l) n = cn l n + if x = n then 1 else 0 := by
  unfold cn; rw [List.countP_cons]
  by_cases h : x = n <;> simp [h]
theorem cn_pos {l : List Int} {n : Int} (h : 0 < cn l n) : n ∈ l := by
  unfold cn at h
  have : 0 < l.countP (fun x => x == n) := by omega
  obtain ⟨x, hx, he⟩ := List.countP_pos_iff.1 this
  have : x = n := by simpa using he
  exact this ▸ hx
theorem bagOk_head {x : Int} {l : List Int} (h : bagOk (x :: l) = true) : ∀ y ∈ l, y ≤ x := by
  have hd := h
  simp only [bagOk, Bool.and_eq_true, allB_iff, decide_eq_true_eq, bagAt] at h
  have key : ∀ i, i < (x :: l).length → rd (x :: l) (i : Int) ≤ x := by
    intro i
    induction i with
    | zero => intro _; simp [rd]
    | succ i ih =>
      intro hi
      have h3 := (h.1 (i + 1) (by omega) (by omega)).2.2 (by omega)
      have := ih (by omega)
      rw [Nat.add_sub_cancel] at h3
      omega
  intro y hy
  obtain ⟨i, hi, rfl⟩ := List.mem_iff_getElem.1 hy
  have := key (i + 1) (by simp; omega)
  rw [rd_get (by simp; omega)] at this
  simpa using this
theorem bag_ext : ∀ (a b : List Int), bagOk a = true → bagOk b = true → (∀ n : Int, cn a n = cn b n) → a = b
  | [], [], _, _, _ => rfl
  | [], y :: b, _, _, h => by
    have h1 := h y
    rw [cn_cons, if_pos rfl] at h1
    have h2 := cn_nonneg b y
    have h3 : cn [] y = 0 := rfl
    omega
  | x :: a, [], _, _, h => by
    have h1 := h x
    rw [cn_cons, if_pos rfl] at h1
    have h2 := cn_nonneg a x
    have h3 : cn [] x = 0 := rfl
    omega
  | x :: a, y :: b, ha, hb, h => by
    have hxy : x = y := by
      have hx := h x
      have hy := h y
      rw [cn_cons, if_pos rfl] at hx
      rw [cn_cons y b y, if_pos rfl] at hy
      have p1 := cn_nonneg a x
      have p2 := cn_nonneg b y
      have m1 : x ∈ y :: b := cn_pos (by omega)
      have m2 : y ∈ x :: a := cn_pos (by omega)
      have l1 : x ≤ y := by
        rcases List.mem_cons.1 m1 with e | e
        · omega
        · exact bagOk_head hb x e
      have l2 : y ≤ x := by
        rcases List.mem_cons.1 m2 with e | e
        · omega
        · exact bagOk_head ha y e
      omega
    subst hxy
    have ha' : bagOk a = true := bagOk_drop ha 1
    have hb' : bagOk b = true := bagOk_drop hb 1
    rw [bag_ext a b ha' hb' (fun n => by have := h n; rw [cn_cons, cn_cons] at this; omega)]
theorem cn_out {l : List Int} (h : bagOk l = true) {n : Int} (hn : ¬ (0 ≤ n ∧ n < 10)) : cn l n = 0 := by
  have h0 := cn_nonneg l n
  by_cases hp : 0 < cn l n
  · exact absurd ((bagOk_all h).1 n (cn_pos hp)) hn
  · omega

-- part: bagBelow
/-! ### one below the other -/
theorem slices_Equal_ev (a b : List Int) (hb : a.length ≤ 140737488351232) : Ev (fun k => slices_Equal_int_int.f k a b) (decide (a = b)) := by
  unfold slices_Equal_int_int.f
  by_cases hl : (a.length : Int) = (b.length : Int)
  · simp only [if_pos hl]
    refine eqIntS_l0 (fun k a b i => slices_Equal_int_int.l0 k a b (a.length : Int) i) ?_ a b (by omega) hb a.length 0 (by omega) (by simp)
    intro k a b i
    simp only [slices_Equal_int_int.l0]
    by_cases h1 : i < (a.length : Int)
    · simp only [if_pos h1]
    · simp only [if_neg h1]
  · simp only [if_neg hl]
    exact ev_now (Eq.symm (decide_eq_false (fun h => hl (by rw [h]))))
theorem bagTo_zero (a b : List Int) : ∀ n, bagTo a b n = 0 ↔ ∀ m : Nat, m < n → cn a m = cn b m
  | 0 => by simp [bagTo]
  | n + 1 => by
    rw [bagTo]
    by_cases h : cn a n = cn b n
    · rw [if_pos h, bagTo_zero a b n]
      constructor
      · intro g m hm
        by_cases e : m = n
        · subst e; exact h
        · exact g m (by omega)
      · intro g m hm; exact g m (by omega)
    · rw [if_neg h]
      constructor
      · intro g; split at g <;> omega
      · intro g; exact absurd (g n (by omega)) h
theorem bagTo_range (a b : List Int) : ∀ n, bagTo a b n = 0 ∨ bagTo a b n = -1 ∨ bagTo a b n = 1
  | 0 => .inl rfl
  | n + 1 => by
    rw [bagTo]; split
    · exact bagTo_range a b n
    · split
      · exact .inr (.inl rfl)
      · exact .inr (.inr rfl)
theorem bag_eq_iff {a b : List Int} (ha : bagOk a = true) (hb : bagOk b = true) : bagTo a b 10 = 0 ↔ a = b := by
  rw [bagTo_zero]
  constructor
  · intro h
    refine bag_ext a b ha hb fun n => ?_
    by_cases hn : 0 ≤ n ∧ n < 10
    · have := h n.toNat (by omega)
      rw [Int.toNat_of_nonneg hn.1] at this
      exact this
    · rw [cn_out ha hn, cn_out hb hn]
  · intro h m _; rw [h]
/-- What the program asks, from above. -/
def belTo (a b : List Int) : Nat → Bool → Bool
  | 0, _ => true
  | n + 1, c => if cn b n < cn a n ∧ c = false then false else belTo a b n (c || decide (cn a n < cn b n))
theorem to_belTo (a b : List Int) : ∀ n c, impl_BagBelow.to a b n c = belTo a b n c
  | 0, _ => rfl
  | n + 1, c => by rw [impl_BagBelow.to, belTo, to_belTo a b n, at_cn, at_cn]
theorem belTo_iff (a b : List Int) : ∀ n c, belTo a b n c = true ↔ ∀ j : Nat, j < n → cn b j < cn a j → c = true ∨ ∃ m : Nat, j < m ∧ m < n ∧ cn a m < cn b m
  | 0, c => by simp [belTo]
  | n + 1, c => by
    rw [belTo]
    by_cases h : cn b n < cn a n ∧ c = false
    · rw [if_pos h]
      refine ⟨fun g => absurd g (by simp), fun g => ?_⟩
      rcases g n (by omega) h.1 with e | ⟨m, h1, h2, _⟩
      · rw [h.2] at e; exact e
      · omega
    · rw [if_neg h, belTo_iff a b n]
      constructor
      · intro g j hj hl
        by_cases e : j = n
        · subst e
          refine .inl ?_
          cases c with
          | true => rfl
          | false => exact absurd ⟨hl, rfl⟩ h
        · rcases g j (by omega) hl with e1 | ⟨m, h1, h2, h3⟩
          · rw [Bool.or_eq_true, decide_eq_true_eq] at e1
            rcases e1 with e1 | e1
            · exact .inl e1
            · exact .inr ⟨n, by omega, by omega, e1⟩
          · exact .inr ⟨m, h1, by omega, h3⟩
      · intro g j hj hl
        rcases g j (by omega) hl with e1 | ⟨m, h1, h2, h3⟩
        · exact .inl (by simp [e1])
        · by_cases e : m = n
          · subst e; exact .inl (by simp [h3])
          · exact .inr ⟨m, h1, by omega, h3⟩
def bagBel (a b : List Int) : Bool := bagOk a && bagOk b && decide (a ≠ b) && belTo a b 10 false
theorem impl_BagBelow_ev (a b : List Int) (ha : a.length ≤ 140737488351232) (hb : b.length ≤ 140737488351232) : Ev (fun k => impl_BagBelow.f k a b) (bagBel a b) := by
  unfold impl_BagBelow.f bagBel
  refine Ev.bind (impl_BagValid_ev a ha) ?_
  cases h1 : bagOk a with
  | false => simp only [Bool.false_eq_true, if_false, Bool.false_and]; exact Ev.now _
  | true =>
    simp only [if_true, Bool.true_and]
    refine Ev.bind (impl_BagValid_ev b hb) ?_
    cases h2 : bagOk b with
    | false => simp only [Bool.false_eq_true, if_false, Bool.false_and]; exact Ev.now _
    | true =>
      simp only [if_true, Bool.true_and]
      refine Ev.bind (slices_Equal_ev a b ha) ?_
      by_cases h : a = b
      · simp only [h, decide_true, if_true]; exact ev_now (by simp)
      · simp only [h, decide_false, Bool.false_eq_true, if_false, counts_eq h1 (a := 0) (by decide) (by decide), counts_eq h2 (a := 0) (by decide) (by decide), Option.bind_some]
        exact ev_now (by rw [to_belTo]; simp [h])

-- part: bagBelCmp
/-! ### both orders are one -/
theorem belTo_cmp (a b : List Int) : ∀ n, belTo a b n false = true ↔ (bagTo a b n = 0 ∨ bagTo a b n = -1)
  | 0 => by simp [belTo, bagTo]
  | n + 1 => by
    rw [belTo, bagTo]
    by_cases h1 : cn b n < cn a n
    · rw [if_pos ⟨h1, rfl⟩, if_neg (show ¬ cn a n = cn b n by omega), if_neg (show ¬ cn a n < cn b n by omega)]
      simp
    · rw [if_neg (fun h => h1 h.1)]
      by_cases h2 : cn a n < cn b n
      · rw [if_neg (show ¬ cn a n = cn b n by omega), if_pos h2, decide_eq_true h2, Bool.false_or]
        refine ⟨fun _ => .inr rfl, fun _ => (belTo_iff a b n true).2 (fun _ _ _ => .inl rfl)⟩
      · rw [if_pos (show cn a n = cn b n by omega), decide_eq_false h2, Bool.false_or]
        exact belTo_cmp a b n
theorem bagBel_cmp (a b : List Int) : bagBel a b = (bagCmp a b == -1) := by
  unfold bagBel bagCmp
  cases h1 : bagOk a with
  | false => simp
  | true =>
    cases h2 : bagOk b with
    | false => simp
    | true =>
      simp only [Bool.true_and, if_true]
      rw [Bool.eq_iff_iff, Bool.and_eq_true, decide_eq_true_eq, belTo_cmp, beq_iff_eq]
      have := bag_eq_iff h1 h2
      constructor
      · rintro ⟨h3, h4 | h4⟩
        · exact absurd (this.1 h4) h3
        · exact h4
      · intro h4
        refine ⟨fun h3 => ?_, .inr h4⟩
        have := this.2 h3
        omega

-- part: O
/-! ### ordinals -/
/-- An ordinal: a sum of terms w^e * n. -/
inductive O where
  | z : O
  | c (n : Nat) (e r : O) : O

-- part: coreO
def O.cmp : O → O → Ordering
  | .z, .z => .eq
  | .z, .c .. => .lt
  | .c .., .z => .gt
  | .c n e r, .c m f s => ((O.cmp e f).then (compare n m)).then (O.cmp r s)

theorem O.cmp_self : ∀ a : O, O.cmp a a = .eq
  | .z => rfl
  | .c n e r => by
    have h1 := O.cmp_self e
    have h2 := O.cmp_self r
    simp [O.cmp, h1, h2]

theorem O.eq_of_cmp : ∀ a b : O, O.cmp a b = .eq → a = b
  | .z, .z => fun _ => rfl
  | .z, .c .. => fun h => by simp [O.cmp] at h
  | .c .., .z => fun h => by simp [O.cmp] at h
  | .c n e r, .c m f s => fun h => by
    simp only [O.cmp, Ordering.then_eq_eq] at h
    obtain ⟨⟨h1, h2⟩, h3⟩ := h
    rw [O.eq_of_cmp e f h1, O.eq_of_cmp r s h3, Nat.compare_eq_eq.mp h2]

theorem O.cmp_swap : ∀ a b : O, (O.cmp a b).swap = O.cmp b a
  | .z, .z => rfl
  | .z, .c .. => rfl
  | .c .., .z => rfl
  | .c n e r, .c m f s => by
    have h1 := O.cmp_swap e f
    have h2 := O.cmp_swap r s
    simp only [O.cmp, Ordering.swap_then, h1, h2, Nat.compare_swap]

theorem O.cmp_gt_iff (a b : O) : O.cmp a b = .gt ↔ O.cmp b a = .lt := by
  rw [← O.cmp_swap a b]
  cases O.cmp a b <;> simp [Ordering.swap]

theorem O.lt_trans : ∀ a b c : O, O.cmp a b = .lt → O.cmp b c = .lt → O.cmp a c = .lt
  | .z, .z, _ => fun h => by simp [O.cmp] at h
  | .c .., .z, _ => fun h => by simp [O.cmp] at h
  | .z, .c .., .z => fun _ h => by simp [O.cmp] at h
  | .z, .c .., .c .. => fun _ _ => rfl
  | .c .., .c .., .z => fun _ h => by simp [O.cmp] at h
  | .c n e r, .c m f s, .c k g t => fun h1 h2 => by
    simp only [O.cmp, Ordering.then_eq_lt] at h1 h2 ⊢
    rcases h1 with (h1 | ⟨h1, h1'⟩) | ⟨h1, h1'⟩
    · rcases h2 with (h2 | ⟨h2, h2'⟩) | ⟨h2, h2'⟩
      · exact .inl (.inl (O.lt_trans _ _ _ h1 h2))
      · rw [← O.eq_of_cmp _ _ h2]; exact .inl (.inl h1)
      · rw [Ordering.then_eq_eq] at h2; rw [← O.eq_of_cmp _ _ h2.1]; exact .inl (.inl h1)
    · have := O.eq_of_cmp _ _ h1; subst this
      rcases h2 with (h2 | ⟨h2, h2'⟩) | ⟨h2, h2'⟩
      · exact .inl (.inl h2)
      · have h3 := O.eq_of_cmp _ _ h2; subst h3
        rw [Nat.compare_eq_lt] at h1' h2'
        exact .inl (.inr ⟨h2, Nat.compare_eq_lt.mpr (by omega)⟩)
      · rw [Ordering.then_eq_eq] at h2; rw [← Nat.compare_eq_eq.mp h2.2]; exact .inl (.inr ⟨h2.1, h1'⟩)
    · rw [Ordering.then_eq_eq] at h1
      have := O.eq_of_cmp _ _ h1.1; subst this
      have := Nat.compare_eq_eq.mp h1.2; subst this
      rcases h2 with (h2 | ⟨h2, h2'⟩) | ⟨h2, h2'⟩
      · exact .inl (.inl h2)
      · exact .inl (.inr ⟨h2, h2'⟩)
      · exact .inr ⟨h2, O.lt_trans _ _ _ h1' h2'⟩

theorem O.cmp_tri (a b : O) : O.cmp a b = .lt ∨ a = b ∨ O.cmp b a = .lt := by
  cases h : O.cmp a b with
  | lt => exact .inl rfl
  | eq => exact .inr (.inl (O.eq_of_cmp _ _ h))
  | gt => exact .inr (.inr ((O.cmp_gt_iff _ _).mp h))

theorem O.lt_irrefl (a : O) : O.cmp a a ≠ .lt := by rw [O.cmp_self]; simp
theorem O.lt_asymm {a b : O} (h : O.cmp a b = .lt) : O.cmp b a ≠ .lt := fun h' => O.lt_irrefl a (O.lt_trans _ _ _ h h')

/-- The first exponent is less than e. -/
def O.hd (e : O) : O → Prop
  | .z => True
  | .c _ f _ => O.cmp f e = .lt

/-- A normal form. -/
def O.NF : O → Prop
  | .z => True
  | .c n e r => 1 ≤ n ∧ O.NF e ∧ O.NF r ∧ O.hd e r

-- part: oRow
def O.len : O → Nat
  | .z => 0
  | .c _ _ r => O.len r + 1
def O.body : O → List Int
  | .z => []
  | .c n e r => (n : Int) :: (O.len e : Int) :: (O.body e ++ O.body r)
def O.row (o : O) : List Int := (O.len o : Int) :: O.body o
theorem O.len_le : ∀ o : O, o.len ≤ o.body.length
  | .z => Nat.le_refl _
  | .c n e r => by have := O.len_le r; simp only [O.len, O.body, List.length_cons, List.length_append]; omega
/-- These terms are this ordinal. -/
inductive IsO : List S57 → O → Prop where
  | nil : IsO [] .z
  | cons {n : Nat} {e r : List S57} {oe or_ : O} (he : IsO e oe) (hr : IsO r or_) : IsO (⟨(n : Int), e⟩ :: r) (.c n oe or_)
theorem IsO.len {l : List S57} {o : O} (h : IsO l o) : l.length = o.len := by
  induction h with
  | nil => rfl
  | cons he hr ihe ihr => simp [O.len, ihr]
theorem rd_T57_mid (pre suf : List S57) (x : S57) : rd_T57 (pre ++ x :: suf) ((pre.length : Nat) : Int) = x := by simp [rd_T57]
def O.num (n : Nat) : O := if n = 0 then .z else .c n .z .z
theorem number_eq (n : Nat) : ∃ l, impl_number.f (n : Int) = some l ∧ IsO l (O.num n) := by
  unfold impl_number.f O.num
  by_cases h : n = 0
  · subst h; exact ⟨[], rfl, .nil⟩
  · rw [if_neg (show ¬ ((n : Int) = 0) by omega), if_neg h]
    exact ⟨_, rfl, .cons .nil .nil⟩
theorem rowOf_l0 {suf : List S57} {o : O} (h : IsO suf o) : ∀ (pre : List S57) (out : List Int), pre.length + suf.length ≤ 1000000 → out.length + o.body.length ≤ 1000000 → Ev (fun k => impl_rowOf.l0 k out (pre ++ suf) (((pre ++ suf).length : Nat) : Int) (pre.length : Int)) (out ++ o.body) := by
  induction h with
  | nil =>
    intro pre out _ _
    refine ev_s ?_
    simp only [impl_rowOf.l0, List.append_nil, if_neg (show ¬ ((pre.length : Int) < (pre.length : Int)) by omega), O.body]
    exact Ev.now _
  | @cons n e r oe or_ he hr ihe ihr =>
    intro pre out hp ho
    simp only [List.length_cons] at hp
    simp only [O.body, List.length_cons, List.length_append] at ho
    have hlen : ((pre ++ (⟨(n : Int), e⟩ : S57) :: r).length : Nat) = pre.length + (r.length + 1) := by simp
    have he1 := IsO.len he
    have hel := O.len_le oe
    have hE : Ev (fun k => impl_rowOf.f k e) oe.row := by
      refine ev_s ?_
      simp only [impl_rowOf.f]
      have := ihe [] [(e.length : Int)] (by simp; omega) (by simp; omega)
      rw [List.nil_append] at this
      refine ev_eq this ?_
      rw [O.row, ← he1]; rfl
    refine ev_s ?_
    simp only [impl_rowOf.l0, rd_T57_mid, hlen, if_pos (show (pre.length : Int) < ((pre.length + (r.length + 1) : Nat) : Int) by omega), if_pos (show (0 : Int) ≤ (pre.length : Int) by omega), if_pos (show out.length < 17592186044416 by omega), Option.bind_some]
    refine Ev.bind hE ?_
    have hrow : oe.row.length = oe.body.length + 1 := by simp [O.row]
    simp only [List.length_append, List.length_singleton, hrow, if_pos (show out.length + 1 + (oe.body.length + 1) < 17592186044416 by omega), show wrap64 ((pre.length : Int) + 1) = ((pre.length + 1 : Nat) : Int) by rw [wrap_in (by omega) (by omega)]; rfl]
    have := ihr (pre ++ [⟨(n : Int), e⟩]) (out ++ [(n : Int)] ++ oe.row) (by simp; omega) (by simp [hrow]; omega)
    simp only [List.append_assoc, List.singleton_append, List.length_append, List.length_cons, List.length_nil] at this
    refine ev_eq ?_ (show out ++ ((n : Int) :: (oe.row ++ or_.body)) = out ++ (O.c n oe or_).body by simp [O.body, O.row])
    simp only [List.append_assoc, List.singleton_append]
    exact this
theorem rowOf_ev {l : List S57} {o : O} (h : IsO l o) (ho : o.body.length ≤ 100000) : Ev (fun k => impl_rowOf.f k l) o.row := by
  have hl := IsO.len h
  have := O.len_le o
  refine ev_s ?_
  simp only [impl_rowOf.f]
  have := rowOf_l0 h [] [(l.length : Int)] (by simp; omega) (by simp; omega)
  rw [List.nil_append] at this
  refine ev_eq this ?_
  rw [O.row, ← hl]; rfl

-- part: oAppDef
def O.app : O → O → O
  | .z, y => y
  | .c n e r, y => .c n e (O.app r y)
theorem O.app_z : ∀ x : O, O.app x .z = x
  | .z => rfl
  | .c n e r => by rw [O.app, O.app_z r]

-- part: oApp
theorem O.app_assoc : ∀ x y t : O, O.app (O.app x y) t = O.app x (O.app y t)
  | .z, _, _ => rfl
  | .c n e r, y, t => by simp only [O.app, O.app_assoc r y t]
theorem O.app_body : ∀ x y : O, (O.app x y).body = x.body ++ y.body
  | .z, _ => rfl
  | .c n e r, y => by simp only [O.app, O.body, O.app_body r y, List.cons_append, List.append_assoc]
theorem O.app_len : ∀ x y : O, (O.app x y).len = x.len + y.len
  | .z, _ => by simp [O.app, O.len]
  | .c n e r, y => by simp only [O.app, O.len, O.app_len r y]; omega
theorem IsO.app {a b : List S57} {x y : O} (ha : IsO a x) (hb : IsO b y) : IsO (a ++ b) (O.app x y) := by
  induction ha with
  | nil => exact hb
  | cons he _ _ ih => exact .cons he ih

-- part: oTerms
/-! ### reading ordinals back -/
/-- The terms of an ordinal. -/
def O.terms : O → List S57
  | .z => []
  | .c n e r => ⟨(n : Int), O.terms e⟩ :: O.terms r
theorem O.terms_is : ∀ o : O, IsO o.terms o
  | .z => .nil
  | .c n e r => .cons (O.terms_is e) (O.terms_is r)
theorem IsO.terms {l : List S57} {o : O} (h : IsO l o) : l = o.terms := by
  induction h with
  | nil => rfl
  | cons _ _ h1 h2 => rw [O.terms, h1, h2]
theorem O.terms_len (o : O) : o.terms.length = o.len := IsO.len o.terms_is
def ordI : Ordering → Int
  | .lt => -1
  | .eq => 0
  | .gt => 1
theorem ordI_swap (o : Ordering) : ordI o.swap = -ordI o := by cases o <;> rfl
theorem ordI_zero {o : Ordering} : ordI o = 0 ↔ o = .eq := by cases o <;> decide
theorem ordI_neg {o : Ordering} : ordI o < 0 ↔ o = .lt := by cases o <;> decide
theorem cmpInt_nat (x y : Nat) : cmp_Compare_int.f (x : Int) (y : Int) = some (ordI (compare x y)) := by
  simp only [cmp_Compare_int.f, cmp_isNaN_int.f, Option.bind_some, bne_self_eq_false, Bool.false_eq_true, if_false]
  by_cases h1 : x < y
  · rw [if_pos (show (x : Int) < (y : Int) by omega), Nat.compare_eq_lt.mpr h1]; rfl
  · by_cases h2 : y < x
    · rw [if_neg (show ¬ ((x : Int) < (y : Int)) by omega), if_pos (show (x : Int) > (y : Int) by omega), Nat.compare_eq_gt.mpr h2]; rfl
    · rw [if_neg (show ¬ ((x : Int) < (y : Int)) by omega), if_neg (show ¬ ((x : Int) > (y : Int)) by omega), Nat.compare_eq_eq.mpr (by omega)]; rfl
theorem ordI_then (a b : Ordering) : ordI (a.then b) = if ordI a = 0 then ordI b else ordI a := by cases a <;> rfl
theorem compare_step (n m : Nat) (e r f s : O) (pa pb : List S57) (hp : pa.length = pb.length) (hb : pa.length ≤ 1000000) (h1 : Ev (fun k => impl_compare.f k e.terms f.terms) (ordI (O.cmp e f)))
    (h2 : Ev (fun k => impl_compare.l0 k (pa ++ ((⟨(n : Int), O.terms e⟩ : S57) :: O.terms r)) (pb ++ ((⟨(m : Int), O.terms f⟩ : S57) :: O.terms s)) ((pa.length + 1 : Nat) : Int)) (ordI (O.cmp r s))) :
    Ev (fun k => impl_compare.l0 k (pa ++ ((⟨(n : Int), O.terms e⟩ : S57) :: O.terms r)) (pb ++ ((⟨(m : Int), O.terms f⟩ : S57) :: O.terms s)) (pa.length : Int)) (ordI (O.cmp (.c n e r) (.c m f s))) := by
  have hla : (pa ++ ((⟨(n : Int), O.terms e⟩ : S57) :: O.terms r)).length = pa.length + (r.terms.length + 1) := by simp
  have hlb : (pb ++ ((⟨(m : Int), O.terms f⟩ : S57) :: O.terms s)).length = pb.length + (s.terms.length + 1) := by simp
  have ea : rd_T57 (pa ++ ((⟨(n : Int), O.terms e⟩ : S57) :: O.terms r)) (pa.length : Int) = ⟨(n : Int), O.terms e⟩ := rd_T57_mid pa r.terms ⟨(n : Int), O.terms e⟩
  have eb : rd_T57 (pb ++ ((⟨(m : Int), O.terms f⟩ : S57) :: O.terms s)) (pa.length : Int) = ⟨(m : Int), O.terms f⟩ := by rw [hp]; exact rd_T57_mid pb s.terms ⟨(m : Int), O.terms f⟩
  generalize pa ++ ((⟨(n : Int), O.terms e⟩ : S57) :: O.terms r) = A at *
  generalize pb ++ ((⟨(m : Int), O.terms f⟩ : S57) :: O.terms s) = B at *
  have ew : wrap64 ((pa.length : Int) + 1) = ((pa.length + 1 : Nat) : Int) := wrap_nat2 pa.length 1 (by omega)
  have g1 : (pa.length : Int) < (A.length : Int) := by omega
  have g2 : (pa.length : Int) < (B.length : Int) := by omega
  refine ev_s ?_
  simp only [impl_compare.l0, if_pos g1, decide_eq_true g2]
  refine ev_s ?_
  simp only [impl_compare.j1, if_true, if_pos (show (0 : Int) ≤ (pa.length : Int) from Int.natCast_nonneg _), if_pos g1, if_pos g2, ea, eb, ew]
  refine Ev.bind h1 ?_
  rw [O.cmp, ordI_then, ordI_then]
  by_cases q1 : ordI (O.cmp e f) = 0
  · simp only [if_pos q1, cmpInt_nat, Option.bind_some]
    by_cases q2 : ordI (compare n m) = 0
    · simp only [if_pos q2]
      exact h2
    · simp only [if_neg q2]
      exact Ev.now _
  · simp only [if_neg q1]
    exact Ev.now _
theorem compare_l0 : ∀ (x y : O) (pa pb : List S57), pa.length = pb.length → pa.length + x.body.length ≤ 1000000 → pb.length + y.body.length ≤ 1000000 →
    Ev (fun k => impl_compare.l0 k (pa ++ x.terms) (pb ++ y.terms) (pa.length : Int)) (ordI (O.cmp x y))
  | .z, .z, pa, pb, hp, _, _ => by
    refine ev_s ?_
    simp only [impl_compare.l0, O.terms, List.append_nil, if_neg (show ¬ ((pa.length : Int) < (pa.length : Int)) by omega)]
    refine ev_s ?_
    simp only [impl_compare.j1, Bool.false_eq_true, if_false, cmpInt_nat, Option.bind_some, hp, Nat.compare_eq_eq.mpr]
    exact Ev.now _
  | .z, .c m f s, pa, pb, hp, _, _ => by
    refine ev_s ?_
    simp only [impl_compare.l0, O.terms, List.append_nil, if_neg (show ¬ ((pa.length : Int) < (pa.length : Int)) by omega)]
    refine ev_s ?_
    have hl : (pb ++ (⟨(m : Int), O.terms f⟩ :: O.terms s : List S57)).length = pb.length + (s.terms.length + 1) := by simp
    simp only [impl_compare.j1, Bool.false_eq_true, if_false, cmpInt_nat, Option.bind_some, hl, Nat.compare_eq_lt.mpr (show pa.length < pb.length + (s.terms.length + 1) by omega)]
    exact Ev.now _
  | .c n e r, .z, pa, pb, hp, _, _ => by
    refine ev_s ?_
    have hl : (pa ++ (⟨(n : Int), O.terms e⟩ :: O.terms r : List S57)).length = pa.length + (r.terms.length + 1) := by simp
    simp only [impl_compare.l0, O.terms, List.append_nil, hl, if_pos (show (pa.length : Int) < ((pa.length + (r.terms.length + 1) : Nat) : Int) by omega), decide_eq_false (show ¬ ((pa.length : Int) < (pb.length : Int)) by omega)]
    refine ev_s ?_
    simp only [impl_compare.j1, Bool.false_eq_true, if_false, hl, cmpInt_nat, Option.bind_some, Nat.compare_eq_gt.mpr (show pb.length < pa.length + (r.terms.length + 1) by omega)]
    exact Ev.now _
  | .c n e r, .c m f s, pa, pb, hp, ha, hb => by
    simp only [O.body, List.length_cons, List.length_append] at ha hb
    have ih1 : Ev (fun k => impl_compare.f k e.terms f.terms) (ordI (O.cmp e f)) := by
      have := compare_l0 e f [] [] rfl (by simp only [List.length_nil]; omega) (by simp only [List.length_nil]; omega)
      rw [List.nil_append, List.nil_append] at this
      refine ev_s ?_
      simp only [impl_compare.f]
      exact this
    have ih2 := compare_l0 r s (pa ++ [⟨(n : Int), e.terms⟩]) (pb ++ [⟨(m : Int), f.terms⟩]) (by simp only [List.length_append, List.length_singleton, hp]) (by simp only [List.length_append, List.length_singleton]; omega) (by simp only [List.length_append, List.length_singleton]; omega)
    simp only [List.append_assoc, List.singleton_append, List.length_append, List.length_singleton] at ih2
    exact compare_step n m e r f s pa pb hp (by omega) ih1 ih2
theorem compare_ev (x y : O) (hx : x.body.length ≤ 100000) (hy : y.body.length ≤ 100000) : Ev (fun k => impl_compare.f k x.terms y.terms) (ordI (O.cmp x y)) := by
  have := compare_l0 x y [] [] rfl (by simp; omega) (by simp; omega)
  rw [List.nil_append, List.nil_append] at this
  refine ev_s ?_
  simp only [impl_compare.f]
  exact this
/-- In reach of the reader: each sum has 60 terms at most, each number is in 1..9999, the exponents fall. -/
def O.Sm : O → Prop
  | .z => True
  | .c n e r => (1 ≤ n ∧ n ≤ 9999) ∧ (O.Sm e ∧ e.len ≤ 60) ∧ O.Sm r ∧ O.hd e r
theorem O.Sm.nf : ∀ {o : O}, o.Sm → o.NF
  | .z, _ => trivial
  | .c n e r, h => ⟨h.1.1, O.Sm.nf h.2.1.1, O.Sm.nf h.2.2.1, h.2.2.2⟩
/-- What stands last ahead: nothing, or a term with this exponent. -/
def LastE (pa : List S57) (r : O) : Prop := pa = [] ∨ ∃ pb m f, pa = pb ++ [⟨m, O.terms f⟩] ∧ f.body.length ≤ 100000 ∧ O.hd f r
theorem takeOrd_l0 : ∀ (r : O), r.Sm → ∀ (pa : List S57) (t : List Int), pa.length + r.len ≤ 60 → r.body.length ≤ 100000 → LastE pa r →
    Ev (fun k => impl_takeOrd.l0 k (r.body ++ t) pa ((pa.length + r.len : Nat) : Int) (pa.length : Int)) (pa ++ r.terms, t, true)
  | .z, _, pa, t, _, _, _ => by
    refine ev_s ?_
    simp only [impl_takeOrd.l0, O.len, O.body, O.terms, Nat.add_zero, List.nil_append, List.append_nil, Int.lt_irrefl, if_false]
    exact Ev.now _
  | .c n e r, hs, pa, t, hl, hb, hlast => by
    obtain ⟨hn, ⟨hse, hle⟩, hsr, hhd⟩ := hs
    simp only [O.len] at hl
    simp only [O.body, List.length_cons, List.length_append] at hb
    have ihr := takeOrd_l0 r hsr (pa ++ [⟨(n : Int), e.terms⟩]) t (by simp; omega) (by omega) (.inr ⟨pa, n, e, rfl, by omega, hhd⟩)
    have ihe : Ev (fun k => impl_takeOrd.f k ((e.len : Int) :: (e.body ++ (r.body ++ t)))) (e.terms, r.body ++ t, true) := by
      have := takeOrd_l0 e hse [] (r.body ++ t) (by simpa using hle) (by omega) (.inl rfl)
      simp only [List.length_nil, Nat.zero_add, List.nil_append] at this
      refine ev_s ?_
      have hc : rd ((e.len : Int) :: (e.body ++ (r.body ++ t))) 0 = (e.len : Int) := rfl
      simp only [impl_takeOrd.f, List.length_cons, if_neg (show ¬ (((e.body ++ (r.body ++ t)).length + 1 : Nat) : Int) = 0 by omega), if_pos (show (0 : Int) < (((e.body ++ (r.body ++ t)).length + 1 : Nat) : Int) by omega), if_pos (show (1 : Int) ≤ (((e.body ++ (r.body ++ t)).length + 1 : Nat) : Int) by omega), Option.bind_some, hc, List.drop_succ_cons, List.drop_zero, if_neg (show ¬ ((e.len : Int) < 0) by omega), decide_eq_false (show ¬ ((e.len : Int) > 60) by omega)]
      refine ev_s ?_
      simp only [impl_takeOrd.j0, Bool.false_eq_true, if_false]
      exact this
    have hbody : (O.c n e r).body ++ t = (n : Int) :: ((e.len : Int) :: (e.body ++ (r.body ++ t))) := by simp [O.body]
    have hc : rd ((n : Int) :: ((e.len : Int) :: (e.body ++ (r.body ++ t)))) 0 = (n : Int) := rfl
    have hw : wrap64 ((pa.length : Int) + 1) = (((pa ++ [(⟨(n : Int), e.terms⟩ : S57)]).length : Nat) : Int) := by
      rw [List.length_append, List.length_singleton]; exact wrap_nat2 pa.length 1 (by omega)
    have hcnt : ((pa.length + (O.c n e r).len : Nat) : Int) = (((pa ++ [(⟨(n : Int), e.terms⟩ : S57)]).length + r.len : Nat) : Int) := by
      simp only [O.len, List.length_append, List.length_singleton]; omega
    have hres : pa ++ (O.c n e r).terms = pa ++ [(⟨(n : Int), e.terms⟩ : S57)] ++ r.terms := by simp [O.terms]
    rw [hbody, hres]
    refine ev_s ?_
    simp only [impl_takeOrd.l0, List.length_cons, if_pos (show (pa.length : Int) < ((pa.length + (O.c n e r).len : Nat) : Int) by simp only [O.len]; omega), hc]
    have hlen : (((e.len : Int) :: (e.body ++ (r.body ++ t))).length : Nat) = (e.body ++ (r.body ++ t)).length + 1 := by simp
    simp only [if_neg (show ¬ ((((e.body ++ (r.body ++ t)).length + 1 + 1 : Nat) : Int) = 0) by omega), if_pos (show (0 : Int) < (((e.body ++ (r.body ++ t)).length + 1 + 1 : Nat) : Int) by omega), if_neg (show ¬ ((n : Int) < 1) by omega), decide_eq_false (show ¬ ((n : Int) > 9999) by omega)]
    refine ev_s ?_
    simp only [impl_takeOrd.j2, Bool.false_eq_true, if_false, List.length_cons, if_pos (show (1 : Int) ≤ (((e.body ++ (r.body ++ t)).length + 1 + 1 : Nat) : Int) by omega), List.drop_succ_cons, List.drop_zero]
    refine Ev.bind ihe ?_
    simp only [if_true, if_pos (show (0 : Int) < (((e.body ++ (r.body ++ t)).length + 1 + 1 : Nat) : Int) by omega), hc, if_pos (show pa.length < 4398046511104 by omega), hw, hcnt]
    rcases hlast with h0 | ⟨pb, m, f, hpa, hfb, hfd⟩
    · simp only [if_neg (show ¬ ((pa.length : Int) > 0) by rw [h0]; simp)]
      exact ihr
    · have hpl : pa.length = pb.length + 1 := by rw [hpa]; simp
      have hw1 : wrap64 ((pa.length : Int) - 1) = (pb.length : Int) := by rw [wrap_in (by omega) (by omega)]; omega
      have hrd : rd_T57 pa (pb.length : Int) = ⟨m, O.terms f⟩ := by rw [hpa]; exact rd_T57_mid pb [] ⟨m, O.terms f⟩
      simp only [if_pos (show (pa.length : Int) > 0 by omega), hw1, if_pos (show (0 : Int) ≤ (pb.length : Int) by omega), if_pos (show (pb.length : Int) < (pa.length : Int) by omega), hrd]
      refine Ev.bind (compare_ev e f (by omega) hfb) ?_
      have : ordI (O.cmp e f) = -1 := by rw [show O.cmp e f = .lt from hfd]; rfl
      simp only [this, if_neg (show ¬ ((-1 : Int) ≥ 0) by decide)]
      exact ihr
theorem takeOrd_ev {o : O} (hs : o.Sm) (hl : o.len ≤ 60) (hb : o.body.length ≤ 100000) (t : List Int) : Ev (fun k => impl_takeOrd.f k (o.row ++ t)) (o.terms, t, true) := by
  have := takeOrd_l0 o hs [] t (by simpa using hl) hb (.inl rfl)
  simp only [List.length_nil, Nat.zero_add, List.nil_append] at this
  refine ev_s ?_
  have hc : rd ((o.len : Int) :: (o.body ++ t)) 0 = (o.len : Int) := rfl
  simp only [O.row, List.cons_append, impl_takeOrd.f, List.length_cons, if_neg (show ¬ (((o.body ++ t).length + 1 : Nat) : Int) = 0 by omega), if_pos (show (0 : Int) < (((o.body ++ t).length + 1 : Nat) : Int) by omega), if_pos (show (1 : Int) ≤ (((o.body ++ t).length + 1 : Nat) : Int) by omega), Option.bind_some, hc, List.drop_succ_cons, List.drop_zero, if_neg (show ¬ ((o.len : Int) < 0) by omega), decide_eq_false (show ¬ ((o.len : Int) > 60) by omega)]
  refine ev_s ?_
  simp only [impl_takeOrd.j0, Bool.false_eq_true, if_false]
  exact this
theorem ordOf_ev {o : O} (hs : o.Sm) (hb : o.row.length ≤ 60) : Ev (fun k => impl_ordOf.f k o.row) (o.terms, true) := by
  have hlb := O.len_le o
  have hr : o.row.length = o.body.length + 1 := by simp [O.row]
  have h := takeOrd_ev hs (by omega) (by omega) []
  rw [List.append_nil] at h
  simp only [impl_ordOf.f, if_neg (show ¬ ((o.row.length : Int) < 1) by omega), if_neg (show ¬ ((o.row.length : Int) > 60) by omega)]
  refine Ev.bind h ?_
  simp only [if_true]
  exact ev_now (by simp)
theorem OrdCompare_ev {x y : O} (hx : x.Sm) (hy : y.Sm) (hxb : x.row.length ≤ 60) (hyb : y.row.length ≤ 60) : Ev (fun k => impl_OrdCompare.f k x.row y.row) (ordI (O.cmp x y)) := by
  have e1 : x.row.length = x.body.length + 1 := by simp [O.row]
  have e2 : y.row.length = y.body.length + 1 := by simp [O.row]
  simp only [impl_OrdCompare.f]
  refine Ev.bind (ordOf_ev hx hxb) ?_
  refine Ev.bind (ordOf_ev hy hyb) ?_
  simp only [if_true]
  refine Ev.bind (compare_ev x y (by omega) (by omega)) ?_
  exact Ev.now _

-- part: numO
theorem cmp_num (i j : Nat) : O.cmp (O.num i) (O.num j) = compare i j := by
  unfold O.num
  by_cases h1 : i = 0
  · by_cases h2 : j = 0
    · subst h1; subst h2; rfl
    · subst h1; rw [if_pos rfl, if_neg h2, Nat.compare_eq_lt.mpr (by omega)]; rfl
  · by_cases h2 : j = 0
    · subst h2; rw [if_pos rfl, if_neg h1, Nat.compare_eq_gt.mpr (by omega)]; rfl
    · rw [if_neg h1, if_neg h2]
      simp only [O.cmp]
      cases compare i j <;> rfl
theorem num_Sm {n : Nat} (h : n ≤ 9999) : (O.num n).Sm ∧ (O.num n).len ≤ 60 := by
  unfold O.num
  by_cases h1 : n = 0
  · rw [if_pos h1]; exact ⟨trivial, by simp [O.len]⟩
  · rw [if_neg h1]; exact ⟨⟨by omega, ⟨trivial, by simp [O.len]⟩, trivial, trivial⟩, by simp [O.len]⟩
theorem hd_cmp {e f : O} {n : Nat} {r x : O} (h : O.hd e x) : O.cmp x (.c n e r) = .lt := by
  cases x with
  | z => rfl
  | c m g s =>
    have hg : O.cmp g e = .lt := h
    simp only [O.cmp, hg]; rfl

-- part: bagO
/-! ### the ordinal of a multiset -/
def bagO (l : List Int) : Nat → O
  | 0 => .z
  | n + 1 => if cn l n > 0 then .c (cn l n).toNat (O.num n) (bagO l n) else bagO l n
theorem numBody (n : Nat) : (O.num n).body.length ≤ 2 := by unfold O.num; split <;> simp [O.body]
theorem bagO_body (l : List Int) : ∀ n, (bagO l n).body.length ≤ 4 * n
  | 0 => by simp [bagO, O.body]
  | n + 1 => by
    have := bagO_body l n
    have := numBody n
    rw [bagO]; split
    · simp only [O.body, List.length_cons, List.length_append]; omega
    · omega
def bagOrd (l : List Int) : List Int := if bagOk l = true then O.row (bagO l 10) else []
theorem bagOrd_length (l : List Int) : (bagOrd l).length ≤ 100 := by
  unfold bagOrd; split
  · have := bagO_body l 10
    simp only [O.row, List.length_cons]; omega
  · simp

-- part: bagOrd
theorem impl_BagOrd_l0 {l : List Int} (h : bagOk l = true) : ∀ (n : Nat) (x : List S57) (o : O), n ≤ 10 → IsO x o → o.body.length ≤ 4 * (10 - n) → Ev (fun k => impl_BagOrd.l0 k l x ((n : Int) - 1)) (O.row (O.app o (bagO l n))) := by
  intro n
  induction n with
  | zero =>
    intro x o _ hx ho
    have hxl := IsO.len hx
    have hol := O.len_le o
    refine ev_s ?_
    simp only [impl_BagOrd.l0, if_neg (show ¬ ((((0 : Nat) : Int) - 1) ≥ 0) by decide)]
    rw [bagO, O.app_z]
    refine Ev.bind (rowOf_ev hx (by omega)) ?_
    exact Ev.now _
  | succ n ih =>
    intro x o hn hx ho
    have hxl := IsO.len hx
    have hol := O.len_le o
    obtain ⟨ln, hn1, hn2⟩ := number_eq n
    have e : (((n + 1 : Nat) : Int) - 1) = (n : Int) := by omega
    refine ev_s ?_
    simp only [e, impl_BagOrd.l0, if_pos (show (n : Int) ≥ 0 by omega), counts_eq h (show 0 ≤ (n : Int) by omega) (show (n : Int) < 10 by omega), Option.bind_some, hn1, if_pos (show x.length < 4398046511104 by omega), show wrap64 ((n : Int) - 1) = (n : Int) - 1 from wrap_in (by omega) (by omega)]
    rw [bagO]
    by_cases hc : cn l n > 0
    · simp only [if_pos hc]
      obtain ⟨m, hm⟩ := Int.eq_ofNat_of_zero_le (cn_nonneg l n)
      have hx2 : IsO (x ++ [(⟨cn l n, ln⟩ : S57)]) (O.app o (.c (cn l n).toNat (O.num n) .z)) := by
        rw [hm]
        exact IsO.app hx (.cons hn2 .nil)
      have hnb := numBody n
      refine ev_eq (ih _ _ (by omega) hx2 ?_) ?_
      · rw [O.app_body]; simp only [O.body, List.length_append, List.length_cons, List.length_nil]; omega
      · rw [O.app_assoc]; rfl
    · simp only [if_neg hc]
      exact ih x o (by omega) hx (by omega)
theorem impl_BagOrd_ev (l : List Int) (hb : l.length ≤ 140737488351232) : Ev (fun k => impl_BagOrd.f k l) (bagOrd l) := by
  simp only [impl_BagOrd.f]
  refine Ev.bind (impl_BagValid_ev l hb) ?_
  unfold bagOrd
  cases h : bagOk l with
  | false => simp only [Bool.false_eq_true, if_false]; exact Ev.now _
  | true =>
    simp only [if_true]
    refine ev_eq (impl_BagOrd_l0 h 10 [] .z (by omega) .nil (by simp [O.body])) ?_
    rfl

-- part: bagCmpO
theorem bagO_hd (l : List Int) : ∀ n m : Nat, n ≤ m → O.hd (O.num m) (bagO l n)
  | 0, _, _ => trivial
  | n + 1, m, h => by
    rw [bagO]
    split
    · show O.cmp (O.num n) (O.num m) = .lt
      rw [cmp_num]; exact Nat.compare_eq_lt.mpr (by omega)
    · exact bagO_hd l n m (by omega)
theorem bagO_Sm (l : List Int) (hl : l.length ≤ 9999) : ∀ n : Nat, n ≤ 100 → (bagO l n).Sm
  | 0, _ => trivial
  | n + 1, h => by
    have h1 := cn_le l (n : Int)
    have ih := bagO_Sm l hl n (by omega)
    rw [bagO]
    split
    · exact ⟨⟨by omega, by omega⟩, num_Sm (by omega), ih, bagO_hd l n n (Nat.le_refl _)⟩
    · exact ih
theorem bagO_cmp (a b : List Int) : ∀ n : Nat, ordI (O.cmp (bagO a n) (bagO b n)) = bagTo a b n
  | 0 => rfl
  | n + 1 => by
    have hx := cn_nonneg a (n : Int)
    have hy := cn_nonneg b (n : Int)
    have ih := bagO_cmp a b n
    rw [bagTo, bagO, bagO]
    by_cases h1 : cn a n > 0
    · by_cases h2 : cn b n > 0
      · rw [if_pos h1, if_pos h2, O.cmp, O.cmp_self, ordI_then, ordI_then, if_pos (show ordI .eq = 0 from rfl)]
        obtain ⟨p, hp⟩ := Int.eq_ofNat_of_zero_le hx
        obtain ⟨q, hq⟩ := Int.eq_ofNat_of_zero_le hy
        rw [hp, hq, Int.toNat_natCast, Int.toNat_natCast]
        by_cases h3 : p < q
        · rw [if_neg (show ¬ ((p : Int) = (q : Int)) by omega), if_pos (show (p : Int) < (q : Int) by omega), Nat.compare_eq_lt.mpr h3]; rfl
        · by_cases h4 : q < p
          · rw [if_neg (show ¬ ((p : Int) = (q : Int)) by omega), if_neg (show ¬ ((p : Int) < (q : Int)) by omega), Nat.compare_eq_gt.mpr h4]; rfl
          · rw [if_pos (show (p : Int) = (q : Int) by omega), Nat.compare_eq_eq.mpr (by omega)]
            exact ih
      · have h5 : O.cmp (bagO b n) (.c (cn a n).toNat (O.num n) (bagO a n)) = .lt := hd_cmp (f := .z) (bagO_hd b n n (Nat.le_refl _))
        rw [if_pos h1, if_neg h2, if_neg (by omega), if_neg (by omega), (O.cmp_gt_iff _ _).mpr h5]; rfl
    · by_cases h2 : cn b n > 0
      · have h5 : O.cmp (bagO a n) (.c (cn b n).toNat (O.num n) (bagO b n)) = .lt := hd_cmp (f := .z) (bagO_hd a n n (Nat.le_refl _))
        rw [if_neg h1, if_pos h2, if_neg (by omega), if_pos (by omega), h5]; rfl
      · rw [if_neg h1, if_neg h2, if_pos (by omega)]
        exact ih
theorem BagsOrd_ev {a b : List Int} (ha : bagOk a = true) (hb : bagOk b = true) : Ev (fun k => impl_OrdCompare.f k (bagOrd a) (bagOrd b)) (bagTo a b 10) := by
  have hla := (bagOk_all ha).2
  have hlb := (bagOk_all hb).2
  have ba := bagO_body a 10
  have bb := bagO_body b 10
  unfold bagOrd
  rw [if_pos ha, if_pos hb, ← bagO_cmp a b 10]
  exact OrdCompare_ev (bagO_Sm a (by omega) 10 (by omega)) (bagO_Sm b (by omega) 10 (by omega)) (by simp only [O.row, List.length_cons]; omega) (by simp only [O.row, List.length_cons]; omega)
theorem bagTo_swap (a b : List Int) : ∀ n, bagTo b a n = -bagTo a b n
  | 0 => rfl
  | n + 1 => by
    rw [bagTo, bagTo]
    by_cases h1 : cn a n = cn b n
    · rw [if_pos h1, if_pos h1.symm]; exact bagTo_swap a b n
    · by_cases h2 : cn a n < cn b n
      · rw [if_neg h1, if_pos h2, if_neg (fun h => h1 h.symm), if_neg (by omega)]; rfl
      · rw [if_neg h1, if_neg h2, if_neg (fun h => h1 h.symm), if_pos (by omega)]

-- part: specBagOf
/-- The numbers below n, the greater ones first. -/
def bagFrom (l : List Int) : Nat → List Int
  | 0 => []
  | n + 1 => List.replicate (l.count (n : Int)) (n : Int) ++ bagFrom l n
def inAll (l : List Int) : Bool := l.all (fun x => decide (0 ≤ x ∧ x ≤ 9))
def bagOf (l : List Int) : List Int := if inAll l = true ∧ l.length ≤ 16 then bagFrom l 10 else []
theorem spec_BagOf_l2 (l : List Int) (n : Int) (r : List Int) : ∀ (m : Nat) (out : List Int), out.length + m ≤ 1000 → Ev (fun k => spec_BagOf.l1 k l (out ++ List.replicate m n) (wrap64 (n - 1))) r → Ev (fun k => spec_BagOf.l2 k l out n (m : Int)) r
  | 0, out, _, hc => by
    refine ev_s ?_
    simp only [spec_BagOf.l2, if_neg (show ¬ (((0 : Nat) : Int) > 0) by omega)]
    simpa using hc
  | m + 1, out, hm, hc => by
    refine ev_s ?_
    simp only [spec_BagOf.l2, if_pos (show ((m + 1 : Nat) : Int) > 0 by omega), if_pos (show out.length < 17592186044416 by omega), show wrap64 (((m + 1 : Nat) : Int) - 1) = (m : Int) by rw [wrap_in (by omega) (by omega)]; omega]
    refine spec_BagOf_l2 l n r m (out ++ [n]) (by simp; omega) ?_
    simpa [List.append_assoc, List.replicate_succ] using hc
theorem spec_BagOf_l1 (l : List Int) (hl : l.length ≤ 16) : ∀ (n : Nat) (out : List Int), n ≤ 10 → out.length + 16 * n ≤ 900 → Ev (fun k => spec_BagOf.l1 k l out ((n : Int) - 1)) (out ++ bagFrom l n)
  | 0, out, _, _ => by
    refine ev_s ?_
    simp only [spec_BagOf.l1, if_neg (show ¬ (((0 : Nat) : Int) - 1 ≥ 0) by omega)]
    refine ev_s ?_
    simp only [spec_BagOf.j2, Bool.false_eq_true, if_false]
    exact ev_now (by simp [bagFrom])
  | n + 1, out, hn, ho => by
    have hc : l.count (n : Int) ≤ l.length := List.count_le_length
    refine ev_s ?_
    simp only [show ((n + 1 : Nat) : Int) - 1 = (n : Int) by omega, spec_BagOf.l1, if_pos (show (n : Int) ≥ 0 by omega), show decide ((l.length : Int) ≤ 16) = true from decide_eq_true (by omega)]
    refine ev_s ?_
    simp only [spec_BagOf.j2, if_true]
    refine Ev.bind (l6Many_ev l (n : Int) (by omega)) ?_
    refine spec_BagOf_l2 l (n : Int) _ _ out (by omega) ?_
    rw [show wrap64 ((n : Int) - 1) = (n : Int) - 1 from wrap_in (by omega) (by omega)]
    have := spec_BagOf_l1 l hl n (out ++ List.replicate (l.count (n : Int)) (n : Int)) (by omega) (by simp; omega)
    rw [List.append_assoc] at this
    exact this
theorem spec_BagOf_l0 (l : List Int) (hb : l.length ≤ 140737488351232) : ∀ (d i : Nat), i + d = l.length → Ev (fun k => spec_BagOf.l0 k l [] (i : Int)) (if (l.drop i).all (fun x => decide (0 ≤ x ∧ x ≤ 9)) = true ∧ l.length ≤ 16 then bagFrom l 10 else []) := by
  intro d
  induction d with
  | zero =>
    intro i h
    refine ev_s ?_
    simp only [spec_BagOf.l0, if_neg (show ¬ ((i : Int) < (l.length : Int)) by omega)]
    rw [List.drop_of_length_le (by omega)]
    by_cases h16 : l.length ≤ 16
    · rw [if_pos ⟨rfl, h16⟩]
      exact spec_BagOf_l1 l h16 10 [] (by omega) (by simp)
    · rw [if_neg (fun hh => h16 hh.2)]
      refine ev_s ?_
      simp only [spec_BagOf.l1, if_pos (show (9 : Int) ≥ 0 by decide), show decide ((l.length : Int) ≤ 16) = false from decide_eq_false (by omega)]
      refine ev_s ?_
      simp only [spec_BagOf.j2, Bool.false_eq_true, if_false]
      exact Ev.now _
  | succ d ih =>
    intro i h
    refine ev_s ?_
    simp only [spec_BagOf.l0, l1In_eq, Option.bind_some, if_pos (show (i : Int) < (l.length : Int) by omega), if_pos (show (0 : Int) ≤ (i : Int) by omega), show wrap64 ((i : Int) + 1) = ((i + 1 : Nat) : Int) by rw [wrap_in (by omega) (by omega)]; rfl]
    rw [rd_get (show i < l.length by omega), List.drop_eq_getElem_cons (show i < l.length by omega), List.all_cons]
    by_cases hc : 0 ≤ l[i] ∧ l[i] ≤ 9
    · simp only [decide_eq_true hc, Bool.true_and, if_true]
      exact ih (i + 1) (by omega)
    · simp only [decide_eq_false hc, Bool.false_and, Bool.false_eq_true, if_false, false_and]
      exact Ev.now _
theorem spec_BagOf_ev (l : List Int) (hb : l.length ≤ 140737488351232) : Ev (fun k => spec_BagOf.f k l) (bagOf l) := spec_BagOf_l0 l hb l.length 0 (by omega)
theorem bagFrom_length (l : List Int) (hl : l.length ≤ 16) : ∀ n, (bagFrom l n).length ≤ 16 * n
  | 0 => by simp [bagFrom]
  | n + 1 => by have := bagFrom_length l hl n; have : l.count (n : Int) ≤ l.length := List.count_le_length; simp only [bagFrom, List.length_append, List.length_replicate]; omega
theorem bagOf_length (l : List Int) : (bagOf l).length ≤ 160 := by
  unfold bagOf; split
  · rename_i h; have := bagFrom_length l h.2 10; omega
  · simp

-- part: bagPutSpec
/-! ### the reference puts in -/
def putAll (t : List Int) (n : Int) : Bool := t.all (fun x => decide (0 ≤ x ∧ x ≤ n - 1))
def bagPut (l : List Int) (n : Int) (t : List Int) : List Int × Bool :=
  if bagOk l = true ∧ l.count n ≠ 0 then (if putAll t n = true then (if (t ++ l.erase n).length > 16 then ([], false) else (bagOf (t ++ l.erase n), true)) else ([], false)) else ([], false)
theorem spec_BagPut_l1 (l : List Int) (n : Int) (hl : l.length ≤ 1000000) : ∀ (d i : Nat) (out : List Int) (g : Bool), i + d = l.length → out.length + d ≤ 3000000 →
    Ev (fun k => spec_BagPut.l1 k l n out g (i : Int)) (if (out ++ (if g = true then l.drop i else (l.drop i).erase n)).length > 16 then ([], false) else (bagOf (out ++ (if g = true then l.drop i else (l.drop i).erase n)), true)) := by
  intro d
  induction d with
  | zero =>
    intro i out g h ho
    refine ev_s ?_
    simp only [spec_BagPut.l1, if_neg (show ¬ ((i : Int) < (l.length : Int)) by omega)]
    have e : (if g = true then l.drop i else (l.drop i).erase n) = [] := by
      rw [List.drop_of_length_le (by omega)]; split <;> rfl
    rw [e, List.append_nil]
    by_cases h16 : out.length > 16
    · simp only [if_pos h16, if_pos (show (out.length : Int) > 16 by omega)]; exact Ev.now _
    · simp only [if_neg h16, if_neg (show ¬ (out.length : Int) > 16 by omega)]
      refine Ev.bind (spec_BagOf_ev out (by omega)) ?_
      exact Ev.now _
  | succ d ih =>
    intro i out g h ho
    have hi : i < l.length := by omega
    refine ev_s ?_
    simp only [spec_BagPut.l1, if_pos (show (i : Int) < (l.length : Int) by omega), if_pos (show (0 : Int) ≤ (i : Int) by omega), rd_get hi, if_pos (show out.length < 17592186044416 by omega), show wrap64 ((i : Int) + 1) = ((i + 1 : Nat) : Int) from wrap_nat2 i 1 (by omega)]
    rw [List.drop_eq_getElem_cons hi]
    by_cases hx : l[i] = n
    · simp only [if_pos hx]
      cases g with
      | true =>
        simp only [if_true]
        refine ev_eq (ih (i + 1) (out ++ [l[i]]) true (by omega) (by simp; omega)) ?_
        simp only [if_true, List.append_assoc, List.singleton_append]
      | false =>
        simp only [Bool.false_eq_true, if_false]
        refine ev_eq (ih (i + 1) out true (by omega) (by omega)) ?_
        rw [hx, List.erase_cons_head]
        simp only [if_true]
    · simp only [if_neg hx]
      refine ev_eq (ih (i + 1) (out ++ [l[i]]) g (by omega) (by simp; omega)) ?_
      cases g with
      | true => simp only [if_true, List.append_assoc, List.singleton_append]
      | false =>
        rw [List.erase_cons_tail (by simpa using hx)]
        simp only [Bool.false_eq_true, if_false, List.append_assoc, List.singleton_append]
theorem spec_BagPut_l0 (l t : List Int) (n : Int) (hl : l.length ≤ 1000000) (ht : t.length ≤ 1048576) (h0 : 0 ≤ n) (h9 : n ≤ 9) : ∀ (d i : Nat), i + d = t.length →
    Ev (fun k => spec_BagPut.l0 k l n t t false (i : Int)) (if (t.drop i).all (fun x => decide (0 ≤ x ∧ x ≤ n - 1)) = true then (if (t ++ l.erase n).length > 16 then ([], false) else (bagOf (t ++ l.erase n), true)) else ([], false)) := by
  intro d
  induction d with
  | zero =>
    intro i h
    refine ev_s ?_
    simp only [spec_BagPut.l0, if_neg (show ¬ ((i : Int) < (t.length : Int)) by omega)]
    rw [List.drop_of_length_le (by omega)]
    simp only [List.all_nil, if_true]
    refine ev_eq (spec_BagPut_l1 l n hl l.length 0 t false (by omega) (by omega)) ?_
    simp only [Bool.false_eq_true, if_false, List.drop_zero]
  | succ d ih =>
    intro i h
    have hi : i < t.length := by omega
    refine ev_s ?_
    simp only [spec_BagPut.l0, l1In_eq, Option.bind_some, if_pos (show (i : Int) < (t.length : Int) by omega), if_pos (show (0 : Int) ≤ (i : Int) by omega), rd_get hi, show wrap64 ((i : Int) + 1) = ((i + 1 : Nat) : Int) from wrap_nat2 i 1 (by omega), show wrap64 (n - 1) = n - 1 from wrap_in (by omega) (by omega)]
    rw [List.drop_eq_getElem_cons hi, List.all_cons]
    by_cases hc : 0 ≤ t[i] ∧ t[i] ≤ n - 1
    · simp only [decide_eq_true hc, Bool.true_and, if_true]
      exact ih (i + 1) (by omega)
    · simp only [decide_eq_false hc, Bool.false_and, Bool.false_eq_true, if_false]
      exact Ev.now _
theorem spec_BagPut_ev (l t : List Int) (n : Int) (hl : l.length ≤ 1048576) (ht : t.length ≤ 1048576) : Ev (fun k => spec_BagPut.f k l n t) (bagPut l n t) := by
  simp only [spec_BagPut.f]
  refine Ev.bind (spec_BagValid_ev l (by omega)) ?_
  unfold bagPut
  cases h1 : bagOk l with
  | false =>
    simp only [Bool.false_eq_true, if_false, false_and]
    refine ev_s ?_
    simp only [spec_BagPut.j0, if_true]; exact Ev.now _
  | true =>
    have hall := bagOk_all h1
    simp only [if_true, true_and]
    refine Ev.bind (l6Many_ev l n (by omega)) ?_
    by_cases hc : l.count n = 0
    · have e : (((l.count n : Nat) : Int) == 0) = true := by simp [hc]
      simp only [e, if_neg (show ¬ (l.count n ≠ 0) by simp [hc])]
      refine ev_s ?_
      simp only [spec_BagPut.j0, if_true]; exact Ev.now _
    · have e : (((l.count n : Nat) : Int) == 0) = false := by
        have : ((l.count n : Nat) : Int) ≠ 0 := by omega
        simpa using this
      have hm : n ∈ l := List.count_pos_iff.1 (by omega)
      have hn := hall.1 n hm
      simp only [e, if_pos hc]
      refine ev_s ?_
      simp only [spec_BagPut.j0, Bool.false_eq_true, if_false, Option.bind_some, List.nil_append, List.length_nil, if_pos (show 0 + t.length < 17592186044416 by omega)]
      exact spec_BagPut_l0 l t n (by omega) ht (by omega) (by omega) t.length 0 (by omega)
theorem bagPut_length (l t : List Int) (n : Int) : (bagPut l n t).1.length ≤ 160 := by
  unfold bagPut
  split
  · split
    · split
      · simp
      · exact bagOf_length _
    · simp
  · simp

-- part: bagRev
/-! ### the other way round -/
theorem rev_done (l x : List Int) (i : Nat) (hx : x.length = l.length) (hi : l.length ≤ 2 * i + 1) (hp : ∀ p : Nat, p < l.length → x[p]? = if p < i ∨ l.length ≤ p + i then l[l.length - 1 - p]? else l[p]?) : x = l.reverse := by
  refine List.ext_getElem? fun p => ?_
  by_cases h : p < l.length
  · rw [hp p h, List.getElem?_reverse h]
    split
    · rfl
    · rename_i hn
      have : l.length - 1 - p = p := by omega
      rw [this]
  · rw [List.getElem?_eq_none (by omega), List.getElem?_eq_none (by simp; omega)]
theorem rev_l0 (l : List Int) (hb : l.length ≤ 140737488351232) : ∀ (d i : Nat) (x : List Int), x.length = l.length → l.length ≤ 2 * i + d → 2 * i ≤ l.length + 1 → (∀ p : Nat, p < l.length → x[p]? = if p < i ∨ l.length ≤ p + i then l[l.length - 1 - p]? else l[p]?) → Ev (fun k => slices_Reverse_int_int.l0 k x (i : Int) ((l.length : Int) - 1 - (i : Int))) l.reverse := by
  intro d
  induction d with
  | zero =>
    intro i x hx hd hi hp
    refine ev_s ?_
    simp only [slices_Reverse_int_int.l0, if_neg (show ¬ ((i : Int) < (l.length : Int) - 1 - (i : Int)) by omega)]
    exact ev_now (rev_done l x i hx (by omega) hp)
  | succ d ih =>
    intro i x hx hd hi hp
    refine ev_s ?_
    by_cases hc : (i : Int) < (l.length : Int) - 1 - (i : Int)
    · have e1 : (l.length : Int) - 1 - (i : Int) = ((l.length - 1 - i : Nat) : Int) := by omega
      have e2 : wrap64 (((l.length - 1 - i : Nat) : Int) - 1) = (l.length : Int) - 1 - ((i + 1 : Nat) : Int) := by rw [wrap_in (by omega) (by omega)]; omega
      have e3 : wrap64 ((i : Int) + 1) = ((i + 1 : Nat) : Int) := wrap_nat2 i 1 (by omega)
      rw [e1] at hc ⊢
      simp only [slices_Reverse_int_int.l0, if_pos hc, if_pos (show (0 : Int) ≤ ((l.length - 1 - i : Nat) : Int) by omega), if_pos (show ((l.length - 1 - i : Nat) : Int) < (x.length : Int) by omega), if_pos (show (0 : Int) ≤ (i : Int) by omega), if_pos (show (i : Int) < (x.length : Int) by omega), e2, e3, Int.toNat_natCast]
      clear e2 e3
      have hri : x[i]? = some (rd x (i : Int)) := by rw [rd_get (by omega), List.getElem?_eq_getElem (by omega)]
      have hrj : x[l.length - 1 - i]? = some (rd x ((l.length - 1 - i : Nat) : Int)) := by rw [rd_get (by omega), List.getElem?_eq_getElem (by omega)]
      have pi := hp i (by omega)
      have pj := hp (l.length - 1 - i) (by omega)
      rw [if_neg (by omega)] at pi pj
      refine ih (i + 1) _ (by simp [hx]) (by omega) (by omega) fun p hpl => ?_
      rw [List.getElem?_set, List.getElem?_set]
      simp only [List.length_set]
      by_cases h1 : l.length - 1 - i = p
      · rw [if_pos h1, if_pos (by omega), if_pos (by omega), ← hri, pi]
        congr 1; omega
      · rw [if_neg h1]
        by_cases h2 : i = p
        · rw [if_pos h2, if_pos (by omega), if_pos (by omega), ← hrj, pj]
          congr 1; omega
        · rw [if_neg h2, hp p hpl]
          by_cases h3 : p < i ∨ l.length ≤ p + i
          · rw [if_pos h3, if_pos (by omega)]
          · rw [if_neg h3, if_neg (by omega)]
    · simp only [slices_Reverse_int_int.l0, if_neg hc]
      exact ev_now (rev_done l x i hx (by omega) hp)
theorem rev_ev (l : List Int) (hb : l.length ≤ 140737488351232) : Ev (fun k => slices_Reverse_int_int.f k l) l.reverse := by
  simp only [slices_Reverse_int_int.f, show wrap64 ((l.length : Int) - 1) = (l.length : Int) - 1 - ((0 : Nat) : Int) by rw [wrap_in (by omega) (by omega)]; omega]
  refine rev_l0 l hb l.length 0 l rfl (by omega) (by omega) fun p hp => ?_
  rw [if_neg (by omega)]

-- part: bagSort
/-! ### multisets out of lists -/
def Desc (l : List Int) : Prop := l.Pairwise (fun a b => b ≤ a)
theorem bagOk_of {l : List Int} (h1 : ∀ x ∈ l, 0 ≤ x ∧ x < 10) (h2 : l.length ≤ 16) (h3 : Desc l) : bagOk l = true := by
  simp only [bagOk, Bool.and_eq_true, allB_iff, decide_eq_true_eq, bagAt]
  refine ⟨fun m _ hm => ?_, h2⟩
  have hm' : m < l.length := by omega
  have h4 := h1 l[m] (List.getElem_mem hm')
  rw [rd_get hm']
  refine ⟨h4.1, by omega, fun h0 => ?_⟩
  rw [rd_get (show m - 1 < l.length by omega)]
  exact List.pairwise_iff_getElem.1 h3 (m - 1) m (by omega) hm' (by omega)
theorem bagFrom_mem (l : List Int) : ∀ n : Nat, ∀ x ∈ bagFrom l n, 0 ≤ x ∧ x < (n : Int)
  | 0, x, h => by simp [bagFrom] at h
  | n + 1, x, h => by
    rw [bagFrom, List.mem_append] at h
    rcases h with h | h
    · have := (List.mem_replicate.1 h).2; omega
    · have := bagFrom_mem l n x h; omega
theorem bagFrom_desc (l : List Int) : ∀ n : Nat, Desc (bagFrom l n)
  | 0 => List.Pairwise.nil
  | n + 1 => by
    rw [Desc, bagFrom, List.pairwise_append]
    refine ⟨List.pairwise_replicate.2 (.inr (Int.le_refl _)), bagFrom_desc l n, fun a ha b hb => ?_⟩
    have h1 := (List.mem_replicate.1 ha).2
    have h2 := bagFrom_mem l n b hb
    omega
theorem bagFrom_count (l : List Int) (x : Int) : ∀ n : Nat, (bagFrom l n).count x = if 0 ≤ x ∧ x < (n : Int) then l.count x else 0
  | 0 => by rw [if_neg (by omega)]; rfl
  | n + 1 => by
    rw [bagFrom, List.count_append, bagFrom_count l x n, List.count_replicate]
    by_cases h : x = (n : Int)
    · rw [if_pos (by simp [h]), if_neg (by omega), if_pos (by omega), h]; rfl
    · rw [if_neg (by simp; omega)]
      by_cases h2 : 0 ≤ x ∧ x < (n : Int)
      · rw [if_pos h2, if_pos (by omega), Nat.zero_add]
      · rw [if_neg h2, if_neg (by omega)]
theorem inAll_iff (l : List Int) : inAll l = true ↔ ∀ x ∈ l, 0 ≤ x ∧ x < 10 := by
  simp only [inAll, List.all_eq_true, decide_eq_true_eq]
  exact ⟨fun h x hx => by have := h x hx; omega, fun h x hx => by have := h x hx; omega⟩
theorem bagFrom_perm {l : List Int} (h : inAll l = true) : (bagFrom l 10).Perm l := by
  rw [List.perm_iff_count]
  intro x
  rw [bagFrom_count]
  split
  · rfl
  · rename_i hn
    refine Eq.symm (List.count_eq_zero.2 fun hx => hn ?_)
    have := (inAll_iff l).1 h x hx
    omega
theorem bagOf_ok (l : List Int) : bagOk (bagOf l) = true := by
  unfold bagOf
  split
  · rename_i h
    have hp := bagFrom_perm h.1
    exact bagOk_of (fun x hx => bagFrom_mem l 10 x hx) (by rw [hp.length_eq]; exact h.2) (bagFrom_desc l 10)
  · decide
theorem bagOf_self {l : List Int} (h : bagOk l = true) : bagOf l = l := by
  have ha := bagOk_all h
  have hi : inAll l = true := (inAll_iff l).2 ha.1
  have hok := bagOf_ok l
  have e : bagOf l = bagFrom l 10 := by unfold bagOf; rw [if_pos ⟨hi, ha.2⟩]
  refine bag_ext _ _ hok h fun n => ?_
  have := (bagFrom_perm hi).count_eq n
  rw [e]
  exact congrArg (fun m : Nat => (m : Int)) this
theorem inAll_perm {a b : List Int} (h : a.Perm b) : inAll a = inAll b := by
  rw [Bool.eq_iff_iff, inAll_iff, inAll_iff]
  exact ⟨fun g x hx => g x (h.mem_iff.2 hx), fun g x hx => g x (h.mem_iff.1 hx)⟩
theorem bagFrom_same {a b : List Int} (h : a.Perm b) : ∀ n, bagFrom a n = bagFrom b n
  | 0 => rfl
  | n + 1 => by rw [bagFrom, bagFrom, bagFrom_same h n, h.count_eq]
theorem bagOf_perm {a b : List Int} (h : a.Perm b) : bagOf a = bagOf b := by
  unfold bagOf
  rw [inAll_perm h, h.length_eq, bagFrom_same h]
def srt (l : List Int) : List Int := (l.mergeSort fun x y => decide (x ≤ y)).reverse
theorem srt_perm (l : List Int) : (srt l).Perm l := (List.reverse_perm _).trans (List.mergeSort_perm l _)
theorem srt_desc (l : List Int) : Desc (srt l) := by
  have h := List.pairwise_mergeSort (le := fun x y : Int => decide (x ≤ y)) (by simp; omega) (by simp; omega) l
  rw [Desc, srt, List.pairwise_reverse]
  exact h.imp (fun g => by simpa using g)
theorem srt_bag (l : List Int) : (if bagOk (srt l) = true then srt l else []) = bagOf l := by
  by_cases h : bagOk (srt l) = true
  · rw [if_pos h, ← bagOf_perm (srt_perm l), bagOf_self h]
  · rw [if_neg h]
    unfold bagOf
    rw [if_neg]
    rintro ⟨h1, h2⟩
    refine h (bagOk_of (fun x hx => ?_) (by rw [(srt_perm l).length_eq]; exact h2) (srt_desc l))
    exact (inAll_iff l).1 h1 x ((srt_perm l).mem_iff.1 hx)
theorem impl_BagOf_ev (l : List Int) (hl : l.length ≤ 17592186044415) : Ev (fun k => impl_BagOf.f k l) (bagOf l) := by
  have hlen : (l.mergeSort fun x y => decide (x ≤ y)).length = l.length := List.length_mergeSort l
  have hlen2 := (srt_perm l).length_eq
  simp only [impl_BagOf.f, slices_Clone_int_int.f, slices_Sort_int_int.f, if_pos (show l.length < 17592186044416 by omega), if_pos (show l.length < 4611686018427387904 by omega), Option.bind_some]
  refine Ev.bind (rev_ev _ (by omega)) ?_
  refine Ev.bind (impl_BagValid_ev (srt l) (by omega)) ?_
  rw [← srt_bag l]
  cases h : bagOk (srt l) with
  | true => simp only [if_true]; exact Ev.now _
  | false => simp only [Bool.false_eq_true, if_false]; exact Ev.now _

-- part: bagPut
/-! ### the program puts in -/
def idx (l : List Int) (n : Int) : Int := if n ∈ l then ((l.idxOf n : Nat) : Int) else -1
theorem idxOf_tail {x n : Int} (r : List Int) (h : x ≠ n) : (x :: r).idxOf n = r.idxOf n + 1 := by
  rw [List.idxOf_cons, (beq_eq_false_iff_ne (a := x) (b := n)).2 h]; rfl
theorem idxOf_first (n : Int) : ∀ (l : List Int) (i : Nat), l[i]? = some n → (∀ p, p < i → l[p]? ≠ some n) → l.idxOf n = i
  | [], i, h, _ => by simp at h
  | x :: r, 0, h, _ => by
    have hx : x = n := by simpa using h
    rw [hx, List.idxOf_cons_self]
  | x :: r, i + 1, h, hp => by
    have hx : x ≠ n := fun e => hp 0 (by omega) (by simp [e])
    rw [idxOf_tail r hx, idxOf_first n r i (by simpa using h) (fun p hpi => by have := hp (p + 1) (by omega); simpa using this)]
theorem Index_l0 (l : List Int) (n : Int) (hb : l.length ≤ 140737488351232) : ∀ (d i : Nat), i + d = l.length → (∀ p, p < i → l[p]? ≠ some n) → Ev (fun k => slices_Index_int_int.l0 k l n (l.length : Int) (i : Int)) (idx l n) := by
  intro d
  induction d with
  | zero =>
    intro i h hp
    refine ev_s ?_
    simp only [slices_Index_int_int.l0, if_neg (show ¬ ((i : Int) < (l.length : Int)) by omega)]
    refine ev_now ?_
    unfold idx
    rw [if_neg]
    intro hm
    obtain ⟨p, hpl, he⟩ := List.mem_iff_getElem.1 hm
    exact hp p (by omega) (by rw [List.getElem?_eq_getElem hpl, he])
  | succ d ih =>
    intro i h hp
    have hi : i < l.length := by omega
    refine ev_s ?_
    simp only [slices_Index_int_int.l0, if_pos (show (i : Int) < (l.length : Int) by omega), if_pos (show (0 : Int) ≤ (i : Int) by omega), rd_get hi, show wrap64 ((i : Int) + 1) = ((i + 1 : Nat) : Int) from wrap_nat2 i 1 (by omega)]
    by_cases he : n = l[i]
    · simp only [if_pos he]
      refine ev_now ?_
      have hm : n ∈ l := he ▸ List.getElem_mem hi
      unfold idx
      rw [if_pos hm]
      rw [idxOf_first n l i (by rw [List.getElem?_eq_getElem hi, he]) hp]
    · simp only [if_neg he]
      refine ih (i + 1) (by omega) fun p hpi => ?_
      by_cases e : p = i
      · subst e
        rw [List.getElem?_eq_getElem hi]
        intro hc; exact he (Option.some.inj hc).symm
      · exact hp p (by omega)
theorem Index_ev (l : List Int) (n : Int) (hb : l.length ≤ 140737488351232) : Ev (fun k => slices_Index_int_int.f k l n) (idx l n) := by
  simp only [slices_Index_int_int.f]
  exact Index_l0 l n hb l.length 0 (by omega) (fun p hp => by omega)
theorem erase_idx (l : List Int) (n : Int) (h : n ∈ l) : l.erase n = l.take (l.idxOf n) ++ l.drop (l.idxOf n + 1) := by
  rw [← List.eraseIdx_eq_take_drop_succ]
  induction l with
  | nil => simp at h
  | cons x r ih =>
    by_cases e : x = n
    · subst e
      rw [List.erase_cons_head, List.idxOf_cons_self, List.eraseIdx_cons_zero]
    · rw [List.erase_cons_tail (by simpa using e), idxOf_tail r e, List.eraseIdx_cons_succ]
      rcases List.mem_cons.1 h with h | h
      · exact absurd h.symm e
      · rw [ih h]
theorem impl_BagPut_l0 (l t : List Int) (n : Int) (hl : l.length ≤ 1048576) (ht : t.length ≤ 1048576) (hm : n ∈ l) (hin : ∀ x ∈ l, 0 ≤ x ∧ x < 10) : ∀ (d i : Nat), i + d = t.length →
    Ev (fun k => impl_BagPut.l0 k l n t (idx l n) t (t.length : Int) (i : Int)) (if (t.drop i).all (fun x => decide (0 ≤ x ∧ x ≤ n - 1)) = true then (if (t ++ l.erase n).length > 16 then ([], false) else (bagOf (t ++ l.erase n), true)) else ([], false)) := by
  have hlt := List.idxOf_lt_length_iff.2 hm
  have hidx : idx l n = ((l.idxOf n : Nat) : Int) := by unfold idx; rw [if_pos hm]
  intro d
  induction d with
  | zero =>
    intro i h
    refine ev_s ?_
    rw [List.drop_of_length_le (by omega)]
    simp only [impl_BagPut.l0, if_neg (show ¬ ((i : Int) < (t.length : Int)) by omega), List.all_nil, if_true, hidx, slices_Clone_int_int.f, if_pos (show l.length < 17592186044416 by omega), Option.bind_some, show wrap64 (((l.idxOf n : Nat) : Int) + 1) = ((l.idxOf n + 1 : Nat) : Int) from wrap_nat2 _ 1 (by omega), slices_Delete_int_int.f]
    rw [if_pos ⟨by omega, by omega, by omega⟩]
    simp only [Option.bind_some, Int.toNat_natCast]
    rw [← erase_idx l n hm]
    have hel : (l.erase n).length = l.length - 1 := List.length_erase_of_mem hm
    have hsw : (l.erase n ++ t).Perm (t ++ l.erase n) := List.perm_append_comm
    have hll := hsw.length_eq
    rw [List.length_append] at hll
    simp only [if_pos (show (l.erase n).length + t.length < 17592186044416 by omega), Option.bind_some]
    by_cases h16 : (t ++ l.erase n).length > 16
    · rw [if_pos h16]
      simp only [if_pos (show ((l.erase n ++ t).length : Int) > 16 by rw [hsw.length_eq]; omega)]
      exact Ev.now _
    · rw [if_neg h16]
      simp only [if_neg (show ¬ ((l.erase n ++ t).length : Int) > 16 by rw [hsw.length_eq]; omega)]
      refine Ev.bind (impl_BagOf_ev _ (by rw [hsw.length_eq]; omega)) ?_
      rw [bagOf_perm hsw]
      exact Ev.now _
  | succ d ih =>
    intro i h
    have hi : i < t.length := by omega
    refine ev_s ?_
    simp only [impl_BagPut.l0, if_pos (show (i : Int) < (t.length : Int) by omega), if_pos (show (0 : Int) ≤ (i : Int) by omega), rd_get hi, show wrap64 ((i : Int) + 1) = ((i + 1 : Nat) : Int) from wrap_nat2 i 1 (by omega)]
    rw [List.drop_eq_getElem_cons hi, List.all_cons]
    by_cases h0 : t[i] < 0
    · simp only [if_pos h0, decide_eq_false (show ¬ (0 ≤ t[i] ∧ t[i] ≤ n - 1) by omega), Bool.false_and, Bool.false_eq_true, if_false]
      exact Ev.now _
    · by_cases h1 : t[i] ≥ n
      · simp only [if_neg h0, if_pos h1, decide_eq_false (show ¬ (0 ≤ t[i] ∧ t[i] ≤ n - 1) by omega), Bool.false_and, Bool.false_eq_true, if_false]
        exact Ev.now _
      · simp only [if_neg h0, if_neg h1, decide_eq_true (show 0 ≤ t[i] ∧ t[i] ≤ n - 1 by omega), Bool.true_and]
        exact ih (i + 1) (by omega)
theorem impl_BagPut_ev (l t : List Int) (n : Int) (hl : l.length ≤ 1048576) (ht : t.length ≤ 1048576) : Ev (fun k => impl_BagPut.f k l n t) (bagPut l n t) := by
  have bad : ∀ x, Ev (fun k => impl_BagPut.j0 k l n t x true) (([] : List Int), false) := fun x => by
    refine ev_s ?_
    simp only [impl_BagPut.j0, if_true]; exact Ev.now _
  simp only [impl_BagPut.f]
  refine Ev.bind (Index_ev l n (by omega)) ?_
  refine Ev.bind (impl_BagValid_ev l (by omega)) ?_
  unfold bagPut
  cases h1 : bagOk l with
  | false =>
    simp only [Bool.false_eq_true, if_false, false_and]
    exact bad _
  | true =>
    have hall := bagOk_all h1
    simp only [if_true, true_and]
    by_cases hm : n ∈ l
    · have hc : l.count n ≠ 0 := fun h => (List.count_eq_zero.1 h) hm
      have hidx : idx l n = ((l.idxOf n : Nat) : Int) := by unfold idx; rw [if_pos hm]
      simp only [if_pos hc, if_neg (show ¬ (idx l n < 0) by rw [hidx]; omega)]
      by_cases h16 : (t.length : Int) > 16
      · simp only [decide_eq_true h16]
        have e : (if putAll t n = true then (if (t ++ l.erase n).length > 16 then (([] : List Int), false) else (bagOf (t ++ l.erase n), true)) else ([], false)) = ([], false) := by
          rw [if_pos (show (t ++ l.erase n).length > 16 by rw [List.length_append]; omega)]
          split <;> rfl
        rw [e]
        exact bad _
      · simp only [decide_eq_false h16]
        refine ev_s ?_
        simp only [impl_BagPut.j0, Bool.false_eq_true, if_false]
        exact impl_BagPut_l0 l t n hl ht hm hall.1 t.length 0 (by omega)
    · have hc : l.count n = 0 := List.count_eq_zero.2 hm
      simp only [if_neg (show ¬ (l.count n ≠ 0) by simp [hc]), if_pos (show idx l n < 0 by unfold idx; rw [if_neg hm]; decide)]
      exact bad _

-- part: draw
/-! ### the reader of a code -/
def Bytes (b : List Int) : Prop := b.length ≤ 2000 ∧ ∀ x ∈ b, 0 ≤ x ∧ x ≤ 255
theorem u8_of_wf {x : Int} (h : (Lit.int .u8 x).wf = true) : 0 ≤ x ∧ x ≤ 255 := by
  simp [Lit.wf, IntKind.min, IntKind.max, IntKind.bits, IntKind.signed] at h
  omega
theorem open_ev (l : List Int) (h : ∀ x ∈ l, (Lit.int .u8 x).wf = true) : ∃ b, Bytes b ∧ spec_l20Open.f l = some (b, ((0 : Nat) : Int)) := by
  have h' : ∀ x ∈ l, 0 ≤ x ∧ x ≤ 255 := fun x hx => u8_of_wf (h x hx)
  unfold spec_l20Open.f
  by_cases hl : (l.length : Int) > 2000
  · rw [if_pos hl, if_pos (by omega)]
    exact ⟨l.take 2000, ⟨by simp; omega, fun x hx => h' x (List.mem_of_mem_take hx)⟩, rfl⟩
  · rw [if_neg hl]
    exact ⟨l, ⟨by omega, h'⟩, rfl⟩
theorem rd_byte {b : List Int} (hb : Bytes b) {i : Int} (h0 : 0 ≤ i) (h1 : i < (b.length : Int)) : 0 ≤ rd b i ∧ rd b i ≤ 255 := by
  obtain ⟨n, rfl⟩ := Int.eq_ofNat_of_zero_le h0
  rw [rd_get (show n < b.length by omega)]
  exact hb.2 _ (List.getElem_mem _)
theorem wraps_i64 (n : Int) (h0 : 0 ≤ n) (h1 : n < 2 ^ 62) : IntKind.i64.wrap n = n := by rw [IntKind.wrap_i64]; omega
theorem xor_pos (a b : Nat) (ha : a < 2 ^ 62) (hb : b < 2 ^ 62) : Go.bits .xor .i64 (a : Int) (b : Int) = ((a ^^^ b : Nat) : Int) := by
  have ha' : a % 2 ^ IntKind.i64.bits = a := Nat.mod_eq_of_lt (Nat.lt_of_lt_of_le ha (by decide))
  have hb' : b % 2 ^ IntKind.i64.bits = b := Nat.mod_eq_of_lt (Nat.lt_of_lt_of_le hb (by decide))
  simp only [bits, BitVec.ofInt_natCast, BitVec.toNat_xor, BitVec.toNat_ofNat, ha', hb']
  exact wraps_i64 _ (Int.natCast_nonneg _) (by exact_mod_cast Nat.xor_lt_two_pow ha hb)
theorem pick_sum (r1 r2 p t : Int) (h1 : 0 ≤ r1 ∧ r1 ≤ 255) (h2 : 0 ≤ r2 ∧ r2 ≤ 255) (hp : 0 ≤ p ∧ p ≤ 1000000000000) (ht : 0 ≤ t ∧ t ≤ 1000000000000) :
    wrap64 ((wrap64 ((wrap64 ((wrap64 ((wrap64 r1) * 131)) + (wrap64 ((wrap64 r2) * 1117)))) + (wrap64 (p * 29)))) + (wrap64 ((wrap64 t) * 53))) = r1 * 131 + r2 * 1117 + p * 29 + t * 53 := by
  rw [wrap_in (x := r1) (by omega) (by omega), wrap_in (x := r2) (by omega) (by omega), wrap_in (x := t) (by omega) (by omega), wrap_in (x := r1 * 131) (by omega) (by omega), wrap_in (x := r2 * 1117) (by omega) (by omega), wrap_in (x := p * 29) (by omega) (by omega), wrap_in (x := t * 53) (by omega) (by omega), wrap_in (x := r1 * 131 + r2 * 1117) (by omega) (by omega), wrap_in (x := r1 * 131 + r2 * 1117 + p * 29) (by omega) (by omega), wrap_in (by omega) (by omega)]
theorem pick_mod (x n : Int) (hx : 0 ≤ x) (hn : 0 < n) : 0 ≤ Int.tmod x n ∧ Int.tmod x n < n := by
  rw [Int.tmod_eq_emod_of_nonneg hx]
  exact ⟨Int.emod_nonneg _ (by omega), Int.emod_lt_of_pos _ hn⟩
theorem pick_ev (b : List Int) (hb : Bytes b) (p : Nat) (hp : p ≤ 100000000000) (n : Int) : ∃ v : Int, 0 ≤ v ∧ (v < n ∨ v = 0) ∧ Ev (fun k => spec_l20Rd_pick.f k b (p : Int) n) (v, ((p + 1 : Nat) : Int)) := by
  have e1 : wrap64 ((p : Int) + 1) = ((p + 1 : Nat) : Int) := by rw [wrap_in (by omega) (by omega)]; rfl
  have e2 : wrap64 (((p + 1 : Nat) : Int) - 1) = (p : Int) := by rw [wrap_in (by omega) (by omega)]; omega
  by_cases hn : n < 1
  · refine ⟨0, Int.le_refl _, .inr rfl, ?_⟩
    simp only [spec_l20Rd_pick.f, if_pos hn, e1]
    refine ev_s ?_
    simp only [spec_l20Rd_pick.j0, if_true]
    exact Ev.now _
  · by_cases hl : b.length = 0
    · refine ⟨0, Int.le_refl _, .inr rfl, ?_⟩
      simp only [spec_l20Rd_pick.f, if_neg hn, e1, hl]
      refine ev_s ?_
      simp only [spec_l20Rd_pick.j0]
      exact Ev.now _
    · by_cases hlt : (p : Int) < (b.length : Int)
      · have hby := rd_byte hb (show (0 : Int) ≤ (p : Int) by omega) hlt
        have hm := pick_mod (rd b p) n hby.1 (by omega)
        refine ⟨Int.tmod (rd b p) n, hm.1, .inl hm.2, ?_⟩
        simp only [spec_l20Rd_pick.f, if_neg hn, e1, show ((b.length : Int) == 0) = false by simp; exact fun h => hl (by rw [h]; rfl)]
        refine ev_s ?_
        simp only [spec_l20Rd_pick.j0, Bool.false_eq_true, if_false, e2, if_pos hlt, if_pos (show (0 : Int) ≤ (p : Int) by omega), if_neg (show ¬ n = 0 by omega), wrap_in (x := rd b p) (by omega) (by omega)]
        exact Ev.now _
      · have hl0 : ¬ ((b.length : Int) = 0) := by omega
        have m1 := pick_mod (p : Int) (b.length : Int) (by omega) (by omega)
        have m2 := pick_mod ((p : Int) * 7 + 3) (b.length : Int) (by omega) (by omega)
        have b1 := rd_byte hb m1.1 m1.2
        have b2 := rd_byte hb m2.1 m2.2
        have d1 : 0 ≤ Int.tdiv (p : Int) (b.length : Int) := Int.tdiv_nonneg (by omega) (by omega)
        have d2 : Int.tdiv (p : Int) (b.length : Int) ≤ (p : Int) := Int.tdiv_le_self _ (by omega)
        have hs := pick_sum _ _ (p : Int) (Int.tdiv (p : Int) (b.length : Int)) b1 b2 (by omega) (by omega)
        obtain ⟨X, hX⟩ : ∃ X : Int, X = rd b (Int.tmod (p : Int) (b.length : Int)) * 131 + rd b (Int.tmod ((p : Int) * 7 + 3) (b.length : Int)) * 1117 + (p : Int) * 29 + Int.tdiv (p : Int) (b.length : Int) * 53 := ⟨_, rfl⟩
        rw [← hX] at hs
        have x0 : 0 ≤ X ∧ X < 20000000000000 := by omega
        have t0 : 0 ≤ Int.tdiv X 64 := Int.tdiv_nonneg (by omega) (by omega)
        have t1 : Int.tdiv X 64 ≤ X := Int.tdiv_le_self _ (by omega)
        have hbit : 0 ≤ Go.bits .xor .i64 X (Int.tdiv X 64) := by
          obtain ⟨u, hu⟩ := Int.eq_ofNat_of_zero_le x0.1
          obtain ⟨v, hv⟩ := Int.eq_ofNat_of_zero_le t0
          rw [hv, hu]
          rw [xor_pos u v (by omega) (by omega)]
          omega
        have hm := pick_mod _ n hbit (by omega)
        refine ⟨_, hm.1, .inl hm.2, ?_⟩
        simp only [spec_l20Rd_pick.f, if_neg hn, e1, show ((b.length : Int) == 0) = false by simp; exact fun h => hl (by rw [h]; rfl)]
        refine ev_s ?_
        simp only [spec_l20Rd_pick.j0, Bool.false_eq_true, if_false, e2, if_neg hlt, if_neg hl0, wrap_in (x := (p : Int) * 7) (by omega) (by omega), wrap_in (x := (p : Int) * 7 + 3) (by omega) (by omega), if_pos m1.1, if_pos m1.2, if_pos m2.1, if_pos m2.2, if_neg (show ¬ n = 0 by omega), hs, wrap_in (x := Int.tdiv X 64) (by omega) (by omega)]
        exact Ev.now _
theorem odd_ev (b : List Int) (hb : Bytes b) (p : Nat) (hp : p ≤ 100000000000) (n : Int) (hn : n ≤ 1000000) : ∃ (v : Bool) (q : Nat), q ≤ p + 1 ∧ Ev (fun k => spec_l20Rd_odd.f k b (p : Int) n) (v, (q : Int)) := by
  by_cases h : n > 0
  · obtain ⟨v, h0, h1, he⟩ := pick_ev b hb p hp n
    refine ⟨(v == wrap64 (n - 1)), p + 1, Nat.le_refl _, ?_⟩
    simp only [spec_l20Rd_odd.f, if_pos h]
    refine Ev.bind he ?_
    exact Ev.now _
  · refine ⟨false, p, by omega, ?_⟩
    simp only [spec_l20Rd_odd.f, if_neg h]
    exact Ev.now _

-- part: l20Bag
theorem l20Bag_l0 (b : List Int) (hb : Bytes b) (n : Int) (hn : n ≤ 1000000) : ∀ (d p : Nat) (x : List Int), p + 3 * d ≤ 1000000000 → x.length + d ≤ 100 →
    ∃ (out : List Int) (q : Nat), q ≤ p + 3 * d + 5 ∧ out.length ≤ 200 ∧ Ev (fun k => spec_l20Bag.l0 k n x (d : Int) b (p : Int)) (out, (q : Int)) := by
  intro d
  induction d with
  | succ d ih =>
    intro p x hp hx
    obtain ⟨v1, _, _, he1⟩ := pick_ev b hb p (by omega) 6
    obtain ⟨v2, _, _, he2⟩ := pick_ev b hb (p + 1) (by omega) 9
    obtain ⟨v3, _, _, he3⟩ := pick_ev b hb (p + 1 + 1) (by omega) 4
    obtain ⟨out, q, hq, ho, hE⟩ := ih (p + 1 + 1 + 1) (x ++ [wrap64 (v1 + (wrap64 ((wrap64 (Int.tdiv v2 8)) * v3)))]) (by omega) (by simp; omega)
    refine ⟨out, q, by omega, ho, ?_⟩
    refine ev_s ?_
    simp only [spec_l20Bag.l0, if_pos (show ((d + 1 : Nat) : Int) > 0 by omega), show wrap64 (((d + 1 : Nat) : Int) - 1) = (d : Int) by rw [wrap_in (by omega) (by omega)]; omega]
    refine Ev.bind he1 ?_
    refine Ev.bind he2 ?_
    refine Ev.bind he3 ?_
    simp only [if_pos (show x.length < 17592186044416 by omega)]
    exact hE
  | zero =>
    intro p x hp hx
    have hlen := bagOf_length x
    obtain ⟨o, q, hq, he⟩ := odd_ev b hb p (by omega) n hn
    have hd : ∀ (out : List Int) (q' : Nat), Ev (fun k => (spec_l20Rd_odd.f k b (p : Int) n).bind fun bt142 => (if bt142.1 = true then ((spec_l20Rd_pick.f k b bt142.2 3).bind fun bt144 => (if bt144.1 = 0 then ((some (([0] : List Int) : List Int)).bind fun y146 => (if (bagOf x).length < 17592186044416 then ((some ((bagOf x) ++ [1] : List Int)).bind fun y149 => (if y146.length + y149.length < 17592186044416 then (some ((y146 ++ y149), bt144.2)) else (none))) else (none))) else (if bt144.1 = 1 then ((some (([10] : List Int) : List Int)).bind fun y155 => (if y155.length + (bagOf x).length < 17592186044416 then (some ((y155 ++ (bagOf x)), bt144.2)) else (none))) else (if 17 ≤ 35184372088832 then (some ((List.replicate 17 0), bt144.2)) else (none))))) else (some ((bagOf x), bt142.2)))) (out, (q' : Int)) → Ev (fun k => spec_l20Bag.l0 k n x ((0 : Nat) : Int) b (p : Int)) (out, (q' : Int)) := by
      intro out q' h
      refine ev_s ?_
      simp only [spec_l20Bag.l0, if_neg (show ¬ (((0 : Nat) : Int) > 0) by omega)]
      exact Ev.bind (spec_BagOf_ev x (by omega)) h
    cases o with
    | false =>
      refine ⟨bagOf x, q, by omega, by omega, hd _ _ ?_⟩
      refine Ev.bind he ?_
      simp only [Bool.false_eq_true, if_false]
      exact Ev.now _
    | true =>
      obtain ⟨v, _, _, he1⟩ := pick_ev b hb q (by omega) 3
      by_cases h0 : v = 0
      · subst h0
        refine ⟨[0] ++ (bagOf x ++ [1]), q + 1, by omega, by simp; omega, hd _ _ ?_⟩
        refine Ev.bind he ?_
        simp only [if_true]
        refine Ev.bind he1 ?_
        simp only [if_true, Option.bind_some, if_pos (show (bagOf x).length < 17592186044416 by omega), if_pos (show ([0] : List Int).length + (bagOf x ++ [1]).length < 17592186044416 by simp; omega)]
        exact Ev.now _
      · by_cases h1 : v = 1
        · subst h1
          refine ⟨[10] ++ bagOf x, q + 1, by omega, by simp; omega, hd _ _ ?_⟩
          refine Ev.bind he ?_
          simp only [if_true]
          refine Ev.bind he1 ?_
          simp only [if_neg h0, if_true, Option.bind_some, if_pos (show ([10] : List Int).length + (bagOf x).length < 17592186044416 by simp; omega)]
          exact Ev.now _
        · refine ⟨List.replicate 17 0, q + 1, by omega, by simp, hd _ _ ?_⟩
          refine Ev.bind he ?_
          simp only [if_true]
          refine Ev.bind he1 ?_
          simp only [if_neg h0, if_neg h1, if_pos (show 17 ≤ 35184372088832 by decide)]
          exact Ev.now _
theorem l20Bag_ev (b : List Int) (hb : Bytes b) (p : Nat) (hp : p ≤ 100000000) (n : Int) (hn : n ≤ 1000000) :
    ∃ (out : List Int) (q : Nat), q ≤ p + 30 ∧ out.length ≤ 200 ∧ Ev (fun k => spec_l20Bag.f k b (p : Int) n) (out, (q : Int)) := by
  obtain ⟨v, h0, h1, he⟩ := pick_ev b hb p (by omega) 7
  obtain ⟨m, rfl⟩ := Int.eq_ofNat_of_zero_le h0
  obtain ⟨out, q, hq, ho, hE⟩ := l20Bag_l0 b hb n hn m (p + 1) [] (by omega) (by simp; omega)
  refine ⟨out, q, by omega, ho, ?_⟩
  simp only [spec_l20Bag.f]
  refine Ev.bind he ?_
  exact hE

-- part: alive
theorem alive_ev : Ev (fun k => laws_alive.f k) true := Ev.of laws_alive.mono (k := 20) (by decide +kernel)

-- part: law_FnBagPut
theorem DrawBagPut_l0 (b : List Int) (hb : Bytes b) (x : List Int) (n : Int) (hx : x.length ≤ 200) : ∀ (d p : Nat) (y : List Int), p + 2 * d ≤ 1000000 → y.length + d ≤ 200 → ∃ (t : List Int), t.length ≤ 200 ∧ Ev (fun k => spec_DrawBagPut.l0 k x n y (d : Int) b (p : Int)) (x, n, t) := by
  intro d
  induction d with
  | zero =>
    intro p y _ hy
    refine ⟨y, by omega, ev_s ?_⟩
    simp only [spec_DrawBagPut.l0, if_neg (show ¬ (((0 : Nat) : Int) > 0) by omega)]
    exact Ev.now _
  | succ d ih =>
    intro p y hp hy
    obtain ⟨v1, _, _, he1⟩ := pick_ev b hb p (by omega) (mx n 1)
    obtain ⟨v2, _, _, he2⟩ := pick_ev b hb (p + 1) (by omega) 30
    obtain ⟨t, ht, hE⟩ := ih (p + 1 + 1) (y ++ [wrap64 (v1 + (wrap64 ((wrap64 (Int.tdiv v2 29)) * 5)))]) (by omega) (by simp; omega)
    refine ⟨t, ht, ev_s ?_⟩
    simp only [spec_DrawBagPut.l0, if_pos (show ((d + 1 : Nat) : Int) > 0 by omega), show wrap64 (((d + 1 : Nat) : Int) - 1) = (d : Int) by rw [wrap_in (by omega) (by omega)]; omega]
    refine Ev.bind he1 ?_
    refine Ev.bind he2 ?_
    simp only [if_pos (show y.length < 17592186044416 by omega)]
    exact hE
theorem DrawBagPut_j1 (b : List Int) (hb : Bytes b) (x : List Int) (n : Int) (hx : x.length ≤ 200) (p : Nat) (hp : p ≤ 1000) : ∃ (t : List Int), t.length ≤ 200 ∧ Ev (fun k => spec_DrawBagPut.j1 k x n b (p : Int)) (x, n, t) := by
  obtain ⟨v, h0, h1, he⟩ := pick_ev b hb p (by omega) 5
  obtain ⟨m, rfl⟩ := Int.eq_ofNat_of_zero_le h0
  obtain ⟨t, ht, hE⟩ := DrawBagPut_l0 b hb x n hx m (p + 1) [] (by omega) (by simp; omega)
  refine ⟨t, ht, ev_s ?_⟩
  simp only [spec_DrawBagPut.j1]
  refine Ev.bind he ?_
  exact hE
theorem DrawBagPut_j0 (b : List Int) (hb : Bytes b) (x : List Int) (n : Int) (hx : x.length ≤ 200) (s : Bool) (hs : s = true → 0 < x.length) (p : Nat) (hp : p ≤ 900) : ∃ (t : List Int) (m : Int), t.length ≤ 200 ∧ Ev (fun k => spec_DrawBagPut.j0 k x n s b (p : Int)) (x, m, t) := by
  cases s with
  | false =>
    obtain ⟨t, ht, hE⟩ := DrawBagPut_j1 b hb x n hx p (by omega)
    refine ⟨t, n, ht, ev_s ?_⟩
    simp only [spec_DrawBagPut.j0, Bool.false_eq_true, if_false]
    exact hE
  | true =>
    have hpos := hs rfl
    obtain ⟨v, h0, h1, he⟩ := pick_ev b hb p (by omega) x.length
    obtain ⟨t, ht, hE⟩ := DrawBagPut_j1 b hb x (rd x v) hx (p + 1) (by omega)
    refine ⟨t, rd x v, ht, ev_s ?_⟩
    simp only [spec_DrawBagPut.j0, if_true]
    refine Ev.bind he ?_
    simp only [if_pos h0, if_pos (show v < (x.length : Int) by omega)]
    exact hE
theorem DrawBagPut_ev (l : List Int) (h : ∀ x ∈ l, (Lit.int .u8 x).wf = true) : ∃ (b t : List Int) (n : Int), b.length ≤ 200 ∧ t.length ≤ 200 ∧ Ev (fun k => spec_DrawBagPut.f k l) (b, n, t) := by
  obtain ⟨bs, hby, ho⟩ := open_ev l h
  obtain ⟨x, q, hq, hx, hE⟩ := l20Bag_ev bs hby 0 (by omega) 14 (by omega)
  obtain ⟨v, _, _, he⟩ := pick_ev bs hby q (by omega) 6
  by_cases h0 : (x.length : Int) > 0
  · obtain ⟨v2, _, _, he2⟩ := pick_ev bs hby (q + 1) (by omega) 5
    obtain ⟨t, m, ht, hJ⟩ := DrawBagPut_j0 bs hby x v hx (decide (v2 > 0)) (fun _ => by omega) (q + 1 + 1) (by omega)
    refine ⟨x, t, m, hx, ht, ?_⟩
    simp only [spec_DrawBagPut.f, ho, Option.bind_some]
    refine Ev.bind hE ?_
    refine Ev.bind he ?_
    simp only [if_pos h0]
    refine Ev.bind he2 ?_
    exact hJ
  · obtain ⟨t, m, ht, hJ⟩ := DrawBagPut_j0 bs hby x v hx false (fun h => absurd h (by simp)) (q + 1) (by omega)
    refine ⟨x, t, m, hx, ht, ?_⟩
    simp only [spec_DrawBagPut.f, ho, Option.bind_some]
    refine Ev.bind hE ?_
    refine Ev.bind he ?_
    simp only [if_neg h0]
    exact hJ
theorem bagTo_less (a b : List Int) (n : Nat) (h : cn a n < cn b n) : ∀ N : Nat, n < N → (∀ m : Nat, n < m → m < N → cn a m = cn b m) → bagTo a b N = -1
  | 0, hn, _ => by omega
  | N + 1, hn, hm => by
    rw [bagTo]
    by_cases e : N = n
    · subst e
      rw [if_neg (by omega), if_pos h]
    · rw [if_pos (hm N (by omega) (by omega))]
      exact bagTo_less a b n h N (by omega) (fun m h1 h2 => hm m h1 (by omega))
theorem bagPut_facts {l t : List Int} {n : Int} (h : (bagPut l n t).2 = true) : bagOk l = true ∧ n ∈ l ∧ putAll t n = true ∧ (t ++ l.erase n).length ≤ 16 ∧ (bagPut l n t).1 = bagOf (t ++ l.erase n) := by
  unfold bagPut at h ⊢
  by_cases h1 : bagOk l = true ∧ l.count n ≠ 0
  · rw [if_pos h1] at h ⊢
    by_cases h2 : putAll t n = true
    · rw [if_pos h2] at h ⊢
      by_cases h3 : (t ++ l.erase n).length > 16
      · rw [if_pos h3] at h; exact absurd h (by simp)
      · rw [if_neg h3]
        exact ⟨h1.1, List.count_pos_iff.1 (by omega), h2, by omega, rfl⟩
    · rw [if_neg h2] at h; exact absurd h (by simp)
  · rw [if_neg h1] at h; exact absurd h (by simp)
theorem bagPut_less {l t : List Int} {n : Int} (h : (bagPut l n t).2 = true) : bagOk l = true ∧ bagOk (bagPut l n t).1 = true ∧ bagTo (bagPut l n t).1 l 10 = -1 ∧ ((bagPut l n t).1.length : Int) = (l.length : Int) - 1 + (t.length : Int) ∧ 0 < l.length := by
  obtain ⟨h1, hm, h2, h3, h4⟩ := bagPut_facts h
  have hall := bagOk_all h1
  have hn := hall.1 n hm
  have ht : ∀ x ∈ t, 0 ≤ x ∧ x ≤ n - 1 := fun x hx => by
    have := List.all_eq_true.1 h2 x hx
    simpa using this
  have hin : inAll (t ++ l.erase n) = true := (inAll_iff _).2 fun x hx => by
    rcases List.mem_append.1 hx with h5 | h5
    · have := ht x h5; omega
    · exact hall.1 x (List.mem_of_mem_erase h5)
  have hbo : bagOf (t ++ l.erase n) = bagFrom (t ++ l.erase n) 10 := by unfold bagOf; rw [if_pos ⟨hin, h3⟩]
  have hp := bagFrom_perm hin
  have hel : (l.erase n).length = l.length - 1 := List.length_erase_of_mem hm
  have hpos : 0 < l.length := List.length_pos_of_mem hm
  have hcnt : ∀ m : Int, cn (bagPut l n t).1 m = cn t m + cn (l.erase n) m := fun m => by
    rw [h4, hbo]
    have e := hp.count_eq m
    rw [List.count_append] at e
    have e2 : cn (bagFrom (t ++ l.erase n) 10) m = (((bagFrom (t ++ l.erase n) 10).count m : Nat) : Int) := rfl
    have e3 : cn t m = ((t.count m : Nat) : Int) := rfl
    have e4 : cn (l.erase n) m = (((l.erase n).count m : Nat) : Int) := rfl
    rw [e2, e3, e4, e]; omega
  have hct : ∀ m : Int, n ≤ m → cn t m = 0 := fun m hm2 => by
    have e3 : cn t m = ((t.count m : Nat) : Int) := rfl
    have : t.count m = 0 := List.count_eq_zero.2 fun hx => by have := ht m hx; omega
    rw [e3, this]; rfl
  refine ⟨h1, by rw [h4]; exact bagOf_ok _, ?_, ?_, hpos⟩
  · have hnn : ((n.toNat : Nat) : Int) = n := Int.toNat_of_nonneg hn.1
    refine bagTo_less _ l n.toNat ?_ 10 (by omega) (fun m h5 h6 => ?_)
    · rw [hnn, hcnt, hct n (Int.le_refl _)]
      have e4 : cn (l.erase n) n = (((l.erase n).count n : Nat) : Int) := rfl
      have e5 : cn l n = ((l.count n : Nat) : Int) := rfl
      have e6 : (l.erase n).count n = l.count n - 1 := List.count_erase_self
      have e7 : 0 < l.count n := List.count_pos_iff.2 hm
      omega
    · rw [hcnt, hct (m : Int) (by omega)]
      have e4 : cn (l.erase n) (m : Int) = (((l.erase n).count (m : Int) : Nat) : Int) := rfl
      have e5 : cn l (m : Int) = ((l.count (m : Int) : Nat) : Int) := rfl
      have e6 : (l.erase n).count (m : Int) = l.count (m : Int) := List.count_erase_of_ne (by omega)
      omega
  · rw [h4, hbo, hp.length_eq, List.length_append, hel]; omega
theorem bagPut_none {l t : List Int} {n : Int} (h : (bagPut l n t).2 = false) : (bagPut l n t).1 = [] := by
  unfold bagPut at h ⊢
  split
  · rename_i h1
    rw [if_pos h1] at h
    split
    · rename_i h2
      rw [if_pos h2] at h
      split
      · rfl
      · rename_i h3
        rw [if_neg h3] at h; exact absurd h (by simp)
    · rfl
  · rfl
theorem FnBagPut : laws_FnBagPut.Pure := by
  intro l0 _ _ hw
  refine Ev.rounds ?_
  simp only [laws_FnBagPut.f]
  by_cases hb : (l0.length : Int) > 1048576
  · simp only [if_pos hb]; exact Ev.now _
  · simp only [if_neg hb]
    obtain ⟨b, t, n, hbl, htl, hd⟩ := DrawBagPut_ev l0 hw
    have hlen := bagPut_length b t n
    refine Ev.bind hd ?_
    refine Ev.bind (impl_BagPut_ev b t n (by omega) (by omega)) ?_
    refine Ev.bind (spec_BagPut_ev b t n (by omega) (by omega)) ?_
    refine Ev.bind (sameInts_ev _ _ (by omega)) ?_
    simp only [decide_true, if_true, bne_self_eq_false]
    refine ev_s ?_
    simp only [laws_FnBagPut.j0, Bool.false_eq_true, if_false]
    cases hk : (bagPut b n t).2 with
    | false =>
      simp only [Bool.false_eq_true, if_false, bagPut_none hk, List.length_nil, if_pos (show ((0 : Nat) : Int) = 0 from rfl)]
      refine Ev.bind alive_ev ?_
      exact Ev.now _
    | true =>
      obtain ⟨h1, h2, h3, h4, h5⟩ := bagPut_less hk
      simp only [if_true]
      generalize (bagPut b n t).1 = x at *
      refine Ev.bind (ev_eq (impl_BagValid_ev x (by omega)) h2) ?_
      simp only [if_true, if_pos (show (x.length : Int) = wrap64 (wrap64 ((b.length : Int) - 1) + (t.length : Int)) by rw [wrap_in (x := (b.length : Int) - 1) (by omega) (by omega), wrap_in (by omega) (by omega)]; exact h4)]
      have hc : bagCmp x b = -1 := by unfold bagCmp; rw [if_pos h2, if_pos h1]; exact h3
      refine Ev.bind (ev_eq (impl_BagCompare_ev x b (by omega) (by omega)) hc) ?_
      simp only [if_true]
      refine Ev.bind (ev_eq (impl_BagBelow_ev x b (by omega) (by omega)) (show bagBel x b = true by rw [bagBel_cmp, hc]; rfl)) ?_
      simp only [if_true]
      refine Ev.bind (impl_BagOrd_ev x (by omega)) ?_
      refine Ev.bind (impl_BagOrd_ev b (by omega)) ?_
      refine Ev.bind (ev_eq (BagsOrd_ev h2 h1) h3) ?_
      exact Ev.now _

end Go.Proofs.Ytmgpdneehdnjlaa.Pure

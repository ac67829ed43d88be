/- The law FnExactBagPut returns true for every input that the statement lets in; no condition of our own. -/
import Derived.Test.YtmgpdneehdnjlaaCfx5
namespace Go.Proofs.Ytmgpdneehdnjlaa.Pure
open Go.RowKit Go.Proofs.Ytmgpdneehdnjlaa.Cf Go.Proofs.YtmgpdneehdnjlaaW.PrintWords Go.Proofs.YtmgpdneehdnjlaaW.PrintLast
set_option linter.unusedVariables false
set_option linter.unusedSimpArgs false

-- part: base
/-! ### words of mine -/
theorem ev_s {α : Type} {g : Nat → Option α} {r : α} (h : Ev (fun k => g (k + 1)) r) : Ev g r := Ev.step (fun _ => rfl) h
theorem ev_eq {α : Type} {g : Nat → Option α} {r q : α} (h : Ev g r) (e : r = q) : Ev g q := e ▸ h
theorem ev_now {α : Type} {r q : α} (e : r = q) : Ev (fun _ => some r) q := e ▸ Ev.now r
theorem wrap_in {x : Int} (h0 : -9223372036854775808 ≤ x) (h1 : x ≤ 9223372036854775807) : wrap64 x = x := by unfold wrap64; omega
theorem rd_eq (xs : List Int) (i : Nat) : rd xs (i : Int) = xs.getD i 0 := by simp [rd]
theorem rd_get {xs : List Int} {i : Nat} (h : i < xs.length) : rd xs (i : Int) = xs[i] := by simp [rd, h]
theorem wrap_nat2 (a b : Nat) (h : a + b < 4611686018427387904) : wrap64 ((a : Int) + (b : Int)) = ((a + b : Nat) : Int) := by rw [wrap_in (by omega) (by omega)]; omega
theorem ev_const {α : Type} {x : Option α} {a : α} (h : x = some a) : Ev (fun _ => x) a := by subst h; exact Ev.now a

-- part: toIntS
theorem toIntS_l0 (l : List Int) (hl : l.length ≤ 35184372088832) : ∀ (d i : Nat) (x : List Int), i + d = l.length → x.length = l.length → x.take i = l.take i → Ev (fun k => laws_toIntS.l0 k l x i) l := by
  intro d
  induction d with
  | zero =>
    intro i x h hx ht
    refine ev_s ?_
    simp only [laws_toIntS.l0]
    rw [show i = l.length by omega] at ht ⊢
    simp only [if_neg (show ¬ ((l.length : Int) < (l.length : Int)) by omega)]
    rw [List.take_of_length_le (by omega), List.take_length] at ht
    rw [ht]; exact Ev.now _
  | succ d ih =>
    intro i x h hx ht
    refine ev_s ?_
    simp only [laws_toIntS.l0]
    simp only [if_pos (show (i : Int) < (l.length : Int) by omega), if_pos (show (0 : Int) ≤ (i : Int) by omega), if_pos (show (i : Int) < (x.length : Int) by omega), show wrap64 ((i : Int) + 1) = ((i + 1 : Nat) : Int) by rw [wrap_in (by omega) (by omega)]; rfl, Int.toNat_natCast]
    refine ih (i + 1) _ (by omega) (by simpa using hx) ?_
    rw [rd_get (show i < l.length by omega)]
    apply List.ext_getElem?
    intro j
    have := congrArg (fun z => z[j]?) ht
    simp only [List.getElem?_take] at this ⊢
    by_cases hj : j < i
    · rw [if_pos hj, if_pos hj] at this
      rw [if_pos (by omega), if_pos (by omega), List.getElem?_set_ne (by omega)]; exact this
    · by_cases hji : j = i
      · subst hji
        rw [if_pos (by omega), if_pos (by omega), List.getElem?_set_self (by omega), List.getElem?_eq_getElem (by omega)]
      · rw [if_neg (by omega), if_neg (by omega)]
theorem toIntS_ev (l : List Int) (hl : l.length ≤ 35184372088832) : Ev (fun k => laws_toIntS.f k l) l := by
  simp only [laws_toIntS.f, Int.toNat_natCast, if_pos (show (0 : Int) ≤ (l.length : Int) by omega), if_pos hl]
  exact toIntS_l0 l hl l.length 0 _ (by omega) (by simp) (by simp)

-- part: eqLoop
theorem eqIntS_l0 (F : Nat → List Int → List Int → Int → Option Bool)
    (h0 : ∀ k a b i, F (k + 1) a b i = if i < (a.length : Int) then (if 0 ≤ i then (if i < (b.length : Int) then (if (rd a i) = (rd b i) then (F k a b (wrap64 (i + 1))) else (some false)) else none) else none) else some true)
    (a b : List Int) (hl : a.length = b.length) (hb : a.length ≤ 140737488351232) : ∀ (d i : Nat), i + d = a.length → a.take i = b.take i → Ev (fun k => F k a b i) (decide (a = b)) := by
  intro d
  induction d with
  | zero =>
    intro i h ht
    refine ev_s ?_
    simp only [h0]
    simp only [if_neg (show ¬ ((i : Int) < (a.length : Int)) by omega)]
    rw [List.take_of_length_le (by omega), List.take_of_length_le (by omega)] at ht
    simp only [ht, decide_true]; exact Ev.now _
  | succ d ih =>
    intro i h ht
    refine ev_s ?_
    simp only [h0]
    simp only [if_pos (show (i : Int) < (a.length : Int) by omega), if_pos (show (0 : Int) ≤ (i : Int) by omega), if_pos (show (i : Int) < (b.length : Int) by omega), show wrap64 ((i : Int) + 1) = ((i + 1 : Nat) : Int) by rw [wrap_in (by omega) (by omega)]; rfl]
    rw [rd_get (show i < a.length by omega), rd_get (show i < b.length by omega)]
    by_cases he : a[i] = b[i]
    · simp only [if_pos he]
      refine ih (i + 1) (by omega) ?_
      rw [List.take_succ_eq_append_getElem (by omega), List.take_succ_eq_append_getElem (by omega), ht, he]
    · simp only [if_neg he]
      refine ev_now (Eq.symm (decide_eq_false (fun hab => he ?_)))
      subst hab; rfl

-- part: eqIntS
theorem eqIntS_ev (a b : List Int) (hb : a.length ≤ 140737488351232) : Ev (fun k => laws_eqIntS.f k a b) (decide (a = b)) := by
  simp only [laws_eqIntS.f]
  by_cases hl : a.length = b.length
  · simp only [if_pos (show (a.length : Int) = (b.length : Int) by omega)]
    exact eqIntS_l0 laws_eqIntS.l0 (fun _ _ _ _ => rfl) a b hl hb a.length 0 (by omega) (by simp)
  · simp only [if_neg (show ¬ ((a.length : Int) = (b.length : Int)) by omega)]
    exact ev_now (Eq.symm (decide_eq_false (fun hab => hl (by rw [hab]))))

-- part: mark
/-! ### marks -/
def marksOf (a n : Nat) : List Int := (List.range n).map (fun i => ((a + i : Nat) : Int))
theorem marksOf_length (a n : Nat) : (marksOf a n).length = n := by simp [marksOf]
theorem markIntS_l0 (a : Nat) (n : Nat) (hn : a + n ≤ 1000000000000000) : ∀ (d i : Nat) (x : List Int), i + d = n → x.length = n → x.take i = marksOf a i → Ev (fun k => laws_markIntS.l0 k x ((a + i : Nat) : Int) (i : Int)) (((a + n : Nat) : Int), marksOf a n) := by
  intro d
  induction d with
  | zero =>
    intro i x h hx ht
    refine ev_s ?_
    simp only [laws_markIntS.l0, if_neg (show ¬ ((i : Int) < (x.length : Int)) by omega)]
    rw [List.take_of_length_le (by omega)] at ht
    obtain rfl : i = n := by omega
    rw [← ht]; exact Ev.now _
  | succ d ih =>
    intro i x h hx ht
    refine ev_s ?_
    simp only [laws_markIntS.l0, if_pos (show (i : Int) < (x.length : Int) by omega), if_pos (show (0 : Int) ≤ (i : Int) by omega), Int.toNat_natCast, show wrap64 ((i : Int) + 1) = ((i + 1 : Nat) : Int) by rw [wrap_in (by omega) (by omega)]; rfl, show wrap64 (((a + i : Nat) : Int) + 1) = ((a + (i + 1) : Nat) : Int) by rw [wrap_in (by omega) (by omega)]; omega]
    refine ih (i + 1) _ (by omega) (by simpa using hx) ?_
    have e : marksOf a (i + 1) = marksOf a i ++ [((a + i : Nat) : Int)] := by simp [marksOf, List.range_succ]
    rw [e, ← ht, List.take_succ_eq_append_getElem (by simp; omega), List.getElem_set_self]
    congr 1
    rw [List.take_set_of_le (by omega)]
theorem markIntS_ev (l : List Int) (a : Nat) (hn : a + l.length ≤ 1000000000000000) : Ev (fun k => laws_markIntS.f k l (a : Int)) (((a + l.length : Nat) : Int), marksOf a l.length) :=
  markIntS_l0 a l.length hn l.length 0 l (by omega) rfl (by simp [marksOf])
theorem heldIntS_l0 (a n : Nat) (hn : a + n ≤ 1000000000000000) : ∀ (d i : Nat), i + d = n → Ev (fun k => laws_heldIntS.l0 k (marksOf a n) ((a + i : Nat) : Int) (i : Int)) ((a + n : Nat) : Int) := by
  intro d
  induction d with
  | zero =>
    intro i h
    refine ev_s ?_
    simp only [laws_heldIntS.l0, marksOf_length, if_neg (show ¬ ((i : Int) < (n : Int)) by omega)]
    exact ev_now (by rw [show i = n by omega])
  | succ d ih =>
    intro i h
    refine ev_s ?_
    have hr : rd (marksOf a n) (i : Int) = ((a + i : Nat) : Int) := by rw [rd_get (by rw [marksOf_length]; omega)]; simp [marksOf]
    simp only [laws_heldIntS.l0, marksOf_length, if_pos (show (i : Int) < (n : Int) by omega), if_pos (show (0 : Int) ≤ (i : Int) by omega), hr, if_true, show wrap64 ((i : Int) + 1) = ((i + 1 : Nat) : Int) by rw [wrap_in (by omega) (by omega)]; rfl, show wrap64 (((a + i : Nat) : Int) + 1) = ((a + (i + 1) : Nat) : Int) by rw [wrap_in (by omega) (by omega)]; omega]
    exact ih (i + 1) (by omega)
theorem heldIntS_ev (a n : Nat) (hn : a + n ≤ 1000000000000000) : Ev (fun k => laws_heldIntS.f k (marksOf a n) (a : Int)) ((a + n : Nat) : Int) :=
  heldIntS_l0 a n hn n 0 (by omega)

-- part: l1In
theorem l1In_eq (n lo hi : Int) : spec_l1In.f n lo hi = some (decide (lo ≤ n ∧ n ≤ hi)) := by
  unfold spec_l1In.f
  by_cases h : n ≥ lo
  · rw [if_pos h]; simp [show lo ≤ n from h]
  · rw [if_neg h]; simp [show ¬ lo ≤ n from h]

-- part: allB
def allB (f : Nat → Bool) : Nat → Nat → Bool
  | 0, _ => true
  | d + 1, i => f i && allB f d (i + 1)
theorem allB_iff (f : Nat → Bool) : ∀ d i, allB f d i = true ↔ ∀ m, i ≤ m → m < i + d → f m = true
  | 0, i => by simp [allB]; omega
  | d + 1, i => by
    rw [allB, Bool.and_eq_true, allB_iff f d (i + 1)]
    constructor
    · rintro ⟨h1, h2⟩ m hm hm2
      by_cases h : m = i
      · subst h; exact h1
      · exact h2 m (by omega) (by omega)
    · intro h
      exact ⟨h i (by omega) (by omega), fun m h1 h2 => h m (by omega) (by omega)⟩

-- part: BagValid
/-- What both of them ask at a place. -/
def bagAt (l : List Int) (i : Nat) : Bool := decide (0 ≤ rd l (i : Int) ∧ rd l (i : Int) ≤ 9 ∧ (0 < i → rd l (i : Int) ≤ rd l ((i - 1 : Nat) : Int)))
def bagOk (l : List Int) : Bool := allB (bagAt l) l.length 0 && decide (l.length ≤ 16)
theorem spec_BagValid_l0 (l : List Int) (hb : l.length ≤ 140737488351232) : ∀ (d i : Nat), i + d = l.length → Ev (fun k => spec_BagValid.l0 k l (i : Int)) (allB (bagAt l) d i && decide (l.length ≤ 16)) := by
  intro d
  induction d with
  | zero =>
    intro i h
    refine ev_s ?_
    simp only [spec_BagValid.l0, if_neg (show ¬ ((i : Int) < (l.length : Int)) by omega), allB, Bool.true_and]
    exact ev_now (decide_eq_decide.mpr (by omega))
  | succ d ih =>
    intro i h
    refine ev_s ?_
    simp only [spec_BagValid.l0, l1In_eq, Option.bind_some, if_pos (show (i : Int) < (l.length : Int) by omega), if_pos (show (0 : Int) ≤ (i : Int) by omega), show wrap64 ((i : Int) + 1) = ((i + 1 : Nat) : Int) by rw [wrap_in (by omega) (by omega)]; rfl, allB]
    by_cases h1 : 0 ≤ rd l (i : Int) ∧ rd l (i : Int) ≤ 9
    · simp only [decide_eq_true h1, if_true]
      by_cases h0 : (i : Int) > 0
      · have e : wrap64 ((i : Int) - 1) = ((i - 1 : Nat) : Int) := by rw [wrap_in (by omega) (by omega)]; omega
        simp only [if_pos h0, e, if_pos (show (0 : Int) ≤ ((i - 1 : Nat) : Int) by omega), if_pos (show ((i - 1 : Nat) : Int) < (l.length : Int) by omega)]
        by_cases h2 : rd l (i : Int) > rd l ((i - 1 : Nat) : Int)
        · have hf : bagAt l i = false := decide_eq_false (fun hh => by have := hh.2.2 (by omega); omega)
          simp only [if_pos h2, hf, Bool.false_and]; exact Ev.now _
        · have ht : bagAt l i = true := decide_eq_true ⟨h1.1, h1.2, fun _ => by omega⟩
          simp only [if_neg h2, ht, Bool.true_and]; exact ih (i + 1) (by omega)
      · have ht : bagAt l i = true := decide_eq_true ⟨h1.1, h1.2, fun _ => by omega⟩
        simp only [if_neg h0, ht, Bool.true_and]; exact ih (i + 1) (by omega)
    · have hf : bagAt l i = false := decide_eq_false (fun hh => h1 ⟨hh.1, hh.2.1⟩)
      simp only [decide_eq_false h1, Bool.false_eq_true, if_false, hf, Bool.false_and]; exact Ev.now _
theorem spec_BagValid_ev (l : List Int) (hb : l.length ≤ 140737488351232) : Ev (fun k => spec_BagValid.f k l) (bagOk l) := spec_BagValid_l0 l hb l.length 0 (by omega)
theorem impl_BagValid_l0 (l : List Int) (hb : l.length ≤ 140737488351232) : ∀ (d i : Nat), i + d = l.length → Ev (fun k => impl_BagValid.l0 k l l (l.length : Int) (i : Int)) (allB (bagAt l) d i && decide (l.length ≤ 16)) := by
  intro d
  induction d with
  | zero =>
    intro i h
    refine ev_s ?_
    simp only [impl_BagValid.l0, if_neg (show ¬ ((i : Int) < (l.length : Int)) by omega), allB, Bool.true_and]
    exact ev_now (decide_eq_decide.mpr (by omega))
  | succ d ih =>
    intro i h
    refine ev_s ?_
    simp only [impl_BagValid.l0, if_pos (show (i : Int) < (l.length : Int) by omega), if_pos (show (0 : Int) ≤ (i : Int) by omega), show wrap64 ((i : Int) + 1) = ((i + 1 : Nat) : Int) by rw [wrap_in (by omega) (by omega)]; rfl, allB]
    by_cases h1 : rd l (i : Int) < 0
    · have hf : bagAt l i = false := decide_eq_false (fun hh => by omega)
      simp only [if_pos h1, hf, Bool.false_and]; exact Ev.now _
    · by_cases h9 : rd l (i : Int) > 9
      · have hf : bagAt l i = false := decide_eq_false (fun hh => by omega)
        simp only [if_neg h1, if_pos h9, hf, Bool.false_and]; exact Ev.now _
      · simp only [if_neg h1, if_neg h9]
        by_cases h0 : (i : Int) > 0
        · have e : wrap64 ((i : Int) - 1) = ((i - 1 : Nat) : Int) := by rw [wrap_in (by omega) (by omega)]; omega
          simp only [if_pos h0, e, if_pos (show (0 : Int) ≤ ((i - 1 : Nat) : Int) by omega), if_pos (show ((i - 1 : Nat) : Int) < (l.length : Int) by omega)]
          by_cases h2 : rd l (i : Int) > rd l ((i - 1 : Nat) : Int)
          · have hf : bagAt l i = false := decide_eq_false (fun hh => by have := hh.2.2 (by omega); omega)
            simp only [if_pos h2, hf, Bool.false_and]; exact Ev.now _
          · have ht : bagAt l i = true := decide_eq_true ⟨by omega, by omega, fun _ => by omega⟩
            simp only [if_neg h2, ht, Bool.true_and]; exact ih (i + 1) (by omega)
        · have ht : bagAt l i = true := decide_eq_true ⟨by omega, by omega, fun _ => by omega⟩
          simp only [if_neg h0, ht, Bool.true_and]; exact ih (i + 1) (by omega)
theorem impl_BagValid_ev (l : List Int) (hb : l.length ≤ 140737488351232) : Ev (fun k => impl_BagValid.f k l) (bagOk l) := impl_BagValid_l0 l hb l.length 0 (by omega)
theorem rd_drop (l : List Int) (a i : Nat) : rd (l.drop a) (i : Int) = rd l ((a + i : Nat) : Int) := by simp only [rd, Int.toNat_natCast, List.getD_eq_getElem?_getD, List.getElem?_drop]
theorem bagOk_drop {l : List Int} (h : bagOk l = true) (a : Nat) : bagOk (l.drop a) = true := by
  simp only [bagOk, Bool.and_eq_true, allB_iff, decide_eq_true_eq, bagAt, rd_drop] at h ⊢
  refine ⟨fun m _ hm => ?_, by simp; omega⟩
  rw [List.length_drop] at hm
  obtain ⟨h1, h2, h3⟩ := h.1 (a + m) (by omega) (by omega)
  refine ⟨h1, h2, fun h0 => ?_⟩
  have := h3 (by omega)
  rw [show a + m - 1 = a + (m - 1) by omega] at this
  exact this

-- part: l6Many
theorem l6Many_l0 (l : List Int) (n : Int) (hb : l.length ≤ 140737488351232) : ∀ (d i c : Nat), i + d = l.length → c ≤ i → Ev (fun k => spec_l6Many.l0 k l n (c : Int) (i : Int)) ((c + (l.drop i).count n : Nat) : Int) := by
  intro d
  induction d with
  | zero =>
    intro i c h _
    refine ev_s ?_
    simp only [spec_l6Many.l0, if_neg (show ¬ ((i : Int) < (l.length : Int)) by omega)]
    rw [List.drop_of_length_le (by omega)]
    exact Ev.now _
  | succ d ih =>
    intro i c h hc
    refine ev_s ?_
    simp only [spec_l6Many.l0, if_pos (show (i : Int) < (l.length : Int) by omega), if_pos (show (0 : Int) ≤ (i : Int) by omega), show wrap64 ((i : Int) + 1) = ((i + 1 : Nat) : Int) by rw [wrap_in (by omega) (by omega)]; rfl, show wrap64 ((c : Int) + 1) = ((c + 1 : Nat) : Int) by rw [wrap_in (by omega) (by omega)]; rfl]
    rw [rd_get (show i < l.length by omega), List.drop_eq_getElem_cons (show i < l.length by omega)]
    by_cases he : l[i] = n
    · simp only [if_pos he]
      rw [he, List.count_cons_self, show c + ((l.drop (i + 1)).count n + 1) = (c + 1) + (l.drop (i + 1)).count n by omega]
      exact ih (i + 1) (c + 1) (by omega) (by omega)
    · simp only [if_neg he]
      rw [List.count_cons_of_ne (fun e => he e)]
      exact ih (i + 1) c (by omega) (by omega)
theorem l6Many_ev (l : List Int) (n : Int) (hb : l.length ≤ 140737488351232) : Ev (fun k => spec_l6Many.f k l n) ((l.count n : Nat) : Int) :=
  ev_eq (l6Many_l0 l n hb l.length 0 0 (by omega) (by omega)) (by simp)

-- part: bagCn
/-! ### how often a number is in a multiset -/
def cn (l : List Int) (n : Int) : Int := ((l.countP (fun x => x == n) : Nat) : Int)
theorem cn_nonneg (l : List Int) (n : Int) : 0 ≤ cn l n := by unfold cn; omega
theorem cn_le (l : List Int) (n : Int) : cn l n ≤ l.length := by
  have := List.countP_le_length (p := fun x => x == n) (l := l)
  unfold cn; omega
theorem l6Many_cn (l : List Int) (n : Int) (hb : l.length ≤ 140737488351232) : Ev (fun k => spec_l6Many.f k l n) (cn l n) := l6Many_ev l n hb
theorem bagOk_all {l : List Int} (h : bagOk l = true) : (∀ x ∈ l, 0 ≤ x ∧ x < 10) ∧ l.length ≤ 16 := by
  simp only [bagOk, Bool.and_eq_true, allB_iff, decide_eq_true_eq, bagAt] at h
  refine ⟨fun x hx => ?_, h.2⟩
  obtain ⟨i, hi, rfl⟩ := List.mem_iff_getElem.1 hx
  have := h.1 i (by omega) (by omega)
  rw [rd_get hi] at this
  omega

-- part: bagExt
theorem cn_cons (x : Int) (l : List Int) (n : Int) : cn (x :: l) n = cn l n + if x = n then 1 else 0 := by
  unfold cn; rw [List.countP_cons]
  by_cases h : x = n <;> simp [h]
theorem cn_pos {l : List Int} {n : Int} (h : 0 < cn l n) : n ∈ l := by
  unfold cn at h
  have : 0 < l.countP (fun x => x == n) := by omega
  obtain ⟨x, hx, he⟩ := List.countP_pos_iff.1 this
  have : x = n := by simpa using he
  exact this ▸ hx
theorem bagOk_head {x : Int} {l : List Int} (h : bagOk (x :: l) = true) : ∀ y ∈ l, y ≤ x := by
  have hd := h
  simp only [bagOk, Bool.and_eq_true, allB_iff, decide_eq_true_eq, bagAt] at h
  have key : ∀ i, i < (x :: l).length → rd (x :: l) (i : Int) ≤ x := by
    intro i
    induction i with
    | zero => intro _; simp [rd]
    | succ i ih =>
      intro hi
      have h3 := (h.1 (i + 1) (by omega) (by omega)).2.2 (by omega)
      have := ih (by omega)
      rw [Nat.add_sub_cancel] at h3
      omega
  intro y hy
  obtain ⟨i, hi, rfl⟩ := List.mem_iff_getElem.1 hy
  have := key (i + 1) (by simp; omega)
  rw [rd_get (by simp; omega)] at this
  simpa using this
theorem bag_ext : ∀ (a b : List Int), bagOk a = true → bagOk b = true → (∀ n : Int, cn a n = cn b n) → a = b
  | [], [], _, _, _ => rfl
  | [], y :: b, _, _, h => by
    have h1 := h y
    rw [cn_cons, if_pos rfl] at h1
    have h2 := cn_nonneg b y
    have h3 : cn [] y = 0 := rfl
    omega
  | x :: a, [], _, _, h => by
    have h1 := h x
    rw [cn_cons, if_pos rfl] at h1
    have h2 := cn_nonneg a x
    have h3 : cn [] x = 0 := rfl
    omega
  | x :: a, y :: b, ha, hb, h => by
    have hxy : x = y := by
      have hx := h x
      have hy := h y
      rw [cn_cons, if_pos rfl] at hx
      rw [cn_cons y b y, if_pos rfl] at hy
      have p1 := cn_nonneg a x
      have p2 := cn_nonneg b y
      have m1 : x ∈ y :: b := cn_pos (by omega)
      have m2 : y ∈ x :: a := cn_pos (by omega)
      have l1 : x ≤ y := by
        rcases List.mem_cons.1 m1 with e | e
        · omega
        · exact bagOk_head hb x e
      have l2 : y ≤ x := by
        rcases List.mem_cons.1 m2 with e | e
        · omega
        · exact bagOk_head ha y e
      omega
    subst hxy
    have ha' : bagOk a = true := bagOk_drop ha 1
    have hb' : bagOk b = true := bagOk_drop hb 1
    rw [bag_ext a b ha' hb' (fun n => by have := h n; rw [cn_cons, cn_cons] at this; omega)]
theorem cn_out {l : List Int} (h : bagOk l = true) {n : Int} (hn : ¬ (0 ≤ n ∧ n < 10)) : cn l n = 0 := by
  have h0 := cn_nonneg l n
  by_cases hp : 0 < cn l n
  · exact absurd ((bagOk_all h).1 n (cn_pos hp)) hn
  · omega

-- part: specBagOf
/-- The numbers below n, the greater ones first. -/
def bagFrom (l : List Int) : Nat → List Int
  | 0 => []
  | n + 1 => List.replicate (l.count (n : Int)) (n : Int) ++ bagFrom l n
def inAll (l : List Int) : Bool := l.all (fun x => decide (0 ≤ x ∧ x ≤ 9))
def bagOf (l : List Int) : List Int := if inAll l = true ∧ l.length ≤ 16 then bagFrom l 10 else []
theorem spec_BagOf_l2 (l : List Int) (n : Int) (r : List Int) : ∀ (m : Nat) (out : List Int), out.length + m ≤ 1000 → Ev (fun k => spec_BagOf.l1 k l (out ++ List.replicate m n) (wrap64 (n - 1))) r → Ev (fun k => spec_BagOf.l2 k l out n (m : Int)) r
  | 0, out, _, hc => by
    refine ev_s ?_
    simp only [spec_BagOf.l2, if_neg (show ¬ (((0 : Nat) : Int) > 0) by omega)]
    simpa using hc
  | m + 1, out, hm, hc => by
    refine ev_s ?_
    simp only [spec_BagOf.l2, if_pos (show ((m + 1 : Nat) : Int) > 0 by omega), if_pos (show out.length < 17592186044416 by omega), show wrap64 (((m + 1 : Nat) : Int) - 1) = (m : Int) by rw [wrap_in (by omega) (by omega)]; omega]
    refine spec_BagOf_l2 l n r m (out ++ [n]) (by simp; omega) ?_
    simpa [List.append_assoc, List.replicate_succ] using hc
theorem spec_BagOf_l1 (l : List Int) (hl : l.length ≤ 16) : ∀ (n : Nat) (out : List Int), n ≤ 10 → out.length + 16 * n ≤ 900 → Ev (fun k => spec_BagOf.l1 k l out ((n : Int) - 1)) (out ++ bagFrom l n)
  | 0, out, _, _ => by
    refine ev_s ?_
    simp only [spec_BagOf.l1, if_neg (show ¬ (((0 : Nat) : Int) - 1 ≥ 0) by omega)]
    refine ev_s ?_
    simp only [spec_BagOf.j2, Bool.false_eq_true, if_false]
    exact ev_now (by simp [bagFrom])
  | n + 1, out, hn, ho => by
    have hc : l.count (n : Int) ≤ l.length := List.count_le_length
    refine ev_s ?_
    simp only [show ((n + 1 : Nat) : Int) - 1 = (n : Int) by omega, spec_BagOf.l1, if_pos (show (n : Int) ≥ 0 by omega), show decide ((l.length : Int) ≤ 16) = true from decide_eq_true (by omega)]
    refine ev_s ?_
    simp only [spec_BagOf.j2, if_true]
    refine Ev.bind (l6Many_ev l (n : Int) (by omega)) ?_
    refine spec_BagOf_l2 l (n : Int) _ _ out (by omega) ?_
    rw [show wrap64 ((n : Int) - 1) = (n : Int) - 1 from wrap_in (by omega) (by omega)]
    have := spec_BagOf_l1 l hl n (out ++ List.replicate (l.count (n : Int)) (n : Int)) (by omega) (by simp; omega)
    rw [List.append_assoc] at this
    exact this
theorem spec_BagOf_l0 (l : List Int) (hb : l.length ≤ 140737488351232) : ∀ (d i : Nat), i + d = l.length → Ev (fun k => spec_BagOf.l0 k l [] (i : Int)) (if (l.drop i).all (fun x => decide (0 ≤ x ∧ x ≤ 9)) = true ∧ l.length ≤ 16 then bagFrom l 10 else []) := by
  intro d
  induction d with
  | zero =>
    intro i h
    refine ev_s ?_
    simp only [spec_BagOf.l0, if_neg (show ¬ ((i : Int) < (l.length : Int)) by omega)]
    rw [List.drop_of_length_le (by omega)]
    by_cases h16 : l.length ≤ 16
    · rw [if_pos ⟨rfl, h16⟩]
      exact spec_BagOf_l1 l h16 10 [] (by omega) (by simp)
    · rw [if_neg (fun hh => h16 hh.2)]
      refine ev_s ?_
      simp only [spec_BagOf.l1, if_pos (show (9 : Int) ≥ 0 by decide), show decide ((l.length : Int) ≤ 16) = false from decide_eq_false (by omega)]
      refine ev_s ?_
      simp only [spec_BagOf.j2, Bool.false_eq_true, if_false]
      exact Ev.now _
  | succ d ih =>
    intro i h
    refine ev_s ?_
    simp only [spec_BagOf.l0, l1In_eq, Option.bind_some, if_pos (show (i : Int) < (l.length : Int) by omega), if_pos (show (0 : Int) ≤ (i : Int) by omega), show wrap64 ((i : Int) + 1) = ((i + 1 : Nat) : Int) by rw [wrap_in (by omega) (by omega)]; rfl]
    rw [rd_get (show i < l.length by omega), List.drop_eq_getElem_cons (show i < l.length by omega), List.all_cons]
    by_cases hc : 0 ≤ l[i] ∧ l[i] ≤ 9
    · simp only [decide_eq_true hc, Bool.true_and, if_true]
      exact ih (i + 1) (by omega)
    · simp only [decide_eq_false hc, Bool.false_and, Bool.false_eq_true, if_false, false_and]
      exact Ev.now _
theorem spec_BagOf_ev (l : List Int) (hb : l.length ≤ 140737488351232) : Ev (fun k => spec_BagOf.f k l) (bagOf l) := spec_BagOf_l0 l hb l.length 0 (by omega)
theorem bagFrom_length (l : List Int) (hl : l.length ≤ 16) : ∀ n, (bagFrom l n).length ≤ 16 * n
  | 0 => by simp [bagFrom]
  | n + 1 => by have := bagFrom_length l hl n; have : l.count (n : Int) ≤ l.length := List.count_le_length; simp only [bagFrom, List.length_append, List.length_replicate]; omega
theorem bagOf_length (l : List Int) : (bagOf l).length ≤ 160 := by
  unfold bagOf; split
  · rename_i h; have := bagFrom_length l h.2 10; omega
  · simp

-- part: bagPutSpec
/-! ### the reference puts in -/
def putAll (t : List Int) (n : Int) : Bool := t.all (fun x => decide (0 ≤ x ∧ x ≤ n - 1))
def bagPut (l : List Int) (n : Int) (t : List Int) : List Int × Bool :=
  if bagOk l = true ∧ l.count n ≠ 0 then (if putAll t n = true then (if (t ++ l.erase n).length > 16 then ([], false) else (bagOf (t ++ l.erase n), true)) else ([], false)) else ([], false)
theorem spec_BagPut_l1 (l : List Int) (n : Int) (hl : l.length ≤ 1000000) : ∀ (d i : Nat) (out : List Int) (g : Bool), i + d = l.length → out.length + d ≤ 3000000 →
    Ev (fun k => spec_BagPut.l1 k l n out g (i : Int)) (if (out ++ (if g = true then l.drop i else (l.drop i).erase n)).length > 16 then ([], false) else (bagOf (out ++ (if g = true then l.drop i else (l.drop i).erase n)), true)) := by
  intro d
  induction d with
  | zero =>
    intro i out g h ho
    refine ev_s ?_
    simp only [spec_BagPut.l1, if_neg (show ¬ ((i : Int) < (l.length : Int)) by omega)]
    have e : (if g = true then l.drop i else (l.drop i).erase n) = [] := by
      rw [List.drop_of_length_le (by omega)]; split <;> rfl
    rw [e, List.append_nil]
    by_cases h16 : out.length > 16
    · simp only [if_pos h16, if_pos (show (out.length : Int) > 16 by omega)]; exact Ev.now _
    · simp only [if_neg h16, if_neg (show ¬ (out.length : Int) > 16 by omega)]
      refine Ev.bind (spec_BagOf_ev out (by omega)) ?_
      exact Ev.now _
  | succ d ih =>
    intro i out g h ho
    have hi : i < l.length := by omega
    refine ev_s ?_
    simp only [spec_BagPut.l1, if_pos (show (i : Int) < (l.length : Int) by omega), if_pos (show (0 : Int) ≤ (i : Int) by omega), rd_get hi, if_pos (show out.length < 17592186044416 by omega), show wrap64 ((i : Int) + 1) = ((i + 1 : Nat) : Int) from wrap_nat2 i 1 (by omega)]
    rw [List.drop_eq_getElem_cons hi]
    by_cases hx : l[i] = n
    · simp only [if_pos hx]
      cases g with
      | true =>
        simp only [if_true]
        refine ev_eq (ih (i + 1) (out ++ [l[i]]) true (by omega) (by simp; omega)) ?_
        simp only [if_true, List.append_assoc, List.singleton_append]
      | false =>
        simp only [Bool.false_eq_true, if_false]
        refine ev_eq (ih (i + 1) out true (by omega) (by omega)) ?_
        rw [hx, List.erase_cons_head]
        simp only [if_true]
    · simp only [if_neg hx]
      refine ev_eq (ih (i + 1) (out ++ [l[i]]) g (by omega) (by simp; omega)) ?_
      cases g with
      | true => simp only [if_true, List.append_assoc, List.singleton_append]
      | false =>
        rw [List.erase_cons_tail (by simpa using hx)]
        simp only [Bool.false_eq_true, if_false, List.append_assoc, List.singleton_append]
theorem spec_BagPut_l0 (l t : List Int) (n : Int) (hl : l.length ≤ 1000000) (ht : t.length ≤ 1048576) (h0 : 0 ≤ n) (h9 : n ≤ 9) : ∀ (d i : Nat), i + d = t.length →
    Ev (fun k => spec_BagPut.l0 k l n t t false (i : Int)) (if (t.drop i).all (fun x => decide (0 ≤ x ∧ x ≤ n - 1)) = true then (if (t ++ l.erase n).length > 16 then ([], false) else (bagOf (t ++ l.erase n), true)) else ([], false)) := by
  intro d
  induction d with
  | zero =>
    intro i h
    refine ev_s ?_
    simp only [spec_BagPut.l0, if_neg (show ¬ ((i : Int) < (t.length : Int)) by omega)]
    rw [List.drop_of_length_le (by omega)]
    simp only [List.all_nil, if_true]
    refine ev_eq (spec_BagPut_l1 l n hl l.length 0 t false (by omega) (by omega)) ?_
    simp only [Bool.false_eq_true, if_false, List.drop_zero]
  | succ d ih =>
    intro i h
    have hi : i < t.length := by omega
    refine ev_s ?_
    simp only [spec_BagPut.l0, l1In_eq, Option.bind_some, if_pos (show (i : Int) < (t.length : Int) by omega), if_pos (show (0 : Int) ≤ (i : Int) by omega), rd_get hi, show wrap64 ((i : Int) + 1) = ((i + 1 : Nat) : Int) from wrap_nat2 i 1 (by omega), show wrap64 (n - 1) = n - 1 from wrap_in (by omega) (by omega)]
    rw [List.drop_eq_getElem_cons hi, List.all_cons]
    by_cases hc : 0 ≤ t[i] ∧ t[i] ≤ n - 1
    · simp only [decide_eq_true hc, Bool.true_and, if_true]
      exact ih (i + 1) (by omega)
    · simp only [decide_eq_false hc, Bool.false_and, Bool.false_eq_true, if_false]
      exact Ev.now _
theorem spec_BagPut_ev (l t : List Int) (n : Int) (hl : l.length ≤ 1048576) (ht : t.length ≤ 1048576) : Ev (fun k => spec_BagPut.f k l n t) (bagPut l n t) := by
  simp only [spec_BagPut.f]
  refine Ev.bind (spec_BagValid_ev l (by omega)) ?_
  unfold bagPut
  cases h1 : bagOk l with
  | false =>
    simp only [Bool.false_eq_true, if_false, false_and]
    refine ev_s ?_
    simp only [spec_BagPut.j0, if_true]; exact Ev.now _
  | true =>
    have hall := bagOk_all h1
    simp only [if_true, true_and]
    refine Ev.bind (l6Many_ev l n (by omega)) ?_
    by_cases hc : l.count n = 0
    · have e : (((l.count n : Nat) : Int) == 0) = true := by simp [hc]
      simp only [e, if_neg (show ¬ (l.count n ≠ 0) by simp [hc])]
      refine ev_s ?_
      simp only [spec_BagPut.j0, if_true]; exact Ev.now _
    · have e : (((l.count n : Nat) : Int) == 0) = false := by
        have : ((l.count n : Nat) : Int) ≠ 0 := by omega
        simpa using this
      have hm : n ∈ l := List.count_pos_iff.1 (by omega)
      have hn := hall.1 n hm
      simp only [e, if_pos hc]
      refine ev_s ?_
      simp only [spec_BagPut.j0, Bool.false_eq_true, if_false, Option.bind_some, List.nil_append, List.length_nil, if_pos (show 0 + t.length < 17592186044416 by omega)]
      exact spec_BagPut_l0 l t n (by omega) ht (by omega) (by omega) t.length 0 (by omega)
theorem bagPut_length (l t : List Int) (n : Int) : (bagPut l n t).1.length ≤ 160 := by
  unfold bagPut
  split
  · split
    · split
      · simp
      · exact bagOf_length _
    · simp
  · simp

-- part: bagRev
/-! ### the other way round -/
theorem rev_done (l x : List Int) (i : Nat) (hx : x.length = l.length) (hi : l.length ≤ 2 * i + 1) (hp : ∀ p : Nat, p < l.length → x[p]? = if p < i ∨ l.length ≤ p + i then l[l.length - 1 - p]? else l[p]?) : x = l.reverse := by
  refine List.ext_getElem? fun p => ?_
  by_cases h : p < l.length
  · rw [hp p h, List.getElem?_reverse h]
    split
    · rfl
    · rename_i hn
      have : l.length - 1 - p = p := by omega
      rw [this]
  · rw [List.getElem?_eq_none (by omega), List.getElem?_eq_none (by simp; omega)]
theorem rev_l0 (l : List Int) (hb : l.length ≤ 140737488351232) : ∀ (d i : Nat) (x : List Int), x.length = l.length → l.length ≤ 2 * i + d → 2 * i ≤ l.length + 1 → (∀ p : Nat, p < l.length → x[p]? = if p < i ∨ l.length ≤ p + i then l[l.length - 1 - p]? else l[p]?) → Ev (fun k => slices_Reverse_int_int.l0 k x (i : Int) ((l.length : Int) - 1 - (i : Int))) l.reverse := by
  intro d
  induction d with
  | zero =>
    intro i x hx hd hi hp
    refine ev_s ?_
    simp only [slices_Reverse_int_int.l0, if_neg (show ¬ ((i : Int) < (l.length : Int) - 1 - (i : Int)) by omega)]
    exact ev_now (rev_done l x i hx (by omega) hp)
  | succ d ih =>
    intro i x hx hd hi hp
    refine ev_s ?_
    by_cases hc : (i : Int) < (l.length : Int) - 1 - (i : Int)
    · have e1 : (l.length : Int) - 1 - (i : Int) = ((l.length - 1 - i : Nat) : Int) := by omega
      have e2 : wrap64 (((l.length - 1 - i : Nat) : Int) - 1) = (l.length : Int) - 1 - ((i + 1 : Nat) : Int) := by rw [wrap_in (by omega) (by omega)]; omega
      have e3 : wrap64 ((i : Int) + 1) = ((i + 1 : Nat) : Int) := wrap_nat2 i 1 (by omega)
      rw [e1] at hc ⊢
      simp only [slices_Reverse_int_int.l0, if_pos hc, if_pos (show (0 : Int) ≤ ((l.length - 1 - i : Nat) : Int) by omega), if_pos (show ((l.length - 1 - i : Nat) : Int) < (x.length : Int) by omega), if_pos (show (0 : Int) ≤ (i : Int) by omega), if_pos (show (i : Int) < (x.length : Int) by omega), e2, e3, Int.toNat_natCast]
      clear e2 e3
      have hri : x[i]? = some (rd x (i : Int)) := by rw [rd_get (by omega), List.getElem?_eq_getElem (by omega)]
      have hrj : x[l.length - 1 - i]? = some (rd x ((l.length - 1 - i : Nat) : Int)) := by rw [rd_get (by omega), List.getElem?_eq_getElem (by omega)]
      have pi := hp i (by omega)
      have pj := hp (l.length - 1 - i) (by omega)
      rw [if_neg (by omega)] at pi pj
      refine ih (i + 1) _ (by simp [hx]) (by omega) (by omega) fun p hpl => ?_
      rw [List.getElem?_set, List.getElem?_set]
      simp only [List.length_set]
      by_cases h1 : l.length - 1 - i = p
      · rw [if_pos h1, if_pos (by omega), if_pos (by omega), ← hri, pi]
        congr 1; omega
      · rw [if_neg h1]
        by_cases h2 : i = p
        · rw [if_pos h2, if_pos (by omega), if_pos (by omega), ← hrj, pj]
          congr 1; omega
        · rw [if_neg h2, hp p hpl]
          by_cases h3 : p < i ∨ l.length ≤ p + i
          · rw [if_pos h3, if_pos (by omega)]
          · rw [if_neg h3, if_neg (by omega)]
    · simp only [slices_Reverse_int_int.l0, if_neg hc]
      exact ev_now (rev_done l x i hx (by omega) hp)
theorem rev_ev (l : List Int) (hb : l.length ≤ 140737488351232) : Ev (fun k => slices_Reverse_int_int.f k l) l.reverse := by
  simp only [slices_Reverse_int_int.f, show wrap64 ((l.length : Int) - 1) = (l.length : Int) - 1 - ((0 : Nat) : Int) by rw [wrap_in (by omega) (by omega)]; omega]
  refine rev_l0 l hb l.length 0 l rfl (by omega) (by omega) fun p hp => ?_
  rw [if_neg (by omega)]

-- part: bagSort
/-! ### multisets out of lists -/
def Desc (l : List Int) : Prop := l.Pairwise (fun a b => b ≤ a)
theorem bagOk_of {l : List Int} (h1 : ∀ x ∈ l, 0 ≤ x ∧ x < 10) (h2 : l.length ≤ 16) (h3 : Desc l) : bagOk l = true := by
  simp only [bagOk, Bool.and_eq_true, allB_iff, decide_eq_true_eq, bagAt]
  refine ⟨fun m _ hm => ?_, h2⟩
  have hm' : m < l.length := by omega
  have h4 := h1 l[m] (List.getElem_mem hm')
  rw [rd_get hm']
  refine ⟨h4.1, by omega, fun h0 => ?_⟩
  rw [rd_get (show m - 1 < l.length by omega)]
  exact List.pairwise_iff_getElem.1 h3 (m - 1) m (by omega) hm' (by omega)
theorem bagFrom_mem (l : List Int) : ∀ n : Nat, ∀ x ∈ bagFrom l n, 0 ≤ x ∧ x < (n : Int)
  | 0, x, h => by simp [bagFrom] at h
  | n + 1, x, h => by
    rw [bagFrom, List.mem_append] at h
    rcases h with h | h
    · have := (List.mem_replicate.1 h).2; omega
    · have := bagFrom_mem l n x h; omega
theorem bagFrom_desc (l : List Int) : ∀ n : Nat, Desc (bagFrom l n)
  | 0 => List.Pairwise.nil
  | n + 1 => by
    rw [Desc, bagFrom, List.pairwise_append]
    refine ⟨List.pairwise_replicate.2 (.inr (Int.le_refl _)), bagFrom_desc l n, fun a ha b hb => ?_⟩
    have h1 := (List.mem_replicate.1 ha).2
    have h2 := bagFrom_mem l n b hb
    omega
theorem bagFrom_count (l : List Int) (x : Int) : ∀ n : Nat, (bagFrom l n).count x = if 0 ≤ x ∧ x < (n : Int) then l.count x else 0
  | 0 => by rw [if_neg (by omega)]; rfl
  | n + 1 => by
    rw [bagFrom, List.count_append, bagFrom_count l x n, List.count_replicate]
    by_cases h : x = (n : Int)
    · rw [if_pos (by simp [h]), if_neg (by omega), if_pos (by omega), h]; rfl
    · rw [if_neg (by simp; omega)]
      by_cases h2 : 0 ≤ x ∧ x < (n : Int)
      · rw [if_pos h2, if_pos (by omega), Nat.zero_add]
      · rw [if_neg h2, if_neg (by omega)]
theorem inAll_iff (l : List Int) : inAll l = true ↔ ∀ x ∈ l, 0 ≤ x ∧ x < 10 := by
  simp only [inAll, List.all_eq_true, decide_eq_true_eq]
  exact ⟨fun h x hx => by have := h x hx; omega, fun h x hx => by have := h x hx; omega⟩
theorem bagFrom_perm {l : List Int} (h : inAll l = true) : (bagFrom l 10).Perm l := by
  rw [List.perm_iff_count]
  intro x
  rw [bagFrom_count]
  split
  · rfl
  · rename_i hn
    refine Eq.symm (List.count_eq_zero.2 fun hx => hn ?_)
    have := (inAll_iff l).1 h x hx
    omega
theorem bagOf_ok (l : List Int) : bagOk (bagOf l) = true := by
  unfold bagOf
  split
  · rename_i h
    have hp := bagFrom_perm h.1
    exact bagOk_of (fun x hx => bagFrom_mem l 10 x hx) (by rw [hp.length_eq]; exact h.2) (bagFrom_desc l 10)
  · decide
theorem bagOf_self {l : List Int} (h : bagOk l = true) : bagOf l = l := by
  have ha := bagOk_all h
  have hi : inAll l = true := (inAll_iff l).2 ha.1
  have hok := bagOf_ok l
  have e : bagOf l = bagFrom l 10 := by unfold bagOf; rw [if_pos ⟨hi, ha.2⟩]
  refine bag_ext _ _ hok h fun n => ?_
  have := (bagFrom_perm hi).count_eq n
  rw [e]
  exact congrArg (fun m : Nat => (m : Int)) this
theorem inAll_perm {a b : List Int} (h : a.Perm b) : inAll a = inAll b := by
  rw [Bool.eq_iff_iff, inAll_iff, inAll_iff]
  exact ⟨fun g x hx => g x (h.mem_iff.2 hx), fun g x hx => g x (h.mem_iff.1 hx)⟩
theorem bagFrom_same {a b : List Int} (h : a.Perm b) : ∀ n, bagFrom a n = bagFrom b n
  | 0 => rfl
  | n + 1 => by rw [bagFrom, bagFrom, bagFrom_same h n, h.count_eq]
theorem bagOf_perm {a b : List Int} (h : a.Perm b) : bagOf a = bagOf b := by
  unfold bagOf
  rw [inAll_perm h, h.length_eq, bagFrom_same h]
def srt (l : List Int) : List Int := (l.mergeSort fun x y => decide (x ≤ y)).reverse
theorem srt_perm (l : List Int) : (srt l).Perm l := (List.reverse_perm _).trans (List.mergeSort_perm l _)
theorem srt_desc (l : List Int) : Desc (srt l) := by
  have h := List.pairwise_mergeSort (le := fun x y : Int => decide (x ≤ y)) (by simp; omega) (by simp; omega) l
  rw [Desc, srt, List.pairwise_reverse]
  exact h.imp (fun g => by simpa using g)
theorem srt_bag (l : List Int) : (if bagOk (srt l) = true then srt l else []) = bagOf l := by
  by_cases h : bagOk (srt l) = true
  · rw [if_pos h, ← bagOf_perm (srt_perm l), bagOf_self h]
  · rw [if_neg h]
    unfold bagOf
    rw [if_neg]
    rintro ⟨h1, h2⟩
    refine h (bagOk_of (fun x hx => ?_) (by rw [(srt_perm l).length_eq]; exact h2) (srt_desc l))
    exact (inAll_iff l).1 h1 x ((srt_perm l).mem_iff.1 hx)
theorem impl_BagOf_ev (l : List Int) (hl : l.length ≤ 17592186044415) : Ev (fun k => impl_BagOf.f k l) (bagOf l) := by
  have hlen : (l.mergeSort fun x y => decide (x ≤ y)).length = l.length := List.length_mergeSort l
  have hlen2 := (srt_perm l).length_eq
  simp only [impl_BagOf.f, slices_Clone_int_int.f, slices_Sort_int_int.f, if_pos (show l.length < 17592186044416 by omega), if_pos (show l.length < 4611686018427387904 by omega), Option.bind_some]
  refine Ev.bind (rev_ev _ (by omega)) ?_
  refine Ev.bind (impl_BagValid_ev (srt l) (by omega)) ?_
  rw [← srt_bag l]
  cases h : bagOk (srt l) with
  | true => simp only [if_true]; exact Ev.now _
  | false => simp only [Bool.false_eq_true, if_false]; exact Ev.now _

-- part: bagPut
/-! ### the program puts in -/
def idx (l : List Int) (n : Int) : Int := if n ∈ l then ((l.idxOf n : Nat) : Int) else -1
theorem idxOf_tail {x n : Int} (r : List Int) (h : x ≠ n) : (x :: r).idxOf n = r.idxOf n + 1 := by
  rw [List.idxOf_cons, (beq_eq_false_iff_ne (a := x) (b := n)).2 h]; rfl
theorem idxOf_first (n : Int) : ∀ (l : List Int) (i : Nat), l[i]? = some n → (∀ p, p < i → l[p]? ≠ some n) → l.idxOf n = i
  | [], i, h, _ => by simp at h
  | x :: r, 0, h, _ => by
    have hx : x = n := by simpa using h
    rw [hx, List.idxOf_cons_self]
  | x :: r, i + 1, h, hp => by
    have hx : x ≠ n := fun e => hp 0 (by omega) (by simp [e])
    rw [idxOf_tail r hx, idxOf_first n r i (by simpa using h) (fun p hpi => by have := hp (p + 1) (by omega); simpa using this)]
theorem Index_l0 (l : List Int) (n : Int) (hb : l.length ≤ 140737488351232) : ∀ (d i : Nat), i + d = l.length → (∀ p, p < i → l[p]? ≠ some n) → Ev (fun k => slices_Index_int_int.l0 k l n (l.length : Int) (i : Int)) (idx l n) := by
  intro d
  induction d with
  | zero =>
    intro i h hp
    refine ev_s ?_
    simp only [slices_Index_int_int.l0, if_neg (show ¬ ((i : Int) < (l.length : Int)) by omega)]
    refine ev_now ?_
    unfold idx
    rw [if_neg]
    intro hm
    obtain ⟨p, hpl, he⟩ := List.mem_iff_getElem.1 hm
    exact hp p (by omega) (by rw [List.getElem?_eq_getElem hpl, he])
  | succ d ih =>
    intro i h hp
    have hi : i < l.length := by omega
    refine ev_s ?_
    simp only [slices_Index_int_int.l0, if_pos (show (i : Int) < (l.length : Int) by omega), if_pos (show (0 : Int) ≤ (i : Int) by omega), rd_get hi, show wrap64 ((i : Int) + 1) = ((i + 1 : Nat) : Int) from wrap_nat2 i 1 (by omega)]
    by_cases he : n = l[i]
    · simp only [if_pos he]
      refine ev_now ?_
      have hm : n ∈ l := he ▸ List.getElem_mem hi
      unfold idx
      rw [if_pos hm]
      rw [idxOf_first n l i (by rw [List.getElem?_eq_getElem hi, he]) hp]
    · simp only [if_neg he]
      refine ih (i + 1) (by omega) fun p hpi => ?_
      by_cases e : p = i
      · subst e
        rw [List.getElem?_eq_getElem hi]
        intro hc; exact he (Option.some.inj hc).symm
      · exact hp p (by omega)
theorem Index_ev (l : List Int) (n : Int) (hb : l.length ≤ 140737488351232) : Ev (fun k => slices_Index_int_int.f k l n) (idx l n) := by
  simp only [slices_Index_int_int.f]
  exact Index_l0 l n hb l.length 0 (by omega) (fun p hp => by omega)
theorem erase_idx (l : List Int) (n : Int) (h : n ∈ l) : l.erase n = l.take (l.idxOf n) ++ l.drop (l.idxOf n + 1) := by
  rw [← List.eraseIdx_eq_take_drop_succ]
  induction l with
  | nil => simp at h
  | cons x r ih =>
    by_cases e : x = n
    · subst e
      rw [List.erase_cons_head, List.idxOf_cons_self, List.eraseIdx_cons_zero]
    · rw [List.erase_cons_tail (by simpa using e), idxOf_tail r e, List.eraseIdx_cons_succ]
      rcases List.mem_cons.1 h with h | h
      · exact absurd h.symm e
      · rw [ih h]
theorem impl_BagPut_l0 (l t : List Int) (n : Int) (hl : l.length ≤ 1048576) (ht : t.length ≤ 1048576) (hm : n ∈ l) (hin : ∀ x ∈ l, 0 ≤ x ∧ x < 10) : ∀ (d i : Nat), i + d = t.length →
    Ev (fun k => impl_BagPut.l0 k l n t (idx l n) t (t.length : Int) (i : Int)) (if (t.drop i).all (fun x => decide (0 ≤ x ∧ x ≤ n - 1)) = true then (if (t ++ l.erase n).length > 16 then ([], false) else (bagOf (t ++ l.erase n), true)) else ([], false)) := by
  have hlt := List.idxOf_lt_length_iff.2 hm
  have hidx : idx l n = ((l.idxOf n : Nat) : Int) := by unfold idx; rw [if_pos hm]
  intro d
  induction d with
  | zero =>
    intro i h
    refine ev_s ?_
    rw [List.drop_of_length_le (by omega)]
    simp only [impl_BagPut.l0, if_neg (show ¬ ((i : Int) < (t.length : Int)) by omega), List.all_nil, if_true, hidx, slices_Clone_int_int.f, if_pos (show l.length < 17592186044416 by omega), Option.bind_some, show wrap64 (((l.idxOf n : Nat) : Int) + 1) = ((l.idxOf n + 1 : Nat) : Int) from wrap_nat2 _ 1 (by omega), slices_Delete_int_int.f]
    rw [if_pos ⟨by omega, by omega, by omega⟩]
    simp only [Option.bind_some, Int.toNat_natCast]
    rw [← erase_idx l n hm]
    have hel : (l.erase n).length = l.length - 1 := List.length_erase_of_mem hm
    have hsw : (l.erase n ++ t).Perm (t ++ l.erase n) := List.perm_append_comm
    have hll := hsw.length_eq
    rw [List.length_append] at hll
    simp only [if_pos (show (l.erase n).length + t.length < 17592186044416 by omega), Option.bind_some]
    by_cases h16 : (t ++ l.erase n).length > 16
    · rw [if_pos h16]
      simp only [if_pos (show ((l.erase n ++ t).length : Int) > 16 by rw [hsw.length_eq]; omega)]
      exact Ev.now _
    · rw [if_neg h16]
      simp only [if_neg (show ¬ ((l.erase n ++ t).length : Int) > 16 by rw [hsw.length_eq]; omega)]
      refine Ev.bind (impl_BagOf_ev _ (by rw [hsw.length_eq]; omega)) ?_
      rw [bagOf_perm hsw]
      exact Ev.now _
  | succ d ih =>
    intro i h
    have hi : i < t.length := by omega
    refine ev_s ?_
    simp only [impl_BagPut.l0, if_pos (show (i : Int) < (t.length : Int) by omega), if_pos (show (0 : Int) ≤ (i : Int) by omega), rd_get hi, show wrap64 ((i : Int) + 1) = ((i + 1 : Nat) : Int) from wrap_nat2 i 1 (by omega)]
    rw [List.drop_eq_getElem_cons hi, List.all_cons]
    by_cases h0 : t[i] < 0
    · simp only [if_pos h0, decide_eq_false (show ¬ (0 ≤ t[i] ∧ t[i] ≤ n - 1) by omega), Bool.false_and, Bool.false_eq_true, if_false]
      exact Ev.now _
    · by_cases h1 : t[i] ≥ n
      · simp only [if_neg h0, if_pos h1, decide_eq_false (show ¬ (0 ≤ t[i] ∧ t[i] ≤ n - 1) by omega), Bool.false_and, Bool.false_eq_true, if_false]
        exact Ev.now _
      · simp only [if_neg h0, if_neg h1, decide_eq_true (show 0 ≤ t[i] ∧ t[i] ≤ n - 1 by omega), Bool.true_and]
        exact ih (i + 1) (by omega)
theorem impl_BagPut_ev (l t : List Int) (n : Int) (hl : l.length ≤ 1048576) (ht : t.length ≤ 1048576) : Ev (fun k => impl_BagPut.f k l n t) (bagPut l n t) := by
  have bad : ∀ x, Ev (fun k => impl_BagPut.j0 k l n t x true) (([] : List Int), false) := fun x => by
    refine ev_s ?_
    simp only [impl_BagPut.j0, if_true]; exact Ev.now _
  simp only [impl_BagPut.f]
  refine Ev.bind (Index_ev l n (by omega)) ?_
  refine Ev.bind (impl_BagValid_ev l (by omega)) ?_
  unfold bagPut
  cases h1 : bagOk l with
  | false =>
    simp only [Bool.false_eq_true, if_false, false_and]
    exact bad _
  | true =>
    have hall := bagOk_all h1
    simp only [if_true, true_and]
    by_cases hm : n ∈ l
    · have hc : l.count n ≠ 0 := fun h => (List.count_eq_zero.1 h) hm
      have hidx : idx l n = ((l.idxOf n : Nat) : Int) := by unfold idx; rw [if_pos hm]
      simp only [if_pos hc, if_neg (show ¬ (idx l n < 0) by rw [hidx]; omega)]
      by_cases h16 : (t.length : Int) > 16
      · simp only [decide_eq_true h16]
        have e : (if putAll t n = true then (if (t ++ l.erase n).length > 16 then (([] : List Int), false) else (bagOf (t ++ l.erase n), true)) else ([], false)) = ([], false) := by
          rw [if_pos (show (t ++ l.erase n).length > 16 by rw [List.length_append]; omega)]
          split <;> rfl
        rw [e]
        exact bad _
      · simp only [decide_eq_false h16]
        refine ev_s ?_
        simp only [impl_BagPut.j0, Bool.false_eq_true, if_false]
        exact impl_BagPut_l0 l t n hl ht hm hall.1 t.length 0 (by omega)
    · have hc : l.count n = 0 := List.count_eq_zero.2 hm
      simp only [if_neg (show ¬ (l.count n ≠ 0) by simp [hc]), if_pos (show idx l n < 0 by unfold idx; rw [if_neg hm]; decide)]
      exact bad _

-- part: law_FnExactBagPut
theorem FnExactBagPut : laws_FnExactBagPut.Pure := by
  intro l0 a1 l2 _ hl _ _ _ hl2 _
  refine Ev.rounds ?_
  simp only [laws_FnExactBagPut.f]
  by_cases hb : (l0.length : Int) > 1048576
  · simp only [if_pos hb]; exact Ev.now _
  · simp only [if_neg hb]
    by_cases hb2 : (l2.length : Int) > 1048576
    · simp only [if_pos hb2]; exact Ev.now _
    · simp only [if_neg hb2]
      have ht := toIntS_ev l0 (by omega)
      have ht2 := toIntS_ev l2 (by omega)
      have hlen := bagPut_length l0 l2 a1
      have heq : Ev (fun k => laws_eqIntS.f k (bagPut l0 a1 l2).1 (bagPut l0 a1 l2).1) true := ev_eq (eqIntS_ev _ _ (by omega)) (by simp)
      have hheld := heldIntS_ev 1 (bagPut l0 a1 l2).1.length (by omega)
      refine Ev.bind ht ?_
      refine Ev.bind ht2 ?_
      refine Ev.bind (spec_BagPut_ev l0 l2 a1 (by omega) (by omega)) ?_
      refine Ev.bind ht ?_
      refine Ev.bind ht2 ?_
      refine Ev.bind (impl_BagPut_ev l0 l2 a1 (by omega) (by omega)) ?_
      refine Ev.bind heq ?_
      simp only [if_true, bne_self_eq_false]
      refine ev_s ?_
      simp only [laws_FnExactBagPut.j0, Bool.false_eq_true, if_false]
      refine Ev.bind ht ?_
      refine Ev.bind (eqIntS_ev l0 l0 (by omega)) ?_
      simp only [decide_true, if_true]
      refine Ev.bind ht2 ?_
      refine Ev.bind (eqIntS_ev l2 l2 (by omega)) ?_
      simp only [decide_true, if_true]
      refine Ev.bind (markIntS_ev l0 1 (by omega)) ?_
      refine Ev.bind (markIntS_ev l2 (1 + l0.length) (by omega)) ?_
      simp only [if_neg (show ¬ (((1 + l0.length + l2.length : Nat) : Int) < 0) by omega)]
      refine Ev.bind heq ?_
      simp only [if_true, bne_self_eq_false]
      refine ev_s ?_
      simp only [laws_FnExactBagPut.j1, Bool.false_eq_true, if_false]
      refine Ev.bind (markIntS_ev (bagPut l0 a1 l2).1 1 (by omega)) ?_
      refine Ev.bind hheld ?_
      simp only [if_neg (show ¬ (((1 + (bagPut l0 a1 l2).1.length : Nat) : Int) < 0) by omega), if_true]
      refine Ev.bind ht ?_
      refine Ev.bind ht2 ?_
      refine Ev.bind (impl_BagPut_ev l0 l2 a1 (by omega) (by omega)) ?_
      refine Ev.bind heq ?_
      simp only [if_true, bne_self_eq_false]
      refine ev_s ?_
      simp only [laws_FnExactBagPut.j2, Bool.false_eq_true, if_false]
      refine Ev.bind hheld ?_
      simp only [if_neg (show ¬ (((1 + (bagPut l0 a1 l2).1.length : Nat) : Int) < 0) by omega), if_true]
      exact Ev.now _

end Go.Proofs.Ytmgpdneehdnjlaa.Pure

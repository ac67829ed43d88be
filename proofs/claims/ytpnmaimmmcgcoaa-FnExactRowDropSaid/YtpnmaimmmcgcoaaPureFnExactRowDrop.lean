/- The law FnExactRowDrop returns true for every input that the statement lets in; no condition of our own. -/
import Derived.Test.YtpnmaimmmcgcoaaQx4
namespace Go.Proofs.Ytpnmaimmmcgcoaa.Pure
open Go.RowKit Go.Proofs.Ytpnmaimmmcgcoaa.Q Go.Proofs.YtpnmaimmmcgcoaaW.PrintWords Go.Proofs.YtpnmaimmmcgcoaaW.PrintLast
set_option linter.unusedVariables false
set_option linter.unusedSimpArgs false

-- part: base
/-! ### words of mine -/
theorem ev_s {α : Type} {g : Nat → Option α} {r : α} (h : Ev (fun k => g (k + 1)) r) : Ev g r := Ev.step (fun _ => rfl) h
theorem ev_eq {α : Type} {g : Nat → Option α} {r q : α} (h : Ev g r) (e : r = q) : Ev g q := e ▸ h
theorem ev_now {α : Type} {r q : α} (e : r = q) : Ev (fun _ => some r) q := e ▸ Ev.now r
theorem wrap_in {x : Int} (h0 : -9223372036854775808 ≤ x) (h1 : x ≤ 9223372036854775807) : wrap64 x = x := by unfold wrap64; omega
theorem rd_eq (xs : List Int) (i : Nat) : rd xs (i : Int) = xs.getD i 0 := by simp [rd]
theorem rd_get {xs : List Int} {i : Nat} (h : i < xs.length) : rd xs (i : Int) = xs[i] := by simp [rd, h]
theorem wrap_nat2 (a b : Nat) (h : a + b < 4611686018427387904) : wrap64 ((a : Int) + (b : Int)) = ((a + b : Nat) : Int) := by rw [wrap_in (by omega) (by omega)]; omega
theorem ev_const {α : Type} {x : Option α} {a : α} (h : x = some a) : Ev (fun _ => x) a := by subst h; exact Ev.now a

-- part: toIntS
theorem toIntS_l0 (l : List Int) (hl : l.length ≤ 35184372088832) : ∀ (d i : Nat) (x : List Int), i + d = l.length → x.length = l.length → x.take i = l.take i → Ev (fun k => laws_toIntS.l0 k l x i) l := by
  intro d
  induction d with
  | zero =>
    intro i x h hx ht
    refine ev_s ?_
    simp only [laws_toIntS.l0]
    rw [show i = l.length by omega] at ht ⊢
    simp only [if_neg (show ¬ ((l.length : Int) < (l.length : Int)) by omega)]
    rw [List.take_of_length_le (by omega), List.take_length] at ht
    rw [ht]; exact Ev.now _
  | succ d ih =>
    intro i x h hx ht
    refine ev_s ?_
    simp only [laws_toIntS.l0]
    simp only [if_pos (show (i : Int) < (l.length : Int) by omega), if_pos (show (0 : Int) ≤ (i : Int) by omega), if_pos (show (i : Int) < (x.length : Int) by omega), show wrap64 ((i : Int) + 1) = ((i + 1 : Nat) : Int) by rw [wrap_in (by omega) (by omega)]; rfl, Int.toNat_natCast]
    refine ih (i + 1) _ (by omega) (by simpa using hx) ?_
    rw [rd_get (show i < l.length by omega)]
    apply List.ext_getElem?
    intro j
    have := congrArg (fun z => z[j]?) ht
    simp only [List.getElem?_take] at this ⊢
    by_cases hj : j < i
    · rw [if_pos hj, if_pos hj] at this
      rw [if_pos (by omega), if_pos (by omega), List.getElem?_set_ne (by omega)]; exact this
    · by_cases hji : j = i
      · subst hji
        rw [if_pos (by omega), if_pos (by omega), List.getElem?_set_self (by omega), List.getElem?_eq_getElem (by omega)]
      · rw [if_neg (by omega), if_neg (by omega)]
theorem toIntS_ev (l : List Int) (hl : l.length ≤ 35184372088832) : Ev (fun k => laws_toIntS.f k l) l := by
  simp only [laws_toIntS.f, Int.toNat_natCast, if_pos (show (0 : Int) ≤ (l.length : Int) by omega), if_pos hl]
  exact toIntS_l0 l hl l.length 0 _ (by omega) (by simp) (by simp)

-- part: eqLoop
theorem eqIntS_l0 (F : Nat → List Int → List Int → Int → Option Bool)
    (h0 : ∀ k a b i, F (k + 1) a b i = if i < (a.length : Int) then (if 0 ≤ i then (if i < (b.length : Int) then (if (rd a i) = (rd b i) then (F k a b (wrap64 (i + 1))) else (some false)) else none) else none) else some true)
    (a b : List Int) (hl : a.length = b.length) (hb : a.length ≤ 140737488351232) : ∀ (d i : Nat), i + d = a.length → a.take i = b.take i → Ev (fun k => F k a b i) (decide (a = b)) := by
  intro d
  induction d with
  | zero =>
    intro i h ht
    refine ev_s ?_
    simp only [h0]
    simp only [if_neg (show ¬ ((i : Int) < (a.length : Int)) by omega)]
    rw [List.take_of_length_le (by omega), List.take_of_length_le (by omega)] at ht
    simp only [ht, decide_true]; exact Ev.now _
  | succ d ih =>
    intro i h ht
    refine ev_s ?_
    simp only [h0]
    simp only [if_pos (show (i : Int) < (a.length : Int) by omega), if_pos (show (0 : Int) ≤ (i : Int) by omega), if_pos (show (i : Int) < (b.length : Int) by omega), show wrap64 ((i : Int) + 1) = ((i + 1 : Nat) : Int) by rw [wrap_in (by omega) (by omega)]; rfl]
    rw [rd_get (show i < a.length by omega), rd_get (show i < b.length by omega)]
    by_cases he : a[i] = b[i]
    · simp only [if_pos he]
      refine ih (i + 1) (by omega) ?_
      rw [List.take_succ_eq_append_getElem (by omega), List.take_succ_eq_append_getElem (by omega), ht, he]
    · simp only [if_neg he]
      refine ev_now (Eq.symm (decide_eq_false (fun hab => he ?_)))
      subst hab; rfl

-- part: eqIntS
theorem eqIntS_ev (a b : List Int) (hb : a.length ≤ 140737488351232) : Ev (fun k => laws_eqIntS.f k a b) (decide (a = b)) := by
  simp only [laws_eqIntS.f]
  by_cases hl : a.length = b.length
  · simp only [if_pos (show (a.length : Int) = (b.length : Int) by omega)]
    exact eqIntS_l0 laws_eqIntS.l0 (fun _ _ _ _ => rfl) a b hl hb a.length 0 (by omega) (by simp)
  · simp only [if_neg (show ¬ ((a.length : Int) = (b.length : Int)) by omega)]
    exact ev_now (Eq.symm (decide_eq_false (fun hab => hl (by rw [hab]))))

-- part: mark
/-! ### marks -/
def marksOf (a n : Nat) : List Int := (List.range n).map (fun i => ((a + i : Nat) : Int))
theorem marksOf_length (a n : Nat) : (marksOf a n).length = n := by simp [marksOf]
theorem markIntS_l0 (a : Nat) (n : Nat) (hn : a + n ≤ 1000000000000000) : ∀ (d i : Nat) (x : List Int), i + d = n → x.length = n → x.take i = marksOf a i → Ev (fun k => laws_markIntS.l0 k x ((a + i : Nat) : Int) (i : Int)) (((a + n : Nat) : Int), marksOf a n) := by
  intro d
  induction d with
  | zero =>
    intro i x h hx ht
    refine ev_s ?_
    simp only [laws_markIntS.l0, if_neg (show ¬ ((i : Int) < (x.length : Int)) by omega)]
    rw [List.take_of_length_le (by omega)] at ht
    obtain rfl : i = n := by omega
    rw [← ht]; exact Ev.now _
  | succ d ih =>
    intro i x h hx ht
    refine ev_s ?_
    simp only [laws_markIntS.l0, if_pos (show (i : Int) < (x.length : Int) by omega), if_pos (show (0 : Int) ≤ (i : Int) by omega), Int.toNat_natCast, show wrap64 ((i : Int) + 1) = ((i + 1 : Nat) : Int) by rw [wrap_in (by omega) (by omega)]; rfl, show wrap64 (((a + i : Nat) : Int) + 1) = ((a + (i + 1) : Nat) : Int) by rw [wrap_in (by omega) (by omega)]; omega]
    refine ih (i + 1) _ (by omega) (by simpa using hx) ?_
    have e : marksOf a (i + 1) = marksOf a i ++ [((a + i : Nat) : Int)] := by simp [marksOf, List.range_succ]
    rw [e, ← ht, List.take_succ_eq_append_getElem (by simp; omega), List.getElem_set_self]
    congr 1
    rw [List.take_set_of_le (by omega)]
theorem markIntS_ev (l : List Int) (a : Nat) (hn : a + l.length ≤ 1000000000000000) : Ev (fun k => laws_markIntS.f k l (a : Int)) (((a + l.length : Nat) : Int), marksOf a l.length) :=
  markIntS_l0 a l.length hn l.length 0 l (by omega) rfl (by simp [marksOf])
theorem heldIntS_l0 (a n : Nat) (hn : a + n ≤ 1000000000000000) : ∀ (d i : Nat), i + d = n → Ev (fun k => laws_heldIntS.l0 k (marksOf a n) ((a + i : Nat) : Int) (i : Int)) ((a + n : Nat) : Int) := by
  intro d
  induction d with
  | zero =>
    intro i h
    refine ev_s ?_
    simp only [laws_heldIntS.l0, marksOf_length, if_neg (show ¬ ((i : Int) < (n : Int)) by omega)]
    exact ev_now (by rw [show i = n by omega])
  | succ d ih =>
    intro i h
    refine ev_s ?_
    have hr : rd (marksOf a n) (i : Int) = ((a + i : Nat) : Int) := by rw [rd_get (by rw [marksOf_length]; omega)]; simp [marksOf]
    simp only [laws_heldIntS.l0, marksOf_length, if_pos (show (i : Int) < (n : Int) by omega), if_pos (show (0 : Int) ≤ (i : Int) by omega), hr, if_true, show wrap64 ((i : Int) + 1) = ((i + 1 : Nat) : Int) by rw [wrap_in (by omega) (by omega)]; rfl, show wrap64 (((a + i : Nat) : Int) + 1) = ((a + (i + 1) : Nat) : Int) by rw [wrap_in (by omega) (by omega)]; omega]
    exact ih (i + 1) (by omega)
theorem heldIntS_ev (a n : Nat) (hn : a + n ≤ 1000000000000000) : Ev (fun k => laws_heldIntS.f k (marksOf a n) (a : Int)) ((a + n : Nat) : Int) :=
  heldIntS_l0 a n hn n 0 (by omega)

-- part: l1In
theorem l1In_eq (n lo hi : Int) : spec_l1In.f n lo hi = some (decide (lo ≤ n ∧ n ≤ hi)) := by
  unfold spec_l1In.f
  by_cases h : n ≥ lo
  · rw [if_pos h]; simp [show lo ≤ n from h]
  · rw [if_neg h]; simp [show ¬ lo ≤ n from h]

-- part: RowValid
/-- What both of them say. -/
def rowOk (l : List Int) : Bool := l.all (fun x => decide (0 ≤ x ∧ x ≤ 9999)) && decide (1 ≤ l.length ∧ l.length ≤ 5)
theorem rowOk_drop {l : List Int} {i : Nat} (h : i < l.length) : (l.drop i).all (fun x => decide (0 ≤ x ∧ x ≤ 9999)) = (decide (0 ≤ l[i] ∧ l[i] ≤ 9999) && (l.drop (i + 1)).all (fun x => decide (0 ≤ x ∧ x ≤ 9999))) := by
  rw [List.drop_eq_getElem_cons h]; rfl
theorem spec_RowValid_l0 (l : List Int) (hb : l.length ≤ 140737488351232) : ∀ (d i : Nat), i + d = l.length → Ev (fun k => spec_RowValid.l0 k l i) ((l.drop i).all (fun x => decide (0 ≤ x ∧ x ≤ 9999)) && decide (1 ≤ l.length ∧ l.length ≤ 5)) := by
  intro d
  induction d with
  | zero =>
    intro i h
    refine ev_s ?_
    simp only [spec_RowValid.l0, l1In_eq, Option.bind_some]
    simp only [if_neg (show ¬ ((i : Int) < (l.length : Int)) by omega)]
    rw [List.drop_of_length_le (by omega)]
    refine ev_now ?_
    simp only [List.all_nil, Bool.true_and]
    exact decide_eq_decide.mpr (by omega)
  | succ d ih =>
    intro i h
    refine ev_s ?_
    simp only [spec_RowValid.l0, l1In_eq, Option.bind_some]
    simp only [if_pos (show (i : Int) < (l.length : Int) by omega), if_pos (show (0 : Int) ≤ (i : Int) by omega), show wrap64 ((i : Int) + 1) = ((i + 1 : Nat) : Int) by rw [wrap_in (by omega) (by omega)]; rfl]
    rw [rd_get (show i < l.length by omega), rowOk_drop (by omega)]
    by_cases hc : 0 ≤ l[i] ∧ l[i] ≤ 9999
    · simp only [decide_eq_true hc, Bool.true_and, if_true]
      exact ih (i + 1) (by omega)
    · simp only [decide_eq_false hc, Bool.false_and, Bool.false_eq_true, if_false]
      exact Ev.now _
theorem spec_RowValid_ev (l : List Int) (hb : l.length ≤ 140737488351232) : Ev (fun k => spec_RowValid.f k l) (rowOk l) := spec_RowValid_l0 l hb l.length 0 (by omega)
theorem impl_RowValid_l0 (l : List Int) (hb : l.length ≤ 140737488351232) : ∀ (d i : Nat), i + d = l.length → Ev (fun k => impl_RowValid.l0 k l l (l.length : Int) i) ((l.drop i).all (fun x => decide (0 ≤ x ∧ x ≤ 9999)) && decide (1 ≤ l.length ∧ l.length ≤ 5)) := by
  intro d
  induction d with
  | zero =>
    intro i h
    refine ev_s ?_
    simp only [impl_RowValid.l0]
    simp only [if_neg (show ¬ ((i : Int) < (l.length : Int)) by omega)]
    rw [List.drop_of_length_le (by omega)]
    by_cases hc : (l.length : Int) ≥ 1
    · simp only [if_pos hc]
      refine ev_now ?_
      simp only [List.all_nil, Bool.true_and]
      exact decide_eq_decide.mpr (by omega)
    · simp only [if_neg hc]
      refine ev_now ?_
      simp only [List.all_nil, Bool.true_and]
      exact (decide_eq_false (by omega)).symm
  | succ d ih =>
    intro i h
    refine ev_s ?_
    simp only [impl_RowValid.l0]
    simp only [if_pos (show (i : Int) < (l.length : Int) by omega), if_pos (show (0 : Int) ≤ (i : Int) by omega), show wrap64 ((i : Int) + 1) = ((i + 1 : Nat) : Int) by rw [wrap_in (by omega) (by omega)]; rfl]
    rw [rd_get (show i < l.length by omega), rowOk_drop (by omega)]
    by_cases h1 : l[i] < 0
    · simp only [if_pos h1, decide_eq_false (show ¬ (0 ≤ l[i] ∧ l[i] ≤ 9999) by omega), Bool.false_and]
      exact Ev.now _
    · by_cases h2 : l[i] > 9999
      · simp only [if_neg h1, if_pos h2, decide_eq_false (show ¬ (0 ≤ l[i] ∧ l[i] ≤ 9999) by omega), Bool.false_and]
        exact Ev.now _
      · simp only [if_neg h1, if_neg h2, decide_eq_true (show (0 ≤ l[i] ∧ l[i] ≤ 9999) by omega), Bool.true_and]
        exact ih (i + 1) (by omega)
theorem impl_RowValid_ev (l : List Int) (hb : l.length ≤ 140737488351232) : Ev (fun k => impl_RowValid.f k l) (rowOk l) := impl_RowValid_l0 l hb l.length 0 (by omega)

-- part: RowDrop
def dropTo (l : List Int) (at_ : Nat) (list : List Int) : List Int := l.take at_ ++ (rd l (at_ : Int) - 1) :: list
def rowDropOk (l : List Int) (a : Int) (list : List Int) : Bool := rowOk l && decide (0 ≤ a ∧ a < (l.length : Int) ∧ rd l a ≠ 0 ∧ (list.length : Int) = (l.length : Int) - 1 - a) && rowOk (dropTo l a.toNat list)
def rowDrop (l : List Int) (a : Int) (list : List Int) : List Int := if rowDropOk l a list = true then dropTo l a.toNat list else []
theorem rowOk_rd {l : List Int} (h : rowOk l = true) {i : Nat} (hi : i < l.length) : 0 ≤ rd l (i : Int) ∧ rd l (i : Int) ≤ 9999 := by
  rw [rd_get hi]
  simp only [rowOk, Bool.and_eq_true, List.all_eq_true, decide_eq_true_eq] at h
  exact h.1 l[i] (List.getElem_mem hi)
theorem rowOk_len5 {l : List Int} (h : rowOk l = true) : 1 ≤ l.length ∧ l.length ≤ 5 := by simp [rowOk] at h; exact h.2
theorem dropTo_length {l : List Int} {a : Nat} (ha : a < l.length) (list : List Int) : (dropTo l a list).length = a + 1 + list.length := by
  simp [dropTo]; omega
theorem impl_RowDrop_ev (l : List Int) (a : Int) (list : List Int) (hl : l.length ≤ 140737488351232) (hs : list.length ≤ 1048576) : Ev (fun k => impl_RowDrop.f k l a list) (rowDrop l a list, rowDropOk l a list) := by
  have bad : ∀ b : Bool, b = true → rowDropOk l a list = false → Ev (fun k => impl_RowDrop.j0 k l a list b) (rowDrop l a list, rowDropOk l a list) := by
    intro b hb h0; subst hb
    refine ev_s ?_
    simp only [impl_RowDrop.j0, if_true]
    exact ev_now (by simp [rowDrop, h0])
  simp only [impl_RowDrop.f]
  refine Ev.bind (impl_RowValid_ev l hl) ?_
  cases h : rowOk l with
  | false =>
    simp only [Bool.false_eq_true, if_false]
    exact bad _ rfl (by simp [rowDropOk, h])
  | true =>
    have hl5 := rowOk_len5 h
    simp only [if_true]
    by_cases h1 : a < 0
    · simp only [if_pos h1]
      exact bad _ rfl (by simp only [rowDropOk, h, Bool.true_and, decide_eq_false (show ¬ (0 ≤ a ∧ a < (l.length : Int) ∧ rd l a ≠ 0 ∧ (list.length : Int) = (l.length : Int) - 1 - a) from fun hh => by omega), Bool.false_and])
    · by_cases h2 : a ≥ (l.length : Int)
      · simp only [if_neg h1, if_pos h2]
        exact bad _ rfl (by simp only [rowDropOk, h, Bool.true_and, decide_eq_false (show ¬ (0 ≤ a ∧ a < (l.length : Int) ∧ rd l a ≠ 0 ∧ (list.length : Int) = (l.length : Int) - 1 - a) from fun hh => by omega), Bool.false_and])
      · obtain ⟨n, rfl⟩ := Int.eq_ofNat_of_zero_le (show 0 ≤ a by omega)
        have hn : n < l.length := by omega
        have hr := rowOk_rd h hn
        simp only [if_neg h1, if_neg h2, if_pos (show (0 : Int) ≤ (n : Int) by omega), if_pos (show (n : Int) < (l.length : Int) by omega)]
        by_cases h3 : rd l (n : Int) = 0
        · simp only [if_pos h3]
          exact bad _ rfl (by simp only [rowDropOk, h, Bool.true_and, decide_eq_false (show ¬ (0 ≤ (n : Int) ∧ (n : Int) < (l.length : Int) ∧ rd l (n : Int) ≠ 0 ∧ (list.length : Int) = (l.length : Int) - 1 - (n : Int)) from fun hh => hh.2.2.1 h3), Bool.false_and])
        · have e : wrap64 ((wrap64 ((l.length : Int) - 1)) - (n : Int)) = (l.length : Int) - 1 - (n : Int) := by rw [wrap_in (x := (l.length : Int) - 1) (by omega) (by omega), wrap_in (by omega) (by omega)]
          simp only [if_neg h3, e]
          by_cases h4 : (list.length : Int) = (l.length : Int) - 1 - (n : Int)
          · have hd : decide (0 ≤ (n : Int) ∧ (n : Int) < (l.length : Int) ∧ rd l (n : Int) ≠ 0 ∧ (list.length : Int) = (l.length : Int) - 1 - (n : Int)) = true := decide_eq_true ⟨by omega, by omega, h3, h4⟩
            have hne : ((list.length : Int) != (l.length : Int) - 1 - (n : Int)) = false := by rw [h4]; simp
            have ht : (l.take (n + 1)).length = n + 1 := by simp; omega
            have htn : l.take (n + 1) = l.take n ++ [rd l (n : Int)] := by rw [List.take_succ_eq_append_getElem hn, rd_get hn]
            have hrd : rd (l.take (n + 1) ++ list) (n : Int) = rd l (n : Int) := by
              rw [rd_get (by simp; omega), rd_get hn, List.getElem_append_left (by omega), List.getElem_take]
            have hset : (l.take (n + 1) ++ list).set n (rd l (n : Int) - 1) = dropTo l n list := by
              rw [htn, List.append_assoc]
              have hlen : (l.take n).length = n := by simp; omega
              rw [List.set_append, if_neg (by omega), hlen, Nat.sub_self]
              rfl
            refine ev_s ?_
            simp only [impl_RowDrop.j0, hne, Bool.false_eq_true, if_false, show wrap64 ((n : Int) + 1) = ((n + 1 : Nat) : Int) by rw [wrap_in (by omega) (by omega)]; rfl, if_pos (show (0 : Int) ≤ ((n + 1 : Nat) : Int) by omega), if_pos (show ((n + 1 : Nat) : Int) ≤ (l.length : Int) by omega), Int.toNat_natCast, slices_Clone_int_int.f, ht, if_pos (show n + 1 < 17592186044416 by omega), Option.bind_some, if_pos (show n + 1 + list.length < 17592186044416 by omega), if_pos (show (0 : Int) ≤ (n : Int) by omega), List.length_append, if_pos (show (n : Int) < ((n + 1 + list.length : Nat) : Int) by omega), hrd, show wrap64 (rd l (n : Int) - 1) = rd l (n : Int) - 1 from wrap_in (by omega) (by omega), hset]
            refine Ev.bind (impl_RowValid_ev (dropTo l n list) (by rw [dropTo_length hn]; omega)) ?_
            have hok : rowDropOk l (n : Int) list = rowOk (dropTo l n list) := by simp only [rowDropOk, h, hd, Bool.true_and, Int.toNat_natCast]
            cases h5 : rowOk (dropTo l n list) with
            | true => simp only [if_true]; exact ev_now (by rw [rowDrop, hok, h5]; simp)
            | false => simp only [Bool.false_eq_true, if_false]; exact ev_now (by rw [rowDrop, hok, h5]; simp)
          · exact bad _ (by rw [bne_iff_ne]; exact h4) (by simp only [rowDropOk, h, Bool.true_and, decide_eq_false (show ¬ (0 ≤ (n : Int) ∧ (n : Int) < (l.length : Int) ∧ rd l (n : Int) ≠ 0 ∧ (list.length : Int) = (l.length : Int) - 1 - (n : Int)) from fun hh => h4 hh.2.2.2), Bool.false_and])

-- part: specRowDrop
theorem spec_RowDrop_ev (l : List Int) (a : Int) (list : List Int) (hl : l.length ≤ 140737488351232) (hs : list.length ≤ 1048576) : Ev (fun k => spec_RowDrop.f k l a list) (rowDrop l a list, rowDropOk l a list) := by
  have bad : ∀ b : Bool, b = true → rowDropOk l a list = false → Ev (fun k => spec_RowDrop.j0 k l a list b) (rowDrop l a list, rowDropOk l a list) := by
    intro b hb h0; subst hb
    refine ev_s ?_
    simp only [spec_RowDrop.j0, if_true]
    exact ev_now (by simp [rowDrop, h0])
  simp only [spec_RowDrop.f]
  refine Ev.bind (spec_RowValid_ev l hl) ?_
  cases h : rowOk l with
  | false =>
    simp only [Bool.false_eq_true, if_false]
    exact bad _ rfl (by simp [rowDropOk, h])
  | true =>
    have hl5 := rowOk_len5 h
    simp only [if_true, l1In_eq, Option.bind_some, show wrap64 ((l.length : Int) - 1) = (l.length : Int) - 1 from wrap_in (by omega) (by omega)]
    by_cases h1 : 0 ≤ a ∧ a ≤ (l.length : Int) - 1
    · obtain ⟨n, rfl⟩ := Int.eq_ofNat_of_zero_le h1.1
      have hn : n < l.length := by omega
      have hr := rowOk_rd h hn
      simp only [decide_eq_true h1, if_true, if_pos (show (0 : Int) ≤ (n : Int) by omega), if_pos (show (n : Int) < (l.length : Int) by omega)]
      by_cases h3 : rd l (n : Int) = 0
      · simp only [if_pos h3]
        exact bad _ rfl (by simp only [rowDropOk, h, Bool.true_and, decide_eq_false (show ¬ (0 ≤ (n : Int) ∧ (n : Int) < (l.length : Int) ∧ rd l (n : Int) ≠ 0 ∧ (list.length : Int) = (l.length : Int) - 1 - (n : Int)) from fun hh => hh.2.2.1 h3), Bool.false_and])
      · have e : wrap64 ((l.length : Int) - 1 - (n : Int)) = (l.length : Int) - 1 - (n : Int) := wrap_in (by omega) (by omega)
        simp only [if_neg h3, e]
        by_cases h4 : (list.length : Int) = (l.length : Int) - 1 - (n : Int)
        · have hd : decide (0 ≤ (n : Int) ∧ (n : Int) < (l.length : Int) ∧ rd l (n : Int) ≠ 0 ∧ (list.length : Int) = (l.length : Int) - 1 - (n : Int)) = true := decide_eq_true ⟨by omega, by omega, h3, h4⟩
          have hne : ((list.length : Int) != (l.length : Int) - 1 - (n : Int)) = false := by rw [h4]; simp
          have ht : (l.take n).length = n := by simp; omega
          have hset : ([] : List Int) ++ l.take n ++ [rd l (n : Int) - 1] ++ list = dropTo l n list := by simp [dropTo]
          refine ev_s ?_
          simp only [spec_RowDrop.j0, hne, Bool.false_eq_true, if_false, Option.bind_some, if_pos (show (0 : Int) ≤ (n : Int) by omega), if_pos (show (n : Int) ≤ (l.length : Int) by omega), if_pos (show (n : Int) < (l.length : Int) by omega), Int.toNat_natCast, List.length_append, ht, List.length_nil, List.length_singleton, if_pos (show 0 + n < 17592186044416 by omega), if_pos (show 0 + n + 1 < 17592186044416 by omega), if_pos (show 0 + n + 1 + list.length < 17592186044416 by omega), show wrap64 (rd l (n : Int) - 1) = rd l (n : Int) - 1 from wrap_in (by omega) (by omega), hset]
          refine Ev.bind (spec_RowValid_ev (dropTo l n list) (by rw [dropTo_length hn]; omega)) ?_
          have hok : rowDropOk l (n : Int) list = rowOk (dropTo l n list) := by simp only [rowDropOk, h, hd, Bool.true_and, Int.toNat_natCast]
          cases h5 : rowOk (dropTo l n list) with
          | true => simp only [if_true]; exact ev_now (by rw [rowDrop, hok, h5]; simp)
          | false => simp only [Bool.false_eq_true, if_false]; exact ev_now (by rw [rowDrop, hok, h5]; simp)
        · exact bad _ (by rw [bne_iff_ne]; exact h4) (by simp only [rowDropOk, h, Bool.true_and, decide_eq_false (show ¬ (0 ≤ (n : Int) ∧ (n : Int) < (l.length : Int) ∧ rd l (n : Int) ≠ 0 ∧ (list.length : Int) = (l.length : Int) - 1 - (n : Int)) from fun hh => h4 hh.2.2.2), Bool.false_and])
    · simp only [decide_eq_false h1, Bool.false_eq_true, if_false]
      exact bad _ rfl (by simp only [rowDropOk, h, Bool.true_and, decide_eq_false (show ¬ (0 ≤ a ∧ a < (l.length : Int) ∧ rd l a ≠ 0 ∧ (list.length : Int) = (l.length : Int) - 1 - a) from fun hh => by omega), Bool.false_and])
theorem rowDrop_length (l : List Int) (a : Int) (list : List Int) : (rowDrop l a list).length ≤ 5 := by
  unfold rowDrop; split
  · rename_i h
    simp only [rowDropOk, Bool.and_eq_true] at h
    exact (rowOk_len5 h.2).2
  · simp

-- part: law_FnExactRowDrop
theorem FnExactRowDrop : laws_FnExactRowDrop.Pure := by
  intro l0 a1 l2 _ hl _ _ _ hl2 _
  refine Ev.rounds ?_
  simp only [laws_FnExactRowDrop.f]
  by_cases hb : (l0.length : Int) > 1048576
  · simp only [if_pos hb]; exact Ev.now _
  · simp only [if_neg hb]
    by_cases hb2 : (l2.length : Int) > 1048576
    · simp only [if_pos hb2]; exact Ev.now _
    · simp only [if_neg hb2]
      have ht := toIntS_ev l0 (by omega)
      have ht2 := toIntS_ev l2 (by omega)
      have hlen := rowDrop_length l0 a1 l2
      have heq : Ev (fun k => laws_eqIntS.f k (rowDrop l0 a1 l2) (rowDrop l0 a1 l2)) true := ev_eq (eqIntS_ev _ _ (by omega)) (by simp)
      have hheld := heldIntS_ev 1 (rowDrop l0 a1 l2).length (by omega)
      refine Ev.bind ht ?_
      refine Ev.bind ht2 ?_
      refine Ev.bind (spec_RowDrop_ev l0 a1 l2 (by omega) (by omega)) ?_
      refine Ev.bind ht ?_
      refine Ev.bind ht2 ?_
      refine Ev.bind (impl_RowDrop_ev l0 a1 l2 (by omega) (by omega)) ?_
      refine Ev.bind heq ?_
      simp only [if_true, bne_self_eq_false]
      refine ev_s ?_
      simp only [laws_FnExactRowDrop.j0, Bool.false_eq_true, if_false]
      refine Ev.bind ht ?_
      refine Ev.bind (eqIntS_ev l0 l0 (by omega)) ?_
      simp only [decide_true, if_true]
      refine Ev.bind ht2 ?_
      refine Ev.bind (eqIntS_ev l2 l2 (by omega)) ?_
      simp only [decide_true, if_true]
      refine Ev.bind (markIntS_ev l0 1 (by omega)) ?_
      refine Ev.bind (markIntS_ev l2 (1 + l0.length) (by omega)) ?_
      simp only [if_neg (show ¬ (((1 + l0.length + l2.length : Nat) : Int) < 0) by omega)]
      refine Ev.bind heq ?_
      simp only [if_true, bne_self_eq_false]
      refine ev_s ?_
      simp only [laws_FnExactRowDrop.j1, Bool.false_eq_true, if_false]
      refine Ev.bind (markIntS_ev (rowDrop l0 a1 l2) 1 (by omega)) ?_
      refine Ev.bind hheld ?_
      simp only [if_neg (show ¬ (((1 + (rowDrop l0 a1 l2).length : Nat) : Int) < 0) by omega), if_true]
      refine Ev.bind ht ?_
      refine Ev.bind ht2 ?_
      refine Ev.bind (impl_RowDrop_ev l0 a1 l2 (by omega) (by omega)) ?_
      refine Ev.bind heq ?_
      simp only [if_true, bne_self_eq_false]
      refine ev_s ?_
      simp only [laws_FnExactRowDrop.j2, Bool.false_eq_true, if_false]
      refine Ev.bind hheld ?_
      simp only [if_neg (show ¬ (((1 + (rowDrop l0 a1 l2).length : Nat) : Int) < 0) by omega), if_true]
      exact Ev.now _

end Go.Proofs.Ytpnmaimmmcgcoaa.Pure

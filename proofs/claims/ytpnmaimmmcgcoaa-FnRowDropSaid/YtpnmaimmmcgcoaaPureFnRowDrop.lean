/- The law FnRowDrop returns true for every input that the statement lets in; no condition of our own. -/
import Derived.Test.YtpnmaimmmcgcoaaBx8
namespace Go.Proofs.Ytpnmaimmmcgcoaa.Pure
open Go.RowKit Go.Proofs.Ytpnmaimmmcgcoaa.B Go.Proofs.YtpnmaimmmcgcoaaW.PrintWords Go.Proofs.YtpnmaimmmcgcoaaW.PrintLast
set_option linter.unusedVariables false
set_option linter.unusedSimpArgs false

-- part: base
/-! ### words of mine -/
theorem ev_s {α : Type} {g : Nat → Option α} {r : α} (h : Ev (fun k => g (k + 1)) r) : Ev g r := Ev.step (fun _ => rfl) h
theorem ev_eq {α : Type} {g : Nat → Option α} {r q : α} (h : Ev g r) (e : r = q) : Ev g q := e ▸ h
theorem ev_now {α : Type} {r q : α} (e : r = q) : Ev (fun _ => some r) q := e ▸ Ev.now r
theorem wrap_in {x : Int} (h0 : -9223372036854775808 ≤ x) (h1 : x ≤ 9223372036854775807) : wrap64 x = x := by unfold wrap64; omega
theorem rd_eq (xs : List Int) (i : Nat) : rd xs (i : Int) = xs.getD i 0 := by simp [rd]
theorem rd_get {xs : List Int} {i : Nat} (h : i < xs.length) : rd xs (i : Int) = xs[i] := by simp [rd, h]
theorem wrap_nat2 (a b : Nat) (h : a + b < 4611686018427387904) : wrap64 ((a : Int) + (b : Int)) = ((a + b : Nat) : Int) := by rw [wrap_in (by omega) (by omega)]; omega
theorem ev_const {α : Type} {x : Option α} {a : α} (h : x = some a) : Ev (fun _ => x) a := by subst h; exact Ev.now a

-- part: eqLoop
theorem eqIntS_l0 (F : Nat → List Int → List Int → Int → Option Bool)
    (h0 : ∀ k a b i, F (k + 1) a b i = if i < (a.length : Int) then (if 0 ≤ i then (if i < (b.length : Int) then (if (rd a i) = (rd b i) then (F k a b (wrap64 (i + 1))) else (some false)) else none) else none) else some true)
    (a b : List Int) (hl : a.length = b.length) (hb : a.length ≤ 140737488351232) : ∀ (d i : Nat), i + d = a.length → a.take i = b.take i → Ev (fun k => F k a b i) (decide (a = b)) := by
  intro d
  induction d with
  | zero =>
    intro i h ht
    refine ev_s ?_
    simp only [h0]
    simp only [if_neg (show ¬ ((i : Int) < (a.length : Int)) by omega)]
    rw [List.take_of_length_le (by omega), List.take_of_length_le (by omega)] at ht
    simp only [ht, decide_true]; exact Ev.now _
  | succ d ih =>
    intro i h ht
    refine ev_s ?_
    simp only [h0]
    simp only [if_pos (show (i : Int) < (a.length : Int) by omega), if_pos (show (0 : Int) ≤ (i : Int) by omega), if_pos (show (i : Int) < (b.length : Int) by omega), show wrap64 ((i : Int) + 1) = ((i + 1 : Nat) : Int) by rw [wrap_in (by omega) (by omega)]; rfl]
    rw [rd_get (show i < a.length by omega), rd_get (show i < b.length by omega)]
    by_cases he : a[i] = b[i]
    · simp only [if_pos he]
      refine ih (i + 1) (by omega) ?_
      rw [List.take_succ_eq_append_getElem (by omega), List.take_succ_eq_append_getElem (by omega), ht, he]
    · simp only [if_neg he]
      refine ev_now (Eq.symm (decide_eq_false (fun hab => he ?_)))
      subst hab; rfl

-- part: sameInts
theorem sameInts_ev (a b : List Int) (hb : a.length ≤ 140737488351232) : Ev (fun k => laws_sameInts.f k a b) (decide (a = b)) := by
  simp only [laws_sameInts.f]
  by_cases hl : a.length = b.length
  · simp only [if_pos (show (a.length : Int) = (b.length : Int) by omega)]
    exact eqIntS_l0 laws_sameInts.l0 (fun _ _ _ _ => rfl) a b hl hb a.length 0 (by omega) (by simp)
  · simp only [if_neg (show ¬ ((a.length : Int) = (b.length : Int)) by omega)]
    exact ev_now (Eq.symm (decide_eq_false (fun hab => hl (by rw [hab]))))

-- part: l1In
theorem l1In_eq (n lo hi : Int) : spec_l1In.f n lo hi = some (decide (lo ≤ n ∧ n ≤ hi)) := by
  unfold spec_l1In.f
  by_cases h : n ≥ lo
  · rw [if_pos h]; simp [show lo ≤ n from h]
  · rw [if_neg h]; simp [show ¬ lo ≤ n from h]

-- part: RowValid
/-- What both of them say. -/
def rowOk (l : List Int) : Bool := l.all (fun x => decide (0 ≤ x ∧ x ≤ 9999)) && decide (1 ≤ l.length ∧ l.length ≤ 5)
theorem rowOk_drop {l : List Int} {i : Nat} (h : i < l.length) : (l.drop i).all (fun x => decide (0 ≤ x ∧ x ≤ 9999)) = (decide (0 ≤ l[i] ∧ l[i] ≤ 9999) && (l.drop (i + 1)).all (fun x => decide (0 ≤ x ∧ x ≤ 9999))) := by
  rw [List.drop_eq_getElem_cons h]; rfl
theorem spec_RowValid_l0 (l : List Int) (hb : l.length ≤ 140737488351232) : ∀ (d i : Nat), i + d = l.length → Ev (fun k => spec_RowValid.l0 k l i) ((l.drop i).all (fun x => decide (0 ≤ x ∧ x ≤ 9999)) && decide (1 ≤ l.length ∧ l.length ≤ 5)) := by
  intro d
  induction d with
  | zero =>
    intro i h
    refine ev_s ?_
    simp only [spec_RowValid.l0, l1In_eq, Option.bind_some]
    simp only [if_neg (show ¬ ((i : Int) < (l.length : Int)) by omega)]
    rw [List.drop_of_length_le (by omega)]
    refine ev_now ?_
    simp only [List.all_nil, Bool.true_and]
    exact decide_eq_decide.mpr (by omega)
  | succ d ih =>
    intro i h
    refine ev_s ?_
    simp only [spec_RowValid.l0, l1In_eq, Option.bind_some]
    simp only [if_pos (show (i : Int) < (l.length : Int) by omega), if_pos (show (0 : Int) ≤ (i : Int) by omega), show wrap64 ((i : Int) + 1) = ((i + 1 : Nat) : Int) by rw [wrap_in (by omega) (by omega)]; rfl]
    rw [rd_get (show i < l.length by omega), rowOk_drop (by omega)]
    by_cases hc : 0 ≤ l[i] ∧ l[i] ≤ 9999
    · simp only [decide_eq_true hc, Bool.true_and, if_true]
      exact ih (i + 1) (by omega)
    · simp only [decide_eq_false hc, Bool.false_and, Bool.false_eq_true, if_false]
      exact Ev.now _
theorem spec_RowValid_ev (l : List Int) (hb : l.length ≤ 140737488351232) : Ev (fun k => spec_RowValid.f k l) (rowOk l) := spec_RowValid_l0 l hb l.length 0 (by omega)
theorem impl_RowValid_l0 (l : List Int) (hb : l.length ≤ 140737488351232) : ∀ (d i : Nat), i + d = l.length → Ev (fun k => impl_RowValid.l0 k l l (l.length : Int) i) ((l.drop i).all (fun x => decide (0 ≤ x ∧ x ≤ 9999)) && decide (1 ≤ l.length ∧ l.length ≤ 5)) := by
  intro d
  induction d with
  | zero =>
    intro i h
    refine ev_s ?_
    simp only [impl_RowValid.l0]
    simp only [if_neg (show ¬ ((i : Int) < (l.length : Int)) by omega)]
    rw [List.drop_of_length_le (by omega)]
    by_cases hc : (l.length : Int) ≥ 1
    · simp only [if_pos hc]
      refine ev_now ?_
      simp only [List.all_nil, Bool.true_and]
      exact decide_eq_decide.mpr (by omega)
    · simp only [if_neg hc]
      refine ev_now ?_
      simp only [List.all_nil, Bool.true_and]
      exact (decide_eq_false (by omega)).symm
  | succ d ih =>
    intro i h
    refine ev_s ?_
    simp only [impl_RowValid.l0]
    simp only [if_pos (show (i : Int) < (l.length : Int) by omega), if_pos (show (0 : Int) ≤ (i : Int) by omega), show wrap64 ((i : Int) + 1) = ((i + 1 : Nat) : Int) by rw [wrap_in (by omega) (by omega)]; rfl]
    rw [rd_get (show i < l.length by omega), rowOk_drop (by omega)]
    by_cases h1 : l[i] < 0
    · simp only [if_pos h1, decide_eq_false (show ¬ (0 ≤ l[i] ∧ l[i] ≤ 9999) by omega), Bool.false_and]
      exact Ev.now _
    · by_cases h2 : l[i] > 9999
      · simp only [if_neg h1, if_pos h2, decide_eq_false (show ¬ (0 ≤ l[i] ∧ l[i] ≤ 9999) by omega), Bool.false_and]
        exact Ev.now _
      · simp only [if_neg h1, if_neg h2, decide_eq_true (show (0 ≤ l[i] ∧ l[i] ≤ 9999) by omega), Bool.true_and]
        exact ih (i + 1) (by omega)
theorem impl_RowValid_ev (l : List Int) (hb : l.length ≤ 140737488351232) : Ev (fun k => impl_RowValid.f k l) (rowOk l) := impl_RowValid_l0 l hb l.length 0 (by omega)

-- part: RowDrop
def dropTo (l : List Int) (at_ : Nat) (list : List Int) : List Int := l.take at_ ++ (rd l (at_ : Int) - 1) :: list
def rowDropOk (l : List Int) (a : Int) (list : List Int) : Bool := rowOk l && decide (0 ≤ a ∧ a < (l.length : Int) ∧ rd l a ≠ 0 ∧ (list.length : Int) = (l.length : Int) - 1 - a) && rowOk (dropTo l a.toNat list)
def rowDrop (l : List Int) (a : Int) (list : List Int) : List Int := if rowDropOk l a list = true then dropTo l a.toNat list else []
theorem rowOk_rd {l : List Int} (h : rowOk l = true) {i : Nat} (hi : i < l.length) : 0 ≤ rd l (i : Int) ∧ rd l (i : Int) ≤ 9999 := by
  rw [rd_get hi]
  simp only [rowOk, Bool.and_eq_true, List.all_eq_true, decide_eq_true_eq] at h
  exact h.1 l[i] (List.getElem_mem hi)
theorem rowOk_len5 {l : List Int} (h : rowOk l = true) : 1 ≤ l.length ∧ l.length ≤ 5 := by simp [rowOk] at h; exact h.2
theorem dropTo_length {l : List Int} {a : Nat} (ha : a < l.length) (list : List Int) : (dropTo l a list).length = a + 1 + list.length := by
  simp [dropTo]; omega
theorem impl_RowDrop_ev (l : List Int) (a : Int) (list : List Int) (hl : l.length ≤ 140737488351232) (hs : list.length ≤ 1048576) : Ev (fun k => impl_RowDrop.f k l a list) (rowDrop l a list, rowDropOk l a list) := by
  have bad : ∀ b : Bool, b = true → rowDropOk l a list = false → Ev (fun k => impl_RowDrop.j0 k l a list b) (rowDrop l a list, rowDropOk l a list) := by
    intro b hb h0; subst hb
    refine ev_s ?_
    simp only [impl_RowDrop.j0, if_true]
    exact ev_now (by simp [rowDrop, h0])
  simp only [impl_RowDrop.f]
  refine Ev.bind (impl_RowValid_ev l hl) ?_
  cases h : rowOk l with
  | false =>
    simp only [Bool.false_eq_true, if_false]
    exact bad _ rfl (by simp [rowDropOk, h])
  | true =>
    have hl5 := rowOk_len5 h
    simp only [if_true]
    by_cases h1 : a < 0
    · simp only [if_pos h1]
      exact bad _ rfl (by simp only [rowDropOk, h, Bool.true_and, decide_eq_false (show ¬ (0 ≤ a ∧ a < (l.length : Int) ∧ rd l a ≠ 0 ∧ (list.length : Int) = (l.length : Int) - 1 - a) from fun hh => by omega), Bool.false_and])
    · by_cases h2 : a ≥ (l.length : Int)
      · simp only [if_neg h1, if_pos h2]
        exact bad _ rfl (by simp only [rowDropOk, h, Bool.true_and, decide_eq_false (show ¬ (0 ≤ a ∧ a < (l.length : Int) ∧ rd l a ≠ 0 ∧ (list.length : Int) = (l.length : Int) - 1 - a) from fun hh => by omega), Bool.false_and])
      · obtain ⟨n, rfl⟩ := Int.eq_ofNat_of_zero_le (show 0 ≤ a by omega)
        have hn : n < l.length := by omega
        have hr := rowOk_rd h hn
        simp only [if_neg h1, if_neg h2, if_pos (show (0 : Int) ≤ (n : Int) by omega), if_pos (show (n : Int) < (l.length : Int) by omega)]
        by_cases h3 : rd l (n : Int) = 0
        · simp only [if_pos h3]
          exact bad _ rfl (by simp only [rowDropOk, h, Bool.true_and, decide_eq_false (show ¬ (0 ≤ (n : Int) ∧ (n : Int) < (l.length : Int) ∧ rd l (n : Int) ≠ 0 ∧ (list.length : Int) = (l.length : Int) - 1 - (n : Int)) from fun hh => hh.2.2.1 h3), Bool.false_and])
        · have e : wrap64 ((wrap64 ((l.length : Int) - 1)) - (n : Int)) = (l.length : Int) - 1 - (n : Int) := by rw [wrap_in (x := (l.length : Int) - 1) (by omega) (by omega), wrap_in (by omega) (by omega)]
          simp only [if_neg h3, e]
          by_cases h4 : (list.length : Int) = (l.length : Int) - 1 - (n : Int)
          · have hd : decide (0 ≤ (n : Int) ∧ (n : Int) < (l.length : Int) ∧ rd l (n : Int) ≠ 0 ∧ (list.length : Int) = (l.length : Int) - 1 - (n : Int)) = true := decide_eq_true ⟨by omega, by omega, h3, h4⟩
            have hne : ((list.length : Int) != (l.length : Int) - 1 - (n : Int)) = false := by rw [h4]; simp
            have ht : (l.take (n + 1)).length = n + 1 := by simp; omega
            have htn : l.take (n + 1) = l.take n ++ [rd l (n : Int)] := by rw [List.take_succ_eq_append_getElem hn, rd_get hn]
            have hrd : rd (l.take (n + 1) ++ list) (n : Int) = rd l (n : Int) := by
              rw [rd_get (by simp; omega), rd_get hn, List.getElem_append_left (by omega), List.getElem_take]
            have hset : (l.take (n + 1) ++ list).set n (rd l (n : Int) - 1) = dropTo l n list := by
              rw [htn, List.append_assoc]
              have hlen : (l.take n).length = n := by simp; omega
              rw [List.set_append, if_neg (by omega), hlen, Nat.sub_self]
              rfl
            refine ev_s ?_
            simp only [impl_RowDrop.j0, hne, Bool.false_eq_true, if_false, show wrap64 ((n : Int) + 1) = ((n + 1 : Nat) : Int) by rw [wrap_in (by omega) (by omega)]; rfl, if_pos (show (0 : Int) ≤ ((n + 1 : Nat) : Int) by omega), if_pos (show ((n + 1 : Nat) : Int) ≤ (l.length : Int) by omega), Int.toNat_natCast, slices_Clone_int_int.f, ht, if_pos (show n + 1 < 17592186044416 by omega), Option.bind_some, if_pos (show n + 1 + list.length < 17592186044416 by omega), if_pos (show (0 : Int) ≤ (n : Int) by omega), List.length_append, if_pos (show (n : Int) < ((n + 1 + list.length : Nat) : Int) by omega), hrd, show wrap64 (rd l (n : Int) - 1) = rd l (n : Int) - 1 from wrap_in (by omega) (by omega), hset]
            refine Ev.bind (impl_RowValid_ev (dropTo l n list) (by rw [dropTo_length hn]; omega)) ?_
            have hok : rowDropOk l (n : Int) list = rowOk (dropTo l n list) := by simp only [rowDropOk, h, hd, Bool.true_and, Int.toNat_natCast]
            cases h5 : rowOk (dropTo l n list) with
            | true => simp only [if_true]; exact ev_now (by rw [rowDrop, hok, h5]; simp)
            | false => simp only [Bool.false_eq_true, if_false]; exact ev_now (by rw [rowDrop, hok, h5]; simp)
          · exact bad _ (by rw [bne_iff_ne]; exact h4) (by simp only [rowDropOk, h, Bool.true_and, decide_eq_false (show ¬ (0 ≤ (n : Int) ∧ (n : Int) < (l.length : Int) ∧ rd l (n : Int) ≠ 0 ∧ (list.length : Int) = (l.length : Int) - 1 - (n : Int)) from fun hh => h4 hh.2.2.2), Bool.false_and])
theorem rowDrop_length (l : List Int) (a : Int) (list : List Int) : (rowDrop l a list).length ≤ 5 := by
  unfold rowDrop; split
  · rename_i h
    simp only [rowDropOk, Bool.and_eq_true] at h
    exact (rowOk_len5 h.2).2
  · simp

-- part: specRowDrop
theorem spec_RowDrop_ev (l : List Int) (a : Int) (list : List Int) (hl : l.length ≤ 140737488351232) (hs : list.length ≤ 1048576) : Ev (fun k => spec_RowDrop.f k l a list) (rowDrop l a list, rowDropOk l a list) := by
  have bad : ∀ b : Bool, b = true → rowDropOk l a list = false → Ev (fun k => spec_RowDrop.j0 k l a list b) (rowDrop l a list, rowDropOk l a list) := by
    intro b hb h0; subst hb
    refine ev_s ?_
    simp only [spec_RowDrop.j0, if_true]
    exact ev_now (by simp [rowDrop, h0])
  simp only [spec_RowDrop.f]
  refine Ev.bind (spec_RowValid_ev l hl) ?_
  cases h : rowOk l with
  | false =>
    simp only [Bool.false_eq_true, if_false]
    exact bad _ rfl (by simp [rowDropOk, h])
  | true =>
    have hl5 := rowOk_len5 h
    simp only [if_true, l1In_eq, Option.bind_some, show wrap64 ((l.length : Int) - 1) = (l.length : Int) - 1 from wrap_in (by omega) (by omega)]
    by_cases h1 : 0 ≤ a ∧ a ≤ (l.length : Int) - 1
    · obtain ⟨n, rfl⟩ := Int.eq_ofNat_of_zero_le h1.1
      have hn : n < l.length := by omega
      have hr := rowOk_rd h hn
      simp only [decide_eq_true h1, if_true, if_pos (show (0 : Int) ≤ (n : Int) by omega), if_pos (show (n : Int) < (l.length : Int) by omega)]
      by_cases h3 : rd l (n : Int) = 0
      · simp only [if_pos h3]
        exact bad _ rfl (by simp only [rowDropOk, h, Bool.true_and, decide_eq_false (show ¬ (0 ≤ (n : Int) ∧ (n : Int) < (l.length : Int) ∧ rd l (n : Int) ≠ 0 ∧ (list.length : Int) = (l.length : Int) - 1 - (n : Int)) from fun hh => hh.2.2.1 h3), Bool.false_and])
      · have e : wrap64 ((l.length : Int) - 1 - (n : Int)) = (l.length : Int) - 1 - (n : Int) := wrap_in (by omega) (by omega)
        simp only [if_neg h3, e]
        by_cases h4 : (list.length : Int) = (l.length : Int) - 1 - (n : Int)
        · have hd : decide (0 ≤ (n : Int) ∧ (n : Int) < (l.length : Int) ∧ rd l (n : Int) ≠ 0 ∧ (list.length : Int) = (l.length : Int) - 1 - (n : Int)) = true := decide_eq_true ⟨by omega, by omega, h3, h4⟩
          have hne : ((list.length : Int) != (l.length : Int) - 1 - (n : Int)) = false := by rw [h4]; simp
          have ht : (l.take n).length = n := by simp; omega
          have hset : ([] : List Int) ++ l.take n ++ [rd l (n : Int) - 1] ++ list = dropTo l n list := by simp [dropTo]
          refine ev_s ?_
          simp only [spec_RowDrop.j0, hne, Bool.false_eq_true, if_false, Option.bind_some, if_pos (show (0 : Int) ≤ (n : Int) by omega), if_pos (show (n : Int) ≤ (l.length : Int) by omega), if_pos (show (n : Int) < (l.length : Int) by omega), Int.toNat_natCast, List.length_append, ht, List.length_nil, List.length_singleton, if_pos (show 0 + n < 17592186044416 by omega), if_pos (show 0 + n + 1 < 17592186044416 by omega), if_pos (show 0 + n + 1 + list.length < 17592186044416 by omega), show wrap64 (rd l (n : Int) - 1) = rd l (n : Int) - 1 from wrap_in (by omega) (by omega), hset]
          refine Ev.bind (spec_RowValid_ev (dropTo l n list) (by rw [dropTo_length hn]; omega)) ?_
          have hok : rowDropOk l (n : Int) list = rowOk (dropTo l n list) := by simp only [rowDropOk, h, hd, Bool.true_and, Int.toNat_natCast]
          cases h5 : rowOk (dropTo l n list) with
          | true => simp only [if_true]; exact ev_now (by rw [rowDrop, hok, h5]; simp)
          | false => simp only [Bool.false_eq_true, if_false]; exact ev_now (by rw [rowDrop, hok, h5]; simp)
        · exact bad _ (by rw [bne_iff_ne]; exact h4) (by simp only [rowDropOk, h, Bool.true_and, decide_eq_false (show ¬ (0 ≤ (n : Int) ∧ (n : Int) < (l.length : Int) ∧ rd l (n : Int) ≠ 0 ∧ (list.length : Int) = (l.length : Int) - 1 - (n : Int)) from fun hh => h4 hh.2.2.2), Bool.false_and])
    · simp only [decide_eq_false h1, Bool.false_eq_true, if_false]
      exact bad _ rfl (by simp only [rowDropOk, h, Bool.true_and, decide_eq_false (show ¬ (0 ≤ a ∧ a < (l.length : Int) ∧ rd l a ≠ 0 ∧ (list.length : Int) = (l.length : Int) - 1 - a) from fun hh => by omega), Bool.false_and])

-- part: RowCompare
/-- The first place at which they differ. -/
def cmpG : List Int → List Int → Int
  | x :: a, y :: b => if x < y then -1 else if x > y then 1 else cmpG a b
  | _, _ => 0
theorem cmpG_drop {a b : List Int} {i : Nat} (ha : i < a.length) (hb : i < b.length) : cmpG (a.drop i) (b.drop i) = if a[i] < b[i] then -1 else if a[i] > b[i] then 1 else cmpG (a.drop (i + 1)) (b.drop (i + 1)) := by
  rw [List.drop_eq_getElem_cons ha, List.drop_eq_getElem_cons hb]; rfl
theorem cmpInt_eq (x y : Int) : cmp_Compare_int.f x y = some (if x < y then -1 else if x > y then 1 else 0) := by
  simp only [cmp_Compare_int.f, cmp_isNaN_int.f, Option.bind_some, bne_self_eq_false, Bool.false_eq_true, if_false]
  by_cases h1 : x < y
  · simp [h1]
  · by_cases h2 : x > y
    · simp [h1, h2]
    · simp [h1, h2]
theorem impl_Compare_l0 (a b : List Int) (hab : a.length = b.length) (hb : a.length ≤ 140737488351232) : ∀ (d i : Nat), i + d = a.length → Ev (fun k => slices_Compare_int_int.l0 k a b a (a.length : Int) i) (cmpG (a.drop i) (b.drop i)) := by
  intro d
  induction d with
  | zero =>
    intro i h
    refine ev_s ?_
    simp only [slices_Compare_int_int.l0, if_neg (show ¬ ((i : Int) < (a.length : Int)) by omega), if_neg (show ¬ ((a.length : Int) < (b.length : Int)) by omega)]
    rw [List.drop_of_length_le (by omega)]
    exact Ev.now _
  | succ d ih =>
    intro i h
    refine ev_s ?_
    simp only [slices_Compare_int_int.l0, if_pos (show (i : Int) < (a.length : Int) by omega), if_neg (show ¬ ((i : Int) ≥ (b.length : Int)) by omega), if_pos (show (i : Int) < (b.length : Int) by omega), if_pos (show (0 : Int) ≤ (i : Int) by omega), show wrap64 ((i : Int) + 1) = ((i + 1 : Nat) : Int) by rw [wrap_in (by omega) (by omega)]; rfl, cmpInt_eq, Option.bind_some]
    rw [rd_get (show i < a.length by omega), rd_get (show i < b.length by omega), cmpG_drop (by omega) (by omega)]
    by_cases h1 : a[i] < b[i]
    · simp only [if_pos h1, if_neg (show ¬ ((-1 : Int) = 0) by decide)]; exact Ev.now _
    · by_cases h2 : a[i] > b[i]
      · simp only [if_neg h1, if_pos h2, if_neg (show ¬ ((1 : Int) = 0) by decide)]; exact Ev.now _
      · simp only [if_neg h1, if_neg h2, if_true]; exact ih (i + 1) (by omega)
def rowCmp (a b : List Int) : Int := if rowOk a = true ∧ rowOk b = true ∧ a.length = b.length then cmpG a b else -2
theorem impl_RowCompare_ev (a b : List Int) (ha : a.length ≤ 140737488351232) (hb : b.length ≤ 140737488351232) : Ev (fun k => impl_RowCompare.f k a b) (rowCmp a b) := by
  simp only [impl_RowCompare.f]
  refine Ev.bind (impl_RowValid_ev a ha) ?_
  unfold rowCmp
  cases h1 : rowOk a with
  | false => simp only [Bool.false_eq_true, if_false, false_and]; exact Ev.now _
  | true =>
    simp only [if_true, true_and]
    refine Ev.bind (impl_RowValid_ev b hb) ?_
    cases h2 : rowOk b with
    | false => simp only [Bool.false_eq_true, if_false, false_and]; exact Ev.now _
    | true =>
      simp only [if_true, true_and]
      by_cases h : a.length = b.length
      · simp only [if_pos h, if_pos (show (a.length : Int) = (b.length : Int) by omega), slices_Compare_int_int.f]
        refine Ev.bind (impl_Compare_l0 a b h ha a.length 0 (by omega)) ?_
        exact Ev.now _
      · simp only [if_neg h, if_neg (show ¬ ((a.length : Int) = (b.length : Int)) by omega)]; exact Ev.now _

-- part: O
/-! ### ordinals -/
/-- An ordinal: a sum of terms w^e * n. -/
inductive O where
  | z : O
  | c (n : Nat) (e r : O) : O

-- part: coreO
def O.cmp : O → O → Ordering
  | .z, .z => .eq
  | .z, .c .. => .lt
  | .c .., .z => .gt
  | .c n e r, .c m f s => ((O.cmp e f).then (compare n m)).then (O.cmp r s)

theorem O.cmp_self : ∀ a : O, O.cmp a a = .eq
  | .z => rfl
  | .c n e r => by
    have h1 := O.cmp_self e
    have h2 := O.cmp_self r
    simp [O.cmp, h1, h2]

theorem O.eq_of_cmp : ∀ a b : O, O.cmp a b = .eq → a = b
  | .z, .z => fun _ => rfl
  | .z, .c .. => fun h => by simp [O.cmp] at h
  | .c .., .z => fun h => by simp [O.cmp] at h
  | .c n e r, .c m f s => fun h => by
    simp only [O.cmp, Ordering.then_eq_eq] at h
    obtain ⟨⟨h1, h2⟩, h3⟩ := h
    rw [O.eq_of_cmp e f h1, O.eq_of_cmp r s h3, Nat.compare_eq_eq.mp h2]

theorem O.cmp_swap : ∀ a b : O, (O.cmp a b).swap = O.cmp b a
  | .z, .z => rfl
  | .z, .c .. => rfl
  | .c .., .z => rfl
  | .c n e r, .c m f s => by
    have h1 := O.cmp_swap e f
    have h2 := O.cmp_swap r s
    simp only [O.cmp, Ordering.swap_then, h1, h2, Nat.compare_swap]

theorem O.cmp_gt_iff (a b : O) : O.cmp a b = .gt ↔ O.cmp b a = .lt := by
  rw [← O.cmp_swap a b]
  cases O.cmp a b <;> simp [Ordering.swap]

theorem O.lt_trans : ∀ a b c : O, O.cmp a b = .lt → O.cmp b c = .lt → O.cmp a c = .lt
  | .z, .z, _ => fun h => by simp [O.cmp] at h
  | .c .., .z, _ => fun h => by simp [O.cmp] at h
  | .z, .c .., .z => fun _ h => by simp [O.cmp] at h
  | .z, .c .., .c .. => fun _ _ => rfl
  | .c .., .c .., .z => fun _ h => by simp [O.cmp] at h
  | .c n e r, .c m f s, .c k g t => fun h1 h2 => by
    simp only [O.cmp, Ordering.then_eq_lt] at h1 h2 ⊢
    rcases h1 with (h1 | ⟨h1, h1'⟩) | ⟨h1, h1'⟩
    · rcases h2 with (h2 | ⟨h2, h2'⟩) | ⟨h2, h2'⟩
      · exact .inl (.inl (O.lt_trans _ _ _ h1 h2))
      · rw [← O.eq_of_cmp _ _ h2]; exact .inl (.inl h1)
      · rw [Ordering.then_eq_eq] at h2; rw [← O.eq_of_cmp _ _ h2.1]; exact .inl (.inl h1)
    · have := O.eq_of_cmp _ _ h1; subst this
      rcases h2 with (h2 | ⟨h2, h2'⟩) | ⟨h2, h2'⟩
      · exact .inl (.inl h2)
      · have h3 := O.eq_of_cmp _ _ h2; subst h3
        rw [Nat.compare_eq_lt] at h1' h2'
        exact .inl (.inr ⟨h2, Nat.compare_eq_lt.mpr (by omega)⟩)
      · rw [Ordering.then_eq_eq] at h2; rw [← Nat.compare_eq_eq.mp h2.2]; exact .inl (.inr ⟨h2.1, h1'⟩)
    · rw [Ordering.then_eq_eq] at h1
      have := O.eq_of_cmp _ _ h1.1; subst this
      have := Nat.compare_eq_eq.mp h1.2; subst this
      rcases h2 with (h2 | ⟨h2, h2'⟩) | ⟨h2, h2'⟩
      · exact .inl (.inl h2)
      · exact .inl (.inr ⟨h2, h2'⟩)
      · exact .inr ⟨h2, O.lt_trans _ _ _ h1' h2'⟩

theorem O.cmp_tri (a b : O) : O.cmp a b = .lt ∨ a = b ∨ O.cmp b a = .lt := by
  cases h : O.cmp a b with
  | lt => exact .inl rfl
  | eq => exact .inr (.inl (O.eq_of_cmp _ _ h))
  | gt => exact .inr (.inr ((O.cmp_gt_iff _ _).mp h))

theorem O.lt_irrefl (a : O) : O.cmp a a ≠ .lt := by rw [O.cmp_self]; simp
theorem O.lt_asymm {a b : O} (h : O.cmp a b = .lt) : O.cmp b a ≠ .lt := fun h' => O.lt_irrefl a (O.lt_trans _ _ _ h h')

/-- The first exponent is less than e. -/
def O.hd (e : O) : O → Prop
  | .z => True
  | .c _ f _ => O.cmp f e = .lt

/-- A normal form. -/
def O.NF : O → Prop
  | .z => True
  | .c n e r => 1 ≤ n ∧ O.NF e ∧ O.NF r ∧ O.hd e r

-- part: oRow
def O.len : O → Nat
  | .z => 0
  | .c _ _ r => O.len r + 1
def O.body : O → List Int
  | .z => []
  | .c n e r => (n : Int) :: (O.len e : Int) :: (O.body e ++ O.body r)
def O.row (o : O) : List Int := (O.len o : Int) :: O.body o
theorem O.len_le : ∀ o : O, o.len ≤ o.body.length
  | .z => Nat.le_refl _
  | .c n e r => by have := O.len_le r; simp only [O.len, O.body, List.length_cons, List.length_append]; omega
/-- These terms are this ordinal. -/
inductive IsO : List S55 → O → Prop where
  | nil : IsO [] .z
  | cons {n : Nat} {e r : List S55} {oe or_ : O} (he : IsO e oe) (hr : IsO r or_) : IsO (⟨(n : Int), e⟩ :: r) (.c n oe or_)
theorem IsO.len {l : List S55} {o : O} (h : IsO l o) : l.length = o.len := by
  induction h with
  | nil => rfl
  | cons he hr ihe ihr => simp [O.len, ihr]
theorem rd_T55_mid (pre suf : List S55) (x : S55) : rd_T55 (pre ++ x :: suf) ((pre.length : Nat) : Int) = x := by simp [rd_T55]
def O.num (n : Nat) : O := if n = 0 then .z else .c n .z .z
theorem number_eq (n : Nat) : ∃ l, impl_number.f (n : Int) = some l ∧ IsO l (O.num n) := by
  unfold impl_number.f O.num
  by_cases h : n = 0
  · subst h; exact ⟨[], rfl, .nil⟩
  · rw [if_neg (show ¬ ((n : Int) = 0) by omega), if_neg h]
    exact ⟨_, rfl, .cons .nil .nil⟩
theorem rowOf_l0 {suf : List S55} {o : O} (h : IsO suf o) : ∀ (pre : List S55) (out : List Int), pre.length + suf.length ≤ 1000000 → out.length + o.body.length ≤ 1000000 → Ev (fun k => impl_rowOf.l0 k out (pre ++ suf) (((pre ++ suf).length : Nat) : Int) (pre.length : Int)) (out ++ o.body) := by
  induction h with
  | nil =>
    intro pre out _ _
    refine ev_s ?_
    simp only [impl_rowOf.l0, List.append_nil, if_neg (show ¬ ((pre.length : Int) < (pre.length : Int)) by omega), O.body]
    exact Ev.now _
  | @cons n e r oe or_ he hr ihe ihr =>
    intro pre out hp ho
    simp only [List.length_cons] at hp
    simp only [O.body, List.length_cons, List.length_append] at ho
    have hlen : ((pre ++ (⟨(n : Int), e⟩ : S55) :: r).length : Nat) = pre.length + (r.length + 1) := by simp
    have he1 := IsO.len he
    have hel := O.len_le oe
    have hE : Ev (fun k => impl_rowOf.f k e) oe.row := by
      refine ev_s ?_
      simp only [impl_rowOf.f]
      have := ihe [] [(e.length : Int)] (by simp; omega) (by simp; omega)
      rw [List.nil_append] at this
      refine ev_eq this ?_
      rw [O.row, ← he1]; rfl
    refine ev_s ?_
    simp only [impl_rowOf.l0, rd_T55_mid, hlen, if_pos (show (pre.length : Int) < ((pre.length + (r.length + 1) : Nat) : Int) by omega), if_pos (show (0 : Int) ≤ (pre.length : Int) by omega), if_pos (show out.length < 17592186044416 by omega), Option.bind_some]
    refine Ev.bind hE ?_
    have hrow : oe.row.length = oe.body.length + 1 := by simp [O.row]
    simp only [List.length_append, List.length_singleton, hrow, if_pos (show out.length + 1 + (oe.body.length + 1) < 17592186044416 by omega), show wrap64 ((pre.length : Int) + 1) = ((pre.length + 1 : Nat) : Int) by rw [wrap_in (by omega) (by omega)]; rfl]
    have := ihr (pre ++ [⟨(n : Int), e⟩]) (out ++ [(n : Int)] ++ oe.row) (by simp; omega) (by simp [hrow]; omega)
    simp only [List.append_assoc, List.singleton_append, List.length_append, List.length_cons, List.length_nil] at this
    refine ev_eq ?_ (show out ++ ((n : Int) :: (oe.row ++ or_.body)) = out ++ (O.c n oe or_).body by simp [O.body, O.row])
    simp only [List.append_assoc, List.singleton_append]
    exact this
theorem rowOf_ev {l : List S55} {o : O} (h : IsO l o) (ho : o.body.length ≤ 100000) : Ev (fun k => impl_rowOf.f k l) o.row := by
  have hl := IsO.len h
  have := O.len_le o
  refine ev_s ?_
  simp only [impl_rowOf.f]
  have := rowOf_l0 h [] [(l.length : Int)] (by simp; omega) (by simp; omega)
  rw [List.nil_append] at this
  refine ev_eq this ?_
  rw [O.row, ← hl]; rfl

-- part: oAppDef
def O.app : O → O → O
  | .z, y => y
  | .c n e r, y => .c n e (O.app r y)
theorem O.app_z : ∀ x : O, O.app x .z = x
  | .z => rfl
  | .c n e r => by rw [O.app, O.app_z r]

-- part: oApp
theorem O.app_assoc : ∀ x y t : O, O.app (O.app x y) t = O.app x (O.app y t)
  | .z, _, _ => rfl
  | .c n e r, y, t => by simp only [O.app, O.app_assoc r y t]
theorem O.app_body : ∀ x y : O, (O.app x y).body = x.body ++ y.body
  | .z, _ => rfl
  | .c n e r, y => by simp only [O.app, O.body, O.app_body r y, List.cons_append, List.append_assoc]
theorem O.app_len : ∀ x y : O, (O.app x y).len = x.len + y.len
  | .z, _ => by simp [O.app, O.len]
  | .c n e r, y => by simp only [O.app, O.len, O.app_len r y]; omega
theorem IsO.app {a b : List S55} {x y : O} (ha : IsO a x) (hb : IsO b y) : IsO (a ++ b) (O.app x y) := by
  induction ha with
  | nil => exact hb
  | cons he _ _ ih => exact .cons he ih

-- part: RowOrd
def rowO : List Int → O
  | [] => .z
  | x :: r => if x > 0 then .c x.toNat (O.num r.length) (rowO r) else rowO r
theorem rowO_drop {l : List Int} {i : Nat} (h : i < l.length) : rowO (l.drop i) = if l[i] > 0 then .c l[i].toNat (O.num (l.length - 1 - i)) (rowO (l.drop (i + 1))) else rowO (l.drop (i + 1)) := by
  rw [List.drop_eq_getElem_cons h, rowO]
  congr 2
  rw [List.length_drop]; congr 1; omega
theorem num_body (n : Nat) : (O.num n).body.length ≤ 2 := by unfold O.num; split <;> simp [O.body]
theorem rowO_body : ∀ l : List Int, (rowO l).body.length ≤ 4 * l.length
  | [] => by simp [rowO, O.body]
  | x :: r => by
    have := rowO_body r
    have := num_body r.length
    rw [rowO]; split
    · simp only [O.body, List.length_cons, List.length_append]; omega
    · simp only [List.length_cons]; omega
theorem rowOk_pos {l : List Int} (h : rowOk l = true) {i : Nat} (hi : i < l.length) : 0 ≤ l[i] := by
  simp only [rowOk, Bool.and_eq_true, List.all_eq_true, decide_eq_true_eq] at h
  exact (h.1 l[i] (List.getElem_mem hi)).1
theorem rowOk_len {l : List Int} (h : rowOk l = true) : 1 ≤ l.length ∧ l.length ≤ 5 := by simp [rowOk] at h; exact h.2
theorem impl_RowOrd_l0 {l : List Int} (h : rowOk l = true) : ∀ (d i : Nat) (x : List S55) (o : O), i + d = l.length → IsO x o → o.body.length ≤ 4 * i → Ev (fun k => impl_RowOrd.l0 k l x l (l.length : Int) (i : Int)) (O.row (O.app o (rowO (l.drop i)))) := by
  have hl := rowOk_len h
  intro d
  induction d with
  | zero =>
    intro i x o hi hx ho
    refine ev_s ?_
    simp only [impl_RowOrd.l0, if_neg (show ¬ ((i : Int) < (l.length : Int)) by omega)]
    rw [List.drop_of_length_le (by omega), rowO, O.app_z]
    refine Ev.bind (rowOf_ev hx (by omega)) ?_
    exact Ev.now _
  | succ d ih =>
    intro i x o hi hx ho
    have hxl := IsO.len hx
    have hol := O.len_le o
    have hp := rowOk_pos h (show i < l.length by omega)
    have e : wrap64 ((wrap64 ((l.length : Int) - 1)) - (i : Int)) = ((l.length - 1 - i : Nat) : Int) := by
      rw [wrap_in (x := (l.length : Int) - 1) (by omega) (by omega), wrap_in (by omega) (by omega)]; omega
    obtain ⟨ln, hn1, hn2⟩ := number_eq (l.length - 1 - i)
    refine ev_s ?_
    simp only [impl_RowOrd.l0, if_pos (show (i : Int) < (l.length : Int) by omega), if_pos (show (0 : Int) ≤ (i : Int) by omega), e, hn1, Option.bind_some, rd_get (show i < l.length by omega), show wrap64 ((i : Int) + 1) = ((i + 1 : Nat) : Int) by rw [wrap_in (by omega) (by omega)]; rfl, if_pos (show x.length < 4398046511104 by omega)]
    rw [rowO_drop (show i < l.length by omega)]
    by_cases hc : l[i] > 0
    · simp only [if_pos hc]
      obtain ⟨m, hm⟩ := Int.eq_ofNat_of_zero_le hp
      have hx2 : IsO (x ++ [(⟨l[i], ln⟩ : S55)]) (O.app o (.c l[i].toNat (O.num (l.length - 1 - i)) .z)) := by
        rw [hm]
        exact IsO.app hx (.cons hn2 .nil)
      have hnb := num_body (l.length - 1 - i)
      refine ev_eq (ih (i + 1) _ _ (by omega) hx2 ?_) ?_
      · rw [O.app_body]; simp only [O.body, List.length_append, List.length_cons, List.length_nil]; omega
      · rw [O.app_assoc]; rfl
    · simp only [if_neg hc]
      exact ih (i + 1) x o (by omega) hx (by omega)
def rowOrd (l : List Int) : List Int := if rowOk l = true then O.row (rowO l) else []
theorem rowOrd_length (l : List Int) : (rowOrd l).length ≤ 100 := by
  unfold rowOrd; split
  · rename_i h
    have := rowOk_len h
    have := rowO_body l
    simp only [O.row, List.length_cons]; omega
  · simp
theorem impl_RowOrd_ev (l : List Int) (hb : l.length ≤ 140737488351232) : Ev (fun k => impl_RowOrd.f k l) (rowOrd l) := by
  simp only [impl_RowOrd.f]
  refine Ev.bind (impl_RowValid_ev l hb) ?_
  unfold rowOrd
  cases h : rowOk l with
  | false => simp only [Bool.false_eq_true, if_false]; exact Ev.now _
  | true =>
    simp only [if_true]
    exact impl_RowOrd_l0 h l.length 0 [] .z (by omega) .nil (by simp [O.body])

-- part: oTerms
/-! ### reading ordinals back -/
/-- The terms of an ordinal. -/
def O.terms : O → List S55
  | .z => []
  | .c n e r => ⟨(n : Int), O.terms e⟩ :: O.terms r
theorem O.terms_is : ∀ o : O, IsO o.terms o
  | .z => .nil
  | .c n e r => .cons (O.terms_is e) (O.terms_is r)
theorem IsO.terms {l : List S55} {o : O} (h : IsO l o) : l = o.terms := by
  induction h with
  | nil => rfl
  | cons _ _ h1 h2 => rw [O.terms, h1, h2]
theorem O.terms_len (o : O) : o.terms.length = o.len := IsO.len o.terms_is
def ordI : Ordering → Int
  | .lt => -1
  | .eq => 0
  | .gt => 1
theorem ordI_swap (o : Ordering) : ordI o.swap = -ordI o := by cases o <;> rfl
theorem ordI_zero {o : Ordering} : ordI o = 0 ↔ o = .eq := by cases o <;> decide
theorem ordI_neg {o : Ordering} : ordI o < 0 ↔ o = .lt := by cases o <;> decide
theorem cmpInt_nat (x y : Nat) : cmp_Compare_int.f (x : Int) (y : Int) = some (ordI (compare x y)) := by
  simp only [cmp_Compare_int.f, cmp_isNaN_int.f, Option.bind_some, bne_self_eq_false, Bool.false_eq_true, if_false]
  by_cases h1 : x < y
  · rw [if_pos (show (x : Int) < (y : Int) by omega), Nat.compare_eq_lt.mpr h1]; rfl
  · by_cases h2 : y < x
    · rw [if_neg (show ¬ ((x : Int) < (y : Int)) by omega), if_pos (show (x : Int) > (y : Int) by omega), Nat.compare_eq_gt.mpr h2]; rfl
    · rw [if_neg (show ¬ ((x : Int) < (y : Int)) by omega), if_neg (show ¬ ((x : Int) > (y : Int)) by omega), Nat.compare_eq_eq.mpr (by omega)]; rfl
theorem ordI_then (a b : Ordering) : ordI (a.then b) = if ordI a = 0 then ordI b else ordI a := by cases a <;> rfl
theorem compare_step (n m : Nat) (e r f s : O) (pa pb : List S55) (hp : pa.length = pb.length) (hb : pa.length ≤ 1000000) (h1 : Ev (fun k => impl_compare.f k e.terms f.terms) (ordI (O.cmp e f)))
    (h2 : Ev (fun k => impl_compare.l0 k (pa ++ ((⟨(n : Int), O.terms e⟩ : S55) :: O.terms r)) (pb ++ ((⟨(m : Int), O.terms f⟩ : S55) :: O.terms s)) ((pa.length + 1 : Nat) : Int)) (ordI (O.cmp r s))) :
    Ev (fun k => impl_compare.l0 k (pa ++ ((⟨(n : Int), O.terms e⟩ : S55) :: O.terms r)) (pb ++ ((⟨(m : Int), O.terms f⟩ : S55) :: O.terms s)) (pa.length : Int)) (ordI (O.cmp (.c n e r) (.c m f s))) := by
  have hla : (pa ++ ((⟨(n : Int), O.terms e⟩ : S55) :: O.terms r)).length = pa.length + (r.terms.length + 1) := by simp
  have hlb : (pb ++ ((⟨(m : Int), O.terms f⟩ : S55) :: O.terms s)).length = pb.length + (s.terms.length + 1) := by simp
  have ea : rd_T55 (pa ++ ((⟨(n : Int), O.terms e⟩ : S55) :: O.terms r)) (pa.length : Int) = ⟨(n : Int), O.terms e⟩ := rd_T55_mid pa r.terms ⟨(n : Int), O.terms e⟩
  have eb : rd_T55 (pb ++ ((⟨(m : Int), O.terms f⟩ : S55) :: O.terms s)) (pa.length : Int) = ⟨(m : Int), O.terms f⟩ := by rw [hp]; exact rd_T55_mid pb s.terms ⟨(m : Int), O.terms f⟩
  generalize pa ++ ((⟨(n : Int), O.terms e⟩ : S55) :: O.terms r) = A at *
  generalize pb ++ ((⟨(m : Int), O.terms f⟩ : S55) :: O.terms s) = B at *
  have ew : wrap64 ((pa.length : Int) + 1) = ((pa.length + 1 : Nat) : Int) := wrap_nat2 pa.length 1 (by omega)
  have g1 : (pa.length : Int) < (A.length : Int) := by omega
  have g2 : (pa.length : Int) < (B.length : Int) := by omega
  refine ev_s ?_
  simp only [impl_compare.l0, if_pos g1, decide_eq_true g2]
  refine ev_s ?_
  simp only [impl_compare.j1, if_true, if_pos (show (0 : Int) ≤ (pa.length : Int) from Int.natCast_nonneg _), if_pos g1, if_pos g2, ea, eb, ew]
  refine Ev.bind h1 ?_
  rw [O.cmp, ordI_then, ordI_then]
  by_cases q1 : ordI (O.cmp e f) = 0
  · simp only [if_pos q1, cmpInt_nat, Option.bind_some]
    by_cases q2 : ordI (compare n m) = 0
    · simp only [if_pos q2]
      exact h2
    · simp only [if_neg q2]
      exact Ev.now _
  · simp only [if_neg q1]
    exact Ev.now _
theorem compare_l0 : ∀ (x y : O) (pa pb : List S55), pa.length = pb.length → pa.length + x.body.length ≤ 1000000 → pb.length + y.body.length ≤ 1000000 →
    Ev (fun k => impl_compare.l0 k (pa ++ x.terms) (pb ++ y.terms) (pa.length : Int)) (ordI (O.cmp x y))
  | .z, .z, pa, pb, hp, _, _ => by
    refine ev_s ?_
    simp only [impl_compare.l0, O.terms, List.append_nil, if_neg (show ¬ ((pa.length : Int) < (pa.length : Int)) by omega)]
    refine ev_s ?_
    simp only [impl_compare.j1, Bool.false_eq_true, if_false, cmpInt_nat, Option.bind_some, hp, Nat.compare_eq_eq.mpr]
    exact Ev.now _
  | .z, .c m f s, pa, pb, hp, _, _ => by
    refine ev_s ?_
    simp only [impl_compare.l0, O.terms, List.append_nil, if_neg (show ¬ ((pa.length : Int) < (pa.length : Int)) by omega)]
    refine ev_s ?_
    have hl : (pb ++ (⟨(m : Int), O.terms f⟩ :: O.terms s : List S55)).length = pb.length + (s.terms.length + 1) := by simp
    simp only [impl_compare.j1, Bool.false_eq_true, if_false, cmpInt_nat, Option.bind_some, hl, Nat.compare_eq_lt.mpr (show pa.length < pb.length + (s.terms.length + 1) by omega)]
    exact Ev.now _
  | .c n e r, .z, pa, pb, hp, _, _ => by
    refine ev_s ?_
    have hl : (pa ++ (⟨(n : Int), O.terms e⟩ :: O.terms r : List S55)).length = pa.length + (r.terms.length + 1) := by simp
    simp only [impl_compare.l0, O.terms, List.append_nil, hl, if_pos (show (pa.length : Int) < ((pa.length + (r.terms.length + 1) : Nat) : Int) by omega), decide_eq_false (show ¬ ((pa.length : Int) < (pb.length : Int)) by omega)]
    refine ev_s ?_
    simp only [impl_compare.j1, Bool.false_eq_true, if_false, hl, cmpInt_nat, Option.bind_some, Nat.compare_eq_gt.mpr (show pb.length < pa.length + (r.terms.length + 1) by omega)]
    exact Ev.now _
  | .c n e r, .c m f s, pa, pb, hp, ha, hb => by
    simp only [O.body, List.length_cons, List.length_append] at ha hb
    have ih1 : Ev (fun k => impl_compare.f k e.terms f.terms) (ordI (O.cmp e f)) := by
      have := compare_l0 e f [] [] rfl (by simp only [List.length_nil]; omega) (by simp only [List.length_nil]; omega)
      rw [List.nil_append, List.nil_append] at this
      refine ev_s ?_
      simp only [impl_compare.f]
      exact this
    have ih2 := compare_l0 r s (pa ++ [⟨(n : Int), e.terms⟩]) (pb ++ [⟨(m : Int), f.terms⟩]) (by simp only [List.length_append, List.length_singleton, hp]) (by simp only [List.length_append, List.length_singleton]; omega) (by simp only [List.length_append, List.length_singleton]; omega)
    simp only [List.append_assoc, List.singleton_append, List.length_append, List.length_singleton] at ih2
    exact compare_step n m e r f s pa pb hp (by omega) ih1 ih2
theorem compare_ev (x y : O) (hx : x.body.length ≤ 100000) (hy : y.body.length ≤ 100000) : Ev (fun k => impl_compare.f k x.terms y.terms) (ordI (O.cmp x y)) := by
  have := compare_l0 x y [] [] rfl (by simp; omega) (by simp; omega)
  rw [List.nil_append, List.nil_append] at this
  refine ev_s ?_
  simp only [impl_compare.f]
  exact this
/-- In reach of the reader: each sum has 60 terms at most, each number is in 1..9999, the exponents fall. -/
def O.Sm : O → Prop
  | .z => True
  | .c n e r => (1 ≤ n ∧ n ≤ 9999) ∧ (O.Sm e ∧ e.len ≤ 60) ∧ O.Sm r ∧ O.hd e r
theorem O.Sm.nf : ∀ {o : O}, o.Sm → o.NF
  | .z, _ => trivial
  | .c n e r, h => ⟨h.1.1, O.Sm.nf h.2.1.1, O.Sm.nf h.2.2.1, h.2.2.2⟩
/-- What stands last ahead: nothing, or a term with this exponent. -/
def LastE (pa : List S55) (r : O) : Prop := pa = [] ∨ ∃ pb m f, pa = pb ++ [⟨m, O.terms f⟩] ∧ f.body.length ≤ 100000 ∧ O.hd f r
theorem takeOrd_l0 : ∀ (r : O), r.Sm → ∀ (pa : List S55) (t : List Int), pa.length + r.len ≤ 60 → r.body.length ≤ 100000 → LastE pa r →
    Ev (fun k => impl_takeOrd.l0 k (r.body ++ t) pa ((pa.length + r.len : Nat) : Int) (pa.length : Int)) (pa ++ r.terms, t, true)
  | .z, _, pa, t, _, _, _ => by
    refine ev_s ?_
    simp only [impl_takeOrd.l0, O.len, O.body, O.terms, Nat.add_zero, List.nil_append, List.append_nil, Int.lt_irrefl, if_false]
    exact Ev.now _
  | .c n e r, hs, pa, t, hl, hb, hlast => by
    obtain ⟨hn, ⟨hse, hle⟩, hsr, hhd⟩ := hs
    simp only [O.len] at hl
    simp only [O.body, List.length_cons, List.length_append] at hb
    have ihr := takeOrd_l0 r hsr (pa ++ [⟨(n : Int), e.terms⟩]) t (by simp; omega) (by omega) (.inr ⟨pa, n, e, rfl, by omega, hhd⟩)
    have ihe : Ev (fun k => impl_takeOrd.f k ((e.len : Int) :: (e.body ++ (r.body ++ t)))) (e.terms, r.body ++ t, true) := by
      have := takeOrd_l0 e hse [] (r.body ++ t) (by simpa using hle) (by omega) (.inl rfl)
      simp only [List.length_nil, Nat.zero_add, List.nil_append] at this
      refine ev_s ?_
      have hc : rd ((e.len : Int) :: (e.body ++ (r.body ++ t))) 0 = (e.len : Int) := rfl
      simp only [impl_takeOrd.f, List.length_cons, if_neg (show ¬ (((e.body ++ (r.body ++ t)).length + 1 : Nat) : Int) = 0 by omega), if_pos (show (0 : Int) < (((e.body ++ (r.body ++ t)).length + 1 : Nat) : Int) by omega), if_pos (show (1 : Int) ≤ (((e.body ++ (r.body ++ t)).length + 1 : Nat) : Int) by omega), Option.bind_some, hc, List.drop_succ_cons, List.drop_zero, if_neg (show ¬ ((e.len : Int) < 0) by omega), decide_eq_false (show ¬ ((e.len : Int) > 60) by omega)]
      refine ev_s ?_
      simp only [impl_takeOrd.j0, Bool.false_eq_true, if_false]
      exact this
    have hbody : (O.c n e r).body ++ t = (n : Int) :: ((e.len : Int) :: (e.body ++ (r.body ++ t))) := by simp [O.body]
    have hc : rd ((n : Int) :: ((e.len : Int) :: (e.body ++ (r.body ++ t)))) 0 = (n : Int) := rfl
    have hw : wrap64 ((pa.length : Int) + 1) = (((pa ++ [(⟨(n : Int), e.terms⟩ : S55)]).length : Nat) : Int) := by
      rw [List.length_append, List.length_singleton]; exact wrap_nat2 pa.length 1 (by omega)
    have hcnt : ((pa.length + (O.c n e r).len : Nat) : Int) = (((pa ++ [(⟨(n : Int), e.terms⟩ : S55)]).length + r.len : Nat) : Int) := by
      simp only [O.len, List.length_append, List.length_singleton]; omega
    have hres : pa ++ (O.c n e r).terms = pa ++ [(⟨(n : Int), e.terms⟩ : S55)] ++ r.terms := by simp [O.terms]
    rw [hbody, hres]
    refine ev_s ?_
    simp only [impl_takeOrd.l0, List.length_cons, if_pos (show (pa.length : Int) < ((pa.length + (O.c n e r).len : Nat) : Int) by simp only [O.len]; omega), hc]
    have hlen : (((e.len : Int) :: (e.body ++ (r.body ++ t))).length : Nat) = (e.body ++ (r.body ++ t)).length + 1 := by simp
    simp only [if_neg (show ¬ ((((e.body ++ (r.body ++ t)).length + 1 + 1 : Nat) : Int) = 0) by omega), if_pos (show (0 : Int) < (((e.body ++ (r.body ++ t)).length + 1 + 1 : Nat) : Int) by omega), if_neg (show ¬ ((n : Int) < 1) by omega), decide_eq_false (show ¬ ((n : Int) > 9999) by omega)]
    refine ev_s ?_
    simp only [impl_takeOrd.j2, Bool.false_eq_true, if_false, List.length_cons, if_pos (show (1 : Int) ≤ (((e.body ++ (r.body ++ t)).length + 1 + 1 : Nat) : Int) by omega), List.drop_succ_cons, List.drop_zero]
    refine Ev.bind ihe ?_
    simp only [if_true, if_pos (show (0 : Int) < (((e.body ++ (r.body ++ t)).length + 1 + 1 : Nat) : Int) by omega), hc, if_pos (show pa.length < 4398046511104 by omega), hw, hcnt]
    rcases hlast with h0 | ⟨pb, m, f, hpa, hfb, hfd⟩
    · simp only [if_neg (show ¬ ((pa.length : Int) > 0) by rw [h0]; simp)]
      exact ihr
    · have hpl : pa.length = pb.length + 1 := by rw [hpa]; simp
      have hw1 : wrap64 ((pa.length : Int) - 1) = (pb.length : Int) := by rw [wrap_in (by omega) (by omega)]; omega
      have hrd : rd_T55 pa (pb.length : Int) = ⟨m, O.terms f⟩ := by rw [hpa]; exact rd_T55_mid pb [] ⟨m, O.terms f⟩
      simp only [if_pos (show (pa.length : Int) > 0 by omega), hw1, if_pos (show (0 : Int) ≤ (pb.length : Int) by omega), if_pos (show (pb.length : Int) < (pa.length : Int) by omega), hrd]
      refine Ev.bind (compare_ev e f (by omega) hfb) ?_
      have : ordI (O.cmp e f) = -1 := by rw [show O.cmp e f = .lt from hfd]; rfl
      simp only [this, if_neg (show ¬ ((-1 : Int) ≥ 0) by decide)]
      exact ihr
theorem takeOrd_ev {o : O} (hs : o.Sm) (hl : o.len ≤ 60) (hb : o.body.length ≤ 100000) (t : List Int) : Ev (fun k => impl_takeOrd.f k (o.row ++ t)) (o.terms, t, true) := by
  have := takeOrd_l0 o hs [] t (by simpa using hl) hb (.inl rfl)
  simp only [List.length_nil, Nat.zero_add, List.nil_append] at this
  refine ev_s ?_
  have hc : rd ((o.len : Int) :: (o.body ++ t)) 0 = (o.len : Int) := rfl
  simp only [O.row, List.cons_append, impl_takeOrd.f, List.length_cons, if_neg (show ¬ (((o.body ++ t).length + 1 : Nat) : Int) = 0 by omega), if_pos (show (0 : Int) < (((o.body ++ t).length + 1 : Nat) : Int) by omega), if_pos (show (1 : Int) ≤ (((o.body ++ t).length + 1 : Nat) : Int) by omega), Option.bind_some, hc, List.drop_succ_cons, List.drop_zero, if_neg (show ¬ ((o.len : Int) < 0) by omega), decide_eq_false (show ¬ ((o.len : Int) > 60) by omega)]
  refine ev_s ?_
  simp only [impl_takeOrd.j0, Bool.false_eq_true, if_false]
  exact this
theorem ordOf_ev {o : O} (hs : o.Sm) (hb : o.row.length ≤ 60) : Ev (fun k => impl_ordOf.f k o.row) (o.terms, true) := by
  have hlb := O.len_le o
  have hr : o.row.length = o.body.length + 1 := by simp [O.row]
  have h := takeOrd_ev hs (by omega) (by omega) []
  rw [List.append_nil] at h
  simp only [impl_ordOf.f, if_neg (show ¬ ((o.row.length : Int) < 1) by omega), if_neg (show ¬ ((o.row.length : Int) > 60) by omega)]
  refine Ev.bind h ?_
  simp only [if_true]
  exact ev_now (by simp)
theorem OrdCompare_ev {x y : O} (hx : x.Sm) (hy : y.Sm) (hxb : x.row.length ≤ 60) (hyb : y.row.length ≤ 60) : Ev (fun k => impl_OrdCompare.f k x.row y.row) (ordI (O.cmp x y)) := by
  have e1 : x.row.length = x.body.length + 1 := by simp [O.row]
  have e2 : y.row.length = y.body.length + 1 := by simp [O.row]
  simp only [impl_OrdCompare.f]
  refine Ev.bind (ordOf_ev hx hxb) ?_
  refine Ev.bind (ordOf_ev hy hyb) ?_
  simp only [if_true]
  refine Ev.bind (compare_ev x y (by omega) (by omega)) ?_
  exact Ev.now _

-- part: rowCmpO
theorem cmp_num (i j : Nat) : O.cmp (O.num i) (O.num j) = compare i j := by
  unfold O.num
  by_cases h1 : i = 0
  · by_cases h2 : j = 0
    · subst h1; subst h2; rfl
    · subst h1; rw [if_pos rfl, if_neg h2, Nat.compare_eq_lt.mpr (by omega)]; rfl
  · by_cases h2 : j = 0
    · subst h2; rw [if_pos rfl, if_neg h1, Nat.compare_eq_gt.mpr (by omega)]; rfl
    · rw [if_neg h1, if_neg h2]
      simp only [O.cmp]
      cases compare i j <;> rfl
theorem num_Sm {n : Nat} (h : n ≤ 9999) : (O.num n).Sm ∧ (O.num n).len ≤ 60 := by
  unfold O.num
  by_cases h1 : n = 0
  · rw [if_pos h1]; exact ⟨trivial, by simp [O.len]⟩
  · rw [if_neg h1]; exact ⟨⟨by omega, ⟨trivial, by simp [O.len]⟩, trivial, trivial⟩, by simp [O.len]⟩
theorem rowO_hd : ∀ (l : List Int) (n : Nat), l.length ≤ n → O.hd (O.num n) (rowO l)
  | [], _, _ => trivial
  | x :: r, n, h => by
    simp only [List.length_cons] at h
    rw [rowO]
    split
    · show O.cmp (O.num r.length) (O.num n) = .lt
      rw [cmp_num]; exact Nat.compare_eq_lt.mpr (by omega)
    · exact rowO_hd r n (by omega)
theorem rowO_Sm : ∀ (l : List Int), l.length ≤ 100 → (∀ x ∈ l, x ≤ 9999) → (rowO l).Sm
  | [], _, _ => trivial
  | x :: r, h, hx => by
    simp only [List.length_cons] at h
    have h1 := hx x (by simp)
    have ih := rowO_Sm r (by omega) (fun y hy => hx y (by simp [hy]))
    rw [rowO]
    split
    · exact ⟨⟨by omega, by omega⟩, num_Sm (by omega), ih, rowO_hd r _ (Nat.le_refl _)⟩
    · exact ih
theorem hd_cmp {e f : O} {n : Nat} {r x : O} (h : O.hd e x) : O.cmp x (.c n e r) = .lt := by
  cases x with
  | z => rfl
  | c m g s =>
    have hg : O.cmp g e = .lt := h
    simp only [O.cmp, hg]; rfl
theorem rowO_cmp : ∀ (a b : List Int), a.length = b.length → (∀ x ∈ a, 0 ≤ x) → (∀ x ∈ b, 0 ≤ x) → ordI (O.cmp (rowO a) (rowO b)) = cmpG a b
  | [], [], _, _, _ => rfl
  | [], _ :: _, h, _, _ => by simp at h
  | _ :: _, [], h, _, _ => by simp at h
  | x :: a, y :: b, h, ha, hb => by
    simp only [List.length_cons, Nat.add_right_cancel_iff] at h
    have hx := ha x (by simp)
    have hy := hb y (by simp)
    have ih := rowO_cmp a b h (fun z hz => ha z (by simp [hz])) (fun z hz => hb z (by simp [hz]))
    rw [cmpG, rowO, rowO, h]
    by_cases h1 : x > 0
    · by_cases h2 : y > 0
      · rw [if_pos h1, if_pos h2, O.cmp, O.cmp_self, ordI_then, ordI_then]
        obtain ⟨m, rfl⟩ := Int.eq_ofNat_of_zero_le hx
        obtain ⟨n, rfl⟩ := Int.eq_ofNat_of_zero_le hy
        rw [if_pos (show ordI .eq = 0 from rfl), Int.toNat_natCast, Int.toNat_natCast]
        by_cases h3 : m < n
        · rw [if_pos (show (m : Int) < (n : Int) by omega), Nat.compare_eq_lt.mpr h3]; rfl
        · by_cases h4 : n < m
          · rw [if_neg (show ¬ ((m : Int) < (n : Int)) by omega), if_pos (show (m : Int) > (n : Int) by omega), Nat.compare_eq_gt.mpr h4]; rfl
          · rw [if_neg (show ¬ ((m : Int) < (n : Int)) by omega), if_neg (show ¬ ((m : Int) > (n : Int)) by omega), Nat.compare_eq_eq.mpr (by omega)]
            exact ih
      · have h5 : O.cmp (rowO b) (.c x.toNat (O.num b.length) (rowO a)) = .lt := hd_cmp (f := .z) (rowO_hd b _ (Nat.le_refl _))
        rw [if_pos h1, if_neg h2, if_neg (by omega), if_pos (by omega), (O.cmp_gt_iff _ _).mpr h5]; rfl
    · by_cases h2 : y > 0
      · have h5 : O.cmp (rowO a) (.c y.toNat (O.num b.length) (rowO b)) = .lt := hd_cmp (f := .z) (rowO_hd a _ (by omega))
        rw [if_neg h1, if_pos h2, if_pos (by omega), h5]; rfl
      · rw [if_neg h1, if_neg h2, if_neg (by omega), if_neg (by omega)]
        exact ih
theorem rowOk_all {l : List Int} (h : rowOk l = true) : (∀ x ∈ l, 0 ≤ x) ∧ (∀ x ∈ l, x ≤ 9999) := by
  simp only [rowOk, Bool.and_eq_true, List.all_eq_true, decide_eq_true_eq] at h
  exact ⟨fun x hx => (h.1 x hx).1, fun x hx => (h.1 x hx).2⟩
/-- Of two rows of one length: their ordinals compare as they do. -/
theorem RowsOrd_ev {a b : List Int} (ha : rowOk a = true) (hb : rowOk b = true) (h : a.length = b.length) : Ev (fun k => impl_OrdCompare.f k (rowOrd a) (rowOrd b)) (cmpG a b) := by
  have hla := rowOk_len ha
  have hlb := rowOk_len hb
  have ba := rowO_body a
  have bb := rowO_body b
  unfold rowOrd
  rw [if_pos ha, if_pos hb, ← rowO_cmp a b h (rowOk_all ha).1 (rowOk_all hb).1]
  exact OrdCompare_ev (rowO_Sm a (by omega) (rowOk_all ha).2) (rowO_Sm b (by omega) (rowOk_all hb).2) (by simp only [O.row, List.length_cons]; omega) (by simp only [O.row, List.length_cons]; omega)
theorem cmpG_swap : ∀ (a b : List Int), cmpG b a = -cmpG a b
  | [], [] => rfl
  | [], _ :: _ => rfl
  | _ :: _, [] => rfl
  | x :: a, y :: b => by
    rw [cmpG, cmpG]
    by_cases h1 : x < y
    · rw [if_pos h1, if_neg (by omega), if_pos (by omega)]; rfl
    · by_cases h2 : x > y
      · have h3 : y < x := h2
        simp only [if_neg h1, if_pos h2, if_pos h3]
      · rw [if_neg h1, if_neg h2, if_neg (by omega), if_neg (by omega)]; exact cmpG_swap a b
theorem cmpG_range : ∀ (a b : List Int), -1 ≤ cmpG a b ∧ cmpG a b ≤ 1
  | [], [] => by simp [cmpG]
  | [], _ :: _ => by simp [cmpG]
  | _ :: _, [] => by simp [cmpG]
  | x :: a, y :: b => by
    rw [cmpG]
    have := cmpG_range a b
    split
    · omega
    · split <;> omega

-- part: draw
/-! ### the reader of a code -/
def Bytes (b : List Int) : Prop := b.length ≤ 2000 ∧ ∀ x ∈ b, 0 ≤ x ∧ x ≤ 255
theorem u8_of_wf {x : Int} (h : (Lit.int .u8 x).wf = true) : 0 ≤ x ∧ x ≤ 255 := by
  simp [Lit.wf, IntKind.min, IntKind.max, IntKind.bits, IntKind.signed] at h
  omega
theorem open_ev (l : List Int) (h : ∀ x ∈ l, (Lit.int .u8 x).wf = true) : ∃ b, Bytes b ∧ spec_l20Open.f l = some (b, ((0 : Nat) : Int)) := by
  have h' : ∀ x ∈ l, 0 ≤ x ∧ x ≤ 255 := fun x hx => u8_of_wf (h x hx)
  unfold spec_l20Open.f
  by_cases hl : (l.length : Int) > 2000
  · rw [if_pos hl, if_pos (by omega)]
    exact ⟨l.take 2000, ⟨by simp; omega, fun x hx => h' x (List.mem_of_mem_take hx)⟩, rfl⟩
  · rw [if_neg hl]
    exact ⟨l, ⟨by omega, h'⟩, rfl⟩
theorem rd_byte {b : List Int} (hb : Bytes b) {i : Int} (h0 : 0 ≤ i) (h1 : i < (b.length : Int)) : 0 ≤ rd b i ∧ rd b i ≤ 255 := by
  obtain ⟨n, rfl⟩ := Int.eq_ofNat_of_zero_le h0
  rw [rd_get (show n < b.length by omega)]
  exact hb.2 _ (List.getElem_mem _)
theorem wraps_i64 (n : Int) (h0 : 0 ≤ n) (h1 : n < 2 ^ 62) : IntKind.i64.wrap n = n := by rw [IntKind.wrap_i64]; omega
theorem xor_pos (a b : Nat) (ha : a < 2 ^ 62) (hb : b < 2 ^ 62) : Go.bits .xor .i64 (a : Int) (b : Int) = ((a ^^^ b : Nat) : Int) := by
  have ha' : a % 2 ^ IntKind.i64.bits = a := Nat.mod_eq_of_lt (Nat.lt_of_lt_of_le ha (by decide))
  have hb' : b % 2 ^ IntKind.i64.bits = b := Nat.mod_eq_of_lt (Nat.lt_of_lt_of_le hb (by decide))
  simp only [bits, BitVec.ofInt_natCast, BitVec.toNat_xor, BitVec.toNat_ofNat, ha', hb']
  exact wraps_i64 _ (Int.natCast_nonneg _) (by exact_mod_cast Nat.xor_lt_two_pow ha hb)
theorem pick_sum (r1 r2 p t : Int) (h1 : 0 ≤ r1 ∧ r1 ≤ 255) (h2 : 0 ≤ r2 ∧ r2 ≤ 255) (hp : 0 ≤ p ∧ p ≤ 1000000000000) (ht : 0 ≤ t ∧ t ≤ 1000000000000) :
    wrap64 ((wrap64 ((wrap64 ((wrap64 ((wrap64 r1) * 131)) + (wrap64 ((wrap64 r2) * 1117)))) + (wrap64 (p * 29)))) + (wrap64 ((wrap64 t) * 53))) = r1 * 131 + r2 * 1117 + p * 29 + t * 53 := by
  rw [wrap_in (x := r1) (by omega) (by omega), wrap_in (x := r2) (by omega) (by omega), wrap_in (x := t) (by omega) (by omega), wrap_in (x := r1 * 131) (by omega) (by omega), wrap_in (x := r2 * 1117) (by omega) (by omega), wrap_in (x := p * 29) (by omega) (by omega), wrap_in (x := t * 53) (by omega) (by omega), wrap_in (x := r1 * 131 + r2 * 1117) (by omega) (by omega), wrap_in (x := r1 * 131 + r2 * 1117 + p * 29) (by omega) (by omega), wrap_in (by omega) (by omega)]
theorem pick_mod (x n : Int) (hx : 0 ≤ x) (hn : 0 < n) : 0 ≤ Int.tmod x n ∧ Int.tmod x n < n := by
  rw [Int.tmod_eq_emod_of_nonneg hx]
  exact ⟨Int.emod_nonneg _ (by omega), Int.emod_lt_of_pos _ hn⟩
theorem pick_ev (b : List Int) (hb : Bytes b) (p : Nat) (hp : p ≤ 100000000000) (n : Int) : ∃ v : Int, 0 ≤ v ∧ (v < n ∨ v = 0) ∧ Ev (fun k => spec_l20Rd_pick.f k b (p : Int) n) (v, ((p + 1 : Nat) : Int)) := by
  have e1 : wrap64 ((p : Int) + 1) = ((p + 1 : Nat) : Int) := by rw [wrap_in (by omega) (by omega)]; rfl
  have e2 : wrap64 (((p + 1 : Nat) : Int) - 1) = (p : Int) := by rw [wrap_in (by omega) (by omega)]; omega
  by_cases hn : n < 1
  · refine ⟨0, Int.le_refl _, .inr rfl, ?_⟩
    simp only [spec_l20Rd_pick.f, if_pos hn, e1]
    refine ev_s ?_
    simp only [spec_l20Rd_pick.j0, if_true]
    exact Ev.now _
  · by_cases hl : b.length = 0
    · refine ⟨0, Int.le_refl _, .inr rfl, ?_⟩
      simp only [spec_l20Rd_pick.f, if_neg hn, e1, hl]
      refine ev_s ?_
      simp only [spec_l20Rd_pick.j0]
      exact Ev.now _
    · by_cases hlt : (p : Int) < (b.length : Int)
      · have hby := rd_byte hb (show (0 : Int) ≤ (p : Int) by omega) hlt
        have hm := pick_mod (rd b p) n hby.1 (by omega)
        refine ⟨Int.tmod (rd b p) n, hm.1, .inl hm.2, ?_⟩
        simp only [spec_l20Rd_pick.f, if_neg hn, e1, show ((b.length : Int) == 0) = false by simp; exact fun h => hl (by rw [h]; rfl)]
        refine ev_s ?_
        simp only [spec_l20Rd_pick.j0, Bool.false_eq_true, if_false, e2, if_pos hlt, if_pos (show (0 : Int) ≤ (p : Int) by omega), if_neg (show ¬ n = 0 by omega), wrap_in (x := rd b p) (by omega) (by omega)]
        exact Ev.now _
      · have hl0 : ¬ ((b.length : Int) = 0) := by omega
        have m1 := pick_mod (p : Int) (b.length : Int) (by omega) (by omega)
        have m2 := pick_mod ((p : Int) * 7 + 3) (b.length : Int) (by omega) (by omega)
        have b1 := rd_byte hb m1.1 m1.2
        have b2 := rd_byte hb m2.1 m2.2
        have d1 : 0 ≤ Int.tdiv (p : Int) (b.length : Int) := Int.tdiv_nonneg (by omega) (by omega)
        have d2 : Int.tdiv (p : Int) (b.length : Int) ≤ (p : Int) := Int.tdiv_le_self _ (by omega)
        have hs := pick_sum _ _ (p : Int) (Int.tdiv (p : Int) (b.length : Int)) b1 b2 (by omega) (by omega)
        obtain ⟨X, hX⟩ : ∃ X : Int, X = rd b (Int.tmod (p : Int) (b.length : Int)) * 131 + rd b (Int.tmod ((p : Int) * 7 + 3) (b.length : Int)) * 1117 + (p : Int) * 29 + Int.tdiv (p : Int) (b.length : Int) * 53 := ⟨_, rfl⟩
        rw [← hX] at hs
        have x0 : 0 ≤ X ∧ X < 20000000000000 := by omega
        have t0 : 0 ≤ Int.tdiv X 64 := Int.tdiv_nonneg (by omega) (by omega)
        have t1 : Int.tdiv X 64 ≤ X := Int.tdiv_le_self _ (by omega)
        have hbit : 0 ≤ Go.bits .xor .i64 X (Int.tdiv X 64) := by
          obtain ⟨u, hu⟩ := Int.eq_ofNat_of_zero_le x0.1
          obtain ⟨v, hv⟩ := Int.eq_ofNat_of_zero_le t0
          rw [hv, hu]
          rw [xor_pos u v (by omega) (by omega)]
          omega
        have hm := pick_mod _ n hbit (by omega)
        refine ⟨_, hm.1, .inl hm.2, ?_⟩
        simp only [spec_l20Rd_pick.f, if_neg hn, e1, show ((b.length : Int) == 0) = false by simp; exact fun h => hl (by rw [h]; rfl)]
        refine ev_s ?_
        simp only [spec_l20Rd_pick.j0, Bool.false_eq_true, if_false, e2, if_neg hlt, if_neg hl0, wrap_in (x := (p : Int) * 7) (by omega) (by omega), wrap_in (x := (p : Int) * 7 + 3) (by omega) (by omega), if_pos m1.1, if_pos m1.2, if_pos m2.1, if_pos m2.2, if_neg (show ¬ n = 0 by omega), hs, wrap_in (x := Int.tdiv X 64) (by omega) (by omega)]
        exact Ev.now _
theorem odd_ev (b : List Int) (hb : Bytes b) (p : Nat) (hp : p ≤ 100000000000) (n : Int) (hn : n ≤ 1000000) : ∃ (v : Bool) (q : Nat), q ≤ p + 1 ∧ Ev (fun k => spec_l20Rd_odd.f k b (p : Int) n) (v, (q : Int)) := by
  by_cases h : n > 0
  · obtain ⟨v, h0, h1, he⟩ := pick_ev b hb p hp n
    refine ⟨(v == wrap64 (n - 1)), p + 1, Nat.le_refl _, ?_⟩
    simp only [spec_l20Rd_odd.f, if_pos h]
    refine Ev.bind he ?_
    exact Ev.now _
  · refine ⟨false, p, by omega, ?_⟩
    simp only [spec_l20Rd_odd.f, if_neg h]
    exact Ev.now _

-- part: l20Row
theorem l20Row_l0 (b : List Int) (hb : Bytes b) (long n : Int) (hlong : 1 ≤ long ∧ long ≤ 20) (hn : n ≤ 1000000) : ∀ (d i p : Nat) (x : List Int), (i : Int) + d = long → x.length = i → p + d ≤ 1000000000 →
    ∃ (out : List Int) (q : Nat), q ≤ p + d + 5 ∧ out.length ≤ 20 ∧ Ev (fun k => spec_l20Row.l0 k long n x (i : Int) b (p : Int)) (out, (q : Int)) := by
  intro d
  induction d with
  | succ d ih =>
    intro i p x h hx hp
    obtain ⟨v, _, _, he⟩ := pick_ev b hb p (by omega) 4
    obtain ⟨out, q, hq, ho, hE⟩ := ih (i + 1) (p + 1) (x ++ [v]) (by omega) (by simp; omega) (by omega)
    refine ⟨out, q, by omega, ho, ?_⟩
    refine ev_s ?_
    simp only [spec_l20Row.l0, if_pos (show (i : Int) < long by omega), show wrap64 ((i : Int) + 1) = ((i + 1 : Nat) : Int) by rw [wrap_in (by omega) (by omega)]; rfl]
    refine Ev.bind he ?_
    simp only [if_pos (show x.length < 17592186044416 by omega)]
    exact hE
  | zero =>
    intro i p x h hx hp
    obtain ⟨o, q, hq, he⟩ := odd_ev b hb p (by omega) n hn
    cases o with
    | false =>
      refine ⟨x, q, by omega, by omega, ?_⟩
      refine ev_s ?_
      simp only [spec_l20Row.l0, if_neg (show ¬ (i : Int) < long by omega)]
      refine Ev.bind he ?_
      simp only [Bool.false_eq_true, if_false]
      exact Ev.now _
    | true =>
      obtain ⟨v, _, _, he1⟩ := pick_ev b hb q (by omega) 3
      have hd : Ev (fun k => spec_l20Row.l0 k long n x (i : Int) b (p : Int)) = Ev (fun k => spec_l20Row.l0 k long n x (i : Int) b (p : Int)) := rfl
      by_cases h0 : v = 0
      · subst h0
        refine ⟨[], q + 1, by omega, by simp, ?_⟩
        refine ev_s ?_
        simp only [spec_l20Row.l0, if_neg (show ¬ (i : Int) < long by omega)]
        refine Ev.bind he ?_
        simp only [if_true]
        refine Ev.bind he1 ?_
        simp only [if_true]
        exact Ev.now _
      · by_cases h1 : v = 1
        · subst h1
          refine ⟨List.replicate 6 0, q + 1, by omega, by simp, ?_⟩
          refine ev_s ?_
          simp only [spec_l20Row.l0, if_neg (show ¬ (i : Int) < long by omega)]
          refine Ev.bind he ?_
          simp only [if_true]
          refine Ev.bind he1 ?_
          simp only [if_neg h0, if_true, if_pos (show 6 ≤ 35184372088832 by decide)]
          exact Ev.now _
        · obtain ⟨u, hu0, hu1, he2⟩ := pick_ev b hb (q + 1) (by omega) 2
          refine ⟨x.set (0 : Int).toNat (rd [(-1), 10000] u), q + 1 + 1, by omega, by simp; omega, ?_⟩
          refine ev_s ?_
          simp only [spec_l20Row.l0, if_neg (show ¬ (i : Int) < long by omega)]
          refine Ev.bind he ?_
          simp only [if_true]
          refine Ev.bind he1 ?_
          simp only [if_neg h0, if_neg h1, Option.bind_some]
          refine Ev.bind he2 ?_
          simp only [if_pos hu0, if_pos (show u < (([(-1), 10000] : List Int).length : Int) by simp; omega), if_pos (show (0 : Int) < (x.length : Int) by omega)]
          exact Ev.now _
theorem l20Row_ev (b : List Int) (hb : Bytes b) (p : Nat) (hp : p ≤ 100000000) (long n : Int) (hlong : 1 ≤ long ∧ long ≤ 20) (hn : n ≤ 1000000) :
    ∃ (out : List Int) (q : Nat), q ≤ p + 30 ∧ out.length ≤ 20 ∧ Ev (fun k => spec_l20Row.f k b (p : Int) long n) (out, (q : Int)) := by
  obtain ⟨out, q, hq, ho, hE⟩ := l20Row_l0 b hb long n hlong hn long.toNat 0 p [] (by omega) rfl (by omega)
  exact ⟨out, q, by omega, ho, hE⟩

-- part: alive
theorem alive_ev : Ev (fun k => laws_alive.f k) true := Ev.of laws_alive.mono (k := 20) (by decide +kernel)

-- part: law_FnRowDrop
theorem DrawRowDrop_l0 (b : List Int) (hb : Bytes b) (l : List Int) (hl : l.length ≤ 20) (a : Int) : ∀ (d p : Nat) (i : Int) (x : List Int), 0 ≤ i → (l.length : Int) ≤ i + d → x.length + d ≤ 100 → d ≤ 50 → p + d ≤ 100000 →
    ∃ x' : List Int, x'.length ≤ 101 ∧ Ev (fun k => spec_DrawRowDrop.l0 k l a x i b (p : Int)) (l, a, x') := by
  have fin : ∀ (p : Nat) (x : List Int), p ≤ 100000 → x.length ≤ 100 → ∃ x' : List Int, x'.length ≤ 101 ∧ Ev (fun k => ((spec_l20Rd_odd.f k b (p : Int) 14).bind fun bt440 => (if bt440.1 = true then (if x.length < 17592186044416 then (some (l, a, (x ++ [0]))) else (none)) else (some (l, a, x))))) (l, a, x') := by
    intro p x hp hx
    obtain ⟨o, q, _, he⟩ := odd_ev b hb p (by omega) 14 (by omega)
    cases o with
    | true =>
      refine ⟨x ++ [0], by simp; omega, Ev.bind he ?_⟩
      simp only [if_true, if_pos (show x.length < 17592186044416 by omega)]
      exact Ev.now _
    | false =>
      refine ⟨x, by omega, Ev.bind he ?_⟩
      simp only [Bool.false_eq_true, if_false]
      exact Ev.now _
  intro d
  induction d with
  | zero =>
    intro p i x h0 h1 h2 h3 h4
    obtain ⟨x', hx', hE⟩ := fin p x (by omega) (by omega)
    refine ⟨x', hx', ev_s ?_⟩
    simp only [spec_DrawRowDrop.l0, if_neg (show ¬ (i < (l.length : Int)) by omega)]
    exact hE
  | succ d ih =>
    intro p i x h0 h1 h2 h3 h4
    by_cases hi : i < (l.length : Int)
    · by_cases ha : a ≥ 0
      · obtain ⟨v, _, _, he⟩ := pick_ev b hb p (by omega) 9
        obtain ⟨x', hx', hE⟩ := ih (p + 1) (i + 1) (x ++ [v]) (by omega) (by omega) (by simp; omega) (by omega) (by omega)
        refine ⟨x', hx', ev_s ?_⟩
        simp only [spec_DrawRowDrop.l0, if_pos hi, if_pos ha, show wrap64 (i + 1) = i + 1 from wrap_in (by omega) (by omega)]
        refine Ev.bind he ?_
        simp only [if_pos (show x.length < 17592186044416 by omega)]
        exact hE
      · obtain ⟨x', hx', hE⟩ := fin p x (by omega) (by omega)
        refine ⟨x', hx', ev_s ?_⟩
        simp only [spec_DrawRowDrop.l0, if_pos hi, if_neg ha]
        exact hE
    · obtain ⟨x', hx', hE⟩ := fin p x (by omega) (by omega)
      refine ⟨x', hx', ev_s ?_⟩
      simp only [spec_DrawRowDrop.l0, if_neg hi]
      exact hE
theorem DrawRowDrop_ev (l : List Int) (h : ∀ x ∈ l, (Lit.int .u8 x).wf = true) : ∃ (r : List Int) (a : Int) (x : List Int), r.length ≤ 20 ∧ x.length ≤ 101 ∧ Ev (fun k => spec_DrawRowDrop.f k l) (r, a, x) := by
  obtain ⟨b, hb, ho⟩ := open_ev l h
  obtain ⟨v, hv0, hv1, he⟩ := pick_ev b hb 0 (by omega) 4
  obtain ⟨out, q, hq, hl, hE⟩ := l20Row_ev b hb 1 (by omega) (1 + v) 12 (by omega) (by omega)
  obtain ⟨v2, h20, h21, he2⟩ := pick_ev b hb q (by omega) ((out.length : Int) + 1)
  obtain ⟨v3, h30, h31, he3⟩ := pick_ev b hb (q + 1) (by omega) 20
  have hd : Int.tdiv v3 19 = v3 / 19 := Int.tdiv_eq_ediv_of_nonneg h30
  have hd2 : 0 ≤ Int.tdiv v3 19 ∧ Int.tdiv v3 19 ≤ 1 := by rw [hd]; omega
  obtain ⟨x', hx', hE2⟩ := DrawRowDrop_l0 b hb out hl (v2 - Int.tdiv v3 19) 21 (q + 1 + 1) (v2 - Int.tdiv v3 19 + 1) [] (by omega) (by omega) (by simp) (by omega) (by omega)
  refine ⟨out, v2 - Int.tdiv v3 19, x', hl, hx', ?_⟩
  simp only [spec_DrawRowDrop.f, ho, Option.bind_some]
  refine Ev.bind he ?_
  simp only [wrap_in (x := 1 + v) (by omega) (by omega)]
  refine Ev.bind hE ?_
  simp only [wrap_in (x := (out.length : Int) + 1) (by omega) (by omega)]
  refine Ev.bind he2 ?_
  refine Ev.bind he3 ?_
  simp only [wrap_in (x := Int.tdiv v3 19) (by omega) (by omega), wrap_in (x := v2 - Int.tdiv v3 19) (by omega) (by omega), wrap_in (x := v2 - Int.tdiv v3 19 + 1) (by omega) (by omega)]
  exact hE2
theorem cmpG_drop_lt : ∀ (l : List Int) (a : Nat) (x : List Int), a < l.length → cmpG (dropTo l a x) l = -1
  | [], _, _, h => by simp at h
  | y :: l, 0, x, _ => by
    have e : dropTo (y :: l) 0 x = (y - 1) :: x := rfl
    rw [e, cmpG, if_pos (by omega)]
  | y :: l, a + 1, x, h => by
    simp only [List.length_cons] at h
    have e : dropTo (y :: l) (a + 1) x = y :: dropTo l a x := by
      simp only [dropTo, List.take_succ_cons, List.cons_append]
      rw [rd_get (show a + 1 < (y :: l).length by simp; omega), rd_get (show a < l.length by omega), List.getElem_cons_succ]
    rw [e, cmpG, if_neg (by omega), if_neg (by omega)]
    exact cmpG_drop_lt l a x (by omega)
theorem FnRowDrop : laws_FnRowDrop.Pure := by
  intro l0 _ _ hw
  refine Ev.rounds ?_
  simp only [laws_FnRowDrop.f]
  by_cases hb : (l0.length : Int) > 1048576
  · simp only [if_pos hb]; exact Ev.now _
  · simp only [if_neg hb]
    obtain ⟨l, a, x, hl, hx, he⟩ := DrawRowDrop_ev l0 hw
    have hlen := rowDrop_length l a x
    refine Ev.bind he ?_
    refine Ev.bind (impl_RowDrop_ev l a x (by omega) (by omega)) ?_
    refine Ev.bind (spec_RowDrop_ev l a x (by omega) (by omega)) ?_
    refine Ev.bind (ev_eq (sameInts_ev (rowDrop l a x) (rowDrop l a x) (by omega)) (by simp) : Ev _ true) ?_
    simp only [if_true, bne_self_eq_false]
    refine ev_s ?_
    cases h : rowDropOk l a x with
    | false =>
      have e : rowDrop l a x = [] := by rw [rowDrop, h]; rfl
      simp only [laws_FnRowDrop.j0, Bool.false_eq_true, if_false, e, List.length_nil, if_pos (show ((0 : Nat) : Int) = 0 from rfl)]
      exact Ev.bind alive_ev (Ev.now _)
    | true =>
      have e : rowDrop l a x = dropTo l a.toNat x := by rw [rowDrop, if_pos h]
      simp only [rowDropOk, Bool.and_eq_true, decide_eq_true_eq] at h
      obtain ⟨⟨h1, h2, h3, _, h5⟩, h6⟩ := h
      have hal : a.toNat < l.length := by omega
      have hll : (dropTo l a.toNat x).length = l.length := by rw [dropTo_length hal]; omega
      have hlt := cmpG_drop_lt l a.toNat x hal
      simp only [laws_FnRowDrop.j0, Bool.false_eq_true, if_false, if_true, e]
      refine Ev.bind (ev_eq (impl_RowValid_ev _ (by omega)) h6) ?_
      simp only [if_true]
      refine Ev.bind (impl_RowCompare_ev (dropTo l a.toNat x) l (by omega) (by omega)) ?_
      have hv : rowCmp (dropTo l a.toNat x) l = -1 := by rw [rowCmp, if_pos ⟨h6, h1, hll⟩, hlt]
      simp only [hv, if_true]
      refine Ev.bind (impl_RowOrd_ev (dropTo l a.toNat x) (by omega)) ?_
      refine Ev.bind (impl_RowOrd_ev l (by omega)) ?_
      refine Ev.bind (RowsOrd_ev h6 h1 hll) ?_
      exact ev_now (by rw [hlt]; rfl)

end Go.Proofs.Ytpnmaimmmcgcoaa.Pure

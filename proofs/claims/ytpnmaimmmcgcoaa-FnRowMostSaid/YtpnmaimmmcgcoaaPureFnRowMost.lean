/- The law FnRowMost returns true for every input that the statement lets in; no condition of our own. -/
import Derived.Test.YtpnmaimmmcgcoaaQx7
namespace Go.Proofs.Ytpnmaimmmcgcoaa.Pure
open Go.RowKit Go.Proofs.Ytpnmaimmmcgcoaa.Q Go.Proofs.YtpnmaimmmcgcoaaW.PrintWords Go.Proofs.YtpnmaimmmcgcoaaW.PrintLast
set_option linter.unusedVariables false
set_option linter.unusedSimpArgs false

-- part: base
/-! ### words of mine -/
theorem ev_s {α : Type} {g : Nat → Option α} {r : α} (h : Ev (fun k => g (k + 1)) r) : Ev g r := Ev.step (fun _ => rfl) h
theorem ev_eq {α : Type} {g : Nat → Option α} {r q : α} (h : Ev g r) (e : r = q) : Ev g q := e ▸ h
theorem ev_now {α : Type} {r q : α} (e : r = q) : Ev (fun _ => some r) q := e ▸ Ev.now r
theorem wrap_in {x : Int} (h0 : -9223372036854775808 ≤ x) (h1 : x ≤ 9223372036854775807) : wrap64 x = x := by unfold wrap64; omega
theorem rd_eq (xs : List Int) (i : Nat) : rd xs (i : Int) = xs.getD i 0 := by simp [rd]
theorem rd_get {xs : List Int} {i : Nat} (h : i < xs.length) : rd xs (i : Int) = xs[i] := by simp [rd, h]
theorem wrap_nat2 (a b : Nat) (h : a + b < 4611686018427387904) : wrap64 ((a : Int) + (b : Int)) = ((a + b : Nat) : Int) := by rw [wrap_in (by omega) (by omega)]; omega
theorem ev_const {α : Type} {x : Option α} {a : α} (h : x = some a) : Ev (fun _ => x) a := by subst h; exact Ev.now a

-- part: l1In
theorem l1In_eq (n lo hi : Int) : spec_l1In.f n lo hi = some (decide (lo ≤ n ∧ n ≤ hi)) := by
  unfold spec_l1In.f
  by_cases h : n ≥ lo
  · rw [if_pos h]; simp [show lo ≤ n from h]
  · rw [if_neg h]; simp [show ¬ lo ≤ n from h]

-- part: RowValid
/-- What both of them say. -/
def rowOk (l : List Int) : Bool := l.all (fun x => decide (0 ≤ x ∧ x ≤ 9999)) && decide (1 ≤ l.length ∧ l.length ≤ 5)
theorem rowOk_drop {l : List Int} {i : Nat} (h : i < l.length) : (l.drop i).all (fun x => decide (0 ≤ x ∧ x ≤ 9999)) = (decide (0 ≤ l[i] ∧ l[i] ≤ 9999) && (l.drop (i + 1)).all (fun x => decide (0 ≤ x ∧ x ≤ 9999))) := by
  rw [List.drop_eq_getElem_cons h]; rfl
theorem spec_RowValid_l0 (l : List Int) (hb : l.length ≤ 140737488351232) : ∀ (d i : Nat), i + d = l.length → Ev (fun k => spec_RowValid.l0 k l i) ((l.drop i).all (fun x => decide (0 ≤ x ∧ x ≤ 9999)) && decide (1 ≤ l.length ∧ l.length ≤ 5)) := by
  intro d
  induction d with
  | zero =>
    intro i h
    refine ev_s ?_
    simp only [spec_RowValid.l0, l1In_eq, Option.bind_some]
    simp only [if_neg (show ¬ ((i : Int) < (l.length : Int)) by omega)]
    rw [List.drop_of_length_le (by omega)]
    refine ev_now ?_
    simp only [List.all_nil, Bool.true_and]
    exact decide_eq_decide.mpr (by omega)
  | succ d ih =>
    intro i h
    refine ev_s ?_
    simp only [spec_RowValid.l0, l1In_eq, Option.bind_some]
    simp only [if_pos (show (i : Int) < (l.length : Int) by omega), if_pos (show (0 : Int) ≤ (i : Int) by omega), show wrap64 ((i : Int) + 1) = ((i + 1 : Nat) : Int) by rw [wrap_in (by omega) (by omega)]; rfl]
    rw [rd_get (show i < l.length by omega), rowOk_drop (by omega)]
    by_cases hc : 0 ≤ l[i] ∧ l[i] ≤ 9999
    · simp only [decide_eq_true hc, Bool.true_and, if_true]
      exact ih (i + 1) (by omega)
    · simp only [decide_eq_false hc, Bool.false_and, Bool.false_eq_true, if_false]
      exact Ev.now _
theorem spec_RowValid_ev (l : List Int) (hb : l.length ≤ 140737488351232) : Ev (fun k => spec_RowValid.f k l) (rowOk l) := spec_RowValid_l0 l hb l.length 0 (by omega)
theorem impl_RowValid_l0 (l : List Int) (hb : l.length ≤ 140737488351232) : ∀ (d i : Nat), i + d = l.length → Ev (fun k => impl_RowValid.l0 k l l (l.length : Int) i) ((l.drop i).all (fun x => decide (0 ≤ x ∧ x ≤ 9999)) && decide (1 ≤ l.length ∧ l.length ≤ 5)) := by
  intro d
  induction d with
  | zero =>
    intro i h
    refine ev_s ?_
    simp only [impl_RowValid.l0]
    simp only [if_neg (show ¬ ((i : Int) < (l.length : Int)) by omega)]
    rw [List.drop_of_length_le (by omega)]
    by_cases hc : (l.length : Int) ≥ 1
    · simp only [if_pos hc]
      refine ev_now ?_
      simp only [List.all_nil, Bool.true_and]
      exact decide_eq_decide.mpr (by omega)
    · simp only [if_neg hc]
      refine ev_now ?_
      simp only [List.all_nil, Bool.true_and]
      exact (decide_eq_false (by omega)).symm
  | succ d ih =>
    intro i h
    refine ev_s ?_
    simp only [impl_RowValid.l0]
    simp only [if_pos (show (i : Int) < (l.length : Int) by omega), if_pos (show (0 : Int) ≤ (i : Int) by omega), show wrap64 ((i : Int) + 1) = ((i + 1 : Nat) : Int) by rw [wrap_in (by omega) (by omega)]; rfl]
    rw [rd_get (show i < l.length by omega), rowOk_drop (by omega)]
    by_cases h1 : l[i] < 0
    · simp only [if_pos h1, decide_eq_false (show ¬ (0 ≤ l[i] ∧ l[i] ≤ 9999) by omega), Bool.false_and]
      exact Ev.now _
    · by_cases h2 : l[i] > 9999
      · simp only [if_neg h1, if_pos h2, decide_eq_false (show ¬ (0 ≤ l[i] ∧ l[i] ≤ 9999) by omega), Bool.false_and]
        exact Ev.now _
      · simp only [if_neg h1, if_neg h2, decide_eq_true (show (0 ≤ l[i] ∧ l[i] ≤ 9999) by omega), Bool.true_and]
        exact ih (i + 1) (by omega)
theorem impl_RowValid_ev (l : List Int) (hb : l.length ≤ 140737488351232) : Ev (fun k => impl_RowValid.f k l) (rowOk l) := impl_RowValid_l0 l hb l.length 0 (by omega)

-- part: RowMost
/-- What both of them reckon. -/
def mostG (m : Int) : List Int → Int → Int
  | [], s => s
  | x :: r, s => if x > m then -1 else mostG m r (wrap64 ((wrap64 (s * (wrap64 (m + 1)))) + x))
theorem mostG_drop {m : Int} {l : List Int} {i : Nat} (h : i < l.length) (s : Int) : mostG m (l.drop i) s = if l[i] > m then -1 else mostG m (l.drop (i + 1)) (wrap64 ((wrap64 (s * (wrap64 (m + 1)))) + l[i])) := by
  rw [List.drop_eq_getElem_cons h]; rfl
theorem spec_RowMost_l0 (l : List Int) (m : Int) (hb : l.length ≤ 140737488351232) : ∀ (d i : Nat) (s : Int), i + d = l.length → Ev (fun k => spec_RowMost.l0 k l m s i) (mostG m (l.drop i) s) := by
  intro d
  induction d with
  | zero =>
    intro i s h
    refine ev_s ?_
    simp only [spec_RowMost.l0, if_neg (show ¬ ((i : Int) < (l.length : Int)) by omega)]
    rw [List.drop_of_length_le (by omega)]
    exact Ev.now _
  | succ d ih =>
    intro i s h
    refine ev_s ?_
    simp only [spec_RowMost.l0, if_pos (show (i : Int) < (l.length : Int) by omega), if_pos (show (0 : Int) ≤ (i : Int) by omega), show wrap64 ((i : Int) + 1) = ((i + 1 : Nat) : Int) by rw [wrap_in (by omega) (by omega)]; rfl]
    rw [rd_get (show i < l.length by omega), mostG_drop (by omega)]
    by_cases h1 : l[i] > m
    · simp only [if_pos h1]; exact Ev.now _
    · simp only [if_neg h1]; exact ih (i + 1) _ (by omega)
theorem impl_RowMost_l0 (l : List Int) (m : Int) (hb : l.length ≤ 140737488351232) : ∀ (d i : Nat) (s : Int), i + d = l.length → Ev (fun k => impl_RowMost.l0 k m s l (l.length : Int) i) (mostG m (l.drop i) s) := by
  intro d
  induction d with
  | zero =>
    intro i s h
    refine ev_s ?_
    simp only [impl_RowMost.l0, if_neg (show ¬ ((i : Int) < (l.length : Int)) by omega)]
    rw [List.drop_of_length_le (by omega)]
    exact Ev.now _
  | succ d ih =>
    intro i s h
    refine ev_s ?_
    simp only [impl_RowMost.l0, if_pos (show (i : Int) < (l.length : Int) by omega), if_pos (show (0 : Int) ≤ (i : Int) by omega), show wrap64 ((i : Int) + 1) = ((i + 1 : Nat) : Int) by rw [wrap_in (by omega) (by omega)]; rfl]
    rw [rd_get (show i < l.length by omega), mostG_drop (by omega)]
    by_cases h1 : l[i] > m
    · simp only [if_pos h1]; exact Ev.now _
    · simp only [if_neg h1]; exact ih (i + 1) _ (by omega)
def rowMost (l : List Int) (m : Int) : Int := if rowOk l = true ∧ 0 ≤ m ∧ m ≤ 9 then mostG m l 0 else -1
theorem spec_RowMost_ev (l : List Int) (m : Int) (hb : l.length ≤ 140737488351232) : Ev (fun k => spec_RowMost.f k l m) (rowMost l m) := by
  simp only [spec_RowMost.f, l1In_eq, Option.bind_some]
  refine Ev.bind (spec_RowValid_ev l hb) ?_
  unfold rowMost
  cases h : rowOk l with
  | false =>
    simp only [Bool.false_eq_true, if_false, false_and]
    refine ev_s ?_
    simp only [spec_RowMost.j0, if_true]
    exact Ev.now _
  | true =>
    simp only [if_true, true_and]
    refine ev_s ?_
    by_cases hm : 0 ≤ m ∧ m ≤ 9
    · simp only [spec_RowMost.j0, decide_eq_true hm, Bool.not_true, Bool.false_eq_true, if_false, if_pos hm]
      exact spec_RowMost_l0 l m hb l.length 0 0 (by omega)
    · simp only [spec_RowMost.j0, decide_eq_false hm, Bool.not_false, if_true, if_neg hm]
      exact Ev.now _
theorem impl_RowMost_ev (l : List Int) (m : Int) (hb : l.length ≤ 140737488351232) : Ev (fun k => impl_RowMost.f k l m) (rowMost l m) := by
  simp only [impl_RowMost.f]
  refine Ev.bind (impl_RowValid_ev l hb) ?_
  unfold rowMost
  cases h : rowOk l with
  | false =>
    simp only [Bool.false_eq_true, if_false, false_and]
    refine ev_s ?_
    simp only [impl_RowMost.j0, if_true]
    exact Ev.now _
  | true =>
    simp only [if_true, true_and]
    by_cases h0 : m < 0
    · simp only [if_pos h0, if_neg (show ¬ (0 ≤ m ∧ m ≤ 9) by omega)]
      refine ev_s ?_
      simp only [impl_RowMost.j0, if_true]
      exact Ev.now _
    · simp only [if_neg h0]
      refine ev_s ?_
      by_cases h9 : m > 9
      · simp only [impl_RowMost.j0, decide_eq_true h9, if_true, if_neg (show ¬ (0 ≤ m ∧ m ≤ 9) by omega)]
        exact Ev.now _
      · simp only [impl_RowMost.j0, decide_eq_false h9, Bool.false_eq_true, if_false, if_pos (show (0 ≤ m ∧ m ≤ 9) by omega)]
        exact impl_RowMost_l0 l m hb l.length 0 0 (by omega)

-- part: RowDrop
def dropTo (l : List Int) (at_ : Nat) (list : List Int) : List Int := l.take at_ ++ (rd l (at_ : Int) - 1) :: list
def rowDropOk (l : List Int) (a : Int) (list : List Int) : Bool := rowOk l && decide (0 ≤ a ∧ a < (l.length : Int) ∧ rd l a ≠ 0 ∧ (list.length : Int) = (l.length : Int) - 1 - a) && rowOk (dropTo l a.toNat list)
def rowDrop (l : List Int) (a : Int) (list : List Int) : List Int := if rowDropOk l a list = true then dropTo l a.toNat list else []
theorem rowOk_rd {l : List Int} (h : rowOk l = true) {i : Nat} (hi : i < l.length) : 0 ≤ rd l (i : Int) ∧ rd l (i : Int) ≤ 9999 := by
  rw [rd_get hi]
  simp only [rowOk, Bool.and_eq_true, List.all_eq_true, decide_eq_true_eq] at h
  exact h.1 l[i] (List.getElem_mem hi)
theorem rowOk_len5 {l : List Int} (h : rowOk l = true) : 1 ≤ l.length ∧ l.length ≤ 5 := by simp [rowOk] at h; exact h.2
theorem dropTo_length {l : List Int} {a : Nat} (ha : a < l.length) (list : List Int) : (dropTo l a list).length = a + 1 + list.length := by
  simp [dropTo]; omega
theorem impl_RowDrop_ev (l : List Int) (a : Int) (list : List Int) (hl : l.length ≤ 140737488351232) (hs : list.length ≤ 1048576) : Ev (fun k => impl_RowDrop.f k l a list) (rowDrop l a list, rowDropOk l a list) := by
  have bad : ∀ b : Bool, b = true → rowDropOk l a list = false → Ev (fun k => impl_RowDrop.j0 k l a list b) (rowDrop l a list, rowDropOk l a list) := by
    intro b hb h0; subst hb
    refine ev_s ?_
    simp only [impl_RowDrop.j0, if_true]
    exact ev_now (by simp [rowDrop, h0])
  simp only [impl_RowDrop.f]
  refine Ev.bind (impl_RowValid_ev l hl) ?_
  cases h : rowOk l with
  | false =>
    simp only [Bool.false_eq_true, if_false]
    exact bad _ rfl (by simp [rowDropOk, h])
  | true =>
    have hl5 := rowOk_len5 h
    simp only [if_true]
    by_cases h1 : a < 0
    · simp only [if_pos h1]
      exact bad _ rfl (by simp only [rowDropOk, h, Bool.true_and, decide_eq_false (show ¬ (0 ≤ a ∧ a < (l.length : Int) ∧ rd l a ≠ 0 ∧ (list.length : Int) = (l.length : Int) - 1 - a) from fun hh => by omega), Bool.false_and])
    · by_cases h2 : a ≥ (l.length : Int)
      · simp only [if_neg h1, if_pos h2]
        exact bad _ rfl (by simp only [rowDropOk, h, Bool.true_and, decide_eq_false (show ¬ (0 ≤ a ∧ a < (l.length : Int) ∧ rd l a ≠ 0 ∧ (list.length : Int) = (l.length : Int) - 1 - a) from fun hh => by omega), Bool.false_and])
      · obtain ⟨n, rfl⟩ := Int.eq_ofNat_of_zero_le (show 0 ≤ a by omega)
        have hn : n < l.length := by omega
        have hr := rowOk_rd h hn
        simp only [if_neg h1, if_neg h2, if_pos (show (0 : Int) ≤ (n : Int) by omega), if_pos (show (n : Int) < (l.length : Int) by omega)]
        by_cases h3 : rd l (n : Int) = 0
        · simp only [if_pos h3]
          exact bad _ rfl (by simp only [rowDropOk, h, Bool.true_and, decide_eq_false (show ¬ (0 ≤ (n : Int) ∧ (n : Int) < (l.length : Int) ∧ rd l (n : Int) ≠ 0 ∧ (list.length : Int) = (l.length : Int) - 1 - (n : Int)) from fun hh => hh.2.2.1 h3), Bool.false_and])
        · have e : wrap64 ((wrap64 ((l.length : Int) - 1)) - (n : Int)) = (l.length : Int) - 1 - (n : Int) := by rw [wrap_in (x := (l.length : Int) - 1) (by omega) (by omega), wrap_in (by omega) (by omega)]
          simp only [if_neg h3, e]
          by_cases h4 : (list.length : Int) = (l.length : Int) - 1 - (n : Int)
          · have hd : decide (0 ≤ (n : Int) ∧ (n : Int) < (l.length : Int) ∧ rd l (n : Int) ≠ 0 ∧ (list.length : Int) = (l.length : Int) - 1 - (n : Int)) = true := decide_eq_true ⟨by omega, by omega, h3, h4⟩
            have hne : ((list.length : Int) != (l.length : Int) - 1 - (n : Int)) = false := by rw [h4]; simp
            have ht : (l.take (n + 1)).length = n + 1 := by simp; omega
            have htn : l.take (n + 1) = l.take n ++ [rd l (n : Int)] := by rw [List.take_succ_eq_append_getElem hn, rd_get hn]
            have hrd : rd (l.take (n + 1) ++ list) (n : Int) = rd l (n : Int) := by
              rw [rd_get (by simp; omega), rd_get hn, List.getElem_append_left (by omega), List.getElem_take]
            have hset : (l.take (n + 1) ++ list).set n (rd l (n : Int) - 1) = dropTo l n list := by
              rw [htn, List.append_assoc]
              have hlen : (l.take n).length = n := by simp; omega
              rw [List.set_append, if_neg (by omega), hlen, Nat.sub_self]
              rfl
            refine ev_s ?_
            simp only [impl_RowDrop.j0, hne, Bool.false_eq_true, if_false, show wrap64 ((n : Int) + 1) = ((n + 1 : Nat) : Int) by rw [wrap_in (by omega) (by omega)]; rfl, if_pos (show (0 : Int) ≤ ((n + 1 : Nat) : Int) by omega), if_pos (show ((n + 1 : Nat) : Int) ≤ (l.length : Int) by omega), Int.toNat_natCast, slices_Clone_int_int.f, ht, if_pos (show n + 1 < 17592186044416 by omega), Option.bind_some, if_pos (show n + 1 + list.length < 17592186044416 by omega), if_pos (show (0 : Int) ≤ (n : Int) by omega), List.length_append, if_pos (show (n : Int) < ((n + 1 + list.length : Nat) : Int) by omega), hrd, show wrap64 (rd l (n : Int) - 1) = rd l (n : Int) - 1 from wrap_in (by omega) (by omega), hset]
            refine Ev.bind (impl_RowValid_ev (dropTo l n list) (by rw [dropTo_length hn]; omega)) ?_
            have hok : rowDropOk l (n : Int) list = rowOk (dropTo l n list) := by simp only [rowDropOk, h, hd, Bool.true_and, Int.toNat_natCast]
            cases h5 : rowOk (dropTo l n list) with
            | true => simp only [if_true]; exact ev_now (by rw [rowDrop, hok, h5]; simp)
            | false => simp only [Bool.false_eq_true, if_false]; exact ev_now (by rw [rowDrop, hok, h5]; simp)
          · exact bad _ (by rw [bne_iff_ne]; exact h4) (by simp only [rowDropOk, h, Bool.true_and, decide_eq_false (show ¬ (0 ≤ (n : Int) ∧ (n : Int) < (l.length : Int) ∧ rd l (n : Int) ≠ 0 ∧ (list.length : Int) = (l.length : Int) - 1 - (n : Int)) from fun hh => h4 hh.2.2.2), Bool.false_and])
theorem rowDrop_length (l : List Int) (a : Int) (list : List Int) : (rowDrop l a list).length ≤ 5 := by
  unfold rowDrop; split
  · rename_i h
    simp only [rowDropOk, Bool.and_eq_true] at h
    exact (rowOk_len5 h.2).2
  · simp

-- part: draw
/-! ### the reader of a code -/
def Bytes (b : List Int) : Prop := b.length ≤ 2000 ∧ ∀ x ∈ b, 0 ≤ x ∧ x ≤ 255
theorem u8_of_wf {x : Int} (h : (Lit.int .u8 x).wf = true) : 0 ≤ x ∧ x ≤ 255 := by
  simp [Lit.wf, IntKind.min, IntKind.max, IntKind.bits, IntKind.signed] at h
  omega
theorem open_ev (l : List Int) (h : ∀ x ∈ l, (Lit.int .u8 x).wf = true) : ∃ b, Bytes b ∧ spec_l20Open.f l = some (b, ((0 : Nat) : Int)) := by
  have h' : ∀ x ∈ l, 0 ≤ x ∧ x ≤ 255 := fun x hx => u8_of_wf (h x hx)
  unfold spec_l20Open.f
  by_cases hl : (l.length : Int) > 2000
  · rw [if_pos hl, if_pos (by omega)]
    exact ⟨l.take 2000, ⟨by simp; omega, fun x hx => h' x (List.mem_of_mem_take hx)⟩, rfl⟩
  · rw [if_neg hl]
    exact ⟨l, ⟨by omega, h'⟩, rfl⟩
theorem rd_byte {b : List Int} (hb : Bytes b) {i : Int} (h0 : 0 ≤ i) (h1 : i < (b.length : Int)) : 0 ≤ rd b i ∧ rd b i ≤ 255 := by
  obtain ⟨n, rfl⟩ := Int.eq_ofNat_of_zero_le h0
  rw [rd_get (show n < b.length by omega)]
  exact hb.2 _ (List.getElem_mem _)
theorem wraps_i64 (n : Int) (h0 : 0 ≤ n) (h1 : n < 2 ^ 62) : IntKind.i64.wrap n = n := by rw [IntKind.wrap_i64]; omega
theorem xor_pos (a b : Nat) (ha : a < 2 ^ 62) (hb : b < 2 ^ 62) : Go.bits .xor .i64 (a : Int) (b : Int) = ((a ^^^ b : Nat) : Int) := by
  have ha' : a % 2 ^ IntKind.i64.bits = a := Nat.mod_eq_of_lt (Nat.lt_of_lt_of_le ha (by decide))
  have hb' : b % 2 ^ IntKind.i64.bits = b := Nat.mod_eq_of_lt (Nat.lt_of_lt_of_le hb (by decide))
  simp only [bits, BitVec.ofInt_natCast, BitVec.toNat_xor, BitVec.toNat_ofNat, ha', hb']
  exact wraps_i64 _ (Int.natCast_nonneg _) (by exact_mod_cast Nat.xor_lt_two_pow ha hb)
theorem pick_sum (r1 r2 p t : Int) (h1 : 0 ≤ r1 ∧ r1 ≤ 255) (h2 : 0 ≤ r2 ∧ r2 ≤ 255) (hp : 0 ≤ p ∧ p ≤ 1000000000000) (ht : 0 ≤ t ∧ t ≤ 1000000000000) :
    wrap64 ((wrap64 ((wrap64 ((wrap64 ((wrap64 r1) * 131)) + (wrap64 ((wrap64 r2) * 1117)))) + (wrap64 (p * 29)))) + (wrap64 ((wrap64 t) * 53))) = r1 * 131 + r2 * 1117 + p * 29 + t * 53 := by
  rw [wrap_in (x := r1) (by omega) (by omega), wrap_in (x := r2) (by omega) (by omega), wrap_in (x := t) (by omega) (by omega), wrap_in (x := r1 * 131) (by omega) (by omega), wrap_in (x := r2 * 1117) (by omega) (by omega), wrap_in (x := p * 29) (by omega) (by omega), wrap_in (x := t * 53) (by omega) (by omega), wrap_in (x := r1 * 131 + r2 * 1117) (by omega) (by omega), wrap_in (x := r1 * 131 + r2 * 1117 + p * 29) (by omega) (by omega), wrap_in (by omega) (by omega)]
theorem pick_mod (x n : Int) (hx : 0 ≤ x) (hn : 0 < n) : 0 ≤ Int.tmod x n ∧ Int.tmod x n < n := by
  rw [Int.tmod_eq_emod_of_nonneg hx]
  exact ⟨Int.emod_nonneg _ (by omega), Int.emod_lt_of_pos _ hn⟩
theorem pick_ev (b : List Int) (hb : Bytes b) (p : Nat) (hp : p ≤ 100000000000) (n : Int) : ∃ v : Int, 0 ≤ v ∧ (v < n ∨ v = 0) ∧ Ev (fun k => spec_l20Rd_pick.f k b (p : Int) n) (v, ((p + 1 : Nat) : Int)) := by
  have e1 : wrap64 ((p : Int) + 1) = ((p + 1 : Nat) : Int) := by rw [wrap_in (by omega) (by omega)]; rfl
  have e2 : wrap64 (((p + 1 : Nat) : Int) - 1) = (p : Int) := by rw [wrap_in (by omega) (by omega)]; omega
  by_cases hn : n < 1
  · refine ⟨0, Int.le_refl _, .inr rfl, ?_⟩
    simp only [spec_l20Rd_pick.f, if_pos hn, e1]
    refine ev_s ?_
    simp only [spec_l20Rd_pick.j0, if_true]
    exact Ev.now _
  · by_cases hl : b.length = 0
    · refine ⟨0, Int.le_refl _, .inr rfl, ?_⟩
      simp only [spec_l20Rd_pick.f, if_neg hn, e1, hl]
      refine ev_s ?_
      simp only [spec_l20Rd_pick.j0]
      exact Ev.now _
    · by_cases hlt : (p : Int) < (b.length : Int)
      · have hby := rd_byte hb (show (0 : Int) ≤ (p : Int) by omega) hlt
        have hm := pick_mod (rd b p) n hby.1 (by omega)
        refine ⟨Int.tmod (rd b p) n, hm.1, .inl hm.2, ?_⟩
        simp only [spec_l20Rd_pick.f, if_neg hn, e1, show ((b.length : Int) == 0) = false by simp; exact fun h => hl (by rw [h]; rfl)]
        refine ev_s ?_
        simp only [spec_l20Rd_pick.j0, Bool.false_eq_true, if_false, e2, if_pos hlt, if_pos (show (0 : Int) ≤ (p : Int) by omega), if_neg (show ¬ n = 0 by omega), wrap_in (x := rd b p) (by omega) (by omega)]
        exact Ev.now _
      · have hl0 : ¬ ((b.length : Int) = 0) := by omega
        have m1 := pick_mod (p : Int) (b.length : Int) (by omega) (by omega)
        have m2 := pick_mod ((p : Int) * 7 + 3) (b.length : Int) (by omega) (by omega)
        have b1 := rd_byte hb m1.1 m1.2
        have b2 := rd_byte hb m2.1 m2.2
        have d1 : 0 ≤ Int.tdiv (p : Int) (b.length : Int) := Int.tdiv_nonneg (by omega) (by omega)
        have d2 : Int.tdiv (p : Int) (b.length : Int) ≤ (p : Int) := Int.tdiv_le_self _ (by omega)
        have hs := pick_sum _ _ (p : Int) (Int.tdiv (p : Int) (b.length : Int)) b1 b2 (by omega) (by omega)
        obtain ⟨X, hX⟩ : ∃ X : Int, X = rd b (Int.tmod (p : Int) (b.length : Int)) * 131 + rd b (Int.tmod ((p : Int) * 7 + 3) (b.length : Int)) * 1117 + (p : Int) * 29 + Int.tdiv (p : Int) (b.length : Int) * 53 := ⟨_, rfl⟩
        rw [← hX] at hs
        have x0 : 0 ≤ X ∧ X < 20000000000000 := by omega
        have t0 : 0 ≤ Int.tdiv X 64 := Int.tdiv_nonneg (by omega) (by omega)
        have t1 : Int.tdiv X 64 ≤ X := Int.tdiv_le_self _ (by omega)
        have hbit : 0 ≤ Go.bits .xor .i64 X (Int.tdiv X 64) := by
          obtain ⟨u, hu⟩ := Int.eq_ofNat_of_zero_le x0.1
          obtain ⟨v, hv⟩ := Int.eq_ofNat_of_zero_le t0
          rw [hv, hu]
          rw [xor_pos u v (by omega) (by omega)]
          omega
        have hm := pick_mod _ n hbit (by omega)
        refine ⟨_, hm.1, .inl hm.2, ?_⟩
        simp only [spec_l20Rd_pick.f, if_neg hn, e1, show ((b.length : Int) == 0) = false by simp; exact fun h => hl (by rw [h]; rfl)]
        refine ev_s ?_
        simp only [spec_l20Rd_pick.j0, Bool.false_eq_true, if_false, e2, if_neg hlt, if_neg hl0, wrap_in (x := (p : Int) * 7) (by omega) (by omega), wrap_in (x := (p : Int) * 7 + 3) (by omega) (by omega), if_pos m1.1, if_pos m1.2, if_pos m2.1, if_pos m2.2, if_neg (show ¬ n = 0 by omega), hs, wrap_in (x := Int.tdiv X 64) (by omega) (by omega)]
        exact Ev.now _
theorem odd_ev (b : List Int) (hb : Bytes b) (p : Nat) (hp : p ≤ 100000000000) (n : Int) (hn : n ≤ 1000000) : ∃ (v : Bool) (q : Nat), q ≤ p + 1 ∧ Ev (fun k => spec_l20Rd_odd.f k b (p : Int) n) (v, (q : Int)) := by
  by_cases h : n > 0
  · obtain ⟨v, h0, h1, he⟩ := pick_ev b hb p hp n
    refine ⟨(v == wrap64 (n - 1)), p + 1, Nat.le_refl _, ?_⟩
    simp only [spec_l20Rd_odd.f, if_pos h]
    refine Ev.bind he ?_
    exact Ev.now _
  · refine ⟨false, p, by omega, ?_⟩
    simp only [spec_l20Rd_odd.f, if_neg h]
    exact Ev.now _

-- part: l20Row
theorem l20Row_l0 (b : List Int) (hb : Bytes b) (long n : Int) (hlong : 1 ≤ long ∧ long ≤ 20) (hn : n ≤ 1000000) : ∀ (d i p : Nat) (x : List Int), (i : Int) + d = long → x.length = i → p + d ≤ 1000000000 →
    ∃ (out : List Int) (q : Nat), q ≤ p + d + 5 ∧ out.length ≤ 20 ∧ Ev (fun k => spec_l20Row.l0 k long n x (i : Int) b (p : Int)) (out, (q : Int)) := by
  intro d
  induction d with
  | succ d ih =>
    intro i p x h hx hp
    obtain ⟨v, _, _, he⟩ := pick_ev b hb p (by omega) 4
    obtain ⟨out, q, hq, ho, hE⟩ := ih (i + 1) (p + 1) (x ++ [v]) (by omega) (by simp; omega) (by omega)
    refine ⟨out, q, by omega, ho, ?_⟩
    refine ev_s ?_
    simp only [spec_l20Row.l0, if_pos (show (i : Int) < long by omega), show wrap64 ((i : Int) + 1) = ((i + 1 : Nat) : Int) by rw [wrap_in (by omega) (by omega)]; rfl]
    refine Ev.bind he ?_
    simp only [if_pos (show x.length < 17592186044416 by omega)]
    exact hE
  | zero =>
    intro i p x h hx hp
    obtain ⟨o, q, hq, he⟩ := odd_ev b hb p (by omega) n hn
    cases o with
    | false =>
      refine ⟨x, q, by omega, by omega, ?_⟩
      refine ev_s ?_
      simp only [spec_l20Row.l0, if_neg (show ¬ (i : Int) < long by omega)]
      refine Ev.bind he ?_
      simp only [Bool.false_eq_true, if_false]
      exact Ev.now _
    | true =>
      obtain ⟨v, _, _, he1⟩ := pick_ev b hb q (by omega) 3
      have hd : Ev (fun k => spec_l20Row.l0 k long n x (i : Int) b (p : Int)) = Ev (fun k => spec_l20Row.l0 k long n x (i : Int) b (p : Int)) := rfl
      by_cases h0 : v = 0
      · subst h0
        refine ⟨[], q + 1, by omega, by simp, ?_⟩
        refine ev_s ?_
        simp only [spec_l20Row.l0, if_neg (show ¬ (i : Int) < long by omega)]
        refine Ev.bind he ?_
        simp only [if_true]
        refine Ev.bind he1 ?_
        simp only [if_true]
        exact Ev.now _
      · by_cases h1 : v = 1
        · subst h1
          refine ⟨List.replicate 6 0, q + 1, by omega, by simp, ?_⟩
          refine ev_s ?_
          simp only [spec_l20Row.l0, if_neg (show ¬ (i : Int) < long by omega)]
          refine Ev.bind he ?_
          simp only [if_true]
          refine Ev.bind he1 ?_
          simp only [if_neg h0, if_true, if_pos (show 6 ≤ 35184372088832 by decide)]
          exact Ev.now _
        · obtain ⟨u, hu0, hu1, he2⟩ := pick_ev b hb (q + 1) (by omega) 2
          refine ⟨x.set (0 : Int).toNat (rd [(-1), 10000] u), q + 1 + 1, by omega, by simp; omega, ?_⟩
          refine ev_s ?_
          simp only [spec_l20Row.l0, if_neg (show ¬ (i : Int) < long by omega)]
          refine Ev.bind he ?_
          simp only [if_true]
          refine Ev.bind he1 ?_
          simp only [if_neg h0, if_neg h1, Option.bind_some]
          refine Ev.bind he2 ?_
          simp only [if_pos hu0, if_pos (show u < (([(-1), 10000] : List Int).length : Int) by simp; omega), if_pos (show (0 : Int) < (x.length : Int) by omega)]
          exact Ev.now _
theorem l20Row_ev (b : List Int) (hb : Bytes b) (p : Nat) (hp : p ≤ 100000000) (long n : Int) (hlong : 1 ≤ long ∧ long ≤ 20) (hn : n ≤ 1000000) :
    ∃ (out : List Int) (q : Nat), q ≤ p + 30 ∧ out.length ≤ 20 ∧ Ev (fun k => spec_l20Row.f k b (p : Int) long n) (out, (q : Int)) := by
  obtain ⟨out, q, hq, ho, hE⟩ := l20Row_l0 b hb long n hlong hn long.toNat 0 p [] (by omega) rfl (by omega)
  exact ⟨out, q, by omega, ho, hE⟩

-- part: alive
theorem alive_ev : Ev (fun k => laws_alive.f k) true := Ev.of laws_alive.mono (k := 20) (by decide +kernel)

-- part: law_FnRowMost
theorem DrawRowMost_ev (l : List Int) (h : ∀ x ∈ l, (Lit.int .u8 x).wf = true) : ∃ (out : List Int) (m : Int), out.length ≤ 20 ∧ Ev (fun k => spec_DrawRowMost.f k l) (out, m) := by
  obtain ⟨b, hb, ho⟩ := open_ev l h
  obtain ⟨v, hv0, hv1, he⟩ := pick_ev b hb 0 (by omega) 3
  obtain ⟨out, q, hq, hl, hE⟩ := l20Row_ev b hb 1 (by omega) (1 + v) 12 (by omega) (by omega)
  obtain ⟨v2, _, _, he2⟩ := pick_ev b hb q (by omega) 5
  obtain ⟨v3, _, _, he3⟩ := pick_ev b hb (q + 1) (by omega) 20
  refine ⟨out, wrap64 (v2 + (wrap64 ((wrap64 (Int.tdiv v3 19)) * 9))), hl, ?_⟩
  simp only [spec_DrawRowMost.f, ho, Option.bind_some]
  refine Ev.bind he ?_
  simp only [wrap_in (x := 1 + v) (by omega) (by omega)]
  refine Ev.bind hE ?_
  refine Ev.bind he2 ?_
  refine Ev.bind he3 ?_
  exact Ev.now _
/-- A row read as a number over the base m + 1. -/
def num (m : Int) (l : List Int) (s : Int) : Int := l.foldl (fun s x => s * (m + 1) + x) s
theorem num_cons (m x : Int) (l : List Int) (s : Int) : num m (x :: l) s = num m l (s * (m + 1) + x) := rfl
theorem num_app (m : Int) (a b : List Int) (s : Int) : num m (a ++ b) s = num m b (num m a s) := by simp [num, List.foldl_append]
theorem num_shift (m : Int) : ∀ (b : List Int) (s : Int), num m b s = s * (m + 1) ^ b.length + num m b 0
  | [], s => by simp [num]
  | x :: b, s => by
    rw [num_cons, num_shift m b (s * (m + 1) + x), num_cons, num_shift m b (0 * (m + 1) + x), List.length_cons, Int.pow_succ, Int.zero_mul, Int.zero_add, Int.add_mul, Int.mul_assoc, Int.mul_comm (m + 1) ((m + 1) ^ b.length), Int.add_assoc]
theorem num_full (m : Int) : ∀ n : Nat, num m (List.replicate n m) 0 = (m + 1) ^ n - 1
  | 0 => by simp [num]
  | n + 1 => by
    rw [List.replicate_succ, num_cons, num_shift, num_full m n, List.length_replicate, Int.pow_succ, Int.zero_mul, Int.zero_add, Int.mul_add, Int.mul_one, Int.mul_comm m ((m + 1) ^ n)]
    omega
theorem num_ge (m : Int) (hm : 0 ≤ m) : ∀ (l : List Int) (s : Int), 0 ≤ s → (∀ x ∈ l, 0 ≤ x) → 0 ≤ num m l s
  | [], s, hs, _ => hs
  | x :: l, s, hs, h => num_ge m hm l (s * (m + 1) + x) (by have := Int.mul_nonneg hs (show 0 ≤ m + 1 by omega); have := h x (by simp); omega) (fun y hy => h y (by simp [hy]))
theorem num_zero (m : Int) (hm : 0 ≤ m) : ∀ (l : List Int) (s : Int), 0 ≤ s → (∀ x ∈ l, 0 ≤ x) → (num m l s = 0 ↔ s = 0 ∧ l.all (fun x => x == 0) = true)
  | [], s, hs, _ => by simp [num]
  | x :: l, s, hs, h => by
    have hx := h x (by simp)
    have h1 := Int.mul_nonneg hs (show 0 ≤ m + 1 by omega)
    rw [num_cons, num_zero m hm l _ (by omega) (fun y hy => h y (by simp [hy])), List.all_cons, Bool.and_eq_true, beq_iff_eq]
    constructor
    · rintro ⟨h2, h3⟩
      have h4 : s * (m + 1) = 0 := by omega
      have h5 : s = 0 := by rcases Int.mul_eq_zero.mp h4 with h6 | h6 <;> omega
      exact ⟨h5, by omega, h3⟩
    · rintro ⟨h2, h3, h4⟩
      subst h2
      exact ⟨by rw [Int.zero_mul]; omega, h4⟩
theorem mostG_num {m : Int} (hm : 0 ≤ m ∧ m ≤ 9) : ∀ (l : List Int) (s : Int) (a : Nat), 0 ≤ s → s < 10 ^ a → a + l.length ≤ 12 → (∀ x ∈ l, 0 ≤ x) → mostG m l s = -1 ∨ ((∀ x ∈ l, x ≤ m) ∧ mostG m l s = num m l s)
  | [], s, a, _, _, _, _ => .inr ⟨by simp, rfl⟩
  | x :: l, s, a, h0, h1, h2, h => by
    have hx := h x (by simp)
    rw [mostG]
    by_cases h3 : x > m
    · rw [if_pos h3]; exact .inl rfl
    · rw [if_neg h3]
      simp only [List.length_cons] at h2
      have hp : (10 : Int) ^ a ≤ 10 ^ 11 := by
        have : (10 : Nat) ^ a ≤ 10 ^ 11 := Nat.pow_le_pow_right (by decide) (by omega)
        have h5 := Int.ofNat_le.mpr this
        simpa using h5
      have hp2 : (10 : Int) ^ 11 = 100000000000 := by decide
      have h6 : s * (m + 1) ≤ s * 10 := Int.mul_le_mul_of_nonneg_left (by omega) h0
      have h7 : 0 ≤ s * (m + 1) := Int.mul_nonneg h0 (by omega)
      rw [wrap_in (x := m + 1) (by omega) (by omega), wrap_in (x := s * (m + 1)) (by omega) (by omega), wrap_in (by omega) (by omega)]
      rcases mostG_num hm l (s * (m + 1) + x) (a + 1) (by omega) (by rw [Int.pow_succ]; omega) (by omega) (fun y hy => h y (by simp [hy])) with h8 | ⟨h8, h9⟩
      · exact .inl h8
      · exact .inr ⟨by intro y hy; rcases List.mem_cons.mp hy with rfl | hy; omega; exact h8 y hy, h9⟩
theorem rowOk_ge {l : List Int} (h : rowOk l = true) : ∀ x ∈ l, 0 ≤ x := by
  intro x hx
  simp only [rowOk, Bool.and_eq_true, List.all_eq_true, decide_eq_true_eq] at h
  exact (h.1 x hx).1
theorem rowMost_cases (l : List Int) (m : Int) : rowMost l m = -1 ∨ (rowOk l = true ∧ (0 ≤ m ∧ m ≤ 9) ∧ (∀ x ∈ l, x ≤ m) ∧ rowMost l m = num m l 0) := by
  unfold rowMost
  by_cases h : rowOk l = true ∧ 0 ≤ m ∧ m ≤ 9
  · rw [if_pos h]
    have h5 := rowOk_len5 h.1
    rcases mostG_num h.2 l 0 0 (by omega) (by decide) (by omega) (rowOk_ge h.1) with h1 | ⟨h1, h2⟩
    · exact .inl h1
    · exact .inr ⟨h.1, h.2, h1, h2⟩
  · rw [if_neg h]; exact .inl rfl
theorem rowMost_num {l : List Int} {m : Int} (h : rowOk l = true) (hm : 0 ≤ m ∧ m ≤ 9) (hx : ∀ x ∈ l, x ≤ m) : rowMost l m = num m l 0 := by
  have key : ∀ (l : List Int) (s : Int) (a : Nat), 0 ≤ s → s < 10 ^ a → a + l.length ≤ 12 → (∀ x ∈ l, 0 ≤ x) → (∀ x ∈ l, x ≤ m) → mostG m l s = num m l s := by
    intro l
    induction l with
    | nil => intros; rfl
    | cons x l ih =>
      intro s a h0 h1 h2 hg hx
      have hx0 := hg x (by simp)
      have hxm := hx x (by simp)
      rw [mostG, if_neg (by omega)]
      simp only [List.length_cons] at h2
      have hp : (10 : Int) ^ a ≤ 10 ^ 11 := by
        have : (10 : Nat) ^ a ≤ 10 ^ 11 := Nat.pow_le_pow_right (by decide) (by omega)
        have h5 := Int.ofNat_le.mpr this
        simpa using h5
      have hp2 : (10 : Int) ^ 11 = 100000000000 := by decide
      have h6 : s * (m + 1) ≤ s * 10 := Int.mul_le_mul_of_nonneg_left (by omega) h0
      have h7 : 0 ≤ s * (m + 1) := Int.mul_nonneg h0 (by omega)
      rw [wrap_in (x := m + 1) (by omega) (by omega), wrap_in (x := s * (m + 1)) (by omega) (by omega), wrap_in (by omega) (by omega)]
      exact ih (s * (m + 1) + x) (a + 1) (by omega) (by rw [Int.pow_succ]; omega) (by omega) (fun y hy => hg y (by simp [hy])) (fun y hy => hx y (by simp [hy]))
  unfold rowMost
  rw [if_pos ⟨h, hm⟩]
  have h5 := rowOk_len5 h
  exact key l 0 0 (by omega) (by decide) (by omega) (rowOk_ge h) hx
/-- One off at a place, and behind it the most: the number falls by one and by what stood behind it. -/
theorem num_drop {m : Int} (hm : 0 ≤ m) {l : List Int} {a : Nat} (ha : a < l.length) :
    num m (dropTo l a (List.replicate (l.length - 1 - a) m)) 0 = num m l 0 - 1 - num m (l.drop (a + 1)) 0 := by
  have hl : l = l.take a ++ l[a] :: l.drop (a + 1) := by rw [← List.drop_eq_getElem_cons ha, List.take_append_drop]
  have e1 : num m l 0 = num m (l.drop (a + 1)) (num m (l.take a) 0 * (m + 1) + l[a]) := by
    conv => lhs; rw [hl]
    rw [num_app, num_cons]
  have e2 : num m (dropTo l a (List.replicate (l.length - 1 - a) m)) 0 = num m (List.replicate (l.length - 1 - a) m) (num m (l.take a) 0 * (m + 1) + (l[a] - 1)) := by
    rw [dropTo, num_app, num_cons, rd_get ha]
  rw [e1, e2, num_shift m (List.replicate _ m), num_full, num_shift m (l.drop (a + 1)), List.length_replicate, List.length_drop, show l.length - (a + 1) = l.length - 1 - a by omega]
  have e3 : num m (l.take a) 0 * (m + 1) + (l[a] - 1) = num m (l.take a) 0 * (m + 1) + l[a] - 1 := by omega
  rw [e3, Int.sub_mul, Int.one_mul]
  omega
theorem all_drop1 {l : List Int} {i : Nat} (h : i < l.length) : (l.drop i).all (fun x => x == 0) = (l[i] == 0 && (l.drop (i + 1)).all (fun x => x == 0)) := by
  rw [List.drop_eq_getElem_cons h, List.all_cons]
theorem RowMost_l2 (l : List Int) (hl : l.length ≤ 5) (m n : Int) (z : Bool) (a : Nat) {r : Bool}
    (hr : Ev (fun k => ((impl_RowDrop.f k l (a : Int) (List.replicate (l.length - 1 - a) m)).bind fun bt298 => ((impl_RowMost.f k bt298.1 m).bind fun t302 => (if bt298.2 = true then (if t302 < 0 then (some false) else (if t302 ≥ n then (some false) else (if ((l.drop (a + 1)).all (fun x => x == 0)) = true then (if t302 = (wrap64 (n - 1)) then (laws_FnRowMost.l1 k l m n z (wrap64 ((a : Int) + 1))) else (some false)) else (laws_FnRowMost.l1 k l m n z (wrap64 ((a : Int) + 1)))))) else (laws_FnRowMost.l1 k l m n z (wrap64 ((a : Int) + 1))))))) r) :
    ∀ (d i : Nat) (x : List Int) (zz : Bool), i + d = l.length → a + 1 ≤ i → x = List.replicate (i - 1 - a) m → (zz && (l.drop i).all (fun x => x == 0)) = (l.drop (a + 1)).all (fun x => x == 0) → Ev (fun k => laws_FnRowMost.l2 k l m n z (a : Int) x zz (i : Int)) r
  | 0, i, x, zz, hi, ha, hx, hz => by
    refine ev_s ?_
    simp only [laws_FnRowMost.l2, if_neg (show ¬ ((i : Int) < (l.length : Int)) by omega)]
    rw [List.drop_eq_nil_of_le (by omega), List.all_nil, Bool.and_true] at hz
    rw [hz, hx, show i - 1 - a = l.length - 1 - a by omega]
    exact hr
  | d + 1, i, x, zz, hi, ha, hx, hz => by
    have hil : i < l.length := by omega
    have hxl : x.length < 17592186044416 := by rw [hx, List.length_replicate]; omega
    have ew : wrap64 ((i : Int) + 1) = ((i + 1 : Nat) : Int) := wrap_nat2 i 1 (by omega)
    have hx2 : x ++ [m] = List.replicate (i + 1 - 1 - a) m := by rw [hx, show i + 1 - 1 - a = i - 1 - a + 1 by omega, List.replicate_succ']
    rw [all_drop1 hil] at hz
    refine ev_s ?_
    simp only [laws_FnRowMost.l2, if_pos (show (i : Int) < (l.length : Int) by omega), if_pos hxl, Option.bind_some, ew, if_pos (show 0 ≤ (i : Int) by omega), rd_get hil]
    cases zz with
    | true =>
      simp only [if_true]
      exact RowMost_l2 l hl m n z a hr d (i + 1) _ _ (by omega) (by omega) hx2 (by rw [← hz]; simp)
    | false =>
      simp only [Bool.false_eq_true, if_false]
      exact RowMost_l2 l hl m n z a hr d (i + 1) _ _ (by omega) (by omega) hx2 (by rw [← hz]; simp)
theorem RowMost_l1 {l : List Int} (h : rowOk l = true) {m n : Int} (hm : 0 ≤ m ∧ m ≤ 9) (hx : ∀ x ∈ l, x ≤ m) (hn : n = num m l 0) (hb : n ≤ 1000000000000) (z : Bool) : ∀ (d a : Nat), a + d = l.length → Ev (fun k => laws_FnRowMost.l1 k l m n z (a : Int)) ((n == 0) == z)
  | 0, a, ha => by
    refine ev_s ?_
    simp only [laws_FnRowMost.l1, if_neg (show ¬ ((a : Int) < (l.length : Int)) by omega)]
    exact Ev.now _
  | d + 1, a, ha => by
    have hl5 := rowOk_len5 h
    have ih := RowMost_l1 h hm hx hn hb z d (a + 1) (by omega)
    have ew : wrap64 ((a : Int) + 1) = ((a + 1 : Nat) : Int) := wrap_nat2 a 1 (by omega)
    refine ev_s ?_
    simp only [laws_FnRowMost.l1, if_pos (show (a : Int) < (l.length : Int) by omega), ew]
    refine RowMost_l2 l hl5.2 m n z a ?_ (d) (a + 1) [] true (by omega) (Nat.le_refl _) (by simp) (by simp)
    simp only [ew]
    have hal : a < l.length := by omega
    refine Ev.bind (impl_RowDrop_ev l (a : Int) _ (by omega) (by rw [List.length_replicate]; omega)) ?_
    refine Ev.bind (impl_RowMost_ev (rowDrop l (a : Int) (List.replicate (l.length - 1 - a) m)) m (by have := rowDrop_length l (a : Int) (List.replicate (l.length - 1 - a) m); omega)) ?_
    cases hd : rowDropOk l (a : Int) (List.replicate (l.length - 1 - a) m) with
    | false => simp only [Bool.false_eq_true, if_false]; exact ih
    | true =>
      have e1 : rowDrop l (a : Int) (List.replicate (l.length - 1 - a) m) = dropTo l a (List.replicate (l.length - 1 - a) m) := by rw [rowDrop, if_pos hd]; rfl
      simp only [rowDropOk, Bool.and_eq_true, decide_eq_true_eq, Int.toNat_natCast] at hd
      obtain ⟨⟨_, _, _, h3, _⟩, h4⟩ := hd
      have hge := rowOk_ge h
      have hval : rowMost (dropTo l a (List.replicate (l.length - 1 - a) m)) m = num m l 0 - 1 - num m (l.drop (a + 1)) 0 := by
        rw [rowMost_num h4 hm ?_, num_drop hm.1 hal]
        intro x hxm
        simp only [dropTo, List.mem_append, List.mem_cons] at hxm
        rcases hxm with hxm | hxm | hxm
        · exact hx x (List.mem_of_mem_take hxm)
        · rw [rd_get hal] at hxm
          have := hx l[a] (List.getElem_mem hal)
          omega
        · have := List.eq_of_mem_replicate hxm
          omega
      have h0 : 0 ≤ rowMost (dropTo l a (List.replicate (l.length - 1 - a) m)) m := by
        rw [rowMost_num h4 hm ?_]
        · exact num_ge m hm.1 _ _ (by omega) (rowOk_ge h4)
        intro x hxm
        simp only [dropTo, List.mem_append, List.mem_cons] at hxm
        rcases hxm with hxm | hxm | hxm
        · exact hx x (List.mem_of_mem_take hxm)
        · rw [rd_get hal] at hxm
          have := hx l[a] (List.getElem_mem hal)
          omega
        · have := List.eq_of_mem_replicate hxm
          omega
      have hrest : 0 ≤ num m (l.drop (a + 1)) 0 := num_ge m hm.1 _ _ (by omega) (fun x hxm => hge x (List.mem_of_mem_drop hxm))
      rw [e1]
      simp only [if_true, if_neg (show ¬ (rowMost (dropTo l a (List.replicate (l.length - 1 - a) m)) m < 0) by omega), if_neg (show ¬ (rowMost (dropTo l a (List.replicate (l.length - 1 - a) m)) m ≥ n) by omega), show wrap64 (n - 1) = n - 1 from wrap_in (by omega) (by omega)]
      cases hz : (l.drop (a + 1)).all (fun x => x == 0) with
      | false => simp only [Bool.false_eq_true, if_false]; exact ih
      | true =>
        have h5 := (num_zero m hm.1 (l.drop (a + 1)) 0 (by omega) (fun x hxm => hge x (List.mem_of_mem_drop hxm))).mpr ⟨rfl, hz⟩
        simp only [if_true, if_pos (show rowMost (dropTo l a (List.replicate (l.length - 1 - a) m)) m = n - 1 by omega)]
        exact ih
theorem RowMost_l0 (l : List Int) (hl : l.length ≤ 5) (m n : Int) {r : Bool} (hr : Ev (fun k => laws_FnRowMost.l1 k l m n (l.all (fun x => x == 0)) 0) r) : ∀ (d i : Nat) (zz : Bool), i + d = l.length → (zz && (l.drop i).all (fun x => x == 0)) = l.all (fun x => x == 0) → Ev (fun k => laws_FnRowMost.l0 k l m n zz (i : Int)) r
  | 0, i, zz, hi, hz => by
    refine ev_s ?_
    simp only [laws_FnRowMost.l0, if_neg (show ¬ ((i : Int) < (l.length : Int)) by omega)]
    rw [List.drop_eq_nil_of_le (by omega), List.all_nil, Bool.and_true] at hz
    rw [hz]
    exact hr
  | d + 1, i, zz, hi, hz => by
    have hil : i < l.length := by omega
    have ew : wrap64 ((i : Int) + 1) = ((i + 1 : Nat) : Int) := wrap_nat2 i 1 (by omega)
    rw [all_drop1 hil] at hz
    refine ev_s ?_
    simp only [laws_FnRowMost.l0, if_pos (show (i : Int) < (l.length : Int) by omega), ew, if_pos (show 0 ≤ (i : Int) by omega), rd_get hil]
    cases zz with
    | true =>
      simp only [if_true]
      exact RowMost_l0 l hl m n hr d (i + 1) _ (by omega) (by rw [← hz]; simp)
    | false =>
      simp only [Bool.false_eq_true, if_false]
      exact RowMost_l0 l hl m n hr d (i + 1) _ (by omega) (by rw [← hz]; simp)
theorem num_lt {m : Int} (hm : 0 ≤ m ∧ m ≤ 9) : ∀ (l : List Int) (s : Int) (a : Nat), 0 ≤ s → s < 10 ^ a → (∀ x ∈ l, 0 ≤ x ∧ x ≤ m) → num m l s < 10 ^ (a + l.length)
  | [], s, a, _, h, _ => by simpa [num] using h
  | x :: l, s, a, h0, h1, h => by
    have hx := h x (by simp)
    have h6 : s * (m + 1) ≤ s * 10 := Int.mul_le_mul_of_nonneg_left (by omega) h0
    have h7 : 0 ≤ s * (m + 1) := Int.mul_nonneg h0 (by omega)
    rw [num_cons, List.length_cons, show a + (l.length + 1) = a + 1 + l.length by omega]
    exact num_lt hm l _ (a + 1) (by omega) (by rw [Int.pow_succ]; omega) (fun y hy => h y (by simp [hy]))
theorem FnRowMost : laws_FnRowMost.Pure := by
  intro l0 _ _ hw
  refine Ev.rounds ?_
  simp only [laws_FnRowMost.f]
  by_cases hb : (l0.length : Int) > 1048576
  · simp only [if_pos hb]; exact Ev.now _
  · simp only [if_neg hb]
    obtain ⟨l, m, ho, he⟩ := DrawRowMost_ev l0 hw
    refine Ev.bind he ?_
    refine Ev.bind (impl_RowMost_ev l m (by omega)) ?_
    refine Ev.bind (spec_RowMost_ev l m (by omega)) ?_
    simp only [if_true]
    rcases rowMost_cases l m with h | ⟨h, hm, hx, hv⟩
    · simp only [h, if_pos (show (-1 : Int) < 0 by decide), if_true]
      exact Ev.bind alive_ev (Ev.now _)
    · have hl5 := rowOk_len5 h
      have hge := rowOk_ge h
      have h0 := num_ge m hm.1 l 0 (by omega) hge
      have hlt := num_lt hm l 0 0 (by omega) (by decide) (fun x hxm => ⟨hge x hxm, hx x hxm⟩)
      have hp : (10 : Int) ^ (0 + l.length) ≤ 10 ^ 11 := by
        have : (10 : Nat) ^ (0 + l.length) ≤ 10 ^ 11 := Nat.pow_le_pow_right (by decide) (by omega)
        have h5 := Int.ofNat_le.mpr this
        simpa using h5
      have hp2 : (10 : Int) ^ 11 = 100000000000 := by decide
      simp only [hv, if_neg (show ¬ (num m l 0 < 0) by omega)]
      have h1 := RowMost_l1 h hm hx rfl (by omega) (l.all (fun x => x == 0)) l.length 0 (by omega)
      have e : ((num m l 0 == 0) == l.all (fun x => x == 0)) = true := by
        have h2 := num_zero m hm.1 l 0 (by omega) hge
        cases hz : l.all (fun x => x == 0) with
        | true => rw [h2.mpr ⟨rfl, hz⟩]; rfl
        | false =>
          have : num m l 0 ≠ 0 := fun h3 => by have := (h2.mp h3).2; rw [hz] at this; exact absurd this (by decide)
          rw [beq_eq_false_iff_ne.mpr this]; rfl
      rw [e] at h1
      exact RowMost_l0 l hl5.2 m _ h1 l.length 0 true (by omega) (by simp)

end Go.Proofs.Ytpnmaimmmcgcoaa.Pure

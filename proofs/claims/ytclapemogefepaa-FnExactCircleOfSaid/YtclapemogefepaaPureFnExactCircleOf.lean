/- The law FnExactCircleOf returns true for every input that the statement lets in; no condition of our own. -/
import Derived.Test.YtclapemogefepaaVx6
namespace Go.Proofs.Ytclapemogefepaa.Pure
open Go.RowKit Go.Proofs.Ytclapemogefepaa.V Go.Proofs.YtclapemogefepaaW.PrintWords Go.Proofs.YtclapemogefepaaW.PrintLast
set_option linter.unusedVariables false
set_option linter.unusedSimpArgs false

-- part: base
/-! ### words of mine -/
theorem ev_s {α : Type} {g : Nat → Option α} {r : α} (h : Ev (fun k => g (k + 1)) r) : Ev g r := Ev.step (fun _ => rfl) h
theorem ev_eq {α : Type} {g : Nat → Option α} {r q : α} (h : Ev g r) (e : r = q) : Ev g q := e ▸ h
theorem ev_now {α : Type} {r q : α} (e : r = q) : Ev (fun _ => some r) q := e ▸ Ev.now r
theorem wrap_in {x : Int} (h0 : -9223372036854775808 ≤ x) (h1 : x ≤ 9223372036854775807) : wrap64 x = x := by unfold wrap64; omega
theorem rd_eq (xs : List Int) (i : Nat) : rd xs (i : Int) = xs.getD i 0 := by simp [rd]
theorem rd_get {xs : List Int} {i : Nat} (h : i < xs.length) : rd xs (i : Int) = xs[i] := by simp [rd, h]
theorem wrap_nat2 (a b : Nat) (h : a + b < 4611686018427387904) : wrap64 ((a : Int) + (b : Int)) = ((a + b : Nat) : Int) := by rw [wrap_in (by omega) (by omega)]; omega
theorem ev_const {α : Type} {x : Option α} {a : α} (h : x = some a) : Ev (fun _ => x) a := by subst h; exact Ev.now a

-- part: bits
/-! ### sets as bits -/
theorem i64_wrap_nat (n : Nat) (h : n < 2 ^ 63) : IntKind.i64.wrap (n : Int) = (n : Int) := by rw [IntKind.wrap_i64]; omega
theorem mod64 {a : Nat} (ha : a < 2 ^ 62) : a % 2 ^ IntKind.i64.bits = a := Nat.mod_eq_of_lt (Nat.lt_of_lt_of_le ha (by decide))
theorem or_nat (a b : Nat) (ha : a < 2 ^ 62) (hb : b < 2 ^ 62) : Go.bits .or .i64 (a : Int) (b : Int) = ((a ||| b : Nat) : Int) := by
  simp only [bits, BitVec.ofInt_natCast, BitVec.toNat_or, BitVec.toNat_ofNat, mod64 ha, mod64 hb]
  exact i64_wrap_nat _ (Nat.lt_of_lt_of_le (Nat.or_lt_two_pow ha hb) (by decide))
theorem and_nat (a b : Nat) (ha : a < 2 ^ 62) (hb : b < 2 ^ 62) : Go.bits .and .i64 (a : Int) (b : Int) = ((a &&& b : Nat) : Int) := by
  simp only [bits, BitVec.ofInt_natCast, BitVec.toNat_and, BitVec.toNat_ofNat, mod64 ha, mod64 hb]
  exact i64_wrap_nat _ (Nat.lt_of_lt_of_le (Nat.and_lt_two_pow _ hb) (by decide))
theorem andNot_zero (a b : Nat) (ha : a < 2 ^ 62) (hb : b < 2 ^ 62) : Go.bits .andNot .i64 (a : Int) (b : Int) = 0 ↔ ∀ i, a.testBit i = true → b.testBit i = true := by
  have e : (BitVec.ofNat IntKind.i64.bits a &&& ~~~ BitVec.ofNat IntKind.i64.bits b).toNat = a &&& (a ^^^ b) := by
    apply Nat.eq_of_testBit_eq
    intro i
    rw [BitVec.testBit_toNat, BitVec.getLsbD_and, BitVec.getLsbD_not, BitVec.getLsbD_ofNat, BitVec.getLsbD_ofNat, Nat.testBit_and, Nat.testBit_xor]
    by_cases hi : i < IntKind.i64.bits
    · simp only [hi, decide_true, Bool.true_and]
      cases a.testBit i <;> cases b.testBit i <;> rfl
    · have h1 : a.testBit i = false := Nat.testBit_lt_two_pow (Nat.lt_of_lt_of_le ha (Nat.pow_le_pow_right (by decide) (by simp [IntKind.bits] at hi; omega)))
      simp [hi, h1]
  have hlt : a &&& (a ^^^ b) < 2 ^ 62 := Nat.and_lt_two_pow _ (Nat.xor_lt_two_pow ha hb)
  have e2 : Go.bits .andNot .i64 (a : Int) (b : Int) = ((a &&& (a ^^^ b) : Nat) : Int) := by
    simp only [bits, BitVec.ofInt_natCast]
    rw [e]
    exact i64_wrap_nat _ (Nat.lt_of_lt_of_le hlt (by decide))
  rw [e2]
  constructor
  · intro h i hi
    have h0 : a &&& (a ^^^ b) = 0 := by exact_mod_cast h
    have := congrArg (fun z => Nat.testBit z i) h0
    simp only [Nat.testBit_and, Nat.testBit_xor, hi, Nat.zero_testBit, Bool.true_and] at this
    cases hb' : b.testBit i with
    | true => rfl
    | false => rw [hb'] at this; simp at this
  · intro h
    have h0 : a &&& (a ^^^ b) = 0 := by
      apply Nat.eq_of_testBit_eq
      intro i
      rw [Nat.testBit_and, Nat.testBit_xor, Nat.zero_testBit]
      cases ha' : a.testBit i with
      | false => rfl
      | true => rw [h i ha']; rfl
    rw [h0]; rfl
theorem shr_nat (s n : Nat) (hn : n < 64) : shr .i64 (s : Int) (n : Int) = ((s >>> n : Nat) : Int) := by
  unfold shr
  rw [Int.toNat_natCast, Nat.min_eq_left (by simp [IntKind.bits]; omega), Nat.shiftRight_eq_div_pow]
  exact_mod_cast rfl
theorem shl_nat (s n : Nat) (hn : n < 64) (h : s * 2 ^ n < 2 ^ 63) : shl .i64 (s : Int) (n : Int) = ((s * 2 ^ n : Nat) : Int) := by
  unfold shl
  rw [Int.toNat_natCast, Nat.min_eq_left (by simp [IntKind.bits]; omega)]
  have := i64_wrap_nat (s * 2 ^ n) h
  rw [← this]
  congr 1
theorem shl_one (n : Nat) (hn : n < 62) : shl .i64 1 (n : Int) = ((2 ^ n : Nat) : Int) := by
  have h2 : 2 ^ n < 2 ^ 62 := Nat.pow_lt_pow_right (by decide) hn
  have h3 : (2 : Nat) ^ 62 < 2 ^ 63 := by decide
  have := shl_nat 1 n (by omega) (by omega)
  rw [Nat.one_mul] at this
  exact this
theorem bit_and (s n : Nat) (hs : s < 2 ^ 62) (hn : n < 64) : Go.bits .and .i64 (shr .i64 (s : Int) (n : Int)) 1 = if s.testBit n = true then 1 else 0 := by
  have hle : s >>> n ≤ s := by rw [Nat.shiftRight_eq_div_pow]; exact Nat.div_le_self _ _
  rw [shr_nat s n hn]
  have := and_nat (s >>> n) 1 (by omega) (by decide)
  rw [show ((1 : Nat) : Int) = 1 from rfl] at this
  rw [this, Nat.testBit_eq_decide_div_mod_eq, Nat.shiftRight_eq_div_pow, Nat.and_one_is_mod]
  have h2 : s / 2 ^ n % 2 < 2 := Nat.mod_lt _ (by decide)
  by_cases h : s / 2 ^ n % 2 = 1
  · simp [h]
  · simp [show s / 2 ^ n % 2 = 0 by omega]
theorem testBit_shift (s n : Nat) : s.testBit n = decide ((s >>> n) % 2 = 1) := by rw [Nat.testBit_eq_decide_div_mod_eq, Nat.shiftRight_eq_div_pow]
theorem bit_mod (s n : Nat) (hn : n < 64) : Int.tmod (shr .i64 (s : Int) (n : Int)) 2 = if s.testBit n = true then 1 else 0 := by
  rw [shr_nat s n hn, testBit_shift]
  generalize s >>> n = x
  rw [Int.tmod_eq_emod_of_nonneg (Int.natCast_nonneg _)]
  by_cases h : x % 2 = 1
  · simp only [h, decide_true, if_true]; omega
  · simp only [h, decide_false, Bool.false_eq_true, if_false]; omega
theorem add_bit (s j : Nat) (h : s.testBit j = false) : s + 2 ^ j = s ||| 2 ^ j := by
  have h1 : s % 2 ^ (j + 1) < 2 ^ j := by
    rw [Nat.mod_pow_succ]
    rw [Nat.testBit_eq_decide_div_mod_eq] at h
    have h2 : s / 2 ^ j % 2 < 2 := Nat.mod_lt _ (by decide)
    rw [show s / 2 ^ j % 2 = 0 by simp at h; omega]
    simpa using Nat.mod_lt s (Nat.two_pow_pos j)
  have h2 : s = 2 ^ (j + 1) * (s / 2 ^ (j + 1)) + s % 2 ^ (j + 1) := (Nat.div_add_mod _ _).symm
  have hp : 2 ^ (j + 1) = 2 * 2 ^ j := by rw [Nat.pow_succ, Nat.mul_comm]
  have h3 : s % 2 ^ (j + 1) + 2 ^ j < 2 ^ (j + 1) := by omega
  have h4 : s % 2 ^ (j + 1) < 2 ^ (j + 1) := by omega
  generalize s / 2 ^ (j + 1) = a at *
  generalize s % 2 ^ (j + 1) = b at *
  rw [h2, Nat.add_assoc, Nat.two_pow_add_eq_or_of_lt h3, Nat.two_pow_add_eq_or_of_lt h4, Nat.or_assoc]
  congr 1
  have := Nat.two_pow_add_eq_or_of_lt h1 1
  rw [Nat.mul_one] at this
  rw [Nat.add_comm, this, Nat.or_comm]
theorem testBit_or_two_pow (s j i : Nat) : (s ||| 2 ^ j).testBit i = (s.testBit i || decide (j = i)) := by
  rw [Nat.testBit_or, Nat.testBit_two_pow]
theorem or_lt {a b n : Nat} (ha : a < 2 ^ n) (hb : b < 2 ^ n) : a ||| b < 2 ^ n := Nat.or_lt_two_pow ha hb
theorem testBit_lt {a n i : Nat} (ha : a < 2 ^ n) (h : a.testBit i = true) : i < n := by
  rcases Nat.lt_or_ge i n with hi | hi
  · exact hi
  · rw [Nat.testBit_lt_two_pow (Nat.lt_of_lt_of_le ha (Nat.pow_le_pow_right (by decide) hi))] at h; cases h

-- part: toIntS
theorem toIntS_l0 (l : List Int) (hl : l.length ≤ 35184372088832) : ∀ (d i : Nat) (x : List Int), i + d = l.length → x.length = l.length → x.take i = l.take i → Ev (fun k => laws_toIntS.l0 k l x i) l := by
  intro d
  induction d with
  | zero =>
    intro i x h hx ht
    refine ev_s ?_
    simp only [laws_toIntS.l0]
    rw [show i = l.length by omega] at ht ⊢
    simp only [if_neg (show ¬ ((l.length : Int) < (l.length : Int)) by omega)]
    rw [List.take_of_length_le (by omega), List.take_length] at ht
    rw [ht]; exact Ev.now _
  | succ d ih =>
    intro i x h hx ht
    refine ev_s ?_
    simp only [laws_toIntS.l0]
    simp only [if_pos (show (i : Int) < (l.length : Int) by omega), if_pos (show (0 : Int) ≤ (i : Int) by omega), if_pos (show (i : Int) < (x.length : Int) by omega), show wrap64 ((i : Int) + 1) = ((i + 1 : Nat) : Int) by rw [wrap_in (by omega) (by omega)]; rfl, Int.toNat_natCast]
    refine ih (i + 1) _ (by omega) (by simpa using hx) ?_
    rw [rd_get (show i < l.length by omega)]
    apply List.ext_getElem?
    intro j
    have := congrArg (fun z => z[j]?) ht
    simp only [List.getElem?_take] at this ⊢
    by_cases hj : j < i
    · rw [if_pos hj, if_pos hj] at this
      rw [if_pos (by omega), if_pos (by omega), List.getElem?_set_ne (by omega)]; exact this
    · by_cases hji : j = i
      · subst hji
        rw [if_pos (by omega), if_pos (by omega), List.getElem?_set_self (by omega), List.getElem?_eq_getElem (by omega)]
      · rw [if_neg (by omega), if_neg (by omega)]
theorem toIntS_ev (l : List Int) (hl : l.length ≤ 35184372088832) : Ev (fun k => laws_toIntS.f k l) l := by
  simp only [laws_toIntS.f, Int.toNat_natCast, if_pos (show (0 : Int) ≤ (l.length : Int) by omega), if_pos hl]
  exact toIntS_l0 l hl l.length 0 _ (by omega) (by simp) (by simp)

-- part: eqLoop
theorem eqIntS_l0 (F : Nat → List Int → List Int → Int → Option Bool)
    (h0 : ∀ k a b i, F (k + 1) a b i = if i < (a.length : Int) then (if 0 ≤ i then (if i < (b.length : Int) then (if (rd a i) = (rd b i) then (F k a b (wrap64 (i + 1))) else (some false)) else none) else none) else some true)
    (a b : List Int) (hl : a.length = b.length) (hb : a.length ≤ 140737488351232) : ∀ (d i : Nat), i + d = a.length → a.take i = b.take i → Ev (fun k => F k a b i) (decide (a = b)) := by
  intro d
  induction d with
  | zero =>
    intro i h ht
    refine ev_s ?_
    simp only [h0]
    simp only [if_neg (show ¬ ((i : Int) < (a.length : Int)) by omega)]
    rw [List.take_of_length_le (by omega), List.take_of_length_le (by omega)] at ht
    simp only [ht, decide_true]; exact Ev.now _
  | succ d ih =>
    intro i h ht
    refine ev_s ?_
    simp only [h0]
    simp only [if_pos (show (i : Int) < (a.length : Int) by omega), if_pos (show (0 : Int) ≤ (i : Int) by omega), if_pos (show (i : Int) < (b.length : Int) by omega), show wrap64 ((i : Int) + 1) = ((i + 1 : Nat) : Int) by rw [wrap_in (by omega) (by omega)]; rfl]
    rw [rd_get (show i < a.length by omega), rd_get (show i < b.length by omega)]
    by_cases he : a[i] = b[i]
    · simp only [if_pos he]
      refine ih (i + 1) (by omega) ?_
      rw [List.take_succ_eq_append_getElem (by omega), List.take_succ_eq_append_getElem (by omega), ht, he]
    · simp only [if_neg he]
      refine ev_now (Eq.symm (decide_eq_false (fun hab => he ?_)))
      subst hab; rfl

-- part: eqIntS
theorem eqIntS_ev (a b : List Int) (hb : a.length ≤ 140737488351232) : Ev (fun k => laws_eqIntS.f k a b) (decide (a = b)) := by
  simp only [laws_eqIntS.f]
  by_cases hl : a.length = b.length
  · simp only [if_pos (show (a.length : Int) = (b.length : Int) by omega)]
    exact eqIntS_l0 laws_eqIntS.l0 (fun _ _ _ _ => rfl) a b hl hb a.length 0 (by omega) (by simp)
  · simp only [if_neg (show ¬ ((a.length : Int) = (b.length : Int)) by omega)]
    exact ev_now (Eq.symm (decide_eq_false (fun hab => hl (by rw [hab]))))

-- part: mark
/-! ### marks -/
def marksOf (a n : Nat) : List Int := (List.range n).map (fun i => ((a + i : Nat) : Int))
theorem marksOf_length (a n : Nat) : (marksOf a n).length = n := by simp [marksOf]
theorem markIntS_l0 (a : Nat) (n : Nat) (hn : a + n ≤ 1000000000000000) : ∀ (d i : Nat) (x : List Int), i + d = n → x.length = n → x.take i = marksOf a i → Ev (fun k => laws_markIntS.l0 k x ((a + i : Nat) : Int) (i : Int)) (((a + n : Nat) : Int), marksOf a n) := by
  intro d
  induction d with
  | zero =>
    intro i x h hx ht
    refine ev_s ?_
    simp only [laws_markIntS.l0, if_neg (show ¬ ((i : Int) < (x.length : Int)) by omega)]
    rw [List.take_of_length_le (by omega)] at ht
    obtain rfl : i = n := by omega
    rw [← ht]; exact Ev.now _
  | succ d ih =>
    intro i x h hx ht
    refine ev_s ?_
    simp only [laws_markIntS.l0, if_pos (show (i : Int) < (x.length : Int) by omega), if_pos (show (0 : Int) ≤ (i : Int) by omega), Int.toNat_natCast, show wrap64 ((i : Int) + 1) = ((i + 1 : Nat) : Int) by rw [wrap_in (by omega) (by omega)]; rfl, show wrap64 (((a + i : Nat) : Int) + 1) = ((a + (i + 1) : Nat) : Int) by rw [wrap_in (by omega) (by omega)]; omega]
    refine ih (i + 1) _ (by omega) (by simpa using hx) ?_
    have e : marksOf a (i + 1) = marksOf a i ++ [((a + i : Nat) : Int)] := by simp [marksOf, List.range_succ]
    rw [e, ← ht, List.take_succ_eq_append_getElem (by simp; omega), List.getElem_set_self]
    congr 1
    rw [List.take_set_of_le (by omega)]
theorem markIntS_ev (l : List Int) (a : Nat) (hn : a + l.length ≤ 1000000000000000) : Ev (fun k => laws_markIntS.f k l (a : Int)) (((a + l.length : Nat) : Int), marksOf a l.length) :=
  markIntS_l0 a l.length hn l.length 0 l (by omega) rfl (by simp [marksOf])
theorem heldIntS_l0 (a n : Nat) (hn : a + n ≤ 1000000000000000) : ∀ (d i : Nat), i + d = n → Ev (fun k => laws_heldIntS.l0 k (marksOf a n) ((a + i : Nat) : Int) (i : Int)) ((a + n : Nat) : Int) := by
  intro d
  induction d with
  | zero =>
    intro i h
    refine ev_s ?_
    simp only [laws_heldIntS.l0, marksOf_length, if_neg (show ¬ ((i : Int) < (n : Int)) by omega)]
    exact ev_now (by rw [show i = n by omega])
  | succ d ih =>
    intro i h
    refine ev_s ?_
    have hr : rd (marksOf a n) (i : Int) = ((a + i : Nat) : Int) := by rw [rd_get (by rw [marksOf_length]; omega)]; simp [marksOf]
    simp only [laws_heldIntS.l0, marksOf_length, if_pos (show (i : Int) < (n : Int) by omega), if_pos (show (0 : Int) ≤ (i : Int) by omega), hr, if_true, show wrap64 ((i : Int) + 1) = ((i + 1 : Nat) : Int) by rw [wrap_in (by omega) (by omega)]; rfl, show wrap64 (((a + i : Nat) : Int) + 1) = ((a + (i + 1) : Nat) : Int) by rw [wrap_in (by omega) (by omega)]; omega]
    exact ih (i + 1) (by omega)
theorem heldIntS_ev (a n : Nat) (hn : a + n ≤ 1000000000000000) : Ev (fun k => laws_heldIntS.f k (marksOf a n) (a : Int)) ((a + n : Nat) : Int) :=
  heldIntS_l0 a n hn n 0 (by omega)

-- part: l1In
theorem l1In_eq (n lo hi : Int) : spec_l1In.f n lo hi = some (decide (lo ≤ n ∧ n ≤ hi)) := by
  unfold spec_l1In.f
  by_cases h : n ≥ lo
  · rw [if_pos h]; simp [show lo ≤ n from h]
  · rw [if_neg h]; simp [show ¬ lo ≤ n from h]

-- part: RelValid
/-- What both of them say. -/
def relOk (l : List Int) : Bool := decide (1 ≤ l.length ∧ l.length ≤ 12) && l.all (fun x => decide (0 ≤ x ∧ x < ((2 ^ l.length : Nat) : Int)))
theorem all_drop {l : List Int} {p : Int → Bool} {i : Nat} (h : i < l.length) : (l.drop i).all p = (p l[i] && (l.drop (i + 1)).all p) := by
  rw [List.drop_eq_getElem_cons h]; rfl
theorem pow_le (n : Nat) (h : n ≤ 12) : 2 ^ n ≤ 4096 := Nat.le_trans (Nat.pow_le_pow_right (by decide) h) (by decide)
theorem spec_RelValid_l0 (l : List Int) (hb : l.length ≤ 140737488351232) : ∀ (d i : Nat), i + d = l.length → Ev (fun k => spec_RelValid.l0 k l i) ((l.drop i).all (fun x => decide (0 ≤ x ∧ x ≤ wrap64 ((wrap64 (2 ^ (mn (l.length : Int) 12).toNat)) - 1))) && decide (1 ≤ l.length ∧ l.length ≤ 12)) := by
  intro d
  induction d with
  | zero =>
    intro i h
    refine ev_s ?_
    simp only [spec_RelValid.l0, l1In_eq, Option.bind_some, if_neg (show ¬ ((i : Int) < (l.length : Int)) by omega)]
    rw [List.drop_of_length_le (by omega)]
    refine ev_now ?_
    simp only [List.all_nil, Bool.true_and]
    exact decide_eq_decide.mpr (by omega)
  | succ d ih =>
    intro i h
    refine ev_s ?_
    simp only [spec_RelValid.l0, l1In_eq, Option.bind_some, if_pos (show (i : Int) < (l.length : Int) by omega), if_pos (show (0 : Int) ≤ (i : Int) by omega), show wrap64 ((i : Int) + 1) = ((i + 1 : Nat) : Int) by rw [wrap_in (by omega) (by omega)]; rfl]
    rw [rd_get (show i < l.length by omega), all_drop (by omega)]
    by_cases hc : 0 ≤ l[i] ∧ l[i] ≤ wrap64 ((wrap64 (2 ^ (mn (l.length : Int) 12).toNat)) - 1)
    · simp only [decide_eq_true hc, Bool.true_and, if_true]
      exact ih (i + 1) (by omega)
    · simp only [decide_eq_false hc, Bool.false_and, Bool.false_eq_true, if_false]
      exact Ev.now _
theorem spec_RelValid_ev (l : List Int) (hb : l.length ≤ 140737488351232) : Ev (fun k => spec_RelValid.f k l) (relOk l) := by
  refine ev_eq (spec_RelValid_l0 l hb l.length 0 (by omega)) ?_
  unfold relOk
  by_cases h : 1 ≤ l.length ∧ l.length ≤ 12
  · have hp := pow_le l.length h.2
    have h0 : 1 ≤ 2 ^ l.length := Nat.one_le_two_pow
    have e : wrap64 ((wrap64 (2 ^ (mn (l.length : Int) 12).toNat)) - 1) = ((2 ^ l.length : Nat) : Int) - 1 := by
      have : mn (l.length : Int) 12 = (l.length : Int) := by unfold mn; split <;> omega
      rw [this, Int.toNat_natCast]
      have e2 : (2 : Int) ^ l.length = ((2 ^ l.length : Nat) : Int) := by exact_mod_cast rfl
      rw [e2, wrap_in (x := ((2 ^ l.length : Nat) : Int)) (by omega) (by omega), wrap_in (by omega) (by omega)]
    simp only [decide_eq_true h, Bool.true_and, Bool.and_true, List.drop_zero, e]
    congr 1
    funext x
    exact decide_eq_decide.mpr (by omega)
  · simp [decide_eq_false h]
theorem impl_RelValid_l0 (l : List Int) (hb : l.length ≤ 140737488351232) : ∀ (d i : Nat), i + d = l.length → Ev (fun k => impl_RelValid.l0 k l l (l.length : Int) i) ((l.drop i).all (fun x => decide (0 ≤ x ∧ x < shl .i64 1 (l.length : Int))) && decide (1 ≤ l.length ∧ l.length ≤ 12)) := by
  intro d
  induction d with
  | zero =>
    intro i h
    refine ev_s ?_
    simp only [impl_RelValid.l0, if_neg (show ¬ ((i : Int) < (l.length : Int)) by omega)]
    rw [List.drop_of_length_le (by omega)]
    simp only [List.all_nil, Bool.true_and]
    by_cases hc : (l.length : Int) ≥ 1
    · simp only [if_pos hc]
      exact ev_now (decide_eq_decide.mpr (by omega))
    · simp only [if_neg hc]
      exact ev_now (decide_eq_false (by omega)).symm
  | succ d ih =>
    intro i h
    refine ev_s ?_
    simp only [impl_RelValid.l0, if_pos (show (i : Int) < (l.length : Int) by omega), if_pos (show (0 : Int) ≤ (i : Int) by omega), show wrap64 ((i : Int) + 1) = ((i + 1 : Nat) : Int) by rw [wrap_in (by omega) (by omega)]; rfl]
    rw [rd_get (show i < l.length by omega), all_drop (by omega)]
    by_cases h1 : l[i] < 0
    · simp only [if_pos h1, decide_eq_false (show ¬ (0 ≤ l[i] ∧ l[i] < shl .i64 1 (l.length : Int)) by omega), Bool.false_and]
      exact Ev.now _
    · by_cases h2 : l[i] ≥ shl .i64 1 (l.length : Int)
      · simp only [if_neg h1, if_pos h2, decide_eq_false (show ¬ (0 ≤ l[i] ∧ l[i] < shl .i64 1 (l.length : Int)) by omega), Bool.false_and]
        exact Ev.now _
      · simp only [if_neg h1, if_neg h2, decide_eq_true (show (0 ≤ l[i] ∧ l[i] < shl .i64 1 (l.length : Int)) by omega), Bool.true_and]
        exact ih (i + 1) (by omega)
theorem impl_RelValid_ev (l : List Int) (hb : l.length ≤ 140737488351232) : Ev (fun k => impl_RelValid.f k l) (relOk l) := by
  refine ev_eq (impl_RelValid_l0 l hb l.length 0 (by omega)) ?_
  unfold relOk
  by_cases h : 1 ≤ l.length ∧ l.length ≤ 12
  · simp only [decide_eq_true h, Bool.true_and, Bool.and_true, List.drop_zero, shl_one l.length (by omega)]
  · simp [decide_eq_false h]

-- part: RelSem
/-! ### relations as sets -/
def R (l : List Int) (i : Nat) : Nat := (rd l (i : Int)).toNat
theorem R_out {l : List Int} {i : Nat} (h : l.length ≤ i) : R l i = 0 := by simp [R, rd, List.getElem?_eq_none h]
theorem rel_len {l : List Int} (h : relOk l = true) : 1 ≤ l.length ∧ l.length ≤ 12 := by simp [relOk] at h; exact h.1
theorem rel_lt {l : List Int} (h : relOk l = true) (i : Nat) : R l i < 2 ^ l.length := by
  rcases Nat.lt_or_ge i l.length with hi | hi
  · simp only [relOk, Bool.and_eq_true, List.all_eq_true, decide_eq_true_eq] at h
    have := h.2 l[i] (List.getElem_mem hi)
    unfold R; rw [rd_get hi]; omega
  · rw [R_out hi]; exact Nat.two_pow_pos _
theorem rel_rd {l : List Int} (h : relOk l = true) (i : Nat) (hi : i < l.length) : rd l (i : Int) = (R l i : Int) := by
  simp only [relOk, Bool.and_eq_true, List.all_eq_true, decide_eq_true_eq] at h
  have := h.2 l[i] (List.getElem_mem hi)
  unfold R; rw [rd_get hi]; omega
theorem rel_small {l : List Int} (h : relOk l = true) : 2 ^ l.length < 2 ^ 62 := Nat.lt_of_le_of_lt (pow_le _ (rel_len h).2) (by decide)
theorem rel_4096 {l : List Int} (h : relOk l = true) : 2 ^ l.length ≤ 4096 := pow_le _ (rel_len h).2
def afterF (l : List Int) (S : Nat) : Nat → Nat → Nat → Nat
  | 0, _, acc => acc
  | d + 1, i, acc => afterF l S d (i + 1) (if S.testBit i = true then acc ||| R l i else acc)
def after (l : List Int) (S : Nat) : Nat := afterF l S l.length 0 0
def walk (l : List Int) : Nat → Nat → Nat
  | 0, S => S
  | n + 1, S => walk l n (after l S)
theorem afterF_lt {l : List Int} (h : relOk l = true) (S : Nat) : ∀ d i acc, acc < 2 ^ l.length → afterF l S d i acc < 2 ^ l.length
  | 0, _, _, ha => ha
  | d + 1, i, acc, ha => afterF_lt h S d (i + 1) _ (by split; exact or_lt ha (rel_lt h i); exact ha)
theorem after_lt {l : List Int} (h : relOk l = true) (S : Nat) : after l S < 2 ^ l.length := afterF_lt h S _ _ _ (Nat.two_pow_pos _)
theorem walk_lt {l : List Int} (h : relOk l = true) : ∀ n S, S < 2 ^ l.length → walk l n S < 2 ^ l.length
  | 0, _, hS => hS
  | n + 1, S, _ => walk_lt h n _ (after_lt h S)
theorem afterF_bit (l : List Int) (S : Nat) (j : Nat) : ∀ d i acc, (afterF l S d i acc).testBit j = true ↔ acc.testBit j = true ∨ ∃ m, i ≤ m ∧ m < i + d ∧ S.testBit m = true ∧ (R l m).testBit j = true
  | 0, i, acc => by
    constructor
    · intro h; exact .inl h
    · rintro (h | ⟨m, h1, h2, _⟩)
      · exact h
      · omega
  | d + 1, i, acc => by
    rw [afterF, afterF_bit l S j d (i + 1)]
    constructor
    · rintro (h | ⟨m, h1, h2, h3, h4⟩)
      · by_cases hS : S.testBit i = true
        · rw [if_pos hS, Nat.testBit_or, Bool.or_eq_true] at h
          rcases h with h | h
          · exact .inl h
          · exact .inr ⟨i, by omega, by omega, hS, h⟩
        · rw [if_neg hS] at h; exact .inl h
      · exact .inr ⟨m, by omega, by omega, h3, h4⟩
    · rintro (h | ⟨m, h1, h2, h3, h4⟩)
      · refine .inl ?_
        split
        · rw [Nat.testBit_or, h]; rfl
        · exact h
      · by_cases hm : m = i
        · subst hm; refine .inl ?_
          rw [if_pos h3, Nat.testBit_or, h4, Bool.or_true]
        · exact .inr ⟨m, by omega, by omega, h3, h4⟩
theorem after_bit (l : List Int) (S j : Nat) : (after l S).testBit j = true ↔ ∃ m, S.testBit m = true ∧ (R l m).testBit j = true := by
  unfold after
  rw [afterF_bit]
  constructor
  · rintro (h | ⟨m, _, _, h3, h4⟩)
    · simp at h
    · exact ⟨m, h3, h4⟩
  · rintro ⟨m, h3, h4⟩
    refine .inr ⟨m, Nat.zero_le _, ?_, h3, h4⟩
    rcases Nat.lt_or_ge m l.length with hm | hm
    · omega
    · rw [R_out hm] at h4; simp at h4

-- part: l7Bit
theorem l7Bit_eq (s n : Nat) (hn : n < 64) : spec_l7Bit.f (s : Int) (n : Int) = some (if s.testBit n = true then 1 else 0) := by
  unfold spec_l7Bit.f
  rw [if_pos (by omega), bit_mod s n hn]

-- part: chain
/-! ### sets that grow end -/
def card (S : Nat) : Nat → Nat
  | 0 => 0
  | n + 1 => card S n + (if S.testBit n = true then 1 else 0)
theorem card_le (S : Nat) : ∀ n, card S n ≤ n
  | 0 => Nat.le_refl _
  | n + 1 => by have := card_le S n; rw [card]; split <;> omega
theorem card_mono {S T : Nat} (h : ∀ i, S.testBit i = true → T.testBit i = true) : ∀ n, card S n ≤ card T n
  | 0 => Nat.le_refl _
  | n + 1 => by
    have := card_mono h n
    rw [card, card]
    by_cases hs : S.testBit n = true
    · rw [if_pos hs, if_pos (h n hs)]; omega
    · rw [if_neg hs]; omega
theorem card_eq {S T : Nat} (h : ∀ i, S.testBit i = true → T.testBit i = true) : ∀ n, card S n = card T n → ∀ i, i < n → S.testBit i = T.testBit i
  | 0, _, i, hi => by omega
  | n + 1, he, i, hi => by
    have hm := card_mono h n
    rw [card, card] at he
    have hb : S.testBit n = T.testBit n ∧ card S n = card T n := by
      cases hs : S.testBit n with
      | true => rw [h n hs]; rw [hs, h n hs] at he; simp at he; exact ⟨rfl, he⟩
      | false =>
        cases ht : T.testBit n with
        | false => rw [hs, ht] at he; simp at he; exact ⟨rfl, he⟩
        | true => rw [hs, ht] at he; simp at he; omega
    by_cases hin : i = n
    · subst hin; exact hb.1
    · exact card_eq h n hb.2 i (by omega)
theorem bits_ext {S T n : Nat} (hS : S < 2 ^ n) (hT : T < 2 ^ n) (h : ∀ i, i < n → S.testBit i = T.testBit i) : S = T := by
  apply Nat.eq_of_testBit_eq
  intro i
  rcases Nat.lt_or_ge i n with hi | hi
  · exact h i hi
  · rw [Nat.testBit_lt_two_pow (Nat.lt_of_lt_of_le hS (Nat.pow_le_pow_right (by decide) hi)), Nat.testBit_lt_two_pow (Nat.lt_of_lt_of_le hT (Nat.pow_le_pow_right (by decide) hi))]
theorem chain_stable {n : Nat} {f g : Nat → Nat} (hf : ∀ m, f (m + 1) = g (f m)) {m : Nat} (h : f m = f (m + 1)) : ∀ j, m ≤ j → f j = f m := by
  intro j hj
  induction hj with
  | refl => rfl
  | step hj ih => rw [hf, ih, ← hf, ← h]
theorem chain_end {n : Nat} {f g : Nat → Nat} (hf : ∀ m, f (m + 1) = g (f m)) (hlt : ∀ m, f m < 2 ^ n) (hsub : ∀ m i, (f m).testBit i = true → (f (m + 1)).testBit i = true) : f n = f (n + 1) := by
  have key : ∀ m, f m = f (m + 1) ∨ m + 1 ≤ card (f (m + 1)) n := by
    intro m
    induction m with
    | zero =>
      by_cases h : f 0 = f 1
      · exact .inl h
      · refine .inr ?_
        have h1 : card (f 0) n ≤ card (f 1) n := card_mono (hsub 0) n
        rcases Nat.lt_or_ge (card (f 0) n) (card (f 1) n) with h2 | h2
        · show 0 + 1 ≤ card (f 1) n; omega
        · exact absurd (bits_ext (hlt 0) (hlt 1) (card_eq (T := f 1) (hsub 0) n (by omega))) h
    | succ m ih =>
      rcases ih with ih | ih
      · refine .inl ?_
        have e1 := hf (m + 1)
        rw [← ih, ← hf m, ← ih] at e1
        rw [← ih, e1]
      · by_cases h : f (m + 1) = f (m + 1 + 1)
        · exact .inl h
        · refine .inr ?_
          have h1 := card_mono (hsub (m + 1)) n
          rcases Nat.lt_or_ge (card (f (m + 1)) n) (card (f (m + 1 + 1)) n) with h2 | h2
          · omega
          · exact absurd (bits_ext (hlt _) (hlt _) (card_eq (hsub (m + 1)) n (by omega))) h
  rcases key n with h | h
  · exact h
  · have := card_le (f (n + 1)) n; omega

-- part: Ranks
/-! ### ranks -/
def newB (l : List Int) (S i : Nat) : Bool := !S.testBit i && decide (Go.bits .andNot .i64 (R l i : Int) (S : Int) = 0)
def nextF (l : List Int) (S : Nat) : Nat → Nat → Nat → Nat
  | 0, _, acc => acc
  | d + 1, i, acc => nextF l S d (i + 1) (if newB l S i = true then acc ||| 2 ^ i else acc)
def outF (l : List Int) (S : Nat) (rank : Int) : Nat → Nat → List Int → List Int
  | 0, _, x => x
  | d + 1, i, x => outF l S rank d (i + 1) (if newB l S i = true then x.set i rank else x)
theorem nextF_lt {l : List Int} {S : Nat} : ∀ d i acc, i + d ≤ l.length → acc < 2 ^ l.length → nextF l S d i acc < 2 ^ l.length
  | 0, _, _, _, h => h
  | d + 1, i, acc, hi, h => by
    refine nextF_lt d (i + 1) _ (by omega) ?_
    split
    · exact or_lt h (Nat.pow_lt_pow_right (by decide) (by omega))
    · exact h
theorem nextF_bit (l : List Int) (S j : Nat) : ∀ d i acc, (nextF l S d i acc).testBit j = (acc.testBit j || (decide (i ≤ j ∧ j < i + d) && newB l S j))
  | 0, i, acc => by simp [nextF]; omega
  | d + 1, i, acc => by
    rw [nextF, nextF_bit l S j d (i + 1)]
    by_cases hji : i = j
    · subst hji
      cases h : newB l S i with
      | true => simp only [if_true, testBit_or_two_pow]; simp
      | false => simp
    · have e : decide (i ≤ j ∧ j < i + (d + 1)) = decide (i + 1 ≤ j ∧ j < i + 1 + d) := decide_eq_decide.mpr (by omega)
      rw [e]
      cases h : newB l S i with
      | true => simp only [if_true, testBit_or_two_pow, decide_eq_false hji, Bool.or_false]
      | false => simp
theorem outF_length (l : List Int) (S : Nat) (rank : Int) : ∀ d i x, (outF l S rank d i x).length = x.length
  | 0, _, _ => rfl
  | d + 1, i, x => by rw [outF, outF_length l S rank d]; split <;> simp
theorem rd_set {x : List Int} {i : Nat} (v : Int) (hi : i < x.length) (j : Nat) : rd (x.set i v) (j : Int) = if i = j then v else rd x (j : Int) := by
  simp only [rd, Int.toNat_natCast, List.getD_eq_getElem?_getD, List.getElem?_set]
  by_cases h : i = j
  · subst h; simp [hi]
  · simp [h]
theorem outF_rd (l : List Int) (S : Nat) (rank : Int) (j : Nat) : ∀ d i x, i + d ≤ x.length → rd (outF l S rank d i x) (j : Int) = if (decide (i ≤ j ∧ j < i + d) && newB l S j) = true then rank else rd x (j : Int)
  | 0, i, x, _ => by
    have : decide (i ≤ j ∧ j < i + 0) = false := decide_eq_false (by omega)
    rw [outF, this]; rfl
  | d + 1, i, x, hx => by
    have hlen : i + 1 + d ≤ (if newB l S i = true then x.set i rank else x).length := by
      split
      · rw [List.length_set]; omega
      · omega
    rw [outF, outF_rd l S rank j d (i + 1) _ hlen]
    by_cases hji : i = j
    · subst hji
      have e1 : decide (i + 1 ≤ i ∧ i < i + 1 + d) = false := decide_eq_false (by omega)
      have e2 : decide (i ≤ i ∧ i < i + (d + 1)) = true := decide_eq_true (by omega)
      rw [e1, e2]
      cases h : newB l S i with
      | true => simp only [if_true, Bool.false_and, Bool.false_eq_true, if_false, Bool.true_and, rd_set rank (show i < x.length by omega)]
      | false => simp
    · have e : decide (i ≤ j ∧ j < i + (d + 1)) = decide (i + 1 ≤ j ∧ j < i + 1 + d) := decide_eq_decide.mpr (by omega)
      rw [e]
      cases h : newB l S i with
      | true => simp only [if_true, rd_set rank (show i < x.length by omega), if_neg hji]
      | false => simp
/-- The points whose rank is less than n. -/
def D (l : List Int) : Nat → Nat
  | 0 => 0
  | n + 1 => nextF l (D l n) l.length 0 (D l n)
theorem D_lt (l : List Int) : ∀ n, D l n < 2 ^ l.length
  | 0 => Nat.two_pow_pos _
  | n + 1 => nextF_lt _ _ _ (by omega) (D_lt l n)
theorem D_bit (l : List Int) (n j : Nat) : (D l (n + 1)).testBit j = ((D l n).testBit j || (decide (j < l.length) && newB l (D l n) j)) := by
  rw [D, nextF_bit]; simp
def rk (l : List Int) (i : Nat) : Nat → Int
  | 0 => -1
  | n + 1 => if newB l (D l n) i = true then (n : Int) else rk l i n
theorem newB_iff {l : List Int} (h : relOk l = true) {S : Nat} (hS : S < 2 ^ l.length) (i : Nat) : newB l S i = true ↔ S.testBit i = false ∧ ∀ j, (R l i).testBit j = true → S.testBit j = true := by
  have h1 := rel_lt h i
  have h2 := rel_small h
  simp only [newB, Bool.and_eq_true, Bool.not_eq_true', decide_eq_true_eq]
  rw [andNot_zero (R l i) S (by omega) (by omega)]
theorem D_mono {l : List Int} : ∀ {m n : Nat}, m ≤ n → ∀ j, (D l m).testBit j = true → (D l n).testBit j = true := by
  intro m n hmn j hj
  induction hmn with
  | refl => exact hj
  | step _ ih => rw [D_bit, ih]; rfl
/-- A point is there as soon as all to which it leads are. -/
theorem D_iff {l : List Int} (h : relOk l = true) (n j : Nat) (hj : j < l.length) : (D l (n + 1)).testBit j = true ↔ ∀ t, (R l j).testBit t = true → (D l n).testBit t = true := by
  rw [D_bit, Bool.or_eq_true, Bool.and_eq_true, newB_iff h (D_lt l n), decide_eq_true_eq]
  constructor
  · rintro (h1 | h1)
    · -- it came in at some round before
      intro t ht
      induction n with
      | zero => simp [D] at h1
      | succ n ih =>
        rw [D_bit, Bool.or_eq_true, Bool.and_eq_true, newB_iff h (D_lt l n)] at h1
        rcases h1 with h1 | h1
        · exact D_mono (Nat.le_succ _) t (ih h1)
        · exact D_mono (Nat.le_succ _) t (h1.2.2 t ht)
    · exact h1.2.2
  · intro h1
    cases hb : (D l n).testBit j with
    | true => exact .inl rfl
    | false => exact .inr ⟨hj, rfl, h1⟩
theorem rk_out {l : List Int} {i : Nat} : ∀ n, (D l n).testBit i = false → i < l.length → rk l i n = -1
  | 0, _, _ => rfl
  | n + 1, hd, hi => by
    rw [D_bit, Bool.or_eq_false_iff] at hd
    have h2 : newB l (D l n) i = false := by have := hd.2; rwa [decide_eq_true hi, Bool.true_and] at this
    rw [rk, h2, if_neg (by decide), rk_out n hd.1 hi]
theorem rk_in {l : List Int} {i : Nat} (hi : i < l.length) : ∀ n, (D l n).testBit i = true → ∃ m : Nat, m < n ∧ rk l i n = (m : Int) ∧ (D l m).testBit i = false ∧ (D l (m + 1)).testBit i = true
  | 0, hd => by simp [D] at hd
  | n + 1, hd => by
    by_cases hb : newB l (D l n) i = true
    · refine ⟨n, by omega, by rw [rk, if_pos hb], ?_, hd⟩
      simp only [newB, Bool.and_eq_true, Bool.not_eq_true'] at hb; exact hb.1
    · have h1 : (D l n).testBit i = true := by
        rw [D_bit] at hd
        cases hb2 : newB l (D l n) i with
        | true => exact absurd hb2 hb
        | false => rw [hb2] at hd; simpa using hd
      obtain ⟨m, h2, h3, h4, h5⟩ := rk_in hi n h1
      exact ⟨m, by omega, by rw [rk, if_neg hb]; exact h3, h4, h5⟩
theorem D_step {l : List Int} (n : Nat) : D l (n + 1) = (fun S => nextF l S l.length 0 S) (D l n) := rfl
theorem D_end (l : List Int) : D l l.length = D l (l.length + 1) :=
  chain_end (g := fun S => nextF l S l.length 0 S) (fun _ => rfl) (D_lt l) (fun m i hb => D_mono (Nat.le_succ m) i hb)
theorem D_last (l : List Int) (n : Nat) (hn : l.length ≤ n) : D l n = D l l.length := chain_stable (n := 0) (g := fun S => nextF l S l.length 0 S) (fun _ => rfl) (D_end l) n hn
/-- The ranks. -/
def rkL (l : List Int) (i : Nat) : Int := rk l i l.length
def ranksOf (l : List Int) : List Int := if relOk l = true then (List.range l.length).map (rkL l) else []
theorem list_of_rd {x : List Int} {n : Nat} {f : Nat → Int} (hl : x.length = n) (h : ∀ i, i < n → rd x (i : Int) = f i) : x = (List.range n).map f := by
  apply List.ext_getElem
  · simp [hl]
  · intro i h1 h2
    have := h i (by omega)
    rw [rd_get h1] at this
    simp [this]
theorem rkL_ge (l : List Int) (i : Nat) : -1 ≤ rkL l i ∧ rkL l i ≤ (l.length : Int) := by
  have : ∀ n : Nat, -1 ≤ rk l i n ∧ rk l i n ≤ (n : Int) := by
    intro n
    induction n with
    | zero => simp [rk]
    | succ n ih => rw [rk]; split <;> omega
  exact this _
theorem rkL_pos {l : List Int} {i : Nat} (hi : i < l.length) : 0 ≤ rkL l i ↔ (D l l.length).testBit i = true := by
  constructor
  · intro h0
    cases hb : (D l l.length).testBit i with
    | true => rfl
    | false => have := rk_out l.length hb hi; unfold rkL at h0; omega
  · intro hb
    obtain ⟨m, _, h2, _⟩ := rk_in hi l.length hb
    unfold rkL; omega
theorem rkL_lt {l : List Int} {i m : Nat} (hi : i < l.length) (hm : m ≤ l.length) : (D l m).testBit i = true ↔ 0 ≤ rkL l i ∧ rkL l i < (m : Int) := by
  constructor
  · intro hb
    have h1 := D_mono hm i hb
    refine ⟨(rkL_pos hi).mpr h1, ?_⟩
    obtain ⟨t, h2, h3, h4, h5⟩ := rk_in hi l.length h1
    unfold rkL; rw [h3]
    rcases Nat.lt_or_ge t m with h6 | h6
    · omega
    · have := D_mono h6 i hb; rw [this] at h4; cases h4
  · rintro ⟨h0, h1⟩
    obtain ⟨t, h2, h3, h4, h5⟩ := rk_in hi l.length ((rkL_pos hi).mp h0)
    unfold rkL at h1; rw [h3] at h1
    exact D_mono (show t + 1 ≤ m by omega) i h5

-- part: implRanks
theorem impl_ranks_l2 {l : List Int} (h : relOk l = true) (S : Nat) (hS : S < 2 ^ l.length) (rank : Nat) (r : List Int) : ∀ (d i acc : Nat) (x : List Int), i + d = l.length → x.length = l.length → acc < 2 ^ l.length →
    Ev (fun k => impl_ranks.l1 k l (outF l S (rank : Int) d i x) ((nextF l S d i acc : Nat) : Int) (l.length : Int) (wrap64 ((rank : Int) + 1))) r →
    Ev (fun k => impl_ranks.l2 k l x (S : Int) (rank : Int) (acc : Int) (l.length : Int) (rank : Int) l (l.length : Int) (i : Int)) r := by
  have hl := rel_len h
  have h4 := rel_4096 h
  intro d
  induction d with
  | zero =>
    intro i acc x hi hx ha hc
    refine ev_s ?_
    simp only [impl_ranks.l2, if_neg (show ¬ ((i : Int) < (l.length : Int)) by omega)]
    exact hc
  | succ d ih =>
    intro i acc x hi hx ha hc
    have hr := rel_lt h i
    have hp : 2 ^ i < 2 ^ l.length := Nat.pow_lt_pow_right (by decide) (by omega)
    refine ev_s ?_
    simp only [impl_ranks.l2, if_pos (show (i : Int) < (l.length : Int) by omega), if_pos (show (0 : Int) ≤ (i : Int) by omega), if_pos (show (i : Int) < (x.length : Int) by omega), bit_and S i (by omega) (by omega), rel_rd h i (by omega), Int.toNat_natCast, shl_one i (by omega), or_nat acc (2 ^ i) (by omega) (by omega), show wrap64 ((i : Int) + 1) = ((i + 1 : Nat) : Int) by rw [wrap_in (by omega) (by omega)]; rfl]
    rw [outF, nextF] at hc
    cases hb : S.testBit i with
    | true =>
      have hn : newB l S i = false := by simp [newB, hb]
      rw [hn] at hc
      simp only [if_true, if_neg (show ¬ ((1 : Int) = 0) by decide)]
      exact ih (i + 1) acc x (by omega) hx ha (by simpa using hc)
    | false =>
      simp only [Bool.false_eq_true, if_false, if_true]
      by_cases hz : Go.bits .andNot .i64 (R l i : Int) (S : Int) = 0
      · have hn : newB l S i = true := by simp [newB, hb, hz]
        rw [if_pos hn, if_pos hn] at hc
        simp only [if_pos hz]
        exact ih (i + 1) _ _ (by omega) (by simpa using hx) (or_lt ha hp) hc
      · have hn : newB l S i = false := by simp [newB, hb, hz]
        rw [hn] at hc
        simp only [if_neg hz]
        exact ih (i + 1) acc x (by omega) hx ha (by simpa using hc)
theorem impl_ranks_l1 {l : List Int} (h : relOk l = true) : ∀ (d n : Nat) (x : List Int), n + d = l.length → x.length = l.length → (∀ i, i < l.length → rd x (i : Int) = rk l i n) → Ev (fun k => impl_ranks.l1 k l x ((D l n : Nat) : Int) (l.length : Int) (n : Int)) ((List.range l.length).map (rkL l)) := by
  have hl := rel_len h
  intro d
  induction d with
  | zero =>
    intro n x hn hx hrd
    refine ev_s ?_
    simp only [impl_ranks.l1, if_neg (show ¬ ((n : Int) < (l.length : Int)) by omega)]
    refine ev_now (list_of_rd hx ?_)
    intro i hi
    rw [hrd i hi, rkL, show n = l.length by omega]
  | succ d ih =>
    intro n x hn hx hrd
    refine ev_s ?_
    simp only [impl_ranks.l1, if_pos (show (n : Int) < (l.length : Int) by omega)]
    refine impl_ranks_l2 h (D l n) (D_lt l n) n _ l.length 0 (D l n) x (by omega) hx (D_lt l n) ?_
    rw [show wrap64 ((n : Int) + 1) = ((n + 1 : Nat) : Int) by rw [wrap_in (by omega) (by omega)]; rfl]
    refine ih (n + 1) _ (by omega) (by rw [outF_length]; exact hx) ?_
    intro i hi
    rw [outF_rd l (D l n) (n : Int) i l.length 0 x (by omega), rk, hrd i hi]
    have e : decide (0 ≤ i ∧ i < 0 + l.length) = true := decide_eq_true (by omega)
    rw [e, Bool.true_and]
theorem impl_ranks_l0 {l : List Int} (h : relOk l = true) : ∀ (d i : Nat) (x : List Int), i + d = l.length → x.length = l.length → (∀ j, j < i → rd x (j : Int) = -1) → Ev (fun k => impl_ranks.l0 k l x (l.length : Int) (i : Int)) ((List.range l.length).map (rkL l)) := by
  have hl := rel_len h
  intro d
  induction d with
  | zero =>
    intro i x hi hx hrd
    refine ev_s ?_
    simp only [impl_ranks.l0, if_neg (show ¬ ((i : Int) < (l.length : Int)) by omega)]
    exact impl_ranks_l1 h l.length 0 x (by omega) hx (fun j hj => by rw [hrd j (by omega)]; rfl)
  | succ d ih =>
    intro i x hi hx hrd
    refine ev_s ?_
    simp only [impl_ranks.l0, if_pos (show (i : Int) < (l.length : Int) by omega), if_pos (show (0 : Int) ≤ (i : Int) by omega), if_pos (show (i : Int) < (x.length : Int) by omega), Int.toNat_natCast, show wrap64 ((i : Int) + 1) = ((i + 1 : Nat) : Int) by rw [wrap_in (by omega) (by omega)]; rfl]
    refine ih (i + 1) _ (by omega) (by simpa using hx) ?_
    intro j hj
    rw [rd_set (-1) (by omega)]
    split
    · rfl
    · exact hrd j (by omega)
theorem impl_ranks_ev {l : List Int} (h : relOk l = true) : Ev (fun k => impl_ranks.f k l) ((List.range l.length).map (rkL l)) := by
  have hl := rel_len h
  simp only [impl_ranks.f, if_pos (show (0 : Int) ≤ (l.length : Int) by omega), Int.toNat_natCast, if_pos (show l.length ≤ 35184372088832 by omega), Option.bind_some, List.length_replicate]
  exact impl_ranks_l0 h l.length 0 _ (by omega) (by simp) (fun j hj => by omega)

-- part: RanksOf
theorem ranksOf_length (l : List Int) : (ranksOf l).length ≤ l.length := by
  unfold ranksOf; split <;> simp
/-- What the reference reckons for a point, out of what is known. -/
def valF (l : List Int) (k : Nat) (x : List Int) : Nat → Nat → Int → Int
  | 0, _, v => v
  | d + 1, j, v => valF l k x d (j + 1) (if (R l k).testBit j = true ∧ 0 ≤ v then (if rd x (j : Int) < 0 then -1 else mx v (wrap64 (rd x (j : Int) + 1))) else v)
theorem valF_neg (l : List Int) (k : Nat) (x : List Int) : ∀ d j, valF l k x d j (-1) = -1
  | 0, _ => rfl
  | d + 1, j => by rw [valF, if_neg (by omega), valF_neg l k x d]
/-- All to which it leads are known: one more than the greatest. -/
theorem valF_all {l : List Int} {k : Nat} {x : List Int} (m : Int) (hm : m ≤ 1000) (hx : ∀ j, (R l k).testBit j = true → 0 ≤ rd x (j : Int) ∧ rd x (j : Int) < m) : ∀ d j v, 0 ≤ v → v ≤ m → (v = m ∨ ∃ t, j ≤ t ∧ t < j + d ∧ (R l k).testBit t = true ∧ rd x (t : Int) + 1 = m) → valF l k x d j v = m
  | 0, j, v, _, _, h => by
    rcases h with h | ⟨t, h1, h2, _⟩
    · exact h
    · omega
  | d + 1, j, v, h0, h1, h => by
    rw [valF]
    by_cases hb : (R l k).testBit j = true
    · obtain ⟨g1, g2⟩ := hx j hb
      rw [if_pos ⟨hb, h0⟩, if_neg (by omega), wrap_in (by omega) (by omega)]
      have hmx : mx v (rd x (j : Int) + 1) ≤ m ∧ 0 ≤ mx v (rd x (j : Int) + 1) := by unfold mx; split <;> omega
      refine valF_all m hm hx d (j + 1) _ hmx.2 hmx.1 ?_
      rcases h with h | ⟨t, t1, t2, t3, t4⟩
      · left; unfold mx; split <;> omega
      · by_cases htj : t = j
        · subst htj; left; unfold mx; split <;> omega
        · right; exact ⟨t, by omega, by omega, t3, t4⟩
    · rw [if_neg (fun hh => hb hh.1)]
      refine valF_all m hm hx d (j + 1) v h0 h1 ?_
      rcases h with h | ⟨t, t1, t2, t3, t4⟩
      · exact .inl h
      · have : t ≠ j := fun e => hb (e ▸ t3)
        exact .inr ⟨t, by omega, by omega, t3, t4⟩
theorem valF_some {l : List Int} {k : Nat} {x : List Int} : ∀ d j v, (∃ t, j ≤ t ∧ t < j + d ∧ (R l k).testBit t = true ∧ rd x (t : Int) < 0) → (0 ≤ v ∨ v = -1) → (∀ t : Nat, rd x (t : Int) ≤ 1000) → valF l k x d j v = -1
  | 0, j, v, h, _, _ => by obtain ⟨t, h1, h2, _⟩ := h; omega
  | d + 1, j, v, h, hv, hx => by
    rcases hv with hv | hv
    · obtain ⟨t, t1, t2, t3, t4⟩ := h
      rw [valF]
      by_cases hb : (R l k).testBit j = true
      · rw [if_pos ⟨hb, hv⟩]
        by_cases hn : rd x (j : Int) < 0
        · rw [if_pos hn, valF_neg]
        · rw [if_neg hn]
          have := hx j
          have hw : wrap64 (rd x (j : Int) + 1) = rd x (j : Int) + 1 := wrap_in (by omega) (by omega)
          refine valF_some d (j + 1) _ ⟨t, ?_, by omega, t3, t4⟩ (.inl ?_) hx
          · have : t ≠ j := fun e => hn (e ▸ t4)
            omega
          · rw [hw]; unfold mx; split <;> omega
      · rw [if_neg (fun hh => hb hh.1)]
        have : t ≠ j := fun e => hb (e ▸ t3)
        exact valF_some d (j + 1) v ⟨t, by omega, by omega, t3, t4⟩ (.inl hv) hx
    · subst hv; exact valF_neg l k x (d + 1) j
/-- What is known of the ranks: each that is told is right, and all below n are told. -/
def Known (l : List Int) (n : Nat) (x : List Int) : Prop := x.length = l.length ∧ ∀ i, i < l.length → (rd x (i : Int) = -1 ∨ rd x (i : Int) = rkL l i) ∧ ((D l n).testBit i = true → rd x (i : Int) = rkL l i)
theorem rd_out {x : List Int} {i : Nat} (h : x.length ≤ i) : rd x (i : Int) = 0 := by simp [rd, List.getElem?_eq_none h]
theorem Known_small {l : List Int} (hl : l.length ≤ 12) {n : Nat} {x : List Int} (hx : Known l n x) (t : Nat) : rd x (t : Int) ≤ 1000 := by
  rcases Nat.lt_or_ge t l.length with ht | ht
  · have := rkL_ge l t
    rcases (hx.2 t ht).1 with h | h <;> omega
  · rw [rd_out (by rw [hx.1]; exact ht)]; omega
theorem valF_known {l : List Int} (h : relOk l = true) {n : Nat} {x : List Int} (hx : Known l n x) (k : Nat) (hk : k < l.length) :
    (valF l k x l.length 0 0 = -1 ∨ valF l k x l.length 0 0 = rkL l k) ∧ ((D l (n + 1)).testBit k = true → valF l k x l.length 0 0 = rkL l k) := by
  have hl := rel_len h
  by_cases hall : ∀ t, (R l k).testBit t = true → 0 ≤ rd x (t : Int)
  · -- all are told
    have hin : ∀ t, (R l k).testBit t = true → t < l.length ∧ rd x (t : Int) = rkL l t ∧ (D l l.length).testBit t = true := by
      intro t ht
      have ht1 := testBit_lt (rel_lt h k) ht
      have h0 := hall t ht
      have e : rd x (t : Int) = rkL l t := by rcases (hx.2 t ht1).1 with h1 | h1; omega; exact h1
      exact ⟨ht1, e, (rkL_pos ht1).mp (by omega)⟩
    have hkD : (D l l.length).testBit k = true := by
      rw [D_end, D_iff h l.length k hk]
      exact fun t ht => (hin t ht).2.2
    obtain ⟨m, hm, hm2, hm3, hm4⟩ := rk_in hk l.length hkD
    have hm5 : rkL l k = (m : Int) := hm2
    have hsub := (D_iff h m k hk).mp hm4
    have hv : valF l k x l.length 0 0 = rkL l k := by
      rw [hm5]
      refine valF_all (m : Int) (by omega) ?_ l.length 0 0 (by omega) (by omega) ?_
      · intro j hj
        obtain ⟨j1, j2, _⟩ := hin j hj
        rw [j2]
        exact (rkL_lt j1 (by omega)).mp (hsub j hj)
      · rcases Nat.eq_zero_or_pos m with h0 | h0
        · left; omega
        · right
          obtain ⟨m', rfl⟩ : ∃ m', m = m' + 1 := ⟨m - 1, by omega⟩
          have hnot : ¬ (∀ t, (R l k).testBit t = true → (D l m').testBit t = true) := fun hh => by
            have := (D_iff h m' k hk).mpr hh
            rw [this] at hm3; cases hm3
          simp only [Classical.not_forall] at hnot
          obtain ⟨t, ht, ht2⟩ := hnot
          obtain ⟨t1, t2, _⟩ := hin t ht
          have t3 := (rkL_lt t1 (by omega)).mp (hsub t ht)
          have t4 : ¬ (0 ≤ rkL l t ∧ rkL l t < (m' : Int)) := fun hh => ht2 ((rkL_lt t1 (by omega)).mpr hh)
          exact ⟨t, by omega, by omega, ht, by rw [t2]; omega⟩
    exact ⟨.inr hv, fun _ => hv⟩
  · simp only [Classical.not_forall] at hall
    obtain ⟨t, ht, ht2⟩ := hall
    have ht1 := testBit_lt (rel_lt h k) ht
    have hv : valF l k x l.length 0 0 = -1 := valF_some l.length 0 0 ⟨t, by omega, by omega, ht, by omega⟩ (.inl (by omega)) (Known_small hl.2 hx)
    refine ⟨.inl hv, fun hkD => ?_⟩
    exfalso
    have := (D_iff h n k hk).mp hkD t ht
    have e := (hx.2 t ht1).2 this
    have hp : 0 ≤ rkL l t := by
      rcases Nat.lt_or_ge n l.length with hn | hn
      · exact ((rkL_lt ht1 (by omega)).mp this).1
      · rw [D_last l n hn] at this; exact (rkL_pos ht1).mpr this
    omega
theorem spec_RanksOf_l3 {l : List Int} (h : relOk l = true) (n : Int) (k : Nat) (hk : k < l.length) (x : List Int) (hx : x.length = l.length) (r : List Int) : ∀ (d j : Nat) (v : Int), j + d = l.length →
    Ev (fun m => spec_RanksOf.l2 m l (x.set k (valF l k x d j v)) n ((k + 1 : Nat) : Int)) r →
    Ev (fun m => spec_RanksOf.l3 m l x n (k : Int) v (j : Int)) r := by
  have hl := rel_len h
  intro d
  induction d with
  | zero =>
    intro j v hj hc
    refine ev_s ?_
    simp only [spec_RanksOf.l3, if_neg (show ¬ ((j : Int) < (l.length : Int)) by omega), if_pos (show (0 : Int) ≤ (k : Int) by omega), if_pos (show (k : Int) < (x.length : Int) by omega), Int.toNat_natCast, show wrap64 ((k : Int) + 1) = ((k + 1 : Nat) : Int) by rw [wrap_in (by omega) (by omega)]; rfl]
    exact hc
  | succ d ih =>
    intro j v hj hc
    rw [valF] at hc
    refine ev_s ?_
    simp only [spec_RanksOf.l3, if_pos (show (j : Int) < (l.length : Int) by omega), if_pos (show (0 : Int) ≤ (k : Int) by omega), if_pos (show (k : Int) < (l.length : Int) by omega), rel_rd h k hk, l7Bit_eq (R l k) j (by omega), Option.bind_some]
    have e1 : wrap64 ((j : Int) + 1) = ((j + 1 : Nat) : Int) := by rw [wrap_in (by omega) (by omega)]; rfl
    by_cases hb : (R l k).testBit j = true
    · simp only [if_pos hb, if_true]
      refine ev_s ?_
      by_cases hv : v ≥ 0
      · rw [if_pos ⟨hb, hv⟩] at hc
        simp only [spec_RanksOf.j4, decide_eq_true hv, if_true, if_pos (show (0 : Int) ≤ (j : Int) by omega), if_pos (show (j : Int) < (x.length : Int) by omega), e1]
        by_cases hn : rd x (j : Int) < 0
        · rw [if_pos hn] at hc
          simp only [if_pos hn]
          exact ih (j + 1) _ (by omega) hc
        · rw [if_neg hn] at hc
          simp only [if_neg hn]
          exact ih (j + 1) _ (by omega) hc
      · rw [if_neg (fun hh => hv hh.2)] at hc
        simp only [spec_RanksOf.j4, decide_eq_false hv, Bool.false_eq_true, if_false, e1]
        exact ih (j + 1) _ (by omega) hc
    · rw [if_neg (fun hh => hb hh.1)] at hc
      simp only [if_neg hb, if_neg (show ¬ ((0 : Int) = 1) by decide)]
      refine ev_s ?_
      simp only [spec_RanksOf.j4, Bool.false_eq_true, if_false, e1]
      exact ih (j + 1) _ (by omega) hc
theorem spec_RanksOf_l2 {l : List Int} (h : relOk l = true) (n : Nat) (r : List Int) (hn : n ≤ 100)
    (hc : ∀ x, Known l (n + 1) x → Ev (fun m => spec_RanksOf.l1 m l x ((n + 1 : Nat) : Int)) r) : ∀ (d k : Nat) (x : List Int), k + d = l.length → Known l n x → (∀ i, i < k → (D l (n + 1)).testBit i = true → rd x (i : Int) = rkL l i) → Ev (fun m => spec_RanksOf.l2 m l x (n : Int) (k : Int)) r := by
  have hl := rel_len h
  intro d
  induction d with
  | zero =>
    intro k x hk hx hd
    refine ev_s ?_
    simp only [spec_RanksOf.l2, if_neg (show ¬ ((k : Int) < (l.length : Int)) by omega), show wrap64 ((n : Int) + 1) = ((n + 1 : Nat) : Int) by rw [wrap_in (by omega) (by omega)]; rfl]
    exact hc x ⟨hx.1, fun i hi => ⟨(hx.2 i hi).1, hd i (by omega)⟩⟩
  | succ d ih =>
    intro k x hk hx hd
    refine ev_s ?_
    simp only [spec_RanksOf.l2, if_pos (show (k : Int) < (l.length : Int) by omega)]
    obtain ⟨v1, v2⟩ := valF_known h hx k (by omega)
    refine spec_RanksOf_l3 h (n : Int) k (by omega) x hx.1 r l.length 0 0 (by omega) ?_
    refine ih (k + 1) _ (by omega) ⟨by simpa using hx.1, fun i hi => ?_⟩ (fun i hi hD => ?_)
    · rw [rd_set _ (by rw [hx.1]; omega)]
      by_cases hik : k = i
      · subst hik
        rw [if_pos rfl]
        exact ⟨v1, fun hD => v2 (D_mono (Nat.le_succ n) k hD)⟩
      · rw [if_neg hik]; exact hx.2 i hi
    · rw [rd_set _ (by rw [hx.1]; omega)]
      by_cases hik : k = i
      · subst hik
        rw [if_pos rfl]; exact v2 hD
      · rw [if_neg hik]; exact hd i (by omega) hD
theorem spec_RanksOf_l1 {l : List Int} (h : relOk l = true) : ∀ (d n : Nat) (x : List Int), n + d = l.length → Known l n x → Ev (fun m => spec_RanksOf.l1 m l x (n : Int)) ((List.range l.length).map (rkL l)) := by
  have hl := rel_len h
  intro d
  induction d with
  | zero =>
    intro n x hn hx
    refine ev_s ?_
    simp only [spec_RanksOf.l1, if_neg (show ¬ ((n : Int) < (l.length : Int)) by omega)]
    refine ev_now (list_of_rd hx.1 ?_)
    intro i hi
    cases hD : (D l l.length).testBit i with
    | true => exact (hx.2 i hi).2 (by rw [show n = l.length by omega]; exact hD)
    | false =>
      have := rk_out l.length hD hi
      rcases (hx.2 i hi).1 with h1 | h1
      · rw [h1, rkL, this]
      · exact h1
  | succ d ih =>
    intro n x hn hx
    refine ev_s ?_
    simp only [spec_RanksOf.l1, if_pos (show (n : Int) < (l.length : Int) by omega)]
    exact spec_RanksOf_l2 h n _ (by omega) (fun x' hx' => ih (n + 1) x' (by omega) hx') l.length 0 x (by omega) hx (fun i hi => by omega)
theorem spec_RanksOf_l0 {l : List Int} (h : relOk l = true) : ∀ (d i : Nat) (x : List Int), i + d = l.length → x.length = i → (∀ j, j < i → rd x (j : Int) = -1) → Ev (fun m => spec_RanksOf.l0 m l x (i : Int)) ((List.range l.length).map (rkL l)) := by
  have hl := rel_len h
  intro d
  induction d with
  | zero =>
    intro i x hi hx hrd
    refine ev_s ?_
    simp only [spec_RanksOf.l0, if_neg (show ¬ ((i : Int) < (l.length : Int)) by omega)]
    exact spec_RanksOf_l1 h l.length 0 x (by omega) ⟨by omega, fun j hj => ⟨.inl (hrd j (by omega)), fun hD => by simp [D] at hD⟩⟩
  | succ d ih =>
    intro i x hi hx hrd
    refine ev_s ?_
    simp only [spec_RanksOf.l0, if_pos (show (i : Int) < (l.length : Int) by omega), if_pos (show x.length < 17592186044416 by omega), show wrap64 ((i : Int) + 1) = ((i + 1 : Nat) : Int) by rw [wrap_in (by omega) (by omega)]; rfl]
    refine ih (i + 1) _ (by omega) (by simp [hx]) ?_
    intro j hj
    rw [rd_get (by simp; omega)]
    by_cases hji : j < x.length
    · rw [List.getElem_append_left hji, ← rd_get hji]; exact hrd j (by omega)
    · rw [List.getElem_append_right (by omega)]; simp
theorem spec_RanksOf_ev (l : List Int) (hb : l.length ≤ 140737488351232) : Ev (fun k => spec_RanksOf.f k l) (ranksOf l) := by
  simp only [spec_RanksOf.f, Option.bind_some]
  refine Ev.bind (spec_RelValid_ev l hb) ?_
  unfold ranksOf
  cases h : relOk l with
  | false => simp only [Bool.false_eq_true, if_false]; exact Ev.now _
  | true => simp only [if_true]; exact spec_RanksOf_l0 h l.length 0 [] (by omega) rfl (fun j hj => by omega)

-- part: WellFounded
def wfB (l : List Int) : Bool := relOk l && (ranksOf l).all (fun v => decide (0 ≤ v))
theorem spec_WellFounded_l0 (x : List Int) (hb : x.length ≤ 140737488351232) : ∀ (d i : Nat), i + d = x.length → Ev (fun k => spec_WellFounded.l0 k x (i : Int)) ((x.drop i).all (fun v => decide (0 ≤ v)) && decide (0 < x.length))
  | 0, i, h => by
    refine ev_s ?_
    simp only [spec_WellFounded.l0, if_neg (show ¬ ((i : Int) < (x.length : Int)) by omega)]
    rw [List.drop_eq_nil_of_le (by omega)]
    exact ev_now (by simp)
  | d + 1, i, h => by
    have hi : i < x.length := by omega
    refine ev_s ?_
    simp only [spec_WellFounded.l0, if_pos (show (i : Int) < (x.length : Int) by omega), if_pos (show 0 ≤ (i : Int) by omega), rd_get hi, show wrap64 ((i : Int) + 1) = ((i + 1 : Nat) : Int) from wrap_nat2 i 1 (by omega)]
    rw [all_drop hi]
    by_cases hx : x[i] < 0
    · simp only [if_pos hx]; exact ev_now (by simp [show ¬ 0 ≤ x[i] by omega])
    · simp only [if_neg hx]; exact ev_eq (spec_WellFounded_l0 x hb d (i + 1) (by omega)) (by simp [show 0 ≤ x[i] by omega])
theorem spec_WellFounded_ev (l : List Int) (hb : l.length ≤ 140737488351232) : Ev (fun k => spec_WellFounded.f k l) (wfB l) := by
  simp only [spec_WellFounded.f]
  refine Ev.bind (spec_RanksOf_ev l hb) ?_
  refine ev_eq (spec_WellFounded_l0 (ranksOf l) (by have := ranksOf_length l; omega) _ 0 (Nat.zero_add _)) ?_
  unfold wfB
  rw [List.drop_zero]
  cases h : relOk l with
  | false => simp [ranksOf, h]
  | true =>
    have := rel_len h
    simp [ranksOf, h, show 0 < l.length by omega]
theorem min_fold (m : Int) : ∀ (t : List Int), 0 ≤ t.foldl mn m ↔ 0 ≤ m ∧ t.all (fun v => decide (0 ≤ v)) = true := by
  intro t
  induction t generalizing m with
  | nil => simp
  | cons a t ih =>
    rw [List.foldl_cons, ih]
    have : 0 ≤ mn m a ↔ 0 ≤ m ∧ 0 ≤ a := by unfold mn; split <;> omega
    simp [this, and_assoc]
theorem Min_l0 (x : List Int) (hb : x.length ≤ 140737488351232) : ∀ (d i : Nat) (m : Int), i + d = x.length → Ev (fun k => slices_Min_int_int.l0 k x m (i : Int)) ((x.drop i).foldl mn m)
  | 0, i, m, h => by
    refine ev_s ?_
    simp only [slices_Min_int_int.l0, if_neg (show ¬ ((i : Int) < (x.length : Int)) by omega)]
    rw [List.drop_eq_nil_of_le (by omega)]
    exact ev_now rfl
  | d + 1, i, m, h => by
    have hi : i < x.length := by omega
    refine ev_s ?_
    simp only [slices_Min_int_int.l0, if_pos (show (i : Int) < (x.length : Int) by omega), if_pos (show 0 ≤ (i : Int) by omega), rd_get hi, show wrap64 ((i : Int) + 1) = ((i + 1 : Nat) : Int) from wrap_nat2 i 1 (by omega)]
    rw [List.drop_eq_getElem_cons hi, List.foldl_cons]
    exact Min_l0 x hb d (i + 1) _ (by omega)
theorem Min_ev (x : List Int) (h0 : 0 < x.length) (hb : x.length ≤ 140737488351232) : Ev (fun k => slices_Min_int_int.f k x) ((x.drop 1).foldl mn x[0]) := by
  simp only [slices_Min_int_int.f, if_neg (show ¬ ((x.length : Int) < 1) by omega), if_pos (show 0 < (x.length : Int) by omega), show rd x 0 = x[0] from rd_get h0]
  exact Min_l0 x hb (x.length - 1) 1 _ (by omega)
theorem impl_WellFounded_ev (l : List Int) (hb : l.length ≤ 140737488351232) : Ev (fun k => impl_WellFounded.f k l) (wfB l) := by
  simp only [impl_WellFounded.f]
  refine Ev.bind (impl_RelValid_ev l hb) ?_
  cases h : relOk l with
  | false => simp only [Bool.false_eq_true, if_false]; exact ev_now (by simp [wfB, h])
  | true =>
    simp only [if_true]
    have hl := rel_len h
    refine Ev.bind (impl_ranks_ev h) ?_
    have e : ranksOf l = (List.range l.length).map (rkL l) := by simp [ranksOf, h]
    rw [← e]
    have hlen : (ranksOf l).length = l.length := by simp [e]
    refine Ev.bind (Min_ev (ranksOf l) (by omega) (by omega)) ?_
    refine ev_now ?_
    have hd : ranksOf l = (ranksOf l)[0]'(by omega) :: (ranksOf l).drop 1 := by
      have := List.drop_eq_getElem_cons (l := ranksOf l) (i := 0) (by omega)
      simpa using this
    rw [decide_eq_decide.mpr (min_fold _ _)]
    unfold wfB
    rw [h, Bool.true_and]
    conv => rhs; rw [hd]
    rw [List.all_cons]
    rw [Bool.decide_and, Bool.decide_eq_true]

-- part: CircleOf
theorem first_of (P : Nat → Prop) [DecidablePred P] : ∀ n, (∃ i, i < n ∧ P i) → ∃ t, t < n ∧ P t ∧ ∀ j, j < t → ¬ P j
  | 0, h => by obtain ⟨i, hi, _⟩ := h; omega
  | n + 1, h => by
    by_cases h1 : ∃ i, i < n ∧ P i
    · obtain ⟨t, h2, h3, h4⟩ := first_of P n h1; exact ⟨t, by omega, h3, h4⟩
    · obtain ⟨i, hi, hp⟩ := h
      have : i = n := by
        by_cases hin : i < n
        · exact absurd ⟨i, hin, hp⟩ h1
        · omega
      subst this
      exact ⟨i, by omega, hp, fun j hj hpj => h1 ⟨j, hj, hpj⟩⟩
theorem nodup_len : ∀ (n : Nat) (p : List Nat), p.Nodup → (∀ x ∈ p, x < n) → p.length ≤ n
  | 0, p, _, h => by
    cases p with
    | nil => simp
    | cons a p => exact absurd (h a (by simp)) (by omega)
  | n + 1, p, hn, h => by
    by_cases hm : n ∈ p
    · have h1 := nodup_len n (p.erase n) (hn.erase n) (fun x hx => by
        have := (hn.mem_erase_iff).mp hx
        have := h x this.2
        omega)
      rw [List.length_erase_of_mem hm] at h1
      omega
    · have := nodup_len n p hn (fun x hx => by
        have h2 := h x hx
        have : x ≠ n := fun e => hm (e ▸ hx)
        omega)
      omega
def ints (p : List Nat) : List Int := p.map (fun (i : Nat) => (i : Int))
theorem ints_length (p : List Nat) : (ints p).length = p.length := by simp [ints]
theorem ints_rd (p : List Nat) (i : Nat) (h : i < p.length) : rd (ints p) (i : Int) = (p[i] : Int) := by rw [rd_get (by rw [ints_length]; exact h)]; simp [ints]
/-- The first place of a value. -/
def FirstAt (x : List Int) (a : Int) (t : Nat) : Prop := t < x.length ∧ rd x (t : Int) = a ∧ ∀ j, j < t → rd x (j : Int) ≠ a
theorem Index_found {x : List Int} {a : Int} {t : Nat} (h : FirstAt x a t) (hb : x.length ≤ 140737488351232) : ∀ (d i : Nat), i + d = t → Ev (fun k => slices_Index_int_int.l0 k x a (x.length : Int) (i : Int)) (t : Int)
  | 0, i, hi => by
    have e : i = t := by omega
    subst e
    obtain ⟨h1, h2, _⟩ := h
    refine ev_s ?_
    simp only [slices_Index_int_int.l0, if_pos (show (i : Int) < (x.length : Int) by omega), if_pos (show 0 ≤ (i : Int) by omega), h2, if_true]
    exact Ev.now _
  | d + 1, i, hi => by
    have h0 := h
    obtain ⟨h1, _, h3⟩ := h
    have h4 := h3 i (by omega)
    refine ev_s ?_
    simp only [slices_Index_int_int.l0, if_pos (show (i : Int) < (x.length : Int) by omega), if_pos (show 0 ≤ (i : Int) by omega), if_neg (show ¬ (a = rd x (i : Int)) from fun e => h4 e.symm), show wrap64 ((i : Int) + 1) = ((i + 1 : Nat) : Int) from wrap_nat2 i 1 (by omega)]
    exact Index_found h0 hb d (i + 1) (by omega)
theorem Index_none {x : List Int} {a : Int} (h : ∀ j, j < x.length → rd x (j : Int) ≠ a) (hb : x.length ≤ 140737488351232) : ∀ (d i : Nat), i + d = x.length → Ev (fun k => slices_Index_int_int.l0 k x a (x.length : Int) (i : Int)) (-1)
  | 0, i, hi => by
    refine ev_s ?_
    simp only [slices_Index_int_int.l0, if_neg (show ¬ ((i : Int) < (x.length : Int)) by omega)]
    exact Ev.now _
  | d + 1, i, hi => by
    have h4 := h i (by omega)
    refine ev_s ?_
    simp only [slices_Index_int_int.l0, if_pos (show (i : Int) < (x.length : Int) by omega), if_pos (show 0 ≤ (i : Int) by omega), if_neg (show ¬ (a = rd x (i : Int)) from fun e => h4 e.symm), show wrap64 ((i : Int) + 1) = ((i + 1 : Nat) : Int) from wrap_nat2 i 1 (by omega)]
    exact Index_none h hb d (i + 1) (by omega)
theorem ranks_rd {l : List Int} (h : relOk l = true) {i : Nat} (hi : i < l.length) : rd (ranksOf l) (i : Int) = rkL l i := by
  have e : ranksOf l = (List.range l.length).map (rkL l) := by simp [ranksOf, h]
  rw [e, rd_get (by simpa using hi)]
  simp
theorem ranks_len {l : List Int} (h : relOk l = true) : (ranksOf l).length = l.length := by simp [ranksOf, h]
/-- Of a point with no rank: the first to which it leads that has none. -/
def NextAt (l : List Int) (c t : Nat) : Prop := t < l.length ∧ ((R l c).testBit t = true ∧ rkL l t < 0) ∧ ∀ j, j < t → ¬ ((R l c).testBit j = true ∧ rkL l j < 0)
theorem next_ex {l : List Int} (h : relOk l = true) {c : Nat} (hc : c < l.length) (hr : rkL l c < 0) : ∃ t, NextAt l c t := by
  refine first_of (fun t => (R l c).testBit t = true ∧ rkL l t < 0) l.length ?_
  have h1 : (D l l.length).testBit c = false := by
    cases hb : (D l l.length).testBit c with
    | false => rfl
    | true => exact absurd ((rkL_pos hc).mpr hb) (by omega)
  by_cases hex : ∃ t, (R l c).testBit t = true ∧ (D l l.length).testBit t = false
  · obtain ⟨t, h2, h3⟩ := hex
    have ht : t < l.length := testBit_lt (rel_lt h c) h2
    refine ⟨t, ht, h2, ?_⟩
    by_cases h4 : 0 ≤ rkL l t
    · rw [(rkL_pos ht).mp h4] at h3; exact absurd h3 (by decide)
    · omega
  · have h5 : (D l (l.length + 1)).testBit c = true := (D_iff h l.length c hc).mpr (fun t ht => by
      cases hb : (D l l.length).testBit t with
      | true => rfl
      | false => exact absurd ⟨t, ht, hb⟩ hex)
    rw [← D_end l, h1] at h5
    exact absurd h5 (by decide)
theorem spec_l3 {l : List Int} (h : relOk l = true) {c t : Nat} (hc : c < l.length) (ht : NextAt l c t) (p : List Int) {r : List Int × Bool} (hr : Ev (fun k => spec_CircleOf.l1 k l (ranksOf l) (t : Int) p) r) :
    ∀ (j : Nat) (v : Int), j ≤ l.length → (t < j ∨ v = (t : Int)) → Ev (fun k => spec_CircleOf.l3 k l (ranksOf l) (c : Int) p v ((j : Int) - 1)) r
  | 0, v, _, hv => by
    have e : v = (t : Int) := by rcases hv with hv | hv; omega; exact hv
    subst e
    refine ev_s ?_
    simp only [spec_CircleOf.l3, if_neg (show ¬ (((0 : Nat) : Int) - 1 ≥ 0) by omega)]
    exact hr
  | j + 1, v, hj, hv => by
    have h12 := rel_len h
    refine ev_s ?_
    have ej : (((j + 1 : Nat) : Int) - 1) = (j : Int) := by omega
    rw [ej]
    simp only [spec_CircleOf.l3, if_pos (show (j : Int) ≥ 0 by omega), if_pos (show 0 ≤ (c : Int) by omega), if_pos (show (c : Int) < (l.length : Int) by omega), rel_rd h c hc, l7Bit_eq (R l c) j (by omega)]
    have ew : wrap64 ((j : Int) - 1) = (j : Int) - 1 := wrap_in (by omega) (by omega)
    refine Ev.bind (Ev.now _) ?_
    obtain ⟨t1, t2, t3⟩ := ht
    by_cases hb : (R l c).testBit j = true
    · simp only [if_pos hb, if_true, if_pos (show 0 ≤ (j : Int) by omega), if_pos (show (j : Int) < ((ranksOf l).length : Int) by rw [ranks_len h]; omega), ranks_rd h (show j < l.length by omega), ew]
      by_cases hn : rkL l j < 0
      · simp only [if_pos hn]
        refine spec_l3 h hc ⟨t1, t2, t3⟩ p hr j _ (by omega) ?_
        by_cases htj : t < j
        · exact .inl htj
        · right
          have : ¬ j < t := fun hlt => t3 j hlt ⟨hb, hn⟩
          omega
      · simp only [if_neg hn]
        refine spec_l3 h hc ⟨t1, t2, t3⟩ p hr j _ (by omega) ?_
        rcases hv with hv | hv
        · left
          have : t ≠ j := fun e => hn (e ▸ t2.2)
          omega
        · exact .inr hv
    · simp only [if_neg hb, if_neg (show ¬ ((0 : Int) = 1) by decide), ew]
      refine spec_l3 h hc ⟨t1, t2, t3⟩ p hr j _ (by omega) ?_
      rcases hv with hv | hv
      · left
        have : t ≠ j := fun e => hb (e ▸ t2.1)
        omega
      · exact .inr hv
theorem impl_l1 {l : List Int} (h : relOk l = true) {c t : Nat} (hc : c < l.length) (ht : NextAt l c t) (p : List Int) {r : List Int × Bool} (hr : Ev (fun k => impl_CircleOf.l0 k l (ranksOf l) (t : Int) p) r) :
    ∀ (d j : Nat), j + d = t → Ev (fun k => impl_CircleOf.l1 k l (ranksOf l) (c : Int) p (j : Int)) r
  | 0, j, hj => by
    have h12 := rel_len h
    have e : j = t := by omega
    subst e
    obtain ⟨t1, t2, t3⟩ := ht
    refine ev_s ?_
    simp only [impl_CircleOf.l1, if_pos (show 0 ≤ (c : Int) by omega), if_pos (show (c : Int) < (l.length : Int) by omega), if_pos (show 0 ≤ (j : Int) by omega), rel_rd h c hc, bit_and (R l c) j (Nat.lt_trans (rel_lt h c) (rel_small h)) (by omega), if_pos t2.1, if_neg (show ¬ ((1 : Int) = 0) by decide), if_pos (show (j : Int) < ((ranksOf l).length : Int) by rw [ranks_len h]; omega), ranks_rd h t1, if_neg (show ¬ (rkL l j ≥ 0) by omega)]
    exact hr
  | d + 1, j, hj => by
    have h12 := rel_len h
    have h0 := ht
    obtain ⟨t1, t2, t3⟩ := ht
    refine ev_s ?_
    have ew : wrap64 ((j : Int) + 1) = ((j + 1 : Nat) : Int) := wrap_nat2 j 1 (by omega)
    simp only [impl_CircleOf.l1, if_pos (show 0 ≤ (c : Int) by omega), if_pos (show (c : Int) < (l.length : Int) by omega), if_pos (show 0 ≤ (j : Int) by omega), rel_rd h c hc, bit_and (R l c) j (Nat.lt_trans (rel_lt h c) (rel_small h)) (by omega), ew]
    by_cases hb : (R l c).testBit j = true
    · have hn : rkL l j ≥ 0 := by
        have := t3 j (by omega)
        by_cases hn : rkL l j < 0
        · exact absurd ⟨hb, hn⟩ this
        · omega
      simp only [if_pos hb, if_neg (show ¬ ((1 : Int) = 0) by decide), if_pos (show (j : Int) < ((ranksOf l).length : Int) by rw [ranks_len h]; omega), ranks_rd h (show j < l.length by omega), if_pos hn]
      exact impl_l1 h hc h0 p hr d (j + 1) (by omega)
    · simp only [if_neg hb, if_true]
      exact impl_l1 h hc h0 p hr d (j + 1) (by omega)
theorem spec_l2_found (l x : List Int) (c : Int) {p : List Int} (hp : p.length ≤ 1000) {t : Nat} (ht : FirstAt p c t) : ∀ d i, i + d = t → Ev (fun k => spec_CircleOf.l2 k l x c p (i : Int)) (p.drop t, true)
  | 0, i, hi => by
    have e : i = t := by omega
    subst e
    obtain ⟨h1, h2, _⟩ := ht
    refine ev_s ?_
    simp only [spec_CircleOf.l2, if_pos (show (i : Int) < (p.length : Int) by omega), if_pos (show 0 ≤ (i : Int) by omega), h2, if_true, if_pos (show (i : Int) ≤ (p.length : Int) by omega)]
    exact ev_now (by simp)
  | d + 1, i, hi => by
    have h0 := ht
    obtain ⟨h1, _, h3⟩ := ht
    refine ev_s ?_
    simp only [spec_CircleOf.l2, if_pos (show (i : Int) < (p.length : Int) by omega), if_pos (show 0 ≤ (i : Int) by omega), if_neg (h3 i (by omega)), show wrap64 ((i : Int) + 1) = ((i + 1 : Nat) : Int) from wrap_nat2 i 1 (by omega)]
    exact spec_l2_found l x c hp h0 d (i + 1) (by omega)
theorem spec_l2_none (l x : List Int) (c : Int) {p : List Int} (hp : p.length ≤ 1000) (hn : ∀ j, j < p.length → rd p (j : Int) ≠ c) {r : List Int × Bool} (hr : Ev (fun k => spec_CircleOf.l3 k l x c (p ++ [c]) (-1) (wrap64 ((l.length : Int) - 1))) r) :
    ∀ d i, i + d = p.length → Ev (fun k => spec_CircleOf.l2 k l x c p (i : Int)) r
  | 0, i, hi => by
    refine ev_s ?_
    simp only [spec_CircleOf.l2, if_neg (show ¬ ((i : Int) < (p.length : Int)) by omega), if_pos (show p.length < 17592186044416 by omega)]
    exact hr
  | d + 1, i, hi => by
    refine ev_s ?_
    simp only [spec_CircleOf.l2, if_pos (show (i : Int) < (p.length : Int) by omega), if_pos (show 0 ≤ (i : Int) by omega), if_neg (hn i (by omega)), show wrap64 ((i : Int) + 1) = ((i + 1 : Nat) : Int) from wrap_nat2 i 1 (by omega)]
    exact spec_l2_none l x c hp hn hr d (i + 1) (by omega)
theorem circ_ev {l : List Int} (h : relOk l = true) : ∀ (d : Nat) (p : List Nat) (c : Nat), d + p.length = l.length + 1 → p.Nodup → (∀ x ∈ p, x < l.length) → c < l.length → rkL l c < 0 →
    ∃ r : List Int, r.length ≤ 1000 ∧ Ev (fun k => spec_CircleOf.l1 k l (ranksOf l) (c : Int) (ints p)) (r, true) ∧ Ev (fun k => impl_CircleOf.l0 k l (ranksOf l) (c : Int) (ints p)) (r, true)
  | 0, p, c, hd, hp, hx, _, _ => by have := nodup_len _ p hp hx; omega
  | d + 1, p, c, hd, hp, hx, hc, hr => by
    have h12 := rel_len h
    have hlen := ints_length p
    by_cases hm : c ∈ p
    · obtain ⟨i, hi, he⟩ := List.getElem_of_mem hm
      obtain ⟨t, t1, t2, t3⟩ := first_of (fun j => rd (ints p) (j : Int) = (c : Int)) p.length ⟨i, hi, by rw [ints_rd p i hi, he]⟩
      have hf : FirstAt (ints p) (c : Int) t := ⟨by omega, t2, t3⟩
      refine ⟨(ints p).drop t, by simp only [List.length_drop]; omega, ?_, ?_⟩
      · refine ev_s ?_
        simp only [spec_CircleOf.l1]
        exact spec_l2_found l _ _ (by omega) hf t 0 (by omega)
      · have hidx : Ev (fun k => slices_Index_int_int.f k (ints p) (c : Int)) (t : Int) := Index_found hf (by omega) t 0 (by omega)
        refine ev_s ?_
        simp only [impl_CircleOf.l0]
        have hct : Ev (fun k => slices_Contains_int_int.f k (ints p) (c : Int)) true := by
          simp only [slices_Contains_int_int.f]; exact Ev.bind hidx (ev_now (by simp))
        refine Ev.bind hct ?_
        simp only [if_true]
        refine Ev.bind hidx ?_
        simp only [if_pos (show 0 ≤ (t : Int) by omega), if_pos (show (t : Int) ≤ ((ints p).length : Int) by omega), slices_Clone_int_int.f, Int.toNat_natCast, if_pos (show ((ints p).drop t).length < 17592186044416 by simp only [List.length_drop]; omega)]
        exact Ev.now _
    · obtain ⟨t, ht⟩ := next_ex h hc hr
      have hpn : (p ++ [c]).Nodup := by
        rw [List.nodup_append]
        refine ⟨hp, by simp, ?_⟩
        intro a ha b hb
        simp only [List.mem_singleton] at hb
        exact fun e => hm (hb ▸ e ▸ ha)
      obtain ⟨r, r1, r2, r3⟩ := circ_ev h d (p ++ [c]) t (by simp only [List.length_append, List.length_singleton]; omega) hpn (fun x hxm => by
        simp only [List.mem_append, List.mem_singleton] at hxm
        rcases hxm with hxm | hxm
        · exact hx x hxm
        · omega) ht.1 ht.2.1.2
      have hnone : ∀ j, j < (ints p).length → rd (ints p) (j : Int) ≠ (c : Int) := by
        intro j hj e
        rw [ints_rd p j (by omega)] at e
        have : p[j]'(by omega) = c := by omega
        exact hm (this ▸ List.getElem_mem _)
      have hap : ints (p ++ [c]) = ints p ++ [(c : Int)] := by simp [ints]
      have hpl := nodup_len _ p hp hx
      rw [hap] at r2 r3
      refine ⟨r, r1, ?_, ?_⟩
      · refine ev_s ?_
        simp only [spec_CircleOf.l1]
        refine spec_l2_none l _ _ (by omega) hnone ?_ _ 0 (Nat.zero_add _)
        rw [wrap_in (by omega) (by omega)]
        exact spec_l3 h hc ht _ r2 l.length _ (Nat.le_refl _) (.inl ht.1)
      · refine ev_s ?_
        simp only [impl_CircleOf.l0]
        have hidx : Ev (fun k => slices_Index_int_int.f k (ints p) (c : Int)) (-1) := Index_none hnone (by omega) _ 0 (Nat.zero_add _)
        have hct : Ev (fun k => slices_Contains_int_int.f k (ints p) (c : Int)) false := by
          simp only [slices_Contains_int_int.f]; exact Ev.bind hidx (ev_now (by decide))
        refine Ev.bind hct ?_
        simp only [Bool.false_eq_true, if_false, if_pos (show (ints p).length < 17592186044416 by omega)]
        exact impl_l1 h hc ht _ r3 t 0 (by omega)
theorem spec_l0 {l : List Int} (h : relOk l = true) {t : Nat} (ht : t ≤ l.length) (hj : ∀ j, j < t → 0 ≤ rkL l j) (he : t < l.length → rkL l t < 0) {r : List Int × Bool} (hr : Ev (fun k => spec_CircleOf.j1 k l (ranksOf l) (t : Int)) r) : ∀ d i, i + d = t → Ev (fun k => spec_CircleOf.l0 k l (ranksOf l) (i : Int)) r
  | 0, i, hi => by
    have h12 := rel_len h
    have e : i = t := by omega
    subst e
    refine ev_s ?_
    simp only [spec_CircleOf.l0, ranks_len h]
    by_cases hlt : i < l.length
    · simp only [if_pos (show (i : Int) < (l.length : Int) by omega), if_pos (show 0 ≤ (i : Int) by omega), ranks_rd h hlt, if_neg (show ¬ (rkL l i ≥ 0) by have := he hlt; omega)]
      exact hr
    · simp only [if_neg (show ¬ ((i : Int) < (l.length : Int)) by omega)]
      exact hr
  | d + 1, i, hi => by
    have h12 := rel_len h
    refine ev_s ?_
    simp only [spec_CircleOf.l0, ranks_len h, if_pos (show (i : Int) < (l.length : Int) by omega), if_pos (show 0 ≤ (i : Int) by omega), ranks_rd h (show i < l.length by omega), if_pos (show rkL l i ≥ 0 from hj i (by omega)), show wrap64 ((i : Int) + 1) = ((i + 1 : Nat) : Int) from wrap_nat2 i 1 (by omega)]
    exact spec_l0 h ht hj he hr d (i + 1) (by omega)
theorem wfB_iff {l : List Int} (h : relOk l = true) : wfB l = true ↔ ∀ i, i < l.length → 0 ≤ rkL l i := by
  have e : ranksOf l = (List.range l.length).map (rkL l) := by simp [ranksOf, h]
  simp [wfB, h, e]
theorem CircleOf_ev (l : List Int) (hb : l.length ≤ 140737488351232) : ∃ (r : List Int) (b : Bool), r.length ≤ 1000 ∧ Ev (fun k => spec_CircleOf.f k l) (r, b) ∧ Ev (fun k => impl_CircleOf.f k l) (r, b) := by
  have hs := spec_RanksOf_ev l hb
  have hi := impl_RelValid_ev l hb
  have hw := impl_WellFounded_ev l hb
  cases h : relOk l with
  | false =>
    have e : ranksOf l = [] := by simp [ranksOf, h]
    rw [e] at hs
    rw [h] at hi
    refine ⟨[], false, by simp, ?_, ?_⟩
    · simp only [spec_CircleOf.f]
      refine Ev.bind hs ?_
      refine ev_s ?_
      simp only [spec_CircleOf.l0, List.length_nil, if_neg (show ¬ ((0 : Int) < ((0 : Nat) : Int)) by decide)]
      refine ev_s ?_
      simp only [spec_CircleOf.j1, List.length_nil, if_pos (show (0 : Int) = ((0 : Nat) : Int) from rfl)]
      exact Ev.now _
    · simp only [impl_CircleOf.f]
      refine Ev.bind hi ?_
      simp only [Bool.false_eq_true, if_false]
      refine ev_s ?_
      simp only [impl_CircleOf.j0, if_true]
      exact Ev.now _
  | true =>
    have h12 := rel_len h
    rw [h] at hi
    by_cases hall : ∀ i, i < l.length → 0 ≤ rkL l i
    · rw [(wfB_iff h).mpr hall] at hw
      refine ⟨[], false, by simp, ?_, ?_⟩
      · simp only [spec_CircleOf.f]
        refine Ev.bind hs ?_
        refine spec_l0 h (Nat.le_refl _) hall (fun hh => absurd hh (by omega)) ?_ l.length 0 (by omega)
        refine ev_s ?_
        simp only [spec_CircleOf.j1, ranks_len h, if_true]
        exact Ev.now _
      · simp only [impl_CircleOf.f]
        refine Ev.bind hi ?_
        simp only [if_true]
        refine Ev.bind hw ?_
        refine ev_s ?_
        simp only [impl_CircleOf.j0, if_true]
        exact Ev.now _
    · have hex : ∃ i, i < l.length ∧ rkL l i < 0 := by
        by_cases hh : ∃ i, i < l.length ∧ rkL l i < 0
        · exact hh
        · exact absurd (fun i hi => by
            by_cases h0 : 0 ≤ rkL l i
            · exact h0
            · exact absurd ⟨i, hi, by omega⟩ hh) hall
      obtain ⟨t, t1, t2, t3⟩ := first_of (fun i => rkL l i < 0) l.length hex
      have hwf : wfB l = false := by
        cases hwb : wfB l with
        | false => rfl
        | true => exact absurd ((wfB_iff h).mp hwb) hall
      rw [hwf] at hw
      obtain ⟨r, r1, r2, r3⟩ := circ_ev h (l.length + 1) [] t (by simp) (by simp) (by simp) t1 t2
      have hidx : Ev (fun k => slices_Index_int_int.f k (ranksOf l) (-1)) (t : Int) := by
        refine Index_found ⟨by rw [ranks_len h]; exact t1, ?_, ?_⟩ (by rw [ranks_len h]; omega) t 0 (by omega)
        · rw [ranks_rd h t1]; have := (rkL_ge l t).1; omega
        · intro j hj
          rw [ranks_rd h (by omega)]
          have := t3 j hj
          omega
      have e : ranksOf l = (List.range l.length).map (rkL l) := by simp [ranksOf, h]
      have hrk := impl_ranks_ev h
      rw [← e] at hrk
      refine ⟨r, true, r1, ?_, ?_⟩
      · simp only [spec_CircleOf.f]
        refine Ev.bind hs ?_
        refine spec_l0 h (by omega) (fun j hj => by have := t3 j hj; omega) (fun _ => t2) ?_ t 0 (by omega)
        refine ev_s ?_
        simp only [spec_CircleOf.j1, ranks_len h, if_neg (show ¬ ((t : Int) = (l.length : Int)) by omega)]
        exact r2
      · simp only [impl_CircleOf.f]
        refine Ev.bind hi ?_
        simp only [if_true]
        refine Ev.bind hw ?_
        refine ev_s ?_
        simp only [impl_CircleOf.j0, Bool.false_eq_true, if_false]
        refine Ev.bind hrk ?_
        refine Ev.bind hidx ?_
        exact r3

-- part: law_FnExactCircleOf
theorem FnExactCircleOf : laws_FnExactCircleOf.Pure := by
  intro l0 _ hl _
  refine Ev.rounds ?_
  simp only [laws_FnExactCircleOf.f]
  by_cases hb : (l0.length : Int) > 1048576
  · simp only [if_pos hb]; exact Ev.now _
  · simp only [if_neg hb]
    have ht := toIntS_ev l0 (by omega)
    obtain ⟨r, b, hr, hs, hi⟩ := CircleOf_ev l0 (by omega)
    have heq : Ev (fun k => laws_eqIntS.f k r r) true := ev_eq (eqIntS_ev _ _ (by omega)) (by simp)
    have hheld := heldIntS_ev 1 r.length (by omega)
    refine Ev.bind ht ?_
    refine Ev.bind hs ?_
    refine Ev.bind ht ?_
    refine Ev.bind hi ?_
    refine Ev.bind heq ?_
    simp only [if_true]
    refine ev_s ?_
    simp only [laws_FnExactCircleOf.j0, bne_self_eq_false, Bool.false_eq_true, if_false]
    refine Ev.bind ht ?_
    refine Ev.bind (eqIntS_ev l0 l0 (by omega)) ?_
    simp only [decide_true, if_true]
    refine Ev.bind (markIntS_ev l0 1 (by omega)) ?_
    simp only [if_neg (show ¬ (((1 + l0.length : Nat) : Int) < 0) by omega)]
    refine Ev.bind heq ?_
    simp only [if_true]
    refine ev_s ?_
    simp only [laws_FnExactCircleOf.j1, Bool.false_eq_true, if_false]
    refine Ev.bind (markIntS_ev r 1 (by omega)) ?_
    refine Ev.bind hheld ?_
    simp only [if_neg (show ¬ (((1 + r.length : Nat) : Int) < 0) by omega), if_true]
    refine Ev.bind ht ?_
    refine Ev.bind hi ?_
    refine Ev.bind heq ?_
    simp only [if_true]
    refine ev_s ?_
    simp only [laws_FnExactCircleOf.j2, bne_self_eq_false, Bool.false_eq_true, if_false]
    refine Ev.bind hheld ?_
    simp only [if_neg (show ¬ (((1 + r.length : Nat) : Int) < 0) by omega), if_true]
    exact Ev.now _

end Go.Proofs.Ytclapemogefepaa.Pure

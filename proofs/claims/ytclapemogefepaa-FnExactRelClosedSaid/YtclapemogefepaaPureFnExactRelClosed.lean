/- The law FnExactRelClosed returns true for every input that the statement lets in; no condition of our own. -/
import Derived.Test.YtclapemogefepaaPFnExactRelClosedx3
import Derived.Test.YtclapemogefepaaWSized
namespace Go.Proofs.Ytclapemogefepaa
open Go.ChangeShapes Go.WideShapes in
/-- The printed row names this word of the seat's without its first part. -/
theorem PrintWords.sized_ints {H : Type} {enc : TypeId × Value → H} {P : Program} {W : World} {base : Nat} {spare : Nat → Bool} {held : Bool} {t e : TypeId} {k : IntKind} {a : Option Addr} {len cap : Nat} {d : DataW H} {ps : List MemPlace} {ts : List TypeId} {ds : List (DataW H)} {j : Nat}
    (hsz : (DataW.weightsEach P ts ds).all (· ≤ reachBytes) = true) (ht : ts[j]? = some t) (hd : ds[j]? = some d) (hu : P.underlying t = some (.slice e)) (he : P.underlying e = some (.int k)) (hc : P.cellsOf e = 1) {B : Nat} (hB : P.bytesOf e = B)
    (h : DataW.Trod enc P W base spare held t (.slice a len cap) d ps) : len * B ≤ 140737488351232 :=
  Go.Proofs.YtclapemogefepaaW.PrintWords.sized_ints hsz ht hd hu he hc hB h
end Go.Proofs.Ytclapemogefepaa
namespace Go.Proofs.Ytclapemogefepaa.Pure
open Go.RowKit Go.Proofs.Ytclapemogefepaa.PFnExactRelClosed Go.Proofs.YtclapemogefepaaW.PrintWords Go.Proofs.YtclapemogefepaaW.PrintLast
set_option linter.unusedVariables false
set_option linter.unusedSimpArgs false

-- part: base
/-! ### words of mine -/
theorem ev_s {α : Type} {g : Nat → Option α} {r : α} (h : Ev (fun k => g (k + 1)) r) : Ev g r := Ev.step (fun _ => rfl) h
theorem ev_eq {α : Type} {g : Nat → Option α} {r q : α} (h : Ev g r) (e : r = q) : Ev g q := e ▸ h
theorem ev_now {α : Type} {r q : α} (e : r = q) : Ev (fun _ => some r) q := e ▸ Ev.now r
theorem wrap_in {x : Int} (h0 : -9223372036854775808 ≤ x) (h1 : x ≤ 9223372036854775807) : wrap64 x = x := by unfold wrap64; omega
theorem rd_eq (xs : List Int) (i : Nat) : rd xs (i : Int) = xs.getD i 0 := by simp [rd]
theorem rd_get {xs : List Int} {i : Nat} (h : i < xs.length) : rd xs (i : Int) = xs[i] := by simp [rd, h]
theorem wrap_nat2 (a b : Nat) (h : a + b < 4611686018427387904) : wrap64 ((a : Int) + (b : Int)) = ((a + b : Nat) : Int) := by rw [wrap_in (by omega) (by omega)]; omega

-- part: bits
/-! ### sets as bits -/
theorem i64_wrap_nat (n : Nat) (h : n < 2 ^ 63) : IntKind.i64.wrap (n : Int) = (n : Int) := by rw [IntKind.wrap_i64]; omega
theorem mod64 {a : Nat} (ha : a < 2 ^ 62) : a % 2 ^ IntKind.i64.bits = a := Nat.mod_eq_of_lt (Nat.lt_of_lt_of_le ha (by decide))
theorem or_nat (a b : Nat) (ha : a < 2 ^ 62) (hb : b < 2 ^ 62) : Go.bits .or .i64 (a : Int) (b : Int) = ((a ||| b : Nat) : Int) := by
  simp only [bits, BitVec.ofInt_natCast, BitVec.toNat_or, BitVec.toNat_ofNat, mod64 ha, mod64 hb]
  exact i64_wrap_nat _ (Nat.lt_of_lt_of_le (Nat.or_lt_two_pow ha hb) (by decide))
theorem and_nat (a b : Nat) (ha : a < 2 ^ 62) (hb : b < 2 ^ 62) : Go.bits .and .i64 (a : Int) (b : Int) = ((a &&& b : Nat) : Int) := by
  simp only [bits, BitVec.ofInt_natCast, BitVec.toNat_and, BitVec.toNat_ofNat, mod64 ha, mod64 hb]
  exact i64_wrap_nat _ (Nat.lt_of_lt_of_le (Nat.and_lt_two_pow _ hb) (by decide))
theorem andNot_zero (a b : Nat) (ha : a < 2 ^ 62) (hb : b < 2 ^ 62) : Go.bits .andNot .i64 (a : Int) (b : Int) = 0 ↔ ∀ i, a.testBit i = true → b.testBit i = true := by
  have e : (BitVec.ofNat IntKind.i64.bits a &&& ~~~ BitVec.ofNat IntKind.i64.bits b).toNat = a &&& (a ^^^ b) := by
    apply Nat.eq_of_testBit_eq
    intro i
    rw [BitVec.testBit_toNat, BitVec.getLsbD_and, BitVec.getLsbD_not, BitVec.getLsbD_ofNat, BitVec.getLsbD_ofNat, Nat.testBit_and, Nat.testBit_xor]
    by_cases hi : i < IntKind.i64.bits
    · simp only [hi, decide_true, Bool.true_and]
      cases a.testBit i <;> cases b.testBit i <;> rfl
    · have h1 : a.testBit i = false := Nat.testBit_lt_two_pow (Nat.lt_of_lt_of_le ha (Nat.pow_le_pow_right (by decide) (by simp [IntKind.bits] at hi; omega)))
      simp [hi, h1]
  have hlt : a &&& (a ^^^ b) < 2 ^ 62 := Nat.and_lt_two_pow _ (Nat.xor_lt_two_pow ha hb)
  have e2 : Go.bits .andNot .i64 (a : Int) (b : Int) = ((a &&& (a ^^^ b) : Nat) : Int) := by
    simp only [bits, BitVec.ofInt_natCast]
    rw [e]
    exact i64_wrap_nat _ (Nat.lt_of_lt_of_le hlt (by decide))
  rw [e2]
  constructor
  · intro h i hi
    have h0 : a &&& (a ^^^ b) = 0 := by exact_mod_cast h
    have := congrArg (fun z => Nat.testBit z i) h0
    simp only [Nat.testBit_and, Nat.testBit_xor, hi, Nat.zero_testBit, Bool.true_and] at this
    cases hb' : b.testBit i with
    | true => rfl
    | false => rw [hb'] at this; simp at this
  · intro h
    have h0 : a &&& (a ^^^ b) = 0 := by
      apply Nat.eq_of_testBit_eq
      intro i
      rw [Nat.testBit_and, Nat.testBit_xor, Nat.zero_testBit]
      cases ha' : a.testBit i with
      | false => rfl
      | true => rw [h i ha']; rfl
    rw [h0]; rfl
theorem shr_nat (s n : Nat) (hn : n < 64) : shr .i64 (s : Int) (n : Int) = ((s >>> n : Nat) : Int) := by
  unfold shr
  rw [Int.toNat_natCast, Nat.min_eq_left (by simp [IntKind.bits]; omega), Nat.shiftRight_eq_div_pow]
  exact_mod_cast rfl
theorem shl_nat (s n : Nat) (hn : n < 64) (h : s * 2 ^ n < 2 ^ 63) : shl .i64 (s : Int) (n : Int) = ((s * 2 ^ n : Nat) : Int) := by
  unfold shl
  rw [Int.toNat_natCast, Nat.min_eq_left (by simp [IntKind.bits]; omega)]
  have := i64_wrap_nat (s * 2 ^ n) h
  rw [← this]
  congr 1
theorem shl_one (n : Nat) (hn : n < 62) : shl .i64 1 (n : Int) = ((2 ^ n : Nat) : Int) := by
  have h2 : 2 ^ n < 2 ^ 62 := Nat.pow_lt_pow_right (by decide) hn
  have h3 : (2 : Nat) ^ 62 < 2 ^ 63 := by decide
  have := shl_nat 1 n (by omega) (by omega)
  rw [Nat.one_mul] at this
  exact this
theorem bit_and (s n : Nat) (hs : s < 2 ^ 62) (hn : n < 64) : Go.bits .and .i64 (shr .i64 (s : Int) (n : Int)) 1 = if s.testBit n = true then 1 else 0 := by
  have hle : s >>> n ≤ s := by rw [Nat.shiftRight_eq_div_pow]; exact Nat.div_le_self _ _
  rw [shr_nat s n hn]
  have := and_nat (s >>> n) 1 (by omega) (by decide)
  rw [show ((1 : Nat) : Int) = 1 from rfl] at this
  rw [this, Nat.testBit_eq_decide_div_mod_eq, Nat.shiftRight_eq_div_pow, Nat.and_one_is_mod]
  have h2 : s / 2 ^ n % 2 < 2 := Nat.mod_lt _ (by decide)
  by_cases h : s / 2 ^ n % 2 = 1
  · simp [h]
  · simp [show s / 2 ^ n % 2 = 0 by omega]
theorem testBit_shift (s n : Nat) : s.testBit n = decide ((s >>> n) % 2 = 1) := by rw [Nat.testBit_eq_decide_div_mod_eq, Nat.shiftRight_eq_div_pow]
theorem bit_mod (s n : Nat) (hn : n < 64) : Int.tmod (shr .i64 (s : Int) (n : Int)) 2 = if s.testBit n = true then 1 else 0 := by
  rw [shr_nat s n hn, testBit_shift]
  generalize s >>> n = x
  rw [Int.tmod_eq_emod_of_nonneg (Int.natCast_nonneg _)]
  by_cases h : x % 2 = 1
  · simp only [h, decide_true, if_true]; omega
  · simp only [h, decide_false, Bool.false_eq_true, if_false]; omega
theorem add_bit (s j : Nat) (h : s.testBit j = false) : s + 2 ^ j = s ||| 2 ^ j := by
  have h1 : s % 2 ^ (j + 1) < 2 ^ j := by
    rw [Nat.mod_pow_succ]
    rw [Nat.testBit_eq_decide_div_mod_eq] at h
    have h2 : s / 2 ^ j % 2 < 2 := Nat.mod_lt _ (by decide)
    rw [show s / 2 ^ j % 2 = 0 by simp at h; omega]
    simpa using Nat.mod_lt s (Nat.two_pow_pos j)
  have h2 : s = 2 ^ (j + 1) * (s / 2 ^ (j + 1)) + s % 2 ^ (j + 1) := (Nat.div_add_mod _ _).symm
  have hp : 2 ^ (j + 1) = 2 * 2 ^ j := by rw [Nat.pow_succ, Nat.mul_comm]
  have h3 : s % 2 ^ (j + 1) + 2 ^ j < 2 ^ (j + 1) := by omega
  have h4 : s % 2 ^ (j + 1) < 2 ^ (j + 1) := by omega
  generalize s / 2 ^ (j + 1) = a at *
  generalize s % 2 ^ (j + 1) = b at *
  rw [h2, Nat.add_assoc, Nat.two_pow_add_eq_or_of_lt h3, Nat.two_pow_add_eq_or_of_lt h4, Nat.or_assoc]
  congr 1
  have := Nat.two_pow_add_eq_or_of_lt h1 1
  rw [Nat.mul_one] at this
  rw [Nat.add_comm, this, Nat.or_comm]
theorem testBit_or_two_pow (s j i : Nat) : (s ||| 2 ^ j).testBit i = (s.testBit i || decide (j = i)) := by
  rw [Nat.testBit_or, Nat.testBit_two_pow]
theorem or_lt {a b n : Nat} (ha : a < 2 ^ n) (hb : b < 2 ^ n) : a ||| b < 2 ^ n := Nat.or_lt_two_pow ha hb
theorem testBit_lt {a n i : Nat} (ha : a < 2 ^ n) (h : a.testBit i = true) : i < n := by
  rcases Nat.lt_or_ge i n with hi | hi
  · exact hi
  · rw [Nat.testBit_lt_two_pow (Nat.lt_of_lt_of_le ha (Nat.pow_le_pow_right (by decide) hi))] at h; cases h

-- part: toIntS
theorem toIntS_l0 (l : List Int) (hl : l.length ≤ 35184372088832) : ∀ (d i : Nat) (x : List Int), i + d = l.length → x.length = l.length → x.take i = l.take i → Ev (fun k => laws_toIntS.l0 k l x i) l := by
  intro d
  induction d with
  | zero =>
    intro i x h hx ht
    refine ev_s ?_
    simp only [laws_toIntS.l0]
    rw [show i = l.length by omega] at ht ⊢
    simp only [if_neg (show ¬ ((l.length : Int) < (l.length : Int)) by omega)]
    rw [List.take_of_length_le (by omega), List.take_length] at ht
    rw [ht]; exact Ev.now _
  | succ d ih =>
    intro i x h hx ht
    refine ev_s ?_
    simp only [laws_toIntS.l0]
    simp only [if_pos (show (i : Int) < (l.length : Int) by omega), if_pos (show (0 : Int) ≤ (i : Int) by omega), if_pos (show (i : Int) < (x.length : Int) by omega), show wrap64 ((i : Int) + 1) = ((i + 1 : Nat) : Int) by rw [wrap_in (by omega) (by omega)]; rfl, Int.toNat_natCast]
    refine ih (i + 1) _ (by omega) (by simpa using hx) ?_
    rw [rd_get (show i < l.length by omega)]
    apply List.ext_getElem?
    intro j
    have := congrArg (fun z => z[j]?) ht
    simp only [List.getElem?_take] at this ⊢
    by_cases hj : j < i
    · rw [if_pos hj, if_pos hj] at this
      rw [if_pos (by omega), if_pos (by omega), List.getElem?_set_ne (by omega)]; exact this
    · by_cases hji : j = i
      · subst hji
        rw [if_pos (by omega), if_pos (by omega), List.getElem?_set_self (by omega), List.getElem?_eq_getElem (by omega)]
      · rw [if_neg (by omega), if_neg (by omega)]
theorem toIntS_ev (l : List Int) (hl : l.length ≤ 35184372088832) : Ev (fun k => laws_toIntS.f k l) l := by
  simp only [laws_toIntS.f, Int.toNat_natCast, if_pos (show (0 : Int) ≤ (l.length : Int) by omega), if_pos hl]
  exact toIntS_l0 l hl l.length 0 _ (by omega) (by simp) (by simp)

-- part: eqIntS
theorem eqIntS_l0 (F : Nat → List Int → List Int → Int → Option Bool)
    (h0 : ∀ k a b i, F (k + 1) a b i = if i < (a.length : Int) then (if 0 ≤ i then (if i < (b.length : Int) then (if (rd a i) = (rd b i) then (F k a b (wrap64 (i + 1))) else (some false)) else none) else none) else some true)
    (a b : List Int) (hl : a.length = b.length) (hb : a.length ≤ 140737488351232) : ∀ (d i : Nat), i + d = a.length → a.take i = b.take i → Ev (fun k => F k a b i) (decide (a = b)) := by
  intro d
  induction d with
  | zero =>
    intro i h ht
    refine ev_s ?_
    simp only [h0]
    simp only [if_neg (show ¬ ((i : Int) < (a.length : Int)) by omega)]
    rw [List.take_of_length_le (by omega), List.take_of_length_le (by omega)] at ht
    simp only [ht, decide_true]; exact Ev.now _
  | succ d ih =>
    intro i h ht
    refine ev_s ?_
    simp only [h0]
    simp only [if_pos (show (i : Int) < (a.length : Int) by omega), if_pos (show (0 : Int) ≤ (i : Int) by omega), if_pos (show (i : Int) < (b.length : Int) by omega), show wrap64 ((i : Int) + 1) = ((i + 1 : Nat) : Int) by rw [wrap_in (by omega) (by omega)]; rfl]
    rw [rd_get (show i < a.length by omega), rd_get (show i < b.length by omega)]
    by_cases he : a[i] = b[i]
    · simp only [if_pos he]
      refine ih (i + 1) (by omega) ?_
      rw [List.take_succ_eq_append_getElem (by omega), List.take_succ_eq_append_getElem (by omega), ht, he]
    · simp only [if_neg he]
      refine ev_now (Eq.symm (decide_eq_false (fun hab => he ?_)))
      subst hab; rfl
theorem eqIntS_ev (a b : List Int) (hb : a.length ≤ 140737488351232) : Ev (fun k => laws_eqIntS.f k a b) (decide (a = b)) := by
  simp only [laws_eqIntS.f]
  by_cases hl : a.length = b.length
  · simp only [if_pos (show (a.length : Int) = (b.length : Int) by omega)]
    exact eqIntS_l0 laws_eqIntS.l0 (fun _ _ _ _ => rfl) a b hl hb a.length 0 (by omega) (by simp)
  · simp only [if_neg (show ¬ ((a.length : Int) = (b.length : Int)) by omega)]
    exact ev_now (Eq.symm (decide_eq_false (fun hab => hl (by rw [hab]))))

-- part: mark
/-! ### marks -/
def marksOf (a n : Nat) : List Int := (List.range n).map (fun i => ((a + i : Nat) : Int))
theorem marksOf_length (a n : Nat) : (marksOf a n).length = n := by simp [marksOf]
theorem markIntS_l0 (a : Nat) (n : Nat) (hn : a + n ≤ 1000000000000000) : ∀ (d i : Nat) (x : List Int), i + d = n → x.length = n → x.take i = marksOf a i → Ev (fun k => laws_markIntS.l0 k x ((a + i : Nat) : Int) (i : Int)) (((a + n : Nat) : Int), marksOf a n) := by
  intro d
  induction d with
  | zero =>
    intro i x h hx ht
    refine ev_s ?_
    simp only [laws_markIntS.l0, if_neg (show ¬ ((i : Int) < (x.length : Int)) by omega)]
    rw [List.take_of_length_le (by omega)] at ht
    obtain rfl : i = n := by omega
    rw [← ht]; exact Ev.now _
  | succ d ih =>
    intro i x h hx ht
    refine ev_s ?_
    simp only [laws_markIntS.l0, if_pos (show (i : Int) < (x.length : Int) by omega), if_pos (show (0 : Int) ≤ (i : Int) by omega), Int.toNat_natCast, show wrap64 ((i : Int) + 1) = ((i + 1 : Nat) : Int) by rw [wrap_in (by omega) (by omega)]; rfl, show wrap64 (((a + i : Nat) : Int) + 1) = ((a + (i + 1) : Nat) : Int) by rw [wrap_in (by omega) (by omega)]; omega]
    refine ih (i + 1) _ (by omega) (by simpa using hx) ?_
    have e : marksOf a (i + 1) = marksOf a i ++ [((a + i : Nat) : Int)] := by simp [marksOf, List.range_succ]
    rw [e, ← ht, List.take_succ_eq_append_getElem (by simp; omega), List.getElem_set_self]
    congr 1
    rw [List.take_set_of_le (by omega)]
theorem markIntS_ev (l : List Int) (a : Nat) (hn : a + l.length ≤ 1000000000000000) : Ev (fun k => laws_markIntS.f k l (a : Int)) (((a + l.length : Nat) : Int), marksOf a l.length) :=
  markIntS_l0 a l.length hn l.length 0 l (by omega) rfl (by simp [marksOf])
theorem heldIntS_l0 (a n : Nat) (hn : a + n ≤ 1000000000000000) : ∀ (d i : Nat), i + d = n → Ev (fun k => laws_heldIntS.l0 k (marksOf a n) ((a + i : Nat) : Int) (i : Int)) ((a + n : Nat) : Int) := by
  intro d
  induction d with
  | zero =>
    intro i h
    refine ev_s ?_
    simp only [laws_heldIntS.l0, marksOf_length, if_neg (show ¬ ((i : Int) < (n : Int)) by omega)]
    exact ev_now (by rw [show i = n by omega])
  | succ d ih =>
    intro i h
    refine ev_s ?_
    have hr : rd (marksOf a n) (i : Int) = ((a + i : Nat) : Int) := by rw [rd_get (by rw [marksOf_length]; omega)]; simp [marksOf]
    simp only [laws_heldIntS.l0, marksOf_length, if_pos (show (i : Int) < (n : Int) by omega), if_pos (show (0 : Int) ≤ (i : Int) by omega), hr, if_true, show wrap64 ((i : Int) + 1) = ((i + 1 : Nat) : Int) by rw [wrap_in (by omega) (by omega)]; rfl, show wrap64 (((a + i : Nat) : Int) + 1) = ((a + (i + 1) : Nat) : Int) by rw [wrap_in (by omega) (by omega)]; omega]
    exact ih (i + 1) (by omega)
theorem heldIntS_ev (a n : Nat) (hn : a + n ≤ 1000000000000000) : Ev (fun k => laws_heldIntS.f k (marksOf a n) (a : Int)) ((a + n : Nat) : Int) :=
  heldIntS_l0 a n hn n 0 (by omega)

-- part: l1In
theorem l1In_eq (n lo hi : Int) : spec_l1In.f n lo hi = some (decide (lo ≤ n ∧ n ≤ hi)) := by
  unfold spec_l1In.f
  by_cases h : n ≥ lo
  · rw [if_pos h]; simp [show lo ≤ n from h]
  · rw [if_neg h]; simp [show ¬ lo ≤ n from h]

-- part: RelValid
/-- What both of them say. -/
def relOk (l : List Int) : Bool := decide (1 ≤ l.length ∧ l.length ≤ 12) && l.all (fun x => decide (0 ≤ x ∧ x < ((2 ^ l.length : Nat) : Int)))
theorem all_drop {l : List Int} {p : Int → Bool} {i : Nat} (h : i < l.length) : (l.drop i).all p = (p l[i] && (l.drop (i + 1)).all p) := by
  rw [List.drop_eq_getElem_cons h]; rfl
theorem pow_le (n : Nat) (h : n ≤ 12) : 2 ^ n ≤ 4096 := Nat.le_trans (Nat.pow_le_pow_right (by decide) h) (by decide)
theorem spec_RelValid_l0 (l : List Int) (hb : l.length ≤ 140737488351232) : ∀ (d i : Nat), i + d = l.length → Ev (fun k => spec_RelValid.l0 k l i) ((l.drop i).all (fun x => decide (0 ≤ x ∧ x ≤ wrap64 ((wrap64 (2 ^ (mn (l.length : Int) 12).toNat)) - 1))) && decide (1 ≤ l.length ∧ l.length ≤ 12)) := by
  intro d
  induction d with
  | zero =>
    intro i h
    refine ev_s ?_
    simp only [spec_RelValid.l0, l1In_eq, Option.bind_some, if_neg (show ¬ ((i : Int) < (l.length : Int)) by omega)]
    rw [List.drop_of_length_le (by omega)]
    refine ev_now ?_
    simp only [List.all_nil, Bool.true_and]
    exact decide_eq_decide.mpr (by omega)
  | succ d ih =>
    intro i h
    refine ev_s ?_
    simp only [spec_RelValid.l0, l1In_eq, Option.bind_some, if_pos (show (i : Int) < (l.length : Int) by omega), if_pos (show (0 : Int) ≤ (i : Int) by omega), show wrap64 ((i : Int) + 1) = ((i + 1 : Nat) : Int) by rw [wrap_in (by omega) (by omega)]; rfl]
    rw [rd_get (show i < l.length by omega), all_drop (by omega)]
    by_cases hc : 0 ≤ l[i] ∧ l[i] ≤ wrap64 ((wrap64 (2 ^ (mn (l.length : Int) 12).toNat)) - 1)
    · simp only [decide_eq_true hc, Bool.true_and, if_true]
      exact ih (i + 1) (by omega)
    · simp only [decide_eq_false hc, Bool.false_and, Bool.false_eq_true, if_false]
      exact Ev.now _
theorem spec_RelValid_ev (l : List Int) (hb : l.length ≤ 140737488351232) : Ev (fun k => spec_RelValid.f k l) (relOk l) := by
  refine ev_eq (spec_RelValid_l0 l hb l.length 0 (by omega)) ?_
  unfold relOk
  by_cases h : 1 ≤ l.length ∧ l.length ≤ 12
  · have hp := pow_le l.length h.2
    have h0 : 1 ≤ 2 ^ l.length := Nat.one_le_two_pow
    have e : wrap64 ((wrap64 (2 ^ (mn (l.length : Int) 12).toNat)) - 1) = ((2 ^ l.length : Nat) : Int) - 1 := by
      have : mn (l.length : Int) 12 = (l.length : Int) := by unfold mn; split <;> omega
      rw [this, Int.toNat_natCast]
      have e2 : (2 : Int) ^ l.length = ((2 ^ l.length : Nat) : Int) := by exact_mod_cast rfl
      rw [e2, wrap_in (x := ((2 ^ l.length : Nat) : Int)) (by omega) (by omega), wrap_in (by omega) (by omega)]
    simp only [decide_eq_true h, Bool.true_and, Bool.and_true, List.drop_zero, e]
    congr 1
    funext x
    exact decide_eq_decide.mpr (by omega)
  · simp [decide_eq_false h]
theorem impl_RelValid_l0 (l : List Int) (hb : l.length ≤ 140737488351232) : ∀ (d i : Nat), i + d = l.length → Ev (fun k => impl_RelValid.l0 k l l (l.length : Int) i) ((l.drop i).all (fun x => decide (0 ≤ x ∧ x < shl .i64 1 (l.length : Int))) && decide (1 ≤ l.length ∧ l.length ≤ 12)) := by
  intro d
  induction d with
  | zero =>
    intro i h
    refine ev_s ?_
    simp only [impl_RelValid.l0, if_neg (show ¬ ((i : Int) < (l.length : Int)) by omega)]
    rw [List.drop_of_length_le (by omega)]
    simp only [List.all_nil, Bool.true_and]
    by_cases hc : (l.length : Int) ≥ 1
    · simp only [if_pos hc]
      exact ev_now (decide_eq_decide.mpr (by omega))
    · simp only [if_neg hc]
      exact ev_now (decide_eq_false (by omega)).symm
  | succ d ih =>
    intro i h
    refine ev_s ?_
    simp only [impl_RelValid.l0, if_pos (show (i : Int) < (l.length : Int) by omega), if_pos (show (0 : Int) ≤ (i : Int) by omega), show wrap64 ((i : Int) + 1) = ((i + 1 : Nat) : Int) by rw [wrap_in (by omega) (by omega)]; rfl]
    rw [rd_get (show i < l.length by omega), all_drop (by omega)]
    by_cases h1 : l[i] < 0
    · simp only [if_pos h1, decide_eq_false (show ¬ (0 ≤ l[i] ∧ l[i] < shl .i64 1 (l.length : Int)) by omega), Bool.false_and]
      exact Ev.now _
    · by_cases h2 : l[i] ≥ shl .i64 1 (l.length : Int)
      · simp only [if_neg h1, if_pos h2, decide_eq_false (show ¬ (0 ≤ l[i] ∧ l[i] < shl .i64 1 (l.length : Int)) by omega), Bool.false_and]
        exact Ev.now _
      · simp only [if_neg h1, if_neg h2, decide_eq_true (show (0 ≤ l[i] ∧ l[i] < shl .i64 1 (l.length : Int)) by omega), Bool.true_and]
        exact ih (i + 1) (by omega)
theorem impl_RelValid_ev (l : List Int) (hb : l.length ≤ 140737488351232) : Ev (fun k => impl_RelValid.f k l) (relOk l) := by
  refine ev_eq (impl_RelValid_l0 l hb l.length 0 (by omega)) ?_
  unfold relOk
  by_cases h : 1 ≤ l.length ∧ l.length ≤ 12
  · simp only [decide_eq_true h, Bool.true_and, Bool.and_true, List.drop_zero, shl_one l.length (by omega)]
  · simp [decide_eq_false h]

-- part: RelSem
/-! ### relations as sets -/
def R (l : List Int) (i : Nat) : Nat := (rd l (i : Int)).toNat
theorem R_out {l : List Int} {i : Nat} (h : l.length ≤ i) : R l i = 0 := by simp [R, rd, List.getElem?_eq_none h]
theorem rel_len {l : List Int} (h : relOk l = true) : 1 ≤ l.length ∧ l.length ≤ 12 := by simp [relOk] at h; exact h.1
theorem rel_lt {l : List Int} (h : relOk l = true) (i : Nat) : R l i < 2 ^ l.length := by
  rcases Nat.lt_or_ge i l.length with hi | hi
  · simp only [relOk, Bool.and_eq_true, List.all_eq_true, decide_eq_true_eq] at h
    have := h.2 l[i] (List.getElem_mem hi)
    unfold R; rw [rd_get hi]; omega
  · rw [R_out hi]; exact Nat.two_pow_pos _
theorem rel_rd {l : List Int} (h : relOk l = true) (i : Nat) (hi : i < l.length) : rd l (i : Int) = (R l i : Int) := by
  simp only [relOk, Bool.and_eq_true, List.all_eq_true, decide_eq_true_eq] at h
  have := h.2 l[i] (List.getElem_mem hi)
  unfold R; rw [rd_get hi]; omega
theorem rel_small {l : List Int} (h : relOk l = true) : 2 ^ l.length < 2 ^ 62 := Nat.lt_of_le_of_lt (pow_le _ (rel_len h).2) (by decide)
theorem rel_4096 {l : List Int} (h : relOk l = true) : 2 ^ l.length ≤ 4096 := pow_le _ (rel_len h).2
def afterF (l : List Int) (S : Nat) : Nat → Nat → Nat → Nat
  | 0, _, acc => acc
  | d + 1, i, acc => afterF l S d (i + 1) (if S.testBit i = true then acc ||| R l i else acc)
def after (l : List Int) (S : Nat) : Nat := afterF l S l.length 0 0
def walk (l : List Int) : Nat → Nat → Nat
  | 0, S => S
  | n + 1, S => walk l n (after l S)
theorem afterF_lt {l : List Int} (h : relOk l = true) (S : Nat) : ∀ d i acc, acc < 2 ^ l.length → afterF l S d i acc < 2 ^ l.length
  | 0, _, _, ha => ha
  | d + 1, i, acc, ha => afterF_lt h S d (i + 1) _ (by split; exact or_lt ha (rel_lt h i); exact ha)
theorem after_lt {l : List Int} (h : relOk l = true) (S : Nat) : after l S < 2 ^ l.length := afterF_lt h S _ _ _ (Nat.two_pow_pos _)
theorem walk_lt {l : List Int} (h : relOk l = true) : ∀ n S, S < 2 ^ l.length → walk l n S < 2 ^ l.length
  | 0, _, hS => hS
  | n + 1, S, _ => walk_lt h n _ (after_lt h S)
theorem afterF_bit (l : List Int) (S : Nat) (j : Nat) : ∀ d i acc, (afterF l S d i acc).testBit j = true ↔ acc.testBit j = true ∨ ∃ m, i ≤ m ∧ m < i + d ∧ S.testBit m = true ∧ (R l m).testBit j = true
  | 0, i, acc => by
    constructor
    · intro h; exact .inl h
    · rintro (h | ⟨m, h1, h2, _⟩)
      · exact h
      · omega
  | d + 1, i, acc => by
    rw [afterF, afterF_bit l S j d (i + 1)]
    constructor
    · rintro (h | ⟨m, h1, h2, h3, h4⟩)
      · by_cases hS : S.testBit i = true
        · rw [if_pos hS, Nat.testBit_or, Bool.or_eq_true] at h
          rcases h with h | h
          · exact .inl h
          · exact .inr ⟨i, by omega, by omega, hS, h⟩
        · rw [if_neg hS] at h; exact .inl h
      · exact .inr ⟨m, by omega, by omega, h3, h4⟩
    · rintro (h | ⟨m, h1, h2, h3, h4⟩)
      · refine .inl ?_
        split
        · rw [Nat.testBit_or, h]; rfl
        · exact h
      · by_cases hm : m = i
        · subst hm; refine .inl ?_
          rw [if_pos h3, Nat.testBit_or, h4, Bool.or_true]
        · exact .inr ⟨m, by omega, by omega, h3, h4⟩
theorem after_bit (l : List Int) (S j : Nat) : (after l S).testBit j = true ↔ ∃ m, S.testBit m = true ∧ (R l m).testBit j = true := by
  unfold after
  rw [afterF_bit]
  constructor
  · rintro (h | ⟨m, _, _, h3, h4⟩)
    · simp at h
    · exact ⟨m, h3, h4⟩
  · rintro ⟨m, h3, h4⟩
    refine .inr ⟨m, Nat.zero_le _, ?_, h3, h4⟩
    rcases Nat.lt_or_ge m l.length with hm | hm
    · omega
    · rw [R_out hm] at h4; simp at h4

-- part: after
theorem impl_after_l0 {l : List Int} (h : relOk l = true) (S : Nat) (hS : S < 2 ^ 62) : ∀ (d i acc : Nat), i + d = l.length → acc < 2 ^ l.length → Ev (fun k => impl_after.l0 k (S : Int) (acc : Int) l (l.length : Int) (i : Int)) ((afterF l S d i acc : Nat) : Int) := by
  have hl := rel_len h
  have hs := rel_small h
  intro d
  induction d with
  | zero =>
    intro i acc hi _
    refine ev_s ?_
    simp only [impl_after.l0, if_neg (show ¬ ((i : Int) < (l.length : Int)) by omega)]
    exact Ev.now _
  | succ d ih =>
    intro i acc hi ha
    have hr := rel_lt h i
    refine ev_s ?_
    simp only [impl_after.l0, if_pos (show (i : Int) < (l.length : Int) by omega), if_pos (show (0 : Int) ≤ (i : Int) by omega), show wrap64 ((i : Int) + 1) = ((i + 1 : Nat) : Int) by rw [wrap_in (by omega) (by omega)]; rfl, bit_and S i hS (by omega), rel_rd h i (by omega), or_nat acc (R l i) (by omega) (by omega)]
    by_cases hb : S.testBit i = true
    · simp only [if_pos hb, if_true]
      have := ih (i + 1) (acc ||| R l i) (by omega) (or_lt ha hr)
      rw [afterF, if_pos hb]; exact this
    · simp only [if_neg hb, if_neg (show ¬ ((0 : Int) = 1) by decide)]
      have := ih (i + 1) acc (by omega) ha
      rw [afterF, if_neg hb]; exact this
theorem impl_after_ev {l : List Int} (h : relOk l = true) (S : Nat) (hS : S < 2 ^ l.length) : Ev (fun k => impl_after.f k l (S : Int)) ((after l S : Nat) : Int) :=
  impl_after_l0 h S (Nat.lt_trans hS (rel_small h)) l.length 0 0 (by omega) (Nat.two_pow_pos _)

-- part: chain
/-! ### sets that grow end -/
def card (S : Nat) : Nat → Nat
  | 0 => 0
  | n + 1 => card S n + (if S.testBit n = true then 1 else 0)
theorem card_le (S : Nat) : ∀ n, card S n ≤ n
  | 0 => Nat.le_refl _
  | n + 1 => by have := card_le S n; rw [card]; split <;> omega
theorem card_mono {S T : Nat} (h : ∀ i, S.testBit i = true → T.testBit i = true) : ∀ n, card S n ≤ card T n
  | 0 => Nat.le_refl _
  | n + 1 => by
    have := card_mono h n
    rw [card, card]
    by_cases hs : S.testBit n = true
    · rw [if_pos hs, if_pos (h n hs)]; omega
    · rw [if_neg hs]; omega
theorem card_eq {S T : Nat} (h : ∀ i, S.testBit i = true → T.testBit i = true) : ∀ n, card S n = card T n → ∀ i, i < n → S.testBit i = T.testBit i
  | 0, _, i, hi => by omega
  | n + 1, he, i, hi => by
    have hm := card_mono h n
    rw [card, card] at he
    have hb : S.testBit n = T.testBit n ∧ card S n = card T n := by
      cases hs : S.testBit n with
      | true => rw [h n hs]; rw [hs, h n hs] at he; simp at he; exact ⟨rfl, he⟩
      | false =>
        cases ht : T.testBit n with
        | false => rw [hs, ht] at he; simp at he; exact ⟨rfl, he⟩
        | true => rw [hs, ht] at he; simp at he; omega
    by_cases hin : i = n
    · subst hin; exact hb.1
    · exact card_eq h n hb.2 i (by omega)
theorem bits_ext {S T n : Nat} (hS : S < 2 ^ n) (hT : T < 2 ^ n) (h : ∀ i, i < n → S.testBit i = T.testBit i) : S = T := by
  apply Nat.eq_of_testBit_eq
  intro i
  rcases Nat.lt_or_ge i n with hi | hi
  · exact h i hi
  · rw [Nat.testBit_lt_two_pow (Nat.lt_of_lt_of_le hS (Nat.pow_le_pow_right (by decide) hi)), Nat.testBit_lt_two_pow (Nat.lt_of_lt_of_le hT (Nat.pow_le_pow_right (by decide) hi))]
theorem chain_stable {n : Nat} {f g : Nat → Nat} (hf : ∀ m, f (m + 1) = g (f m)) {m : Nat} (h : f m = f (m + 1)) : ∀ j, m ≤ j → f j = f m := by
  intro j hj
  induction hj with
  | refl => rfl
  | step hj ih => rw [hf, ih, ← hf, ← h]
theorem chain_end {n : Nat} {f g : Nat → Nat} (hf : ∀ m, f (m + 1) = g (f m)) (hlt : ∀ m, f m < 2 ^ n) (hsub : ∀ m i, (f m).testBit i = true → (f (m + 1)).testBit i = true) : f n = f (n + 1) := by
  have key : ∀ m, f m = f (m + 1) ∨ m + 1 ≤ card (f (m + 1)) n := by
    intro m
    induction m with
    | zero =>
      by_cases h : f 0 = f 1
      · exact .inl h
      · refine .inr ?_
        have h1 : card (f 0) n ≤ card (f 1) n := card_mono (hsub 0) n
        rcases Nat.lt_or_ge (card (f 0) n) (card (f 1) n) with h2 | h2
        · show 0 + 1 ≤ card (f 1) n; omega
        · exact absurd (bits_ext (hlt 0) (hlt 1) (card_eq (T := f 1) (hsub 0) n (by omega))) h
    | succ m ih =>
      rcases ih with ih | ih
      · refine .inl ?_
        have e1 := hf (m + 1)
        rw [← ih, ← hf m, ← ih] at e1
        rw [← ih, e1]
      · by_cases h : f (m + 1) = f (m + 1 + 1)
        · exact .inl h
        · refine .inr ?_
          have h1 := card_mono (hsub (m + 1)) n
          rcases Nat.lt_or_ge (card (f (m + 1)) n) (card (f (m + 1 + 1)) n) with h2 | h2
          · omega
          · exact absurd (bits_ext (hlt _) (hlt _) (card_eq (hsub (m + 1)) n (by omega))) h
  rcases key n with h | h
  · exact h
  · have := card_le (f (n + 1)) n; omega

-- part: RelClosed
/-- The points to which a walk of 1 to m steps leads. -/
def U (l : List Int) (p : Nat) : Nat → Nat
  | 0 => 0
  | m + 1 => U l p m ||| walk l (m + 1) (2 ^ p)
theorem walk_snoc (l : List Int) : ∀ n S, walk l (n + 1) S = after l (walk l n S)
  | 0, _ => rfl
  | n + 1, S => walk_snoc l n (after l S)
theorem after_or (l : List Int) (S T : Nat) : after l (S ||| T) = after l S ||| after l T := by
  apply Nat.eq_of_testBit_eq
  intro i
  rw [Nat.testBit_or, Bool.eq_iff_iff, Bool.or_eq_true, after_bit, after_bit, after_bit]
  constructor
  · rintro ⟨m, h1, h2⟩
    rw [Nat.testBit_or, Bool.or_eq_true] at h1
    rcases h1 with h1 | h1
    · exact .inl ⟨m, h1, h2⟩
    · exact .inr ⟨m, h1, h2⟩
  · rintro (⟨m, h1, h2⟩ | ⟨m, h1, h2⟩)
    · exact ⟨m, by rw [Nat.testBit_or, h1]; rfl, h2⟩
    · exact ⟨m, by rw [Nat.testBit_or, h1, Bool.or_true], h2⟩
theorem after_zero (l : List Int) : after l 0 = 0 := by
  apply Nat.eq_of_testBit_eq
  intro i
  rw [Nat.zero_testBit, Bool.eq_false_iff, Ne, after_bit]
  rintro ⟨m, h1, _⟩
  simp at h1
theorem after_one (l : List Int) (p : Nat) : after l (2 ^ p) = R l p := by
  apply Nat.eq_of_testBit_eq
  intro i
  rw [Bool.eq_iff_iff, after_bit]
  constructor
  · rintro ⟨m, h1, h2⟩
    rw [Nat.testBit_two_pow, decide_eq_true_eq] at h1
    subst h1; exact h2
  · intro h
    exact ⟨p, by simp [Nat.testBit_two_pow], h⟩
theorem U_step (l : List Int) (p : Nat) : ∀ m, U l p (m + 1) = R l p ||| after l (U l p m)
  | 0 => by simp only [U, walk, after_one, after_zero, Nat.zero_or, Nat.or_zero]
  | m + 1 => by
    have ih := U_step l p m
    rw [show U l p (m + 1 + 1) = U l p (m + 1) ||| walk l (m + 1 + 1) (2 ^ p) from rfl, walk_snoc, ih, Nat.or_assoc, ← after_or, ← ih]
    rfl
theorem U_lt {l : List Int} (h : relOk l = true) (p : Nat) : ∀ m, U l p m < 2 ^ l.length
  | 0 => Nat.two_pow_pos _
  | m + 1 => by rw [U_step]; exact or_lt (rel_lt h p) (after_lt h _)
theorem U_sub (l : List Int) (p m i : Nat) (h : (U l p m).testBit i = true) : (U l p (m + 1)).testBit i = true := by
  rw [U, Nat.testBit_or, h]; rfl
theorem U_end {l : List Int} (h : relOk l = true) (p : Nat) : U l p l.length = U l p (l.length + 1) :=
  chain_end (g := fun S => R l p ||| after l S) (U_step l p) (U_lt h p) (U_sub l p)
theorem U_grow {l : List Int} (p : Nat) : ∀ m, U l p (m + 1) ||| after l (U l p (m + 1)) = U l p (m + 1 + 1) := by
  intro m
  rw [U_step l p (m + 1)]
  apply Nat.eq_of_testBit_eq
  intro i
  rw [Nat.testBit_or, Nat.testBit_or, Bool.eq_iff_iff, Bool.or_eq_true, Bool.or_eq_true]
  constructor
  · rintro (h | h)
    · have := U_sub l p (m + 1) i h
      rw [U_step l p (m + 1), Nat.testBit_or, Bool.or_eq_true] at this
      exact this
    · exact .inr h
  · rintro (h | h)
    · refine .inl ?_
      rw [U_step, Nat.testBit_or, h]; rfl
    · exact .inr h
/-- What both of them say. -/
def closedOf (l : List Int) (i : Nat) : List Int := (List.range i).map (fun p => ((U l p l.length : Nat) : Int))
theorem closedOf_succ (l : List Int) (i : Nat) : closedOf l (i + 1) = closedOf l i ++ [((U l i l.length : Nat) : Int)] := by simp [closedOf, List.range_succ]
theorem closedOf_length (l : List Int) (i : Nat) : (closedOf l i).length = i := by simp [closedOf]
theorem impl_RelClosed_l1 {l : List Int} (h : relOk l = true) (p : Nat) (hp : p < l.length) (r : List Int)
    (hc : Ev (fun k => impl_RelClosed.l0 k l (closedOf l (p + 1)) l (l.length : Int) ((p + 1 : Nat) : Int)) r) :
    ∀ (d m : Nat), m + 1 + d = l.length → Ev (fun k => impl_RelClosed.l1 k l (closedOf l p) ((U l p (m + 1) : Nat) : Int) l (l.length : Int) (p : Int)) r := by
  have hl := rel_len h
  have hs := rel_4096 h
  intro d
  have fin : ∀ m, m + 1 ≤ l.length → U l p (m + 1) = U l p (m + 1 + 1) → Ev (fun k => impl_RelClosed.l1 k l (closedOf l p) ((U l p (m + 1) : Nat) : Int) l (l.length : Int) (p : Int)) r := by
    intro m hm he
    have hst : U l p l.length = U l p (m + 1) := chain_stable (n := 0) (g := fun S => R l p ||| after l S) (U_step l p) he l.length hm
    have hlt := U_lt h p (m + 1)
    refine ev_s ?_
    simp only [impl_RelClosed.l1]
    refine Ev.bind (impl_after_ev h _ hlt) ?_
    have ha := after_lt h (U l p (m + 1))
    simp only [or_nat _ _ (show U l p (m + 1) < 2 ^ 62 by omega) (show after l (U l p (m + 1)) < 2 ^ 62 by omega), U_grow p m, ← he, if_true, closedOf_length, if_pos (show p < 17592186044416 by omega), show wrap64 ((p : Int) + 1) = ((p + 1 : Nat) : Int) by rw [wrap_in (by omega) (by omega)]; rfl]
    rw [closedOf_succ, hst] at hc
    exact hc
  induction d with
  | zero =>
    intro m hm
    refine fin m (by omega) ?_
    rw [show m + 1 = l.length by omega]
    exact U_end h p
  | succ d ih =>
    intro m hm
    by_cases he : U l p (m + 1) = U l p (m + 1 + 1)
    · exact fin m (by omega) he
    · have hlt := U_lt h p (m + 1)
      refine ev_s ?_
      simp only [impl_RelClosed.l1]
      refine Ev.bind (impl_after_ev h _ hlt) ?_
      have ha := after_lt h (U l p (m + 1))
      have hne : ¬ (((U l p (m + 1 + 1) : Nat) : Int) = ((U l p (m + 1) : Nat) : Int)) := fun e => he (by omega)
      simp only [or_nat _ _ (show U l p (m + 1) < 2 ^ 62 by omega) (show after l (U l p (m + 1)) < 2 ^ 62 by omega), U_grow p m, if_neg hne]
      exact ih (m + 1) (by omega)
theorem impl_RelClosed_l0 {l : List Int} (h : relOk l = true) : ∀ (d p : Nat), p + d = l.length → Ev (fun k => impl_RelClosed.l0 k l (closedOf l p) l (l.length : Int) (p : Int)) (closedOf l l.length) := by
  have hl := rel_len h
  intro d
  induction d with
  | zero =>
    intro p hp
    refine ev_s ?_
    simp only [impl_RelClosed.l0, if_neg (show ¬ ((p : Int) < (l.length : Int)) by omega)]
    exact ev_now (by rw [show p = l.length by omega])
  | succ d ih =>
    intro p hp
    refine ev_s ?_
    simp only [impl_RelClosed.l0, if_pos (show (p : Int) < (l.length : Int) by omega), if_pos (show (0 : Int) ≤ (p : Int) by omega), rel_rd h p (by omega)]
    have := impl_RelClosed_l1 h p (by omega) _ (ih (p + 1) (by omega)) (l.length - 1) 0 (by omega)
    rw [U_step, show U l p 0 = 0 from rfl, after_zero, Nat.or_zero] at this
    exact this
def relClosed (l : List Int) : List Int := if relOk l = true then closedOf l l.length else []
theorem impl_RelClosed_ev (l : List Int) (hb : l.length ≤ 140737488351232) : Ev (fun k => impl_RelClosed.f k l) (relClosed l) := by
  simp only [impl_RelClosed.f]
  refine Ev.bind (impl_RelValid_ev l hb) ?_
  unfold relClosed
  cases h : relOk l with
  | false => simp only [Bool.false_eq_true, if_false]; exact Ev.now _
  | true => simp only [if_true]; exact impl_RelClosed_l0 h l.length 0 (by omega)

-- part: l7Bit
theorem l7Bit_eq (s n : Nat) (hn : n < 64) : spec_l7Bit.f (s : Int) (n : Int) = some (if s.testBit n = true then 1 else 0) := by
  unfold spec_l7Bit.f
  rw [if_pos (by omega), bit_mod s n hn]

-- part: WalksToVal
/-- What both of them say. -/
def walksTo (l : List Int) (p n : Int) : Int := if relOk l = true ∧ 0 ≤ p ∧ p < (l.length : Int) ∧ 0 ≤ n ∧ n ≤ 99 then ((walk l n.toNat (2 ^ p.toNat) : Nat) : Int) else -1
theorem walksTo_in {l : List Int} (h : relOk l = true) (p n : Nat) (hp : p < l.length) (hn : n ≤ 99) : walksTo l (p : Int) (n : Int) = ((walk l n (2 ^ p) : Nat) : Int) := by
  unfold walksTo; rw [if_pos ⟨h, by omega, by omega, by omega, by omega⟩]; rfl

-- part: specWalksTo
/-- The bits of r from j on, put into s one by one. -/
def innerF (r : Nat) : Nat → Nat → Nat → Nat
  | 0, _, s => s
  | d + 1, j, s => innerF r d (j + 1) (if r.testBit j = true ∧ s.testBit j = false then s + 2 ^ j else s)
theorem innerF_bit (r : Nat) (i : Nat) : ∀ d j s, (innerF r d j s).testBit i = (s.testBit i || (decide (j ≤ i ∧ i < j + d) && r.testBit i))
  | 0, j, s => by simp [innerF]; omega
  | d + 1, j, s => by
    rw [innerF, innerF_bit r i d (j + 1)]
    by_cases h : r.testBit j = true ∧ s.testBit j = false
    · rw [if_pos h, add_bit s j h.2, testBit_or_two_pow]
      by_cases hji : j = i
      · subst hji; simp [h.1]
      · have : decide (j ≤ i ∧ i < j + (d + 1)) = decide (j + 1 ≤ i ∧ i < j + 1 + d) := decide_eq_decide.mpr (by omega)
        rw [this]; simp [hji]
    · rw [if_neg h]
      by_cases hji : j = i
      · subst hji
        cases hr : r.testBit j with
        | false => simp
        | true =>
          have : s.testBit j = true := by cases hs : s.testBit j with | true => rfl | false => exact absurd ⟨hr, hs⟩ h
          simp [this]
      · have : decide (j ≤ i ∧ i < j + (d + 1)) = decide (j + 1 ≤ i ∧ i < j + 1 + d) := decide_eq_decide.mpr (by omega)
        rw [this]
theorem innerF_all {r n s : Nat} (hr : r < 2 ^ n) : innerF r n 0 s = s ||| r := by
  apply Nat.eq_of_testBit_eq
  intro i
  rw [innerF_bit, Nat.testBit_or]
  cases h : r.testBit i with
  | false => simp
  | true => have := testBit_lt hr h; simp [this]
theorem innerF_lt {r n : Nat} : ∀ d j s, j + d ≤ n → s < 2 ^ n → innerF r d j s < 2 ^ n
  | 0, _, _, _, hs => hs
  | d + 1, j, s, hj, hs => by
    refine innerF_lt d (j + 1) _ (by omega) ?_
    split
    · rename_i h; rw [add_bit s j h.2]; exact or_lt hs (Nat.pow_lt_pow_right (by decide) (by omega))
    · exact hs
theorem spec_WalksTo_l2 {l : List Int} (h : relOk l = true) (n : Int) (S : Nat) (w : Int) (i : Nat) (hi : i < l.length) (r : Int) : ∀ (d j s : Nat), j + d = l.length → s < 2 ^ l.length →
    Ev (fun k => spec_WalksTo.l1 k l n (S : Int) w ((if S.testBit i = true then innerF (R l i) d j s else s : Nat) : Int) ((i + 1 : Nat) : Int)) r →
    Ev (fun k => spec_WalksTo.l2 k l n (S : Int) w (s : Int) (i : Int) (j : Int)) r := by
  have hl := rel_len h
  have h4 := rel_4096 h
  intro d
  induction d with
  | zero =>
    intro j s hj hs hc
    refine ev_s ?_
    simp only [spec_WalksTo.l2, if_neg (show ¬ ((j : Int) < (l.length : Int)) by omega), show wrap64 ((i : Int) + 1) = ((i + 1 : Nat) : Int) by rw [wrap_in (by omega) (by omega)]; rfl]
    simpa [innerF] using hc
  | succ d ih =>
    intro j s hj hs hc
    refine ev_s ?_
    have hp : 2 ^ j < 2 ^ l.length := Nat.pow_lt_pow_right (by decide) (by omega)
    simp only [spec_WalksTo.l2, if_pos (show (j : Int) < (l.length : Int) by omega), l7Bit_eq S i (by omega), Option.bind_some, show wrap64 ((j : Int) + 1) = ((j + 1 : Nat) : Int) by rw [wrap_in (by omega) (by omega)]; rfl, if_pos (show (0 : Int) ≤ (i : Int) by omega), if_pos (show (i : Int) < (l.length : Int) by omega), rel_rd h i hi, l7Bit_eq (R l i) j (by omega), l7Bit_eq s j (by omega), shl_one j (by omega), if_pos (show (0 : Int) ≤ (j : Int) by omega), wrap_nat2 s (2 ^ j) (by omega)]
    by_cases hb : S.testBit i = true
    · rw [if_pos hb] at hc
      simp only [if_pos hb, if_true]
      rw [innerF] at hc
      by_cases hr : (R l i).testBit j = true
      · simp only [if_pos hr, if_true]
        cases hsj : s.testBit j with
        | false =>
          simp only [Bool.false_eq_true, if_false, if_true]
          rw [if_pos ⟨hr, hsj⟩] at hc
          exact ih (j + 1) (s + 2 ^ j) (by omega) (by rw [add_bit s j hsj]; exact or_lt hs hp) (by rw [if_pos hb]; exact hc)
        | true =>
          simp only [if_true, if_neg (show ¬ ((1 : Int) = 0) by decide)]
          rw [if_neg (by rw [hsj]; simp)] at hc
          exact ih (j + 1) s (by omega) hs (by rw [if_pos hb]; exact hc)
      · simp only [if_neg hr, if_neg (show ¬ ((0 : Int) = 1) by decide)]
        rw [if_neg (fun hh => hr hh.1)] at hc
        exact ih (j + 1) s (by omega) hs (by rw [if_pos hb]; exact hc)
    · rw [if_neg hb] at hc
      simp only [if_neg hb, if_neg (show ¬ ((0 : Int) = 1) by decide)]
      exact ih (j + 1) s (by omega) hs (by rw [if_neg hb]; exact hc)
theorem spec_WalksTo_l1 {l : List Int} (h : relOk l = true) (n : Int) (S : Nat) (w : Nat) (hw : w ≤ 1000) (r : Int) : ∀ (d i s : Nat), i + d = l.length → s < 2 ^ l.length →
    Ev (fun k => spec_WalksTo.l0 k l n ((afterF l S d i s : Nat) : Int) ((w + 1 : Nat) : Int)) r →
    Ev (fun k => spec_WalksTo.l1 k l n (S : Int) (w : Int) (s : Int) (i : Int)) r := by
  intro d
  induction d with
  | zero =>
    intro i s hi hs hc
    refine ev_s ?_
    simp only [spec_WalksTo.l1, if_neg (show ¬ ((i : Int) < (l.length : Int)) by omega), show wrap64 ((w : Int) + 1) = ((w + 1 : Nat) : Int) by rw [wrap_in (by omega) (by omega)]; rfl]
    exact hc
  | succ d ih =>
    intro i s hi hs hc
    refine ev_s ?_
    simp only [spec_WalksTo.l1, if_pos (show (i : Int) < (l.length : Int) by omega)]
    refine spec_WalksTo_l2 h n S (w : Int) i (by omega) r l.length 0 s (by omega) hs ?_
    rw [innerF_all (rel_lt h i)]
    refine ih (i + 1) _ (by omega) ?_ hc
    split
    · exact or_lt hs (rel_lt h i)
    · exact hs
theorem spec_WalksTo_l0 {l : List Int} (h : relOk l = true) (n : Nat) (hn : n ≤ 200) : ∀ (d i S : Nat), i + d = n → S < 2 ^ l.length → Ev (fun k => spec_WalksTo.l0 k l (n : Int) (S : Int) (i : Int)) ((walk l d S : Nat) : Int) := by
  intro d
  induction d with
  | zero =>
    intro i S hi _
    refine ev_s ?_
    simp only [spec_WalksTo.l0, if_neg (show ¬ ((i : Int) < (n : Int)) by omega)]
    exact Ev.now _
  | succ d ih =>
    intro i S hi hS
    refine ev_s ?_
    simp only [spec_WalksTo.l0, if_pos (show (i : Int) < (n : Int) by omega)]
    exact spec_WalksTo_l1 h (n : Int) S i (by omega) _ l.length 0 0 (by omega) (Nat.two_pow_pos _) (ih (i + 1) _ (by omega) (after_lt h S))
theorem spec_WalksTo_ev (l : List Int) (hb : l.length ≤ 140737488351232) (p n : Int) : Ev (fun k => spec_WalksTo.f k l p n) (walksTo l p n) := by
  have bad : ∀ b : Bool, b = true → Ev (fun k => spec_WalksTo.j0 k l p n b) (-1) := by
    intro b hb; subst hb
    refine ev_s ?_
    simp only [spec_WalksTo.j0, if_true]
    exact Ev.now _
  simp only [spec_WalksTo.f]
  refine Ev.bind (spec_RelValid_ev l hb) ?_
  unfold walksTo
  cases h : relOk l with
  | false =>
    simp only [Bool.false_eq_true, if_false, false_and]
    exact bad _ rfl
  | true =>
    have hl := rel_len h
    simp only [if_true, true_and, l1In_eq, Option.bind_some, show wrap64 ((l.length : Int) - 1) = (l.length : Int) - 1 from wrap_in (by omega) (by omega)]
    by_cases h1 : 0 ≤ p ∧ p ≤ (l.length : Int) - 1
    · simp only [decide_eq_true h1, if_true]
      by_cases h2 : 0 ≤ n ∧ n ≤ 99
      · simp only [decide_eq_true h2, Bool.not_true, if_pos (show (0 ≤ p ∧ p < (l.length : Int) ∧ 0 ≤ n ∧ n ≤ 99) by omega)]
        obtain ⟨q, rfl⟩ := Int.eq_ofNat_of_zero_le (show 0 ≤ p by omega)
        obtain ⟨m, rfl⟩ := Int.eq_ofNat_of_zero_le (show 0 ≤ n by omega)
        refine ev_s ?_
        simp only [spec_WalksTo.j0, Bool.false_eq_true, if_false, if_pos (show (0 : Int) ≤ (q : Int) by omega), Int.toNat_natCast, shl_one q (by omega)]
        exact spec_WalksTo_l0 h m (by omega) m 0 _ (by omega) (Nat.pow_lt_pow_right (by decide) (by omega))
      · simp only [decide_eq_false h2, Bool.not_false, if_neg (show ¬ (0 ≤ p ∧ p < (l.length : Int) ∧ 0 ≤ n ∧ n ≤ 99) by omega)]
        exact bad _ rfl
    · simp only [decide_eq_false h1, Bool.false_eq_true, if_false, if_neg (show ¬ (0 ≤ p ∧ p < (l.length : Int) ∧ 0 ≤ n ∧ n ≤ 99) by omega)]
      exact bad _ rfl

-- part: specRelClosed
theorem spec_RelClosed_l2 {l : List Int} (h : relOk l = true) (out : List Int) (p n : Nat) (hn : n ≤ 100) (W : Nat) (hW : W < 2 ^ l.length) (r : List Int) : ∀ (d j s : Nat), j + d = l.length → s < 2 ^ l.length →
    Ev (fun k => spec_RelClosed.l1 k l out (p : Int) ((innerF W d j s : Nat) : Int) ((n + 1 : Nat) : Int)) r →
    Ev (fun k => spec_RelClosed.l2 k l out (p : Int) (s : Int) (n : Int) (W : Int) (j : Int)) r := by
  have hl := rel_len h
  have h4 := rel_4096 h
  intro d
  induction d with
  | zero =>
    intro j s hj hs hc
    refine ev_s ?_
    simp only [spec_RelClosed.l2, if_neg (show ¬ ((j : Int) < (l.length : Int)) by omega), show wrap64 ((n : Int) + 1) = ((n + 1 : Nat) : Int) by rw [wrap_in (by omega) (by omega)]; rfl]
    exact hc
  | succ d ih =>
    intro j s hj hs hc
    have hp : 2 ^ j < 2 ^ l.length := Nat.pow_lt_pow_right (by decide) (by omega)
    refine ev_s ?_
    simp only [spec_RelClosed.l2, if_pos (show (j : Int) < (l.length : Int) by omega), l7Bit_eq W j (by omega), l7Bit_eq s j (by omega), Option.bind_some, show wrap64 ((j : Int) + 1) = ((j + 1 : Nat) : Int) by rw [wrap_in (by omega) (by omega)]; rfl, shl_one j (by omega), if_pos (show (0 : Int) ≤ (j : Int) by omega), wrap_nat2 s (2 ^ j) (by omega)]
    rw [innerF] at hc
    by_cases hr : W.testBit j = true
    · simp only [if_pos hr, if_true]
      cases hsj : s.testBit j with
      | false =>
        simp only [Bool.false_eq_true, if_false, if_true]
        rw [if_pos ⟨hr, hsj⟩] at hc
        exact ih (j + 1) (s + 2 ^ j) (by omega) (by rw [add_bit s j hsj]; exact or_lt hs hp) hc
      | true =>
        simp only [if_true, if_neg (show ¬ ((1 : Int) = 0) by decide)]
        rw [if_neg (by rw [hsj]; simp)] at hc
        exact ih (j + 1) s (by omega) hs hc
    · simp only [if_neg hr, if_neg (show ¬ ((0 : Int) = 1) by decide)]
      rw [if_neg (fun hh => hr hh.1)] at hc
      exact ih (j + 1) s (by omega) hs hc
theorem spec_RelClosed_l1 {l : List Int} (h : relOk l = true) (p : Nat) (hp : p < l.length) (r : List Int)
    (hc : Ev (fun k => spec_RelClosed.l0 k l (closedOf l (p + 1)) ((p + 1 : Nat) : Int)) r) :
    ∀ (d m : Nat), m + d = l.length → Ev (fun k => spec_RelClosed.l1 k l (closedOf l p) (p : Int) ((U l p m : Nat) : Int) ((m + 1 : Nat) : Int)) r := by
  have hl := rel_len h
  intro d
  induction d with
  | zero =>
    intro m hm
    refine ev_s ?_
    simp only [spec_RelClosed.l1, if_neg (show ¬ (((m + 1 : Nat) : Int) ≤ (l.length : Int)) by omega), closedOf_length, if_pos (show p < 17592186044416 by omega), show wrap64 ((p : Int) + 1) = ((p + 1 : Nat) : Int) by rw [wrap_in (by omega) (by omega)]; rfl]
    rw [closedOf_succ, ← show m = l.length by omega] at hc
    rw [show m = l.length by omega] at hc ⊢
    exact hc
  | succ d ih =>
    intro m hm
    refine ev_s ?_
    simp only [spec_RelClosed.l1, if_pos (show ((m + 1 : Nat) : Int) ≤ (l.length : Int) by omega)]
    refine Ev.bind (ev_eq (spec_WalksTo_ev l (by omega) (p : Int) ((m + 1 : Nat) : Int)) (walksTo_in h p (m + 1) hp (by omega))) ?_
    have hw := walk_lt h (m + 1) (2 ^ p) (Nat.pow_lt_pow_right (by decide) hp)
    refine spec_RelClosed_l2 h (closedOf l p) p (m + 1) (by omega) _ hw r l.length 0 _ (by omega) (U_lt h p m) ?_
    rw [innerF_all hw]
    exact ih (m + 1) (by omega)
theorem spec_RelClosed_l0 {l : List Int} (h : relOk l = true) : ∀ (d p : Nat), p + d = l.length → Ev (fun k => spec_RelClosed.l0 k l (closedOf l p) (p : Int)) (closedOf l l.length) := by
  have hl := rel_len h
  intro d
  induction d with
  | zero =>
    intro p hp
    refine ev_s ?_
    simp only [spec_RelClosed.l0, if_neg (show ¬ ((p : Int) < (l.length : Int)) by omega)]
    refine ev_s ?_
    simp only [spec_RelClosed.j1, Bool.false_eq_true, if_false]
    exact ev_now (by rw [show p = l.length by omega])
  | succ d ih =>
    intro p hp
    refine ev_s ?_
    simp only [spec_RelClosed.l0, if_pos (show (p : Int) < (l.length : Int) by omega)]
    refine Ev.bind (spec_RelValid_ev l (by omega)) ?_
    refine ev_s ?_
    simp only [spec_RelClosed.j1, h, if_true]
    exact spec_RelClosed_l1 h p (by omega) _ (ih (p + 1) (by omega)) l.length 0 (by omega)
theorem spec_RelClosed_ev (l : List Int) (hb : l.length ≤ 140737488351232) : Ev (fun k => spec_RelClosed.f k l) (relClosed l) := by
  unfold relClosed
  cases h : relOk l with
  | true => simp only [if_true]; exact spec_RelClosed_l0 h l.length 0 (by omega)
  | false =>
    simp only [Bool.false_eq_true, if_false, spec_RelClosed.f]
    have fin : Ev (fun k => spec_RelClosed.j1 k l [] 0 false) [] := by
      refine ev_s ?_
      simp only [spec_RelClosed.j1, Bool.false_eq_true, if_false]
      exact Ev.now _
    refine ev_s ?_
    simp only [spec_RelClosed.l0]
    by_cases h0 : (0 : Int) < (l.length : Int)
    · simp only [if_pos h0]
      exact Ev.bind (ev_eq (spec_RelValid_ev l hb) h) fin
    · simp only [if_neg h0]; exact fin

-- part: law_FnExactRelClosed
theorem FnExactRelClosed : laws_FnExactRelClosed.Pure := by
  intro l0 _ hl _
  refine Ev.rounds ?_
  simp only [laws_FnExactRelClosed.f]
  by_cases hb : (l0.length : Int) > 1048576
  · simp only [if_pos hb]; exact Ev.now _
  · simp only [if_neg hb]
    have ht := toIntS_ev l0 (by omega)
    have hlen : (relClosed l0).length ≤ 1048576 := by
      unfold relClosed; split
      · rw [closedOf_length]; omega
      · simp
    have heq : Ev (fun k => laws_eqIntS.f k (relClosed l0) (relClosed l0)) true := ev_eq (eqIntS_ev _ _ (by omega)) (by simp)
    have hheld := heldIntS_ev 1 (relClosed l0).length (by omega)
    refine Ev.bind ht ?_
    refine Ev.bind (spec_RelClosed_ev l0 (by omega)) ?_
    refine Ev.bind ht ?_
    refine Ev.bind (impl_RelClosed_ev l0 (by omega)) ?_
    refine Ev.bind heq ?_
    simp only [if_true]
    refine Ev.bind ht ?_
    refine Ev.bind (eqIntS_ev l0 l0 (by omega)) ?_
    simp only [decide_true, if_true]
    refine Ev.bind (markIntS_ev l0 1 (by omega)) ?_
    simp only [if_neg (show ¬ (((1 + l0.length : Nat) : Int) < 0) by omega)]
    refine Ev.bind heq ?_
    refine ev_s ?_
    simp only [laws_FnExactRelClosed.j0, Bool.not_true, Bool.false_eq_true, if_false]
    refine Ev.bind (markIntS_ev (relClosed l0) 1 (by omega)) ?_
    refine Ev.bind hheld ?_
    simp only [if_neg (show ¬ (((1 + (relClosed l0).length : Nat) : Int) < 0) by omega), if_true]
    refine Ev.bind ht ?_
    refine Ev.bind (impl_RelClosed_ev l0 (by omega)) ?_
    refine Ev.bind heq ?_
    simp only [if_true]
    refine Ev.bind hheld ?_
    simp only [if_neg (show ¬ (((1 + (relClosed l0).length : Nat) : Int) < 0) by omega), if_true]
    exact Ev.now _

end Go.Proofs.Ytclapemogefepaa.Pure

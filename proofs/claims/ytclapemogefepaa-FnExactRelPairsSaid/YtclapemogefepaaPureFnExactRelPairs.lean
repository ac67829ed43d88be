/- The law FnExactRelPairs returns true for every input that the statement lets in; no condition of our own. -/
import Derived.Test.YtclapemogefepaaPFnExactRelPairsx4
import Derived.Test.YtclapemogefepaaWSized
namespace Go.Proofs.Ytclapemogefepaa
open Go.ChangeShapes Go.WideShapes in
/-- The printed row names this word of the seat's without its first part. -/
theorem PrintWords.sized_ints {H : Type} {enc : TypeId × Value → H} {P : Program} {W : World} {base : Nat} {spare : Nat → Bool} {held : Bool} {t e : TypeId} {k : IntKind} {a : Option Addr} {len cap : Nat} {d : DataW H} {ps : List MemPlace} {ts : List TypeId} {ds : List (DataW H)} {j : Nat}
    (hsz : (DataW.weightsEach P ts ds).all (· ≤ reachBytes) = true) (ht : ts[j]? = some t) (hd : ds[j]? = some d) (hu : P.underlying t = some (.slice e)) (he : P.underlying e = some (.int k)) (hc : P.cellsOf e = 1) {B : Nat} (hB : P.bytesOf e = B)
    (h : DataW.Trod enc P W base spare held t (.slice a len cap) d ps) : len * B ≤ 140737488351232 :=
  Go.Proofs.YtclapemogefepaaW.PrintWords.sized_ints hsz ht hd hu he hc hB h
end Go.Proofs.Ytclapemogefepaa
namespace Go.Proofs.Ytclapemogefepaa.Pure
open Go.RowKit Go.Proofs.Ytclapemogefepaa.PFnExactRelPairs Go.Proofs.YtclapemogefepaaW.PrintWords Go.Proofs.YtclapemogefepaaW.PrintLast
set_option linter.unusedVariables false
set_option linter.unusedSimpArgs false

-- part: base
/-! ### words of mine -/
theorem ev_s {α : Type} {g : Nat → Option α} {r : α} (h : Ev (fun k => g (k + 1)) r) : Ev g r := Ev.step (fun _ => rfl) h
theorem ev_eq {α : Type} {g : Nat → Option α} {r q : α} (h : Ev g r) (e : r = q) : Ev g q := e ▸ h
theorem ev_now {α : Type} {r q : α} (e : r = q) : Ev (fun _ => some r) q := e ▸ Ev.now r
theorem wrap_in {x : Int} (h0 : -9223372036854775808 ≤ x) (h1 : x ≤ 9223372036854775807) : wrap64 x = x := by unfold wrap64; omega
theorem rd_eq (xs : List Int) (i : Nat) : rd xs (i : Int) = xs.getD i 0 := by simp [rd]
theorem rd_get {xs : List Int} {i : Nat} (h : i < xs.length) : rd xs (i : Int) = xs[i] := by simp [rd, h]
theorem wrap_nat2 (a b : Nat) (h : a + b < 4611686018427387904) : wrap64 ((a : Int) + (b : Int)) = ((a + b : Nat) : Int) := by rw [wrap_in (by omega) (by omega)]; omega

-- part: bits
/-! ### sets as bits -/
theorem i64_wrap_nat (n : Nat) (h : n < 2 ^ 63) : IntKind.i64.wrap (n : Int) = (n : Int) := by rw [IntKind.wrap_i64]; omega
theorem mod64 {a : Nat} (ha : a < 2 ^ 62) : a % 2 ^ IntKind.i64.bits = a := Nat.mod_eq_of_lt (Nat.lt_of_lt_of_le ha (by decide))
theorem or_nat (a b : Nat) (ha : a < 2 ^ 62) (hb : b < 2 ^ 62) : Go.bits .or .i64 (a : Int) (b : Int) = ((a ||| b : Nat) : Int) := by
  simp only [bits, BitVec.ofInt_natCast, BitVec.toNat_or, BitVec.toNat_ofNat, mod64 ha, mod64 hb]
  exact i64_wrap_nat _ (Nat.lt_of_lt_of_le (Nat.or_lt_two_pow ha hb) (by decide))
theorem and_nat (a b : Nat) (ha : a < 2 ^ 62) (hb : b < 2 ^ 62) : Go.bits .and .i64 (a : Int) (b : Int) = ((a &&& b : Nat) : Int) := by
  simp only [bits, BitVec.ofInt_natCast, BitVec.toNat_and, BitVec.toNat_ofNat, mod64 ha, mod64 hb]
  exact i64_wrap_nat _ (Nat.lt_of_lt_of_le (Nat.and_lt_two_pow _ hb) (by decide))
theorem andNot_zero (a b : Nat) (ha : a < 2 ^ 62) (hb : b < 2 ^ 62) : Go.bits .andNot .i64 (a : Int) (b : Int) = 0 ↔ ∀ i, a.testBit i = true → b.testBit i = true := by
  have e : (BitVec.ofNat IntKind.i64.bits a &&& ~~~ BitVec.ofNat IntKind.i64.bits b).toNat = a &&& (a ^^^ b) := by
    apply Nat.eq_of_testBit_eq
    intro i
    rw [BitVec.testBit_toNat, BitVec.getLsbD_and, BitVec.getLsbD_not, BitVec.getLsbD_ofNat, BitVec.getLsbD_ofNat, Nat.testBit_and, Nat.testBit_xor]
    by_cases hi : i < IntKind.i64.bits
    · simp only [hi, decide_true, Bool.true_and]
      cases a.testBit i <;> cases b.testBit i <;> rfl
    · have h1 : a.testBit i = false := Nat.testBit_lt_two_pow (Nat.lt_of_lt_of_le ha (Nat.pow_le_pow_right (by decide) (by simp [IntKind.bits] at hi; omega)))
      simp [hi, h1]
  have hlt : a &&& (a ^^^ b) < 2 ^ 62 := Nat.and_lt_two_pow _ (Nat.xor_lt_two_pow ha hb)
  have e2 : Go.bits .andNot .i64 (a : Int) (b : Int) = ((a &&& (a ^^^ b) : Nat) : Int) := by
    simp only [bits, BitVec.ofInt_natCast]
    rw [e]
    exact i64_wrap_nat _ (Nat.lt_of_lt_of_le hlt (by decide))
  rw [e2]
  constructor
  · intro h i hi
    have h0 : a &&& (a ^^^ b) = 0 := by exact_mod_cast h
    have := congrArg (fun z => Nat.testBit z i) h0
    simp only [Nat.testBit_and, Nat.testBit_xor, hi, Nat.zero_testBit, Bool.true_and] at this
    cases hb' : b.testBit i with
    | true => rfl
    | false => rw [hb'] at this; simp at this
  · intro h
    have h0 : a &&& (a ^^^ b) = 0 := by
      apply Nat.eq_of_testBit_eq
      intro i
      rw [Nat.testBit_and, Nat.testBit_xor, Nat.zero_testBit]
      cases ha' : a.testBit i with
      | false => rfl
      | true => rw [h i ha']; rfl
    rw [h0]; rfl
theorem shr_nat (s n : Nat) (hn : n < 64) : shr .i64 (s : Int) (n : Int) = ((s >>> n : Nat) : Int) := by
  unfold shr
  rw [Int.toNat_natCast, Nat.min_eq_left (by simp [IntKind.bits]; omega), Nat.shiftRight_eq_div_pow]
  exact_mod_cast rfl
theorem shl_nat (s n : Nat) (hn : n < 64) (h : s * 2 ^ n < 2 ^ 63) : shl .i64 (s : Int) (n : Int) = ((s * 2 ^ n : Nat) : Int) := by
  unfold shl
  rw [Int.toNat_natCast, Nat.min_eq_left (by simp [IntKind.bits]; omega)]
  have := i64_wrap_nat (s * 2 ^ n) h
  rw [← this]
  congr 1
theorem shl_one (n : Nat) (hn : n < 62) : shl .i64 1 (n : Int) = ((2 ^ n : Nat) : Int) := by
  have h2 : 2 ^ n < 2 ^ 62 := Nat.pow_lt_pow_right (by decide) hn
  have h3 : (2 : Nat) ^ 62 < 2 ^ 63 := by decide
  have := shl_nat 1 n (by omega) (by omega)
  rw [Nat.one_mul] at this
  exact this
theorem bit_and (s n : Nat) (hs : s < 2 ^ 62) (hn : n < 64) : Go.bits .and .i64 (shr .i64 (s : Int) (n : Int)) 1 = if s.testBit n = true then 1 else 0 := by
  have hle : s >>> n ≤ s := by rw [Nat.shiftRight_eq_div_pow]; exact Nat.div_le_self _ _
  rw [shr_nat s n hn]
  have := and_nat (s >>> n) 1 (by omega) (by decide)
  rw [show ((1 : Nat) : Int) = 1 from rfl] at this
  rw [this, Nat.testBit_eq_decide_div_mod_eq, Nat.shiftRight_eq_div_pow, Nat.and_one_is_mod]
  have h2 : s / 2 ^ n % 2 < 2 := Nat.mod_lt _ (by decide)
  by_cases h : s / 2 ^ n % 2 = 1
  · simp [h]
  · simp [show s / 2 ^ n % 2 = 0 by omega]
theorem testBit_shift (s n : Nat) : s.testBit n = decide ((s >>> n) % 2 = 1) := by rw [Nat.testBit_eq_decide_div_mod_eq, Nat.shiftRight_eq_div_pow]
theorem bit_mod (s n : Nat) (hn : n < 64) : Int.tmod (shr .i64 (s : Int) (n : Int)) 2 = if s.testBit n = true then 1 else 0 := by
  rw [shr_nat s n hn, testBit_shift]
  generalize s >>> n = x
  rw [Int.tmod_eq_emod_of_nonneg (Int.natCast_nonneg _)]
  by_cases h : x % 2 = 1
  · simp only [h, decide_true, if_true]; omega
  · simp only [h, decide_false, Bool.false_eq_true, if_false]; omega
theorem add_bit (s j : Nat) (h : s.testBit j = false) : s + 2 ^ j = s ||| 2 ^ j := by
  have h1 : s % 2 ^ (j + 1) < 2 ^ j := by
    rw [Nat.mod_pow_succ]
    rw [Nat.testBit_eq_decide_div_mod_eq] at h
    have h2 : s / 2 ^ j % 2 < 2 := Nat.mod_lt _ (by decide)
    rw [show s / 2 ^ j % 2 = 0 by simp at h; omega]
    simpa using Nat.mod_lt s (Nat.two_pow_pos j)
  have h2 : s = 2 ^ (j + 1) * (s / 2 ^ (j + 1)) + s % 2 ^ (j + 1) := (Nat.div_add_mod _ _).symm
  have hp : 2 ^ (j + 1) = 2 * 2 ^ j := by rw [Nat.pow_succ, Nat.mul_comm]
  have h3 : s % 2 ^ (j + 1) + 2 ^ j < 2 ^ (j + 1) := by omega
  have h4 : s % 2 ^ (j + 1) < 2 ^ (j + 1) := by omega
  generalize s / 2 ^ (j + 1) = a at *
  generalize s % 2 ^ (j + 1) = b at *
  rw [h2, Nat.add_assoc, Nat.two_pow_add_eq_or_of_lt h3, Nat.two_pow_add_eq_or_of_lt h4, Nat.or_assoc]
  congr 1
  have := Nat.two_pow_add_eq_or_of_lt h1 1
  rw [Nat.mul_one] at this
  rw [Nat.add_comm, this, Nat.or_comm]
theorem testBit_or_two_pow (s j i : Nat) : (s ||| 2 ^ j).testBit i = (s.testBit i || decide (j = i)) := by
  rw [Nat.testBit_or, Nat.testBit_two_pow]
theorem or_lt {a b n : Nat} (ha : a < 2 ^ n) (hb : b < 2 ^ n) : a ||| b < 2 ^ n := Nat.or_lt_two_pow ha hb
theorem testBit_lt {a n i : Nat} (ha : a < 2 ^ n) (h : a.testBit i = true) : i < n := by
  rcases Nat.lt_or_ge i n with hi | hi
  · exact hi
  · rw [Nat.testBit_lt_two_pow (Nat.lt_of_lt_of_le ha (Nat.pow_le_pow_right (by decide) hi))] at h; cases h

-- part: toIntS
theorem toIntS_l0 (l : List Int) (hl : l.length ≤ 35184372088832) : ∀ (d i : Nat) (x : List Int), i + d = l.length → x.length = l.length → x.take i = l.take i → Ev (fun k => laws_toIntS.l0 k l x i) l := by
  intro d
  induction d with
  | zero =>
    intro i x h hx ht
    refine ev_s ?_
    simp only [laws_toIntS.l0]
    rw [show i = l.length by omega] at ht ⊢
    simp only [if_neg (show ¬ ((l.length : Int) < (l.length : Int)) by omega)]
    rw [List.take_of_length_le (by omega), List.take_length] at ht
    rw [ht]; exact Ev.now _
  | succ d ih =>
    intro i x h hx ht
    refine ev_s ?_
    simp only [laws_toIntS.l0]
    simp only [if_pos (show (i : Int) < (l.length : Int) by omega), if_pos (show (0 : Int) ≤ (i : Int) by omega), if_pos (show (i : Int) < (x.length : Int) by omega), show wrap64 ((i : Int) + 1) = ((i + 1 : Nat) : Int) by rw [wrap_in (by omega) (by omega)]; rfl, Int.toNat_natCast]
    refine ih (i + 1) _ (by omega) (by simpa using hx) ?_
    rw [rd_get (show i < l.length by omega)]
    apply List.ext_getElem?
    intro j
    have := congrArg (fun z => z[j]?) ht
    simp only [List.getElem?_take] at this ⊢
    by_cases hj : j < i
    · rw [if_pos hj, if_pos hj] at this
      rw [if_pos (by omega), if_pos (by omega), List.getElem?_set_ne (by omega)]; exact this
    · by_cases hji : j = i
      · subst hji
        rw [if_pos (by omega), if_pos (by omega), List.getElem?_set_self (by omega), List.getElem?_eq_getElem (by omega)]
      · rw [if_neg (by omega), if_neg (by omega)]
theorem toIntS_ev (l : List Int) (hl : l.length ≤ 35184372088832) : Ev (fun k => laws_toIntS.f k l) l := by
  simp only [laws_toIntS.f, Int.toNat_natCast, if_pos (show (0 : Int) ≤ (l.length : Int) by omega), if_pos hl]
  exact toIntS_l0 l hl l.length 0 _ (by omega) (by simp) (by simp)

-- part: eqIntS
theorem eqIntS_l0 (F : Nat → List Int → List Int → Int → Option Bool)
    (h0 : ∀ k a b i, F (k + 1) a b i = if i < (a.length : Int) then (if 0 ≤ i then (if i < (b.length : Int) then (if (rd a i) = (rd b i) then (F k a b (wrap64 (i + 1))) else (some false)) else none) else none) else some true)
    (a b : List Int) (hl : a.length = b.length) (hb : a.length ≤ 140737488351232) : ∀ (d i : Nat), i + d = a.length → a.take i = b.take i → Ev (fun k => F k a b i) (decide (a = b)) := by
  intro d
  induction d with
  | zero =>
    intro i h ht
    refine ev_s ?_
    simp only [h0]
    simp only [if_neg (show ¬ ((i : Int) < (a.length : Int)) by omega)]
    rw [List.take_of_length_le (by omega), List.take_of_length_le (by omega)] at ht
    simp only [ht, decide_true]; exact Ev.now _
  | succ d ih =>
    intro i h ht
    refine ev_s ?_
    simp only [h0]
    simp only [if_pos (show (i : Int) < (a.length : Int) by omega), if_pos (show (0 : Int) ≤ (i : Int) by omega), if_pos (show (i : Int) < (b.length : Int) by omega), show wrap64 ((i : Int) + 1) = ((i + 1 : Nat) : Int) by rw [wrap_in (by omega) (by omega)]; rfl]
    rw [rd_get (show i < a.length by omega), rd_get (show i < b.length by omega)]
    by_cases he : a[i] = b[i]
    · simp only [if_pos he]
      refine ih (i + 1) (by omega) ?_
      rw [List.take_succ_eq_append_getElem (by omega), List.take_succ_eq_append_getElem (by omega), ht, he]
    · simp only [if_neg he]
      refine ev_now (Eq.symm (decide_eq_false (fun hab => he ?_)))
      subst hab; rfl
theorem eqIntS_ev (a b : List Int) (hb : a.length ≤ 140737488351232) : Ev (fun k => laws_eqIntS.f k a b) (decide (a = b)) := by
  simp only [laws_eqIntS.f]
  by_cases hl : a.length = b.length
  · simp only [if_pos (show (a.length : Int) = (b.length : Int) by omega)]
    exact eqIntS_l0 laws_eqIntS.l0 (fun _ _ _ _ => rfl) a b hl hb a.length 0 (by omega) (by simp)
  · simp only [if_neg (show ¬ ((a.length : Int) = (b.length : Int)) by omega)]
    exact ev_now (Eq.symm (decide_eq_false (fun hab => hl (by rw [hab]))))

-- part: mark
/-! ### marks -/
def marksOf (a n : Nat) : List Int := (List.range n).map (fun i => ((a + i : Nat) : Int))
theorem marksOf_length (a n : Nat) : (marksOf a n).length = n := by simp [marksOf]
theorem markIntS_l0 (a : Nat) (n : Nat) (hn : a + n ≤ 1000000000000000) : ∀ (d i : Nat) (x : List Int), i + d = n → x.length = n → x.take i = marksOf a i → Ev (fun k => laws_markIntS.l0 k x ((a + i : Nat) : Int) (i : Int)) (((a + n : Nat) : Int), marksOf a n) := by
  intro d
  induction d with
  | zero =>
    intro i x h hx ht
    refine ev_s ?_
    simp only [laws_markIntS.l0, if_neg (show ¬ ((i : Int) < (x.length : Int)) by omega)]
    rw [List.take_of_length_le (by omega)] at ht
    obtain rfl : i = n := by omega
    rw [← ht]; exact Ev.now _
  | succ d ih =>
    intro i x h hx ht
    refine ev_s ?_
    simp only [laws_markIntS.l0, if_pos (show (i : Int) < (x.length : Int) by omega), if_pos (show (0 : Int) ≤ (i : Int) by omega), Int.toNat_natCast, show wrap64 ((i : Int) + 1) = ((i + 1 : Nat) : Int) by rw [wrap_in (by omega) (by omega)]; rfl, show wrap64 (((a + i : Nat) : Int) + 1) = ((a + (i + 1) : Nat) : Int) by rw [wrap_in (by omega) (by omega)]; omega]
    refine ih (i + 1) _ (by omega) (by simpa using hx) ?_
    have e : marksOf a (i + 1) = marksOf a i ++ [((a + i : Nat) : Int)] := by simp [marksOf, List.range_succ]
    rw [e, ← ht, List.take_succ_eq_append_getElem (by simp; omega), List.getElem_set_self]
    congr 1
    rw [List.take_set_of_le (by omega)]
theorem markIntS_ev (l : List Int) (a : Nat) (hn : a + l.length ≤ 1000000000000000) : Ev (fun k => laws_markIntS.f k l (a : Int)) (((a + l.length : Nat) : Int), marksOf a l.length) :=
  markIntS_l0 a l.length hn l.length 0 l (by omega) rfl (by simp [marksOf])
theorem heldIntS_l0 (a n : Nat) (hn : a + n ≤ 1000000000000000) : ∀ (d i : Nat), i + d = n → Ev (fun k => laws_heldIntS.l0 k (marksOf a n) ((a + i : Nat) : Int) (i : Int)) ((a + n : Nat) : Int) := by
  intro d
  induction d with
  | zero =>
    intro i h
    refine ev_s ?_
    simp only [laws_heldIntS.l0, marksOf_length, if_neg (show ¬ ((i : Int) < (n : Int)) by omega)]
    exact ev_now (by rw [show i = n by omega])
  | succ d ih =>
    intro i h
    refine ev_s ?_
    have hr : rd (marksOf a n) (i : Int) = ((a + i : Nat) : Int) := by rw [rd_get (by rw [marksOf_length]; omega)]; simp [marksOf]
    simp only [laws_heldIntS.l0, marksOf_length, if_pos (show (i : Int) < (n : Int) by omega), if_pos (show (0 : Int) ≤ (i : Int) by omega), hr, if_true, show wrap64 ((i : Int) + 1) = ((i + 1 : Nat) : Int) by rw [wrap_in (by omega) (by omega)]; rfl, show wrap64 (((a + i : Nat) : Int) + 1) = ((a + (i + 1) : Nat) : Int) by rw [wrap_in (by omega) (by omega)]; omega]
    exact ih (i + 1) (by omega)
theorem heldIntS_ev (a n : Nat) (hn : a + n ≤ 1000000000000000) : Ev (fun k => laws_heldIntS.f k (marksOf a n) (a : Int)) ((a + n : Nat) : Int) :=
  heldIntS_l0 a n hn n 0 (by omega)

-- part: l1In
theorem l1In_eq (n lo hi : Int) : spec_l1In.f n lo hi = some (decide (lo ≤ n ∧ n ≤ hi)) := by
  unfold spec_l1In.f
  by_cases h : n ≥ lo
  · rw [if_pos h]; simp [show lo ≤ n from h]
  · rw [if_neg h]; simp [show ¬ lo ≤ n from h]

-- part: RelValid
/-- What both of them say. -/
def relOk (l : List Int) : Bool := decide (1 ≤ l.length ∧ l.length ≤ 12) && l.all (fun x => decide (0 ≤ x ∧ x < ((2 ^ l.length : Nat) : Int)))
theorem all_drop {l : List Int} {p : Int → Bool} {i : Nat} (h : i < l.length) : (l.drop i).all p = (p l[i] && (l.drop (i + 1)).all p) := by
  rw [List.drop_eq_getElem_cons h]; rfl
theorem pow_le (n : Nat) (h : n ≤ 12) : 2 ^ n ≤ 4096 := Nat.le_trans (Nat.pow_le_pow_right (by decide) h) (by decide)
theorem spec_RelValid_l0 (l : List Int) (hb : l.length ≤ 140737488351232) : ∀ (d i : Nat), i + d = l.length → Ev (fun k => spec_RelValid.l0 k l i) ((l.drop i).all (fun x => decide (0 ≤ x ∧ x ≤ wrap64 ((wrap64 (2 ^ (mn (l.length : Int) 12).toNat)) - 1))) && decide (1 ≤ l.length ∧ l.length ≤ 12)) := by
  intro d
  induction d with
  | zero =>
    intro i h
    refine ev_s ?_
    simp only [spec_RelValid.l0, l1In_eq, Option.bind_some, if_neg (show ¬ ((i : Int) < (l.length : Int)) by omega)]
    rw [List.drop_of_length_le (by omega)]
    refine ev_now ?_
    simp only [List.all_nil, Bool.true_and]
    exact decide_eq_decide.mpr (by omega)
  | succ d ih =>
    intro i h
    refine ev_s ?_
    simp only [spec_RelValid.l0, l1In_eq, Option.bind_some, if_pos (show (i : Int) < (l.length : Int) by omega), if_pos (show (0 : Int) ≤ (i : Int) by omega), show wrap64 ((i : Int) + 1) = ((i + 1 : Nat) : Int) by rw [wrap_in (by omega) (by omega)]; rfl]
    rw [rd_get (show i < l.length by omega), all_drop (by omega)]
    by_cases hc : 0 ≤ l[i] ∧ l[i] ≤ wrap64 ((wrap64 (2 ^ (mn (l.length : Int) 12).toNat)) - 1)
    · simp only [decide_eq_true hc, Bool.true_and, if_true]
      exact ih (i + 1) (by omega)
    · simp only [decide_eq_false hc, Bool.false_and, Bool.false_eq_true, if_false]
      exact Ev.now _
theorem spec_RelValid_ev (l : List Int) (hb : l.length ≤ 140737488351232) : Ev (fun k => spec_RelValid.f k l) (relOk l) := by
  refine ev_eq (spec_RelValid_l0 l hb l.length 0 (by omega)) ?_
  unfold relOk
  by_cases h : 1 ≤ l.length ∧ l.length ≤ 12
  · have hp := pow_le l.length h.2
    have h0 : 1 ≤ 2 ^ l.length := Nat.one_le_two_pow
    have e : wrap64 ((wrap64 (2 ^ (mn (l.length : Int) 12).toNat)) - 1) = ((2 ^ l.length : Nat) : Int) - 1 := by
      have : mn (l.length : Int) 12 = (l.length : Int) := by unfold mn; split <;> omega
      rw [this, Int.toNat_natCast]
      have e2 : (2 : Int) ^ l.length = ((2 ^ l.length : Nat) : Int) := by exact_mod_cast rfl
      rw [e2, wrap_in (x := ((2 ^ l.length : Nat) : Int)) (by omega) (by omega), wrap_in (by omega) (by omega)]
    simp only [decide_eq_true h, Bool.true_and, Bool.and_true, List.drop_zero, e]
    congr 1
    funext x
    exact decide_eq_decide.mpr (by omega)
  · simp [decide_eq_false h]
theorem impl_RelValid_l0 (l : List Int) (hb : l.length ≤ 140737488351232) : ∀ (d i : Nat), i + d = l.length → Ev (fun k => impl_RelValid.l0 k l l (l.length : Int) i) ((l.drop i).all (fun x => decide (0 ≤ x ∧ x < shl .i64 1 (l.length : Int))) && decide (1 ≤ l.length ∧ l.length ≤ 12)) := by
  intro d
  induction d with
  | zero =>
    intro i h
    refine ev_s ?_
    simp only [impl_RelValid.l0, if_neg (show ¬ ((i : Int) < (l.length : Int)) by omega)]
    rw [List.drop_of_length_le (by omega)]
    simp only [List.all_nil, Bool.true_and]
    by_cases hc : (l.length : Int) ≥ 1
    · simp only [if_pos hc]
      exact ev_now (decide_eq_decide.mpr (by omega))
    · simp only [if_neg hc]
      exact ev_now (decide_eq_false (by omega)).symm
  | succ d ih =>
    intro i h
    refine ev_s ?_
    simp only [impl_RelValid.l0, if_pos (show (i : Int) < (l.length : Int) by omega), if_pos (show (0 : Int) ≤ (i : Int) by omega), show wrap64 ((i : Int) + 1) = ((i + 1 : Nat) : Int) by rw [wrap_in (by omega) (by omega)]; rfl]
    rw [rd_get (show i < l.length by omega), all_drop (by omega)]
    by_cases h1 : l[i] < 0
    · simp only [if_pos h1, decide_eq_false (show ¬ (0 ≤ l[i] ∧ l[i] < shl .i64 1 (l.length : Int)) by omega), Bool.false_and]
      exact Ev.now _
    · by_cases h2 : l[i] ≥ shl .i64 1 (l.length : Int)
      · simp only [if_neg h1, if_pos h2, decide_eq_false (show ¬ (0 ≤ l[i] ∧ l[i] < shl .i64 1 (l.length : Int)) by omega), Bool.false_and]
        exact Ev.now _
      · simp only [if_neg h1, if_neg h2, decide_eq_true (show (0 ≤ l[i] ∧ l[i] < shl .i64 1 (l.length : Int)) by omega), Bool.true_and]
        exact ih (i + 1) (by omega)
theorem impl_RelValid_ev (l : List Int) (hb : l.length ≤ 140737488351232) : Ev (fun k => impl_RelValid.f k l) (relOk l) := by
  refine ev_eq (impl_RelValid_l0 l hb l.length 0 (by omega)) ?_
  unfold relOk
  by_cases h : 1 ≤ l.length ∧ l.length ≤ 12
  · simp only [decide_eq_true h, Bool.true_and, Bool.and_true, List.drop_zero, shl_one l.length (by omega)]
  · simp [decide_eq_false h]

-- part: RelSem
/-! ### relations as sets -/
def R (l : List Int) (i : Nat) : Nat := (rd l (i : Int)).toNat
theorem R_out {l : List Int} {i : Nat} (h : l.length ≤ i) : R l i = 0 := by simp [R, rd, List.getElem?_eq_none h]
theorem rel_len {l : List Int} (h : relOk l = true) : 1 ≤ l.length ∧ l.length ≤ 12 := by simp [relOk] at h; exact h.1
theorem rel_lt {l : List Int} (h : relOk l = true) (i : Nat) : R l i < 2 ^ l.length := by
  rcases Nat.lt_or_ge i l.length with hi | hi
  · simp only [relOk, Bool.and_eq_true, List.all_eq_true, decide_eq_true_eq] at h
    have := h.2 l[i] (List.getElem_mem hi)
    unfold R; rw [rd_get hi]; omega
  · rw [R_out hi]; exact Nat.two_pow_pos _
theorem rel_rd {l : List Int} (h : relOk l = true) (i : Nat) (hi : i < l.length) : rd l (i : Int) = (R l i : Int) := by
  simp only [relOk, Bool.and_eq_true, List.all_eq_true, decide_eq_true_eq] at h
  have := h.2 l[i] (List.getElem_mem hi)
  unfold R; rw [rd_get hi]; omega
theorem rel_small {l : List Int} (h : relOk l = true) : 2 ^ l.length < 2 ^ 62 := Nat.lt_of_le_of_lt (pow_le _ (rel_len h).2) (by decide)
theorem rel_4096 {l : List Int} (h : relOk l = true) : 2 ^ l.length ≤ 4096 := pow_le _ (rel_len h).2
def afterF (l : List Int) (S : Nat) : Nat → Nat → Nat → Nat
  | 0, _, acc => acc
  | d + 1, i, acc => afterF l S d (i + 1) (if S.testBit i = true then acc ||| R l i else acc)
def after (l : List Int) (S : Nat) : Nat := afterF l S l.length 0 0
def walk (l : List Int) : Nat → Nat → Nat
  | 0, S => S
  | n + 1, S => walk l n (after l S)
theorem afterF_lt {l : List Int} (h : relOk l = true) (S : Nat) : ∀ d i acc, acc < 2 ^ l.length → afterF l S d i acc < 2 ^ l.length
  | 0, _, _, ha => ha
  | d + 1, i, acc, ha => afterF_lt h S d (i + 1) _ (by split; exact or_lt ha (rel_lt h i); exact ha)
theorem after_lt {l : List Int} (h : relOk l = true) (S : Nat) : after l S < 2 ^ l.length := afterF_lt h S _ _ _ (Nat.two_pow_pos _)
theorem walk_lt {l : List Int} (h : relOk l = true) : ∀ n S, S < 2 ^ l.length → walk l n S < 2 ^ l.length
  | 0, _, hS => hS
  | n + 1, S, _ => walk_lt h n _ (after_lt h S)
theorem afterF_bit (l : List Int) (S : Nat) (j : Nat) : ∀ d i acc, (afterF l S d i acc).testBit j = true ↔ acc.testBit j = true ∨ ∃ m, i ≤ m ∧ m < i + d ∧ S.testBit m = true ∧ (R l m).testBit j = true
  | 0, i, acc => by
    constructor
    · intro h; exact .inl h
    · rintro (h | ⟨m, h1, h2, _⟩)
      · exact h
      · omega
  | d + 1, i, acc => by
    rw [afterF, afterF_bit l S j d (i + 1)]
    constructor
    · rintro (h | ⟨m, h1, h2, h3, h4⟩)
      · by_cases hS : S.testBit i = true
        · rw [if_pos hS, Nat.testBit_or, Bool.or_eq_true] at h
          rcases h with h | h
          · exact .inl h
          · exact .inr ⟨i, by omega, by omega, hS, h⟩
        · rw [if_neg hS] at h; exact .inl h
      · exact .inr ⟨m, by omega, by omega, h3, h4⟩
    · rintro (h | ⟨m, h1, h2, h3, h4⟩)
      · refine .inl ?_
        split
        · rw [Nat.testBit_or, h]; rfl
        · exact h
      · by_cases hm : m = i
        · subst hm; refine .inl ?_
          rw [if_pos h3, Nat.testBit_or, h4, Bool.or_true]
        · exact .inr ⟨m, by omega, by omega, h3, h4⟩
theorem after_bit (l : List Int) (S j : Nat) : (after l S).testBit j = true ↔ ∃ m, S.testBit m = true ∧ (R l m).testBit j = true := by
  unfold after
  rw [afterF_bit]
  constructor
  · rintro (h | ⟨m, _, _, h3, h4⟩)
    · simp at h
    · exact ⟨m, h3, h4⟩
  · rintro ⟨m, h3, h4⟩
    refine .inr ⟨m, Nat.zero_le _, ?_, h3, h4⟩
    rcases Nat.lt_or_ge m l.length with hm | hm
    · omega
    · rw [R_out hm] at h4; simp at h4

-- part: l7Bit
theorem l7Bit_eq (s n : Nat) (hn : n < 64) : spec_l7Bit.f (s : Int) (n : Int) = some (if s.testBit n = true then 1 else 0) := by
  unfold spec_l7Bit.f
  rw [if_pos (by omega), bit_mod s n hn]

-- part: RelPairs
/-! ### pairs -/
def pairBit (a b : List Int) (k j : Nat) : Bool := (R a (k / b.length)).testBit (j / b.length) || (decide (k / b.length = j / b.length) && (R b (k % b.length)).testBit (j % b.length))
/-- The bits of a test from j on, put in one by one. -/
def bitsF (f : Nat → Bool) : Nat → Nat → Nat → Nat
  | 0, _, s => s
  | d + 1, j, s => bitsF f d (j + 1) (if f j = true then s + 2 ^ j else s)
theorem bitsF_lt (f : Nat → Bool) : ∀ d j s, s < 2 ^ j → bitsF f d j s < 2 ^ (j + d)
  | 0, _, _, hs => hs
  | d + 1, j, s, hs => by
    have h2 : 2 ^ (j + 1) = 2 * 2 ^ j := by rw [Nat.pow_succ, Nat.mul_comm]
    have := bitsF_lt f d (j + 1) (if f j = true then s + 2 ^ j else s) (by split <;> omega)
    rw [bitsF, show j + (d + 1) = j + 1 + d by omega]
    exact this
theorem bitsF_bit (f : Nat → Bool) (i : Nat) : ∀ d j s, s < 2 ^ j → (bitsF f d j s).testBit i = (s.testBit i || (decide (j ≤ i ∧ i < j + d) && f i))
  | 0, j, s, _ => by simp [bitsF]; omega
  | d + 1, j, s, hs => by
    have hj : s.testBit j = false := Nat.testBit_lt_two_pow hs
    have h2 : 2 ^ (j + 1) = 2 * 2 ^ j := by rw [Nat.pow_succ, Nat.mul_comm]
    rw [bitsF, bitsF_bit f i d (j + 1) _ (by split <;> omega)]
    by_cases hji : j = i
    · subst hji
      cases hf : f j with
      | true => simp only [if_true, add_bit s j hj, testBit_or_two_pow]; simp
      | false => simp
    · have e : decide (j ≤ i ∧ i < j + (d + 1)) = decide (j + 1 ≤ i ∧ i < j + 1 + d) := decide_eq_decide.mpr (by omega)
      rw [e]
      cases hf : f j with
      | true => simp only [if_true, add_bit s j hj, testBit_or_two_pow, decide_eq_false hji, Bool.or_false]
      | false => simp
def pairSet (a b : List Int) (k : Nat) : Nat := bitsF (pairBit a b k) (a.length * b.length) 0 0
theorem pairSet_bit (a b : List Int) (k i : Nat) : (pairSet a b k).testBit i = (decide (i < a.length * b.length) && pairBit a b k i) := by
  unfold pairSet
  rw [bitsF_bit _ _ _ _ _ (by decide)]
  simp
theorem pairSet_lt (a b : List Int) (k : Nat) : pairSet a b k < 2 ^ (a.length * b.length) := by
  have := bitsF_lt (pairBit a b k) (a.length * b.length) 0 0 (by decide)
  rwa [Nat.zero_add] at this
def pairsTo (a b : List Int) (c : Nat) : List Int := (List.range c).map (fun k => ((pairSet a b k : Nat) : Int))
theorem pairsTo_succ (a b : List Int) (c : Nat) : pairsTo a b (c + 1) = pairsTo a b c ++ [((pairSet a b c : Nat) : Int)] := by simp [pairsTo, List.range_succ]
theorem pairsTo_length (a b : List Int) (c : Nat) : (pairsTo a b c).length = c := by simp [pairsTo]
def relPairs (a b : List Int) : List Int := if relOk a = true ∧ relOk b = true ∧ a.length * b.length ≤ 12 then pairsTo a b (a.length * b.length) else []
theorem relPairs_length (a b : List Int) : (relPairs a b).length ≤ 12 := by
  unfold relPairs; split
  · rename_i h; rw [pairsTo_length]; exact h.2.2
  · simp
theorem wrap_mul (x y : Nat) (h : x * y ≤ 1000000000000000) : wrap64 ((x : Int) * (y : Int)) = ((x * y : Nat) : Int) := by
  rw [show (x : Int) * (y : Int) = ((x * y : Nat) : Int) by exact_mod_cast rfl, wrap_in (by omega) (by omega)]
theorem pair_lt {n m k : Nat} (hk : k < n * m) : k / m < n ∧ k % m < m := by
  have hm : 0 < m := by
    rcases Nat.eq_zero_or_pos m with h | h
    · subst h; simp at hk
    · exact h
  exact ⟨Nat.div_lt_of_lt_mul (by rw [Nat.mul_comm]; exact hk), Nat.mod_lt _ hm⟩
theorem tdiv_nat (x y : Nat) (hx : x ≤ 1000) : wrap64 (Int.tdiv (x : Int) (y : Int)) = ((x / y : Nat) : Int) := by
  have h : x / y ≤ x := Nat.div_le_self _ _
  rw [show Int.tdiv (x : Int) (y : Int) = ((x / y : Nat) : Int) from rfl]
  generalize x / y = q at *
  exact wrap_in (by omega) (by omega)
theorem tmod_nat (x y : Nat) : Int.tmod (x : Int) (y : Int) = ((x % y : Nat) : Int) := rfl
theorem spec_RelPairs_l1 {a b : List Int} (ha : relOk a = true) (hb : relOk b = true) (hm : a.length * b.length ≤ 12) (k : Nat) (hk : k < a.length * b.length) (r : List Int)
    (hc : Ev (fun n => spec_RelPairs.l0 n a b (pairsTo a b (k + 1)) (a.length : Int) (b.length : Int) ((k + 1 : Nat) : Int)) r) :
    ∀ (d j s : Nat), j + d = a.length * b.length → s < 2 ^ j → bitsF (pairBit a b k) d j s = pairSet a b k → Ev (fun n => spec_RelPairs.l1 n a b (pairsTo a b k) (a.length : Int) (b.length : Int) (k : Int) (s : Int) (j : Int)) r := by
  have la := rel_len ha
  have lb := rel_len hb
  have ⟨k1, k2⟩ := pair_lt hk
  have ka := rel_lt ha (k / b.length)
  have kb := rel_lt hb (k % b.length)
  have a4 := rel_4096 ha
  have b4 := rel_4096 hb
  intro d
  induction d with
  | zero =>
    intro j s hj hs he
    refine ev_s ?_
    simp only [spec_RelPairs.l1, wrap_mul a.length b.length (by omega), if_neg (show ¬ ((j : Int) < ((a.length * b.length : Nat) : Int)) by omega), pairsTo_length, if_pos (show k < 17592186044416 by omega), show wrap64 ((k : Int) + 1) = ((k + 1 : Nat) : Int) by rw [wrap_in (by omega) (by omega)]; rfl]
    rw [bitsF] at he
    rw [pairsTo_succ, ← he] at hc
    exact hc
  | succ d ih =>
    intro j s hj hs he
    have ⟨j1, j2⟩ := pair_lt (show j < a.length * b.length by omega)
    have h2 : 2 ^ (j + 1) = 2 * 2 ^ j := by rw [Nat.pow_succ, Nat.mul_comm]
    have h3 := pow_le j (by omega)
    rw [bitsF] at he
    refine ev_s ?_
    simp only [spec_RelPairs.l1, wrap_mul a.length b.length (by omega), if_pos (show (j : Int) < ((a.length * b.length : Nat) : Int) by omega), if_neg (show ¬ ((b.length : Int) = 0) by omega), tdiv_nat k b.length (by omega), tdiv_nat j b.length (by omega), tmod_nat, if_pos (show (0 : Int) ≤ ((k / b.length : Nat) : Int) from Int.natCast_nonneg _), if_pos (show ((k / b.length : Nat) : Int) < (a.length : Int) from Int.ofNat_lt.mpr k1), rel_rd ha (k / b.length) k1, l7Bit_eq (R a (k / b.length)) (j / b.length) (by omega), Option.bind_some, if_pos (show (0 : Int) ≤ (j : Int) by omega), if_pos (show (0 : Int) ≤ ((k % b.length : Nat) : Int) from Int.natCast_nonneg _), if_pos (show ((k % b.length : Nat) : Int) < (b.length : Int) from Int.ofNat_lt.mpr k2), rel_rd hb (k % b.length) k2, l7Bit_eq (R b (k % b.length)) (j % b.length) (by omega), shl_one j (by omega), wrap_nat2 s (2 ^ j) (by omega), show wrap64 ((j : Int) + 1) = ((j + 1 : Nat) : Int) by rw [wrap_in (by omega) (by omega)]; rfl]
    by_cases c1 : (R a (k / b.length)).testBit (j / b.length) = true
    · have hp : pairBit a b k j = true := by simp [pairBit, c1]
      rw [if_pos hp] at he
      simp only [if_pos c1, if_true]
      exact ih (j + 1) (s + 2 ^ j) (by omega) (by omega) he
    · simp only [if_neg c1, if_neg (show ¬ ((0 : Int) = 1) by decide)]
      by_cases c2 : k / b.length = j / b.length
      · simp only [if_pos (show ((k / b.length : Nat) : Int) = ((j / b.length : Nat) : Int) by rw [c2])]
        by_cases c3 : (R b (k % b.length)).testBit (j % b.length) = true
        · have hp : pairBit a b k j = true := by simp [pairBit, c2, c3]
          rw [if_pos hp] at he
          simp only [if_pos c3, if_true]
          exact ih (j + 1) (s + 2 ^ j) (by omega) (by omega) he
        · have hp : ¬ (pairBit a b k j = true) := by simp only [pairBit, Bool.or_eq_true, Bool.and_eq_true]; rintro (h | h); exact c1 h; exact c3 h.2
          rw [if_neg hp] at he
          simp only [if_neg c3, if_neg (show ¬ ((0 : Int) = 1) by decide)]
          exact ih (j + 1) s (by omega) (by omega) he
      · have hp : ¬ (pairBit a b k j = true) := by simp only [pairBit, Bool.or_eq_true, Bool.and_eq_true, decide_eq_true_eq]; rintro (h | h); exact c1 h; exact c2 h.1
        rw [if_neg hp] at he
        simp only [if_neg (show ¬ (((k / b.length : Nat) : Int) = ((j / b.length : Nat) : Int)) from fun h => c2 (Int.ofNat.inj h))]
        exact ih (j + 1) s (by omega) (by omega) he
theorem spec_RelPairs_l0 {a b : List Int} (ha : relOk a = true) (hb : relOk b = true) (hm : a.length * b.length ≤ 12) : ∀ (d k : Nat), k + d = a.length * b.length → Ev (fun n => spec_RelPairs.l0 n a b (pairsTo a b k) (a.length : Int) (b.length : Int) (k : Int)) (pairsTo a b (a.length * b.length)) := by
  have la := rel_len ha
  have lb := rel_len hb
  intro d
  induction d with
  | zero =>
    intro k hk
    refine ev_s ?_
    simp only [spec_RelPairs.l0, wrap_mul a.length b.length (by omega), if_neg (show ¬ ((k : Int) < ((a.length * b.length : Nat) : Int)) by omega)]
    exact ev_now (by rw [show k = a.length * b.length by omega])
  | succ d ih =>
    intro k hk
    refine ev_s ?_
    simp only [spec_RelPairs.l0, wrap_mul a.length b.length (by omega), if_pos (show (k : Int) < ((a.length * b.length : Nat) : Int) by omega)]
    exact spec_RelPairs_l1 ha hb hm k (by omega) _ (ih (k + 1) (by omega)) (a.length * b.length) 0 0 (by omega) (by decide) rfl
theorem spec_RelPairs_ev (a b : List Int) (la : a.length ≤ 1048576) (lb : b.length ≤ 1048576) : Ev (fun n => spec_RelPairs.f n a b) (relPairs a b) := by
  have bad : ∀ c : Bool, c = true → Ev (fun n => spec_RelPairs.j0 n a b [] (a.length : Int) (b.length : Int) c) [] := by
    intro c hc; subst hc
    refine ev_s ?_
    simp only [spec_RelPairs.j0, if_true]
    exact Ev.now _
  have hmul : a.length * b.length ≤ 1048576 * 1048576 := Nat.mul_le_mul la lb
  simp only [spec_RelPairs.f, Option.bind_some]
  refine Ev.bind (spec_RelValid_ev a (by omega)) ?_
  unfold relPairs
  cases ha : relOk a with
  | false => simp only [Bool.false_eq_true, if_false, false_and]; exact bad _ rfl
  | true =>
    simp only [if_true, true_and]
    refine Ev.bind (spec_RelValid_ev b (by omega)) ?_
    cases hb : relOk b with
    | false => simp only [Bool.false_eq_true, if_false, false_and]; exact bad _ rfl
    | true =>
      simp only [if_true, true_and, wrap_mul a.length b.length (by omega)]
      by_cases hm : a.length * b.length ≤ 12
      · simp only [if_pos hm, decide_eq_false (show ¬ (((a.length * b.length : Nat) : Int) > 12) by omega)]
        refine ev_s ?_
        simp only [spec_RelPairs.j0, Bool.false_eq_true, if_false]
        exact spec_RelPairs_l0 ha hb hm (a.length * b.length) 0 (by omega)
      · simp only [if_neg hm]
        exact bad _ (decide_eq_true (by omega))
/-! the program's way -/
def accF (f m : Nat) : Nat → Nat → Nat → Nat
  | 0, _, s => s
  | d + 1, i, s => accF f m d (i + 1) (if f.testBit i = true then s ||| ((2 ^ m - 1) * 2 ^ (i * m)) else s)
theorem block_bit (m t j : Nat) : ((2 ^ m - 1) * 2 ^ t).testBit j = decide (t ≤ j ∧ j < t + m) := by
  rw [← Nat.shiftLeft_eq, Nat.testBit_shiftLeft, Nat.testBit_two_pow_sub_one]
  by_cases h : t ≤ j
  · simp [h]; omega
  · simp [h]
theorem accF_bit (f m j : Nat) (hm : 0 < m) : ∀ d i s, (accF f m d i s).testBit j = (s.testBit j || (decide (i ≤ j / m ∧ j / m < i + d) && f.testBit (j / m)))
  | 0, i, s => by simp [accF]; omega
  | d + 1, i, s => by
    rw [accF, accF_bit f m j hm d (i + 1)]
    have hd := Nat.div_add_mod j m
    have hr := Nat.mod_lt j hm
    by_cases hji : j / m = i
    · have e : decide (i * m ≤ j ∧ j < i * m + m) = true := decide_eq_true (by rw [← hji, Nat.mul_comm]; omega)
      rw [hji]
      cases hf : f.testBit i with
      | true => simp only [if_true, Nat.testBit_or, block_bit, e]; simp
      | false => simp
    · have e : decide (i * m ≤ j ∧ j < i * m + m) = false := by
        refine decide_eq_false ?_
        rintro ⟨h1, h2⟩
        apply hji
        rw [Nat.div_eq_iff hm]
        rw [Nat.mul_comm] at h1 h2
        constructor
        · rw [Nat.mul_comm]; omega
        · rw [Nat.mul_comm]; omega
      have e2 : decide (i ≤ j / m ∧ j / m < i + (d + 1)) = decide (i + 1 ≤ j / m ∧ j / m < i + 1 + d) := decide_eq_decide.mpr (by omega)
      rw [e2]
      cases hf : f.testBit i with
      | true => simp only [if_true, Nat.testBit_or, block_bit, e, Bool.or_false]
      | false => simp
theorem accF_lt {f m n : Nat} : ∀ d i s, i + d ≤ n → s < 2 ^ (n * m) → accF f m d i s < 2 ^ (n * m)
  | 0, _, _, _, hs => hs
  | d + 1, i, s, hi, hs => by
    refine accF_lt d (i + 1) _ (by omega) ?_
    split
    · refine or_lt hs ?_
      have h1 : 2 ^ m - 1 < 2 ^ m := by have := Nat.two_pow_pos m; omega
      have h2 : (2 ^ m - 1) * 2 ^ (i * m) < 2 ^ m * 2 ^ (i * m) := Nat.mul_lt_mul_of_pos_right h1 (Nat.two_pow_pos _)
      rw [← Nat.pow_add] at h2
      refine Nat.lt_of_lt_of_le h2 (Nat.pow_le_pow_right (by decide) ?_)
      have h3 : (i + 1) * m ≤ n * m := Nat.mul_le_mul_right m (by omega)
      rw [Nat.add_mul] at h3; omega
    · exact hs
theorem pair_final {a b : List Int} (ha : relOk a = true) (hb : relOk b = true) (i j : Nat) (hi : i < a.length) (hj : j < b.length) :
    accF (R a i) b.length a.length 0 0 ||| (R b j * 2 ^ (i * b.length)) = pairSet a b (i * b.length + j) := by
  have hm : 0 < b.length := by omega
  have e1 : (i * b.length + j) / b.length = i := by rw [Nat.mul_comm, Nat.mul_add_div hm, Nat.div_eq_of_lt hj, Nat.add_zero]
  have e2 : (i * b.length + j) % b.length = j := by rw [Nat.mul_comm, Nat.mul_add_mod, Nat.mod_eq_of_lt hj]
  apply Nat.eq_of_testBit_eq
  intro t
  rw [Nat.testBit_or, accF_bit _ _ _ hm, ← Nat.shiftLeft_eq, Nat.testBit_shiftLeft, pairSet_bit]
  unfold pairBit
  rw [e1, e2]
  have hd := Nat.div_add_mod t b.length
  have hr := Nat.mod_lt t hm
  have h0 : (0 : Nat).testBit t = false := Nat.zero_testBit t
  rw [h0, Bool.false_or]
  -- where t lies
  have key : (decide (t ≥ i * b.length) && (R b j).testBit (t - i * b.length)) = (decide (i = t / b.length) && (R b j).testBit (t % b.length)) := by
    by_cases h : i = t / b.length
    · subst h
      have : t - t / b.length * b.length = t % b.length := by rw [Nat.mul_comm]; omega
      rw [this]
      have h2 : t ≥ t / b.length * b.length := by rw [Nat.mul_comm]; omega
      simp [h2]
    · rw [decide_eq_false h, Bool.false_and]
      by_cases h2 : t ≥ i * b.length
      · have h3 : (R b j).testBit (t - i * b.length) = false := by
          cases hb2 : (R b j).testBit (t - i * b.length) with
          | false => rfl
          | true =>
            exfalso
            have h4 := testBit_lt (rel_lt hb j) hb2
            apply h
            symm
            rw [Nat.div_eq_iff hm]
            rw [Nat.mul_comm] at h2 h4
            constructor
            · rw [Nat.mul_comm]; omega
            · rw [Nat.mul_comm]; omega
        rw [h3, Bool.and_false]
      · rw [decide_eq_false h2, Bool.false_and]
  rw [key]
  by_cases ht : t < a.length * b.length
  · have := (pair_lt ht).1
    simp [ht, this]
  · rw [decide_eq_false ht, Bool.false_and]
    have h5 : ¬ (t / b.length < a.length) := by
      intro h
      apply ht
      have h3 : (t / b.length + 1) * b.length ≤ a.length * b.length := Nat.mul_le_mul_right _ h
      rw [Nat.add_mul, Nat.mul_comm] at h3; omega
    have h6 : decide (i = t / b.length) = false := decide_eq_false (by omega)
    rw [h6]
    simp [h5]
theorem impl_RelPairs_l2 {a b : List Int} (ha : relOk a = true) (hb : relOk b = true) (hm : a.length * b.length ≤ 12) (i j : Nat) (hi : i < a.length) (hj : j < b.length) (r : List Int)
    (hc : Ev (fun k => impl_RelPairs.l1 k a b (pairsTo a b (i * b.length + j + 1)) (R a i : Int) a (a.length : Int) (i : Int) b (b.length : Int) ((j + 1 : Nat) : Int)) r) :
    ∀ (d t s : Nat), t + d = a.length → s < 2 ^ (a.length * b.length) → accF (R a i) b.length d t s = accF (R a i) b.length a.length 0 0 →
    Ev (fun k => impl_RelPairs.l2 k a b (pairsTo a b (i * b.length + j)) (R a i : Int) (R b j : Int) (s : Int) a (a.length : Int) (i : Int) b (b.length : Int) (j : Int) (a.length : Int) (t : Int)) r := by
  have la := rel_len ha
  have lb := rel_len hb
  have ka := rel_lt ha i
  have kb := rel_lt hb j
  have a4 := rel_4096 ha
  have b4 := rel_4096 hb
  have p4 := pow_le (a.length * b.length) hm
  have hij : (i + 1) * b.length ≤ a.length * b.length := Nat.mul_le_mul_right _ hi
  rw [Nat.add_mul, Nat.one_mul] at hij
  intro d
  induction d with
  | zero =>
    intro t s ht hs he
    have hdiv : (i * b.length + j) / b.length = i := by rw [Nat.mul_comm, Nat.mul_add_div (by omega), Nat.div_eq_of_lt hj, Nat.add_zero]
    have hib : 2 ^ (i * b.length) ≤ 2 ^ 12 := Nat.pow_le_pow_right (by decide) (by omega)
    have hsm : R b j * 2 ^ (i * b.length) ≤ 4096 * 4096 := Nat.mul_le_mul (by omega) (by omega)
    rw [accF] at he
    refine ev_s ?_
    simp only [impl_RelPairs.l2, if_neg (show ¬ ((t : Int) < (a.length : Int)) by omega), if_neg (show ¬ ((b.length : Int) = 0) by omega), pairsTo_length,
      show ((i * b.length + j : Nat) : Int) / (b.length : Int) = ((i : Nat) : Int) from (Int.natCast_ediv _ _).symm.trans (by rw [hdiv]),
      show wrap64 ((i : Nat) : Int) = (i : Int) from wrap_in (by omega) (by omega), wrap_mul i b.length (by omega), if_pos (show (0 : Int) ≤ ((i * b.length : Nat) : Int) by omega), if_pos (show i * b.length + j < 17592186044416 by omega), shl_nat (R b j) (i * b.length) (by omega) (by omega), or_nat s (R b j * 2 ^ (i * b.length)) (by omega) (by omega), show wrap64 ((j : Int) + 1) = ((j + 1 : Nat) : Int) by rw [wrap_in (by omega) (by omega)]; rfl]
    rw [pairsTo_succ, ← pair_final ha hb i j hi hj, ← he] at hc
    exact hc
  | succ d ih =>
    intro t s ht hs he
    have htm : t * b.length ≤ a.length * b.length := Nat.mul_le_mul_right _ (by omega)
    have hib : 2 ^ (t * b.length) ≤ 2 ^ 12 := Nat.pow_le_pow_right (by decide) (by omega)
    have hb1 : 1 ≤ 2 ^ b.length := Nat.one_le_two_pow
    have hsm : (2 ^ b.length - 1) * 2 ^ (t * b.length) ≤ 4096 * 4096 := Nat.mul_le_mul (by omega) (by omega)
    have e1 : wrap64 ((shl .i64 1 (b.length : Int)) - 1) = ((2 ^ b.length - 1 : Nat) : Int) := by rw [shl_one b.length (by omega), wrap_in (by omega) (by omega)]; omega
    rw [accF] at he
    refine ev_s ?_
    simp only [impl_RelPairs.l2, if_pos (show (t : Int) < (a.length : Int) by omega), if_pos (show (0 : Int) ≤ (t : Int) by omega), bit_and (R a i) t (by omega) (by omega), wrap_mul t b.length (by omega), if_pos (show (0 : Int) ≤ ((t * b.length : Nat) : Int) by omega), e1, shl_nat (2 ^ b.length - 1) (t * b.length) (by omega) (by omega), or_nat s ((2 ^ b.length - 1) * 2 ^ (t * b.length)) (by omega) (by omega), show wrap64 ((t : Int) + 1) = ((t + 1 : Nat) : Int) by rw [wrap_in (by omega) (by omega)]; rfl]
    have hnext : accF (R a i) b.length 1 t s < 2 ^ (a.length * b.length) := accF_lt 1 t s (by omega) hs
    simp only [accF] at hnext
    by_cases hb2 : (R a i).testBit t = true
    · rw [if_pos hb2] at he hnext
      simp only [if_pos hb2, if_true]
      exact ih (t + 1) _ (by omega) hnext he
    · rw [if_neg hb2] at he
      simp only [if_neg hb2, if_neg (show ¬ ((0 : Int) = 1) by decide)]
      exact ih (t + 1) s (by omega) hs he
theorem impl_RelPairs_l1 {a b : List Int} (ha : relOk a = true) (hb : relOk b = true) (hm : a.length * b.length ≤ 12) (i : Nat) (hi : i < a.length) (r : List Int)
    (hc : Ev (fun k => impl_RelPairs.l0 k a b (pairsTo a b ((i + 1) * b.length)) a (a.length : Int) ((i + 1 : Nat) : Int)) r) :
    ∀ (d j : Nat), j + d = b.length → Ev (fun k => impl_RelPairs.l1 k a b (pairsTo a b (i * b.length + j)) (R a i : Int) a (a.length : Int) (i : Int) b (b.length : Int) (j : Int)) r := by
  have la := rel_len ha
  have lb := rel_len hb
  intro d
  induction d with
  | zero =>
    intro j hj
    refine ev_s ?_
    simp only [impl_RelPairs.l1, if_neg (show ¬ ((j : Int) < (b.length : Int)) by omega), show wrap64 ((i : Int) + 1) = ((i + 1 : Nat) : Int) by rw [wrap_in (by omega) (by omega)]; rfl]
    rw [Nat.add_mul, Nat.one_mul] at hc
    rw [show j = b.length by omega]
    exact hc
  | succ d ih =>
    intro j hj
    refine ev_s ?_
    simp only [impl_RelPairs.l1, if_pos (show (j : Int) < (b.length : Int) by omega), if_pos (show (0 : Int) ≤ (j : Int) by omega), rel_rd hb j (by omega)]
    exact impl_RelPairs_l2 ha hb hm i j hi (by omega) r (ih (j + 1) (by omega)) a.length 0 0 (by omega) (Nat.two_pow_pos _) rfl
theorem impl_RelPairs_l0 {a b : List Int} (ha : relOk a = true) (hb : relOk b = true) (hm : a.length * b.length ≤ 12) : ∀ (d i : Nat), i + d = a.length → Ev (fun k => impl_RelPairs.l0 k a b (pairsTo a b (i * b.length)) a (a.length : Int) (i : Int)) (pairsTo a b (a.length * b.length)) := by
  have la := rel_len ha
  intro d
  induction d with
  | zero =>
    intro i hi
    refine ev_s ?_
    simp only [impl_RelPairs.l0, if_neg (show ¬ ((i : Int) < (a.length : Int)) by omega)]
    exact ev_now (by rw [show i = a.length by omega])
  | succ d ih =>
    intro i hi
    refine ev_s ?_
    simp only [impl_RelPairs.l0, if_pos (show (i : Int) < (a.length : Int) by omega), if_pos (show (0 : Int) ≤ (i : Int) by omega), rel_rd ha i (by omega)]
    exact impl_RelPairs_l1 ha hb hm i (by omega) _ (ih (i + 1) (by omega)) b.length 0 (by omega)
theorem impl_RelPairs_ev (a b : List Int) (la : a.length ≤ 1048576) (lb : b.length ≤ 1048576) : Ev (fun n => impl_RelPairs.f n a b) (relPairs a b) := by
  have bad : ∀ c : Bool, c = true → Ev (fun n => impl_RelPairs.j0 n a b c) [] := by
    intro c hc; subst hc
    refine ev_s ?_
    simp only [impl_RelPairs.j0, if_true]
    exact Ev.now _
  have hmul : a.length * b.length ≤ 1048576 * 1048576 := Nat.mul_le_mul la lb
  simp only [impl_RelPairs.f]
  refine Ev.bind (impl_RelValid_ev a (by omega)) ?_
  unfold relPairs
  cases ha : relOk a with
  | false => simp only [Bool.false_eq_true, if_false, false_and]; exact bad _ rfl
  | true =>
    simp only [if_true, true_and]
    refine Ev.bind (impl_RelValid_ev b (by omega)) ?_
    cases hb : relOk b with
    | false => simp only [Bool.false_eq_true, if_false, false_and]; exact bad _ rfl
    | true =>
      simp only [if_true, true_and, wrap_mul a.length b.length (by omega)]
      by_cases hm : a.length * b.length ≤ 12
      · simp only [if_pos hm, decide_eq_false (show ¬ (((a.length * b.length : Nat) : Int) > 12) by omega)]
        refine ev_s ?_
        simp only [impl_RelPairs.j0, Bool.false_eq_true, if_false]
        have := impl_RelPairs_l0 ha hb hm a.length 0 (by omega)
        rw [Nat.zero_mul] at this
        exact this
      · simp only [if_neg hm]
        exact bad _ (decide_eq_true (by omega))

-- part: law_FnExactRelPairs
theorem FnExactRelPairs : laws_FnExactRelPairs.Pure := by
  intro l0 l1 _ hl _ _ hl1 _
  refine Ev.rounds ?_
  simp only [laws_FnExactRelPairs.f]
  by_cases hb : (l0.length : Int) > 1048576
  · simp only [if_pos hb]; exact Ev.now _
  · simp only [if_neg hb]
    by_cases hb1 : (l1.length : Int) > 1048576
    · simp only [if_pos hb1]; exact Ev.now _
    · simp only [if_neg hb1]
      have ht := toIntS_ev l0 (by omega)
      have ht1 := toIntS_ev l1 (by omega)
      have hlen := relPairs_length l0 l1
      have heq : Ev (fun k => laws_eqIntS.f k (relPairs l0 l1) (relPairs l0 l1)) true := ev_eq (eqIntS_ev _ _ (by omega)) (by simp)
      have hheld := heldIntS_ev 1 (relPairs l0 l1).length (by omega)
      refine Ev.bind ht ?_
      refine Ev.bind ht1 ?_
      refine Ev.bind (spec_RelPairs_ev l0 l1 (by omega) (by omega)) ?_
      refine Ev.bind ht ?_
      refine Ev.bind ht1 ?_
      refine Ev.bind (impl_RelPairs_ev l0 l1 (by omega) (by omega)) ?_
      refine Ev.bind heq ?_
      simp only [if_true]
      refine Ev.bind ht ?_
      refine Ev.bind (eqIntS_ev l0 l0 (by omega)) ?_
      simp only [decide_true, if_true]
      refine Ev.bind ht1 ?_
      refine Ev.bind (eqIntS_ev l1 l1 (by omega)) ?_
      simp only [decide_true, if_true]
      refine Ev.bind (markIntS_ev l0 1 (by omega)) ?_
      refine Ev.bind (markIntS_ev l1 (1 + l0.length) (by omega)) ?_
      simp only [if_neg (show ¬ (((1 + l0.length + l1.length : Nat) : Int) < 0) by omega)]
      refine Ev.bind heq ?_
      refine ev_s ?_
      simp only [laws_FnExactRelPairs.j0, Bool.not_true, Bool.false_eq_true, if_false]
      refine Ev.bind (markIntS_ev (relPairs l0 l1) 1 (by omega)) ?_
      refine Ev.bind hheld ?_
      simp only [if_neg (show ¬ (((1 + (relPairs l0 l1).length : Nat) : Int) < 0) by omega), if_true]
      refine Ev.bind ht ?_
      refine Ev.bind ht1 ?_
      refine Ev.bind (impl_RelPairs_ev l0 l1 (by omega) (by omega)) ?_
      refine Ev.bind heq ?_
      simp only [if_true]
      refine Ev.bind hheld ?_
      simp only [if_neg (show ¬ (((1 + (relPairs l0 l1).length : Nat) : Int) < 0) by omega), if_true]
      exact Ev.now _

end Go.Proofs.Ytclapemogefepaa.Pure

/- The law FnExactCircleOk returns true for every input that the statement lets in; no condition of our own. -/
import Derived.Test.YtclapemogefepaaPFnExactCircleOkx2
import Derived.Test.YtclapemogefepaaWSized
namespace Go.Proofs.Ytclapemogefepaa
open Go.ChangeShapes Go.WideShapes in
/-- The printed row names this word of the seat's without its first part. -/
theorem PrintWords.sized_ints {H : Type} {enc : TypeId × Value → H} {P : Program} {W : World} {base : Nat} {spare : Nat → Bool} {held : Bool} {t e : TypeId} {k : IntKind} {a : Option Addr} {len cap : Nat} {d : DataW H} {ps : List MemPlace} {ts : List TypeId} {ds : List (DataW H)} {j : Nat}
    (hsz : (DataW.weightsEach P ts ds).all (· ≤ reachBytes) = true) (ht : ts[j]? = some t) (hd : ds[j]? = some d) (hu : P.underlying t = some (.slice e)) (he : P.underlying e = some (.int k)) (hc : P.cellsOf e = 1) {B : Nat} (hB : P.bytesOf e = B)
    (h : DataW.Trod enc P W base spare held t (.slice a len cap) d ps) : len * B ≤ 140737488351232 :=
  Go.Proofs.YtclapemogefepaaW.PrintWords.sized_ints hsz ht hd hu he hc hB h
end Go.Proofs.Ytclapemogefepaa
namespace Go.Proofs.Ytclapemogefepaa.Pure
open Go.RowKit Go.Proofs.Ytclapemogefepaa.PFnExactCircleOk Go.Proofs.YtclapemogefepaaW.PrintWords Go.Proofs.YtclapemogefepaaW.PrintLast
set_option linter.unusedVariables false
set_option linter.unusedSimpArgs false

-- part: base
/-! ### words of mine -/
theorem ev_s {α : Type} {g : Nat → Option α} {r : α} (h : Ev (fun k => g (k + 1)) r) : Ev g r := Ev.step (fun _ => rfl) h
theorem ev_eq {α : Type} {g : Nat → Option α} {r q : α} (h : Ev g r) (e : r = q) : Ev g q := e ▸ h
theorem ev_now {α : Type} {r q : α} (e : r = q) : Ev (fun _ => some r) q := e ▸ Ev.now r
theorem wrap_in {x : Int} (h0 : -9223372036854775808 ≤ x) (h1 : x ≤ 9223372036854775807) : wrap64 x = x := by unfold wrap64; omega
theorem rd_eq (xs : List Int) (i : Nat) : rd xs (i : Int) = xs.getD i 0 := by simp [rd]
theorem rd_get {xs : List Int} {i : Nat} (h : i < xs.length) : rd xs (i : Int) = xs[i] := by simp [rd, h]
theorem wrap_nat2 (a b : Nat) (h : a + b < 4611686018427387904) : wrap64 ((a : Int) + (b : Int)) = ((a + b : Nat) : Int) := by rw [wrap_in (by omega) (by omega)]; omega

-- part: bits
/-! ### sets as bits -/
theorem i64_wrap_nat (n : Nat) (h : n < 2 ^ 63) : IntKind.i64.wrap (n : Int) = (n : Int) := by rw [IntKind.wrap_i64]; omega
theorem mod64 {a : Nat} (ha : a < 2 ^ 62) : a % 2 ^ IntKind.i64.bits = a := Nat.mod_eq_of_lt (Nat.lt_of_lt_of_le ha (by decide))
theorem or_nat (a b : Nat) (ha : a < 2 ^ 62) (hb : b < 2 ^ 62) : Go.bits .or .i64 (a : Int) (b : Int) = ((a ||| b : Nat) : Int) := by
  simp only [bits, BitVec.ofInt_natCast, BitVec.toNat_or, BitVec.toNat_ofNat, mod64 ha, mod64 hb]
  exact i64_wrap_nat _ (Nat.lt_of_lt_of_le (Nat.or_lt_two_pow ha hb) (by decide))
theorem and_nat (a b : Nat) (ha : a < 2 ^ 62) (hb : b < 2 ^ 62) : Go.bits .and .i64 (a : Int) (b : Int) = ((a &&& b : Nat) : Int) := by
  simp only [bits, BitVec.ofInt_natCast, BitVec.toNat_and, BitVec.toNat_ofNat, mod64 ha, mod64 hb]
  exact i64_wrap_nat _ (Nat.lt_of_lt_of_le (Nat.and_lt_two_pow _ hb) (by decide))
theorem andNot_zero (a b : Nat) (ha : a < 2 ^ 62) (hb : b < 2 ^ 62) : Go.bits .andNot .i64 (a : Int) (b : Int) = 0 ↔ ∀ i, a.testBit i = true → b.testBit i = true := by
  have e : (BitVec.ofNat IntKind.i64.bits a &&& ~~~ BitVec.ofNat IntKind.i64.bits b).toNat = a &&& (a ^^^ b) := by
    apply Nat.eq_of_testBit_eq
    intro i
    rw [BitVec.testBit_toNat, BitVec.getLsbD_and, BitVec.getLsbD_not, BitVec.getLsbD_ofNat, BitVec.getLsbD_ofNat, Nat.testBit_and, Nat.testBit_xor]
    by_cases hi : i < IntKind.i64.bits
    · simp only [hi, decide_true, Bool.true_and]
      cases a.testBit i <;> cases b.testBit i <;> rfl
    · have h1 : a.testBit i = false := Nat.testBit_lt_two_pow (Nat.lt_of_lt_of_le ha (Nat.pow_le_pow_right (by decide) (by simp [IntKind.bits] at hi; omega)))
      simp [hi, h1]
  have hlt : a &&& (a ^^^ b) < 2 ^ 62 := Nat.and_lt_two_pow _ (Nat.xor_lt_two_pow ha hb)
  have e2 : Go.bits .andNot .i64 (a : Int) (b : Int) = ((a &&& (a ^^^ b) : Nat) : Int) := by
    simp only [bits, BitVec.ofInt_natCast]
    rw [e]
    exact i64_wrap_nat _ (Nat.lt_of_lt_of_le hlt (by decide))
  rw [e2]
  constructor
  · intro h i hi
    have h0 : a &&& (a ^^^ b) = 0 := by exact_mod_cast h
    have := congrArg (fun z => Nat.testBit z i) h0
    simp only [Nat.testBit_and, Nat.testBit_xor, hi, Nat.zero_testBit, Bool.true_and] at this
    cases hb' : b.testBit i with
    | true => rfl
    | false => rw [hb'] at this; simp at this
  · intro h
    have h0 : a &&& (a ^^^ b) = 0 := by
      apply Nat.eq_of_testBit_eq
      intro i
      rw [Nat.testBit_and, Nat.testBit_xor, Nat.zero_testBit]
      cases ha' : a.testBit i with
      | false => rfl
      | true => rw [h i ha']; rfl
    rw [h0]; rfl
theorem shr_nat (s n : Nat) (hn : n < 64) : shr .i64 (s : Int) (n : Int) = ((s >>> n : Nat) : Int) := by
  unfold shr
  rw [Int.toNat_natCast, Nat.min_eq_left (by simp [IntKind.bits]; omega), Nat.shiftRight_eq_div_pow]
  exact_mod_cast rfl
theorem shl_nat (s n : Nat) (hn : n < 64) (h : s * 2 ^ n < 2 ^ 63) : shl .i64 (s : Int) (n : Int) = ((s * 2 ^ n : Nat) : Int) := by
  unfold shl
  rw [Int.toNat_natCast, Nat.min_eq_left (by simp [IntKind.bits]; omega)]
  have := i64_wrap_nat (s * 2 ^ n) h
  rw [← this]
  congr 1
theorem shl_one (n : Nat) (hn : n < 62) : shl .i64 1 (n : Int) = ((2 ^ n : Nat) : Int) := by
  have h2 : 2 ^ n < 2 ^ 62 := Nat.pow_lt_pow_right (by decide) hn
  have h3 : (2 : Nat) ^ 62 < 2 ^ 63 := by decide
  have := shl_nat 1 n (by omega) (by omega)
  rw [Nat.one_mul] at this
  exact this
theorem bit_and (s n : Nat) (hs : s < 2 ^ 62) (hn : n < 64) : Go.bits .and .i64 (shr .i64 (s : Int) (n : Int)) 1 = if s.testBit n = true then 1 else 0 := by
  have hle : s >>> n ≤ s := by rw [Nat.shiftRight_eq_div_pow]; exact Nat.div_le_self _ _
  rw [shr_nat s n hn]
  have := and_nat (s >>> n) 1 (by omega) (by decide)
  rw [show ((1 : Nat) : Int) = 1 from rfl] at this
  rw [this, Nat.testBit_eq_decide_div_mod_eq, Nat.shiftRight_eq_div_pow, Nat.and_one_is_mod]
  have h2 : s / 2 ^ n % 2 < 2 := Nat.mod_lt _ (by decide)
  by_cases h : s / 2 ^ n % 2 = 1
  · simp [h]
  · simp [show s / 2 ^ n % 2 = 0 by omega]
theorem testBit_shift (s n : Nat) : s.testBit n = decide ((s >>> n) % 2 = 1) := by rw [Nat.testBit_eq_decide_div_mod_eq, Nat.shiftRight_eq_div_pow]
theorem bit_mod (s n : Nat) (hn : n < 64) : Int.tmod (shr .i64 (s : Int) (n : Int)) 2 = if s.testBit n = true then 1 else 0 := by
  rw [shr_nat s n hn, testBit_shift]
  generalize s >>> n = x
  rw [Int.tmod_eq_emod_of_nonneg (Int.natCast_nonneg _)]
  by_cases h : x % 2 = 1
  · simp only [h, decide_true, if_true]; omega
  · simp only [h, decide_false, Bool.false_eq_true, if_false]; omega
theorem add_bit (s j : Nat) (h : s.testBit j = false) : s + 2 ^ j = s ||| 2 ^ j := by
  have h1 : s % 2 ^ (j + 1) < 2 ^ j := by
    rw [Nat.mod_pow_succ]
    rw [Nat.testBit_eq_decide_div_mod_eq] at h
    have h2 : s / 2 ^ j % 2 < 2 := Nat.mod_lt _ (by decide)
    rw [show s / 2 ^ j % 2 = 0 by simp at h; omega]
    simpa using Nat.mod_lt s (Nat.two_pow_pos j)
  have h2 : s = 2 ^ (j + 1) * (s / 2 ^ (j + 1)) + s % 2 ^ (j + 1) := (Nat.div_add_mod _ _).symm
  have hp : 2 ^ (j + 1) = 2 * 2 ^ j := by rw [Nat.pow_succ, Nat.mul_comm]
  have h3 : s % 2 ^ (j + 1) + 2 ^ j < 2 ^ (j + 1) := by omega
  have h4 : s % 2 ^ (j + 1) < 2 ^ (j + 1) := by omega
  generalize s / 2 ^ (j + 1) = a at *
  generalize s % 2 ^ (j + 1) = b at *
  rw [h2, Nat.add_assoc, Nat.two_pow_add_eq_or_of_lt h3, Nat.two_pow_add_eq_or_of_lt h4, Nat.or_assoc]
  congr 1
  have := Nat.two_pow_add_eq_or_of_lt h1 1
  rw [Nat.mul_one] at this
  rw [Nat.add_comm, this, Nat.or_comm]
theorem testBit_or_two_pow (s j i : Nat) : (s ||| 2 ^ j).testBit i = (s.testBit i || decide (j = i)) := by
  rw [Nat.testBit_or, Nat.testBit_two_pow]
theorem or_lt {a b n : Nat} (ha : a < 2 ^ n) (hb : b < 2 ^ n) : a ||| b < 2 ^ n := Nat.or_lt_two_pow ha hb
theorem testBit_lt {a n i : Nat} (ha : a < 2 ^ n) (h : a.testBit i = true) : i < n := by
  rcases Nat.lt_or_ge i n with hi | hi
  · exact hi
  · rw [Nat.testBit_lt_two_pow (Nat.lt_of_lt_of_le ha (Nat.pow_le_pow_right (by decide) hi))] at h; cases h

-- part: toIntS
theorem toIntS_l0 (l : List Int) (hl : l.length ≤ 35184372088832) : ∀ (d i : Nat) (x : List Int), i + d = l.length → x.length = l.length → x.take i = l.take i → Ev (fun k => laws_toIntS.l0 k l x i) l := by
  intro d
  induction d with
  | zero =>
    intro i x h hx ht
    refine ev_s ?_
    simp only [laws_toIntS.l0]
    rw [show i = l.length by omega] at ht ⊢
    simp only [if_neg (show ¬ ((l.length : Int) < (l.length : Int)) by omega)]
    rw [List.take_of_length_le (by omega), List.take_length] at ht
    rw [ht]; exact Ev.now _
  | succ d ih =>
    intro i x h hx ht
    refine ev_s ?_
    simp only [laws_toIntS.l0]
    simp only [if_pos (show (i : Int) < (l.length : Int) by omega), if_pos (show (0 : Int) ≤ (i : Int) by omega), if_pos (show (i : Int) < (x.length : Int) by omega), show wrap64 ((i : Int) + 1) = ((i + 1 : Nat) : Int) by rw [wrap_in (by omega) (by omega)]; rfl, Int.toNat_natCast]
    refine ih (i + 1) _ (by omega) (by simpa using hx) ?_
    rw [rd_get (show i < l.length by omega)]
    apply List.ext_getElem?
    intro j
    have := congrArg (fun z => z[j]?) ht
    simp only [List.getElem?_take] at this ⊢
    by_cases hj : j < i
    · rw [if_pos hj, if_pos hj] at this
      rw [if_pos (by omega), if_pos (by omega), List.getElem?_set_ne (by omega)]; exact this
    · by_cases hji : j = i
      · subst hji
        rw [if_pos (by omega), if_pos (by omega), List.getElem?_set_self (by omega), List.getElem?_eq_getElem (by omega)]
      · rw [if_neg (by omega), if_neg (by omega)]
theorem toIntS_ev (l : List Int) (hl : l.length ≤ 35184372088832) : Ev (fun k => laws_toIntS.f k l) l := by
  simp only [laws_toIntS.f, Int.toNat_natCast, if_pos (show (0 : Int) ≤ (l.length : Int) by omega), if_pos hl]
  exact toIntS_l0 l hl l.length 0 _ (by omega) (by simp) (by simp)

-- part: eqIntS
theorem eqIntS_l0 (F : Nat → List Int → List Int → Int → Option Bool)
    (h0 : ∀ k a b i, F (k + 1) a b i = if i < (a.length : Int) then (if 0 ≤ i then (if i < (b.length : Int) then (if (rd a i) = (rd b i) then (F k a b (wrap64 (i + 1))) else (some false)) else none) else none) else some true)
    (a b : List Int) (hl : a.length = b.length) (hb : a.length ≤ 140737488351232) : ∀ (d i : Nat), i + d = a.length → a.take i = b.take i → Ev (fun k => F k a b i) (decide (a = b)) := by
  intro d
  induction d with
  | zero =>
    intro i h ht
    refine ev_s ?_
    simp only [h0]
    simp only [if_neg (show ¬ ((i : Int) < (a.length : Int)) by omega)]
    rw [List.take_of_length_le (by omega), List.take_of_length_le (by omega)] at ht
    simp only [ht, decide_true]; exact Ev.now _
  | succ d ih =>
    intro i h ht
    refine ev_s ?_
    simp only [h0]
    simp only [if_pos (show (i : Int) < (a.length : Int) by omega), if_pos (show (0 : Int) ≤ (i : Int) by omega), if_pos (show (i : Int) < (b.length : Int) by omega), show wrap64 ((i : Int) + 1) = ((i + 1 : Nat) : Int) by rw [wrap_in (by omega) (by omega)]; rfl]
    rw [rd_get (show i < a.length by omega), rd_get (show i < b.length by omega)]
    by_cases he : a[i] = b[i]
    · simp only [if_pos he]
      refine ih (i + 1) (by omega) ?_
      rw [List.take_succ_eq_append_getElem (by omega), List.take_succ_eq_append_getElem (by omega), ht, he]
    · simp only [if_neg he]
      refine ev_now (Eq.symm (decide_eq_false (fun hab => he ?_)))
      subst hab; rfl
theorem eqIntS_ev (a b : List Int) (hb : a.length ≤ 140737488351232) : Ev (fun k => laws_eqIntS.f k a b) (decide (a = b)) := by
  simp only [laws_eqIntS.f]
  by_cases hl : a.length = b.length
  · simp only [if_pos (show (a.length : Int) = (b.length : Int) by omega)]
    exact eqIntS_l0 laws_eqIntS.l0 (fun _ _ _ _ => rfl) a b hl hb a.length 0 (by omega) (by simp)
  · simp only [if_neg (show ¬ ((a.length : Int) = (b.length : Int)) by omega)]
    exact ev_now (Eq.symm (decide_eq_false (fun hab => hl (by rw [hab]))))

-- part: l1In
theorem l1In_eq (n lo hi : Int) : spec_l1In.f n lo hi = some (decide (lo ≤ n ∧ n ≤ hi)) := by
  unfold spec_l1In.f
  by_cases h : n ≥ lo
  · rw [if_pos h]; simp [show lo ≤ n from h]
  · rw [if_neg h]; simp [show ¬ lo ≤ n from h]

-- part: RelValid
/-- What both of them say. -/
def relOk (l : List Int) : Bool := decide (1 ≤ l.length ∧ l.length ≤ 12) && l.all (fun x => decide (0 ≤ x ∧ x < ((2 ^ l.length : Nat) : Int)))
theorem all_drop {l : List Int} {p : Int → Bool} {i : Nat} (h : i < l.length) : (l.drop i).all p = (p l[i] && (l.drop (i + 1)).all p) := by
  rw [List.drop_eq_getElem_cons h]; rfl
theorem pow_le (n : Nat) (h : n ≤ 12) : 2 ^ n ≤ 4096 := Nat.le_trans (Nat.pow_le_pow_right (by decide) h) (by decide)
theorem spec_RelValid_l0 (l : List Int) (hb : l.length ≤ 140737488351232) : ∀ (d i : Nat), i + d = l.length → Ev (fun k => spec_RelValid.l0 k l i) ((l.drop i).all (fun x => decide (0 ≤ x ∧ x ≤ wrap64 ((wrap64 (2 ^ (mn (l.length : Int) 12).toNat)) - 1))) && decide (1 ≤ l.length ∧ l.length ≤ 12)) := by
  intro d
  induction d with
  | zero =>
    intro i h
    refine ev_s ?_
    simp only [spec_RelValid.l0, l1In_eq, Option.bind_some, if_neg (show ¬ ((i : Int) < (l.length : Int)) by omega)]
    rw [List.drop_of_length_le (by omega)]
    refine ev_now ?_
    simp only [List.all_nil, Bool.true_and]
    exact decide_eq_decide.mpr (by omega)
  | succ d ih =>
    intro i h
    refine ev_s ?_
    simp only [spec_RelValid.l0, l1In_eq, Option.bind_some, if_pos (show (i : Int) < (l.length : Int) by omega), if_pos (show (0 : Int) ≤ (i : Int) by omega), show wrap64 ((i : Int) + 1) = ((i + 1 : Nat) : Int) by rw [wrap_in (by omega) (by omega)]; rfl]
    rw [rd_get (show i < l.length by omega), all_drop (by omega)]
    by_cases hc : 0 ≤ l[i] ∧ l[i] ≤ wrap64 ((wrap64 (2 ^ (mn (l.length : Int) 12).toNat)) - 1)
    · simp only [decide_eq_true hc, Bool.true_and, if_true]
      exact ih (i + 1) (by omega)
    · simp only [decide_eq_false hc, Bool.false_and, Bool.false_eq_true, if_false]
      exact Ev.now _
theorem spec_RelValid_ev (l : List Int) (hb : l.length ≤ 140737488351232) : Ev (fun k => spec_RelValid.f k l) (relOk l) := by
  refine ev_eq (spec_RelValid_l0 l hb l.length 0 (by omega)) ?_
  unfold relOk
  by_cases h : 1 ≤ l.length ∧ l.length ≤ 12
  · have hp := pow_le l.length h.2
    have h0 : 1 ≤ 2 ^ l.length := Nat.one_le_two_pow
    have e : wrap64 ((wrap64 (2 ^ (mn (l.length : Int) 12).toNat)) - 1) = ((2 ^ l.length : Nat) : Int) - 1 := by
      have : mn (l.length : Int) 12 = (l.length : Int) := by unfold mn; split <;> omega
      rw [this, Int.toNat_natCast]
      have e2 : (2 : Int) ^ l.length = ((2 ^ l.length : Nat) : Int) := by exact_mod_cast rfl
      rw [e2, wrap_in (x := ((2 ^ l.length : Nat) : Int)) (by omega) (by omega), wrap_in (by omega) (by omega)]
    simp only [decide_eq_true h, Bool.true_and, Bool.and_true, List.drop_zero, e]
    congr 1
    funext x
    exact decide_eq_decide.mpr (by omega)
  · simp [decide_eq_false h]
theorem impl_RelValid_l0 (l : List Int) (hb : l.length ≤ 140737488351232) : ∀ (d i : Nat), i + d = l.length → Ev (fun k => impl_RelValid.l0 k l l (l.length : Int) i) ((l.drop i).all (fun x => decide (0 ≤ x ∧ x < shl .i64 1 (l.length : Int))) && decide (1 ≤ l.length ∧ l.length ≤ 12)) := by
  intro d
  induction d with
  | zero =>
    intro i h
    refine ev_s ?_
    simp only [impl_RelValid.l0, if_neg (show ¬ ((i : Int) < (l.length : Int)) by omega)]
    rw [List.drop_of_length_le (by omega)]
    simp only [List.all_nil, Bool.true_and]
    by_cases hc : (l.length : Int) ≥ 1
    · simp only [if_pos hc]
      exact ev_now (decide_eq_decide.mpr (by omega))
    · simp only [if_neg hc]
      exact ev_now (decide_eq_false (by omega)).symm
  | succ d ih =>
    intro i h
    refine ev_s ?_
    simp only [impl_RelValid.l0, if_pos (show (i : Int) < (l.length : Int) by omega), if_pos (show (0 : Int) ≤ (i : Int) by omega), show wrap64 ((i : Int) + 1) = ((i + 1 : Nat) : Int) by rw [wrap_in (by omega) (by omega)]; rfl]
    rw [rd_get (show i < l.length by omega), all_drop (by omega)]
    by_cases h1 : l[i] < 0
    · simp only [if_pos h1, decide_eq_false (show ¬ (0 ≤ l[i] ∧ l[i] < shl .i64 1 (l.length : Int)) by omega), Bool.false_and]
      exact Ev.now _
    · by_cases h2 : l[i] ≥ shl .i64 1 (l.length : Int)
      · simp only [if_neg h1, if_pos h2, decide_eq_false (show ¬ (0 ≤ l[i] ∧ l[i] < shl .i64 1 (l.length : Int)) by omega), Bool.false_and]
        exact Ev.now _
      · simp only [if_neg h1, if_neg h2, decide_eq_true (show (0 ≤ l[i] ∧ l[i] < shl .i64 1 (l.length : Int)) by omega), Bool.true_and]
        exact ih (i + 1) (by omega)
theorem impl_RelValid_ev (l : List Int) (hb : l.length ≤ 140737488351232) : Ev (fun k => impl_RelValid.f k l) (relOk l) := by
  refine ev_eq (impl_RelValid_l0 l hb l.length 0 (by omega)) ?_
  unfold relOk
  by_cases h : 1 ≤ l.length ∧ l.length ≤ 12
  · simp only [decide_eq_true h, Bool.true_and, Bool.and_true, List.drop_zero, shl_one l.length (by omega)]
  · simp [decide_eq_false h]

-- part: RelSem
/-! ### relations as sets -/
def R (l : List Int) (i : Nat) : Nat := (rd l (i : Int)).toNat
theorem R_out {l : List Int} {i : Nat} (h : l.length ≤ i) : R l i = 0 := by simp [R, rd, List.getElem?_eq_none h]
theorem rel_len {l : List Int} (h : relOk l = true) : 1 ≤ l.length ∧ l.length ≤ 12 := by simp [relOk] at h; exact h.1
theorem rel_lt {l : List Int} (h : relOk l = true) (i : Nat) : R l i < 2 ^ l.length := by
  rcases Nat.lt_or_ge i l.length with hi | hi
  · simp only [relOk, Bool.and_eq_true, List.all_eq_true, decide_eq_true_eq] at h
    have := h.2 l[i] (List.getElem_mem hi)
    unfold R; rw [rd_get hi]; omega
  · rw [R_out hi]; exact Nat.two_pow_pos _
theorem rel_rd {l : List Int} (h : relOk l = true) (i : Nat) (hi : i < l.length) : rd l (i : Int) = (R l i : Int) := by
  simp only [relOk, Bool.and_eq_true, List.all_eq_true, decide_eq_true_eq] at h
  have := h.2 l[i] (List.getElem_mem hi)
  unfold R; rw [rd_get hi]; omega
theorem rel_small {l : List Int} (h : relOk l = true) : 2 ^ l.length < 2 ^ 62 := Nat.lt_of_le_of_lt (pow_le _ (rel_len h).2) (by decide)
theorem rel_4096 {l : List Int} (h : relOk l = true) : 2 ^ l.length ≤ 4096 := pow_le _ (rel_len h).2
def afterF (l : List Int) (S : Nat) : Nat → Nat → Nat → Nat
  | 0, _, acc => acc
  | d + 1, i, acc => afterF l S d (i + 1) (if S.testBit i = true then acc ||| R l i else acc)
def after (l : List Int) (S : Nat) : Nat := afterF l S l.length 0 0
def walk (l : List Int) : Nat → Nat → Nat
  | 0, S => S
  | n + 1, S => walk l n (after l S)
theorem afterF_lt {l : List Int} (h : relOk l = true) (S : Nat) : ∀ d i acc, acc < 2 ^ l.length → afterF l S d i acc < 2 ^ l.length
  | 0, _, _, ha => ha
  | d + 1, i, acc, ha => afterF_lt h S d (i + 1) _ (by split; exact or_lt ha (rel_lt h i); exact ha)
theorem after_lt {l : List Int} (h : relOk l = true) (S : Nat) : after l S < 2 ^ l.length := afterF_lt h S _ _ _ (Nat.two_pow_pos _)
theorem walk_lt {l : List Int} (h : relOk l = true) : ∀ n S, S < 2 ^ l.length → walk l n S < 2 ^ l.length
  | 0, _, hS => hS
  | n + 1, S, _ => walk_lt h n _ (after_lt h S)
theorem afterF_bit (l : List Int) (S : Nat) (j : Nat) : ∀ d i acc, (afterF l S d i acc).testBit j = true ↔ acc.testBit j = true ∨ ∃ m, i ≤ m ∧ m < i + d ∧ S.testBit m = true ∧ (R l m).testBit j = true
  | 0, i, acc => by
    constructor
    · intro h; exact .inl h
    · rintro (h | ⟨m, h1, h2, _⟩)
      · exact h
      · omega
  | d + 1, i, acc => by
    rw [afterF, afterF_bit l S j d (i + 1)]
    constructor
    · rintro (h | ⟨m, h1, h2, h3, h4⟩)
      · by_cases hS : S.testBit i = true
        · rw [if_pos hS, Nat.testBit_or, Bool.or_eq_true] at h
          rcases h with h | h
          · exact .inl h
          · exact .inr ⟨i, by omega, by omega, hS, h⟩
        · rw [if_neg hS] at h; exact .inl h
      · exact .inr ⟨m, by omega, by omega, h3, h4⟩
    · rintro (h | ⟨m, h1, h2, h3, h4⟩)
      · refine .inl ?_
        split
        · rw [Nat.testBit_or, h]; rfl
        · exact h
      · by_cases hm : m = i
        · subst hm; refine .inl ?_
          rw [if_pos h3, Nat.testBit_or, h4, Bool.or_true]
        · exact .inr ⟨m, by omega, by omega, h3, h4⟩
theorem after_bit (l : List Int) (S j : Nat) : (after l S).testBit j = true ↔ ∃ m, S.testBit m = true ∧ (R l m).testBit j = true := by
  unfold after
  rw [afterF_bit]
  constructor
  · rintro (h | ⟨m, _, _, h3, h4⟩)
    · simp at h
    · exact ⟨m, h3, h4⟩
  · rintro ⟨m, h3, h4⟩
    refine .inr ⟨m, Nat.zero_le _, ?_, h3, h4⟩
    rcases Nat.lt_or_ge m l.length with hm | hm
    · omega
    · rw [R_out hm] at h4; simp at h4

-- part: l7Bit
theorem l7Bit_eq (s n : Nat) (hn : n < 64) : spec_l7Bit.f (s : Int) (n : Int) = some (if s.testBit n = true then 1 else 0) := by
  unfold spec_l7Bit.f
  rw [if_pos (by omega), bit_mod s n hn]

-- part: CircleOk
def allB (f : Nat → Bool) : Nat → Nat → Bool
  | 0, _ => true
  | d + 1, i => f i && allB f d (i + 1)
theorem allB_iff (f : Nat → Bool) : ∀ d i, allB f d i = true ↔ ∀ m, i ≤ m → m < i + d → f m = true
  | 0, i => by simp [allB]; omega
  | d + 1, i => by
    rw [allB, Bool.and_eq_true, allB_iff f d (i + 1)]
    constructor
    · rintro ⟨h1, h2⟩ m hm hm2
      by_cases h : m = i
      · subst h; exact h1
      · exact h2 m (by omega) (by omega)
    · intro h
      exact ⟨h i (by omega) (by omega), fun m h1 h2 => h m (by omega) (by omega)⟩
def inR (l p : List Int) (i : Nat) : Bool := decide (0 ≤ rd p (i : Int) ∧ rd p (i : Int) < (l.length : Int))
def edge (l p : List Int) (i : Nat) : Bool := (R l (rd p (i : Int)).toNat).testBit (rd p (((i + 1) % p.length : Nat) : Int)).toNat
def circleOk (l p : List Int) : Bool := relOk l && decide (0 < p.length) && allB (inR l p) p.length 0 && allB (edge l p) p.length 0
theorem next_eq {i n : Nat} (hi : i < n) (hn : n ≤ 140737488351232) : Int.tmod (wrap64 ((i : Int) + 1)) (n : Int) = (((i + 1) % n : Nat) : Int) := by
  rw [wrap_in (by omega) (by omega), Int.tmod_eq_emod_of_nonneg (by omega)]
  exact_mod_cast rfl
theorem impl_CircleOk_l1 {l p : List Int} (h : relOk l = true) (hp : p.length ≤ 140737488351232) (hin : ∀ m, m < p.length → inR l p m = true) : ∀ (d i : Nat), i + d = p.length → Ev (fun k => impl_CircleOk.l1 k l p p (p.length : Int) (i : Int)) (allB (edge l p) d i) := by
  have hl := rel_len h
  have hs := rel_4096 h
  intro d
  induction d with
  | zero =>
    intro i hi
    refine ev_s ?_
    simp only [impl_CircleOk.l1, if_neg (show ¬ ((i : Int) < (p.length : Int)) by omega)]
    exact Ev.now _
  | succ d ih =>
    intro i hi
    have hm : (i + 1) % p.length < p.length := Nat.mod_lt _ (by omega)
    have h1 := hin i (by omega)
    have h2 := hin _ hm
    simp only [inR, decide_eq_true_eq] at h1 h2
    obtain ⟨x, hx⟩ := Int.eq_ofNat_of_zero_le h1.1
    obtain ⟨y, hy⟩ := Int.eq_ofNat_of_zero_le h2.1
    have hrx := rel_lt h x
    refine ev_s ?_
    simp only [impl_CircleOk.l1, if_pos (show (i : Int) < (p.length : Int) by omega), if_pos (show (0 : Int) ≤ (i : Int) by omega), next_eq (show i < p.length by omega) hp, if_pos h1.1, if_pos h1.2, if_neg (show ¬ ((p.length : Int) = 0) by omega), if_pos (show (0 : Int) ≤ (((i + 1) % p.length : Nat) : Int) by omega), if_pos (show (((i + 1) % p.length : Nat) : Int) < (p.length : Int) by omega), if_pos h2.1]
    have he : edge l p i = (R l x).testBit y := by simp only [edge, hx, hy]; rfl
    rw [allB, he]
    simp only [hx, hy, rel_rd h x (by omega), bit_and (R l x) y (by omega) (by omega)]
    cases hb : (R l x).testBit y with
    | true =>
      simp only [if_true, if_neg (show ¬ ((1 : Int) = 0) by decide), show wrap64 ((i : Int) + 1) = ((i + 1 : Nat) : Int) by rw [wrap_in (by omega) (by omega)]; rfl, Bool.true_and]
      exact ih (i + 1) (by omega)
    | false =>
      simp only [Bool.false_eq_true, if_false, if_true, Bool.false_and]
      exact Ev.now _
theorem impl_CircleOk_l0 {l p : List Int} (h : relOk l = true) (hp : p.length ≤ 140737488351232) : ∀ (d i : Nat), i + d = p.length → (∀ m, m < i → inR l p m = true) → Ev (fun k => impl_CircleOk.l0 k l p p (p.length : Int) (i : Int)) (allB (inR l p) d i && allB (edge l p) p.length 0) := by
  intro d
  induction d with
  | zero =>
    intro i hi hb
    refine ev_s ?_
    simp only [impl_CircleOk.l0, if_neg (show ¬ ((i : Int) < (p.length : Int)) by omega), allB, Bool.true_and]
    exact impl_CircleOk_l1 h hp (fun m hm => hb m (by omega)) p.length 0 (by omega)
  | succ d ih =>
    intro i hi hb
    refine ev_s ?_
    simp only [impl_CircleOk.l0, if_pos (show (i : Int) < (p.length : Int) by omega), if_pos (show (0 : Int) ≤ (i : Int) by omega), show wrap64 ((i : Int) + 1) = ((i + 1 : Nat) : Int) by rw [wrap_in (by omega) (by omega)]; rfl, allB]
    by_cases h1 : rd p (i : Int) < 0
    · simp only [if_pos h1, inR, decide_eq_false (show ¬ (0 ≤ rd p (i : Int) ∧ rd p (i : Int) < (l.length : Int)) by omega), Bool.false_and]; exact Ev.now _
    · by_cases h2 : rd p (i : Int) ≥ (l.length : Int)
      · simp only [if_neg h1, if_pos h2, inR, decide_eq_false (show ¬ (0 ≤ rd p (i : Int) ∧ rd p (i : Int) < (l.length : Int)) by omega), Bool.false_and]; exact Ev.now _
      · have ht : inR l p i = true := decide_eq_true (by omega)
        simp only [if_neg h1, if_neg h2, ht, Bool.true_and]
        refine ih (i + 1) (by omega) ?_
        intro m hm
        by_cases hmi : m = i
        · subst hmi; exact ht
        · exact hb m (by omega)
theorem impl_CircleOk_ev (l p : List Int) (hl : l.length ≤ 140737488351232) (hp : p.length ≤ 140737488351232) : Ev (fun k => impl_CircleOk.f k l p) (circleOk l p) := by
  have bad : ∀ b : Bool, b = true → Ev (fun k => impl_CircleOk.j0 k l p b) false := by
    intro b hb; subst hb
    refine ev_s ?_
    simp only [impl_CircleOk.j0, if_true]
    exact Ev.now _
  simp only [impl_CircleOk.f]
  refine Ev.bind (impl_RelValid_ev l hl) ?_
  unfold circleOk
  cases h : relOk l with
  | false =>
    simp only [Bool.false_eq_true, if_false, Bool.false_and]
    exact bad _ rfl
  | true =>
    simp only [if_true, Bool.true_and]
    by_cases h0 : p.length = 0
    · simp only [h0, decide_eq_false (show ¬ (0 < 0) by omega), Bool.false_and]
      exact bad _ rfl
    · simp only [decide_eq_true (show 0 < p.length by omega), Bool.true_and]
      refine ev_s ?_
      have : ((p.length : Int) == 0) = false := by rw [beq_eq_false_iff_ne]; omega
      simp only [impl_CircleOk.j0, this, Bool.false_eq_true, if_false]
      exact impl_CircleOk_l0 h hp p.length 0 (by omega) (fun m hm => by omega)
theorem spec_CircleOk_l0 {l p : List Int} (h : relOk l = true) (hb : l.length ≤ 140737488351232) (hp : p.length ≤ 140737488351232) : ∀ (d i : Nat), i + d = p.length → Ev (fun k => spec_CircleOk.l0 k l p (i : Int)) (allB (fun m => inR l p m && inR l p ((m + 1) % p.length) && edge l p m) d i && decide (0 < p.length)) := by
  have hl := rel_len h
  have hs := rel_4096 h
  intro d
  induction d with
  | zero =>
    intro i hi
    refine ev_s ?_
    simp only [spec_CircleOk.l0, if_neg (show ¬ ((i : Int) < (p.length : Int)) by omega)]
    refine ev_s ?_
    simp only [spec_CircleOk.j1, Bool.false_eq_true, if_false]
    refine Ev.bind (spec_RelValid_ev l hb) ?_
    simp only [h, if_true, allB, Bool.true_and]
    exact ev_now (decide_eq_decide.mpr (by omega))
  | succ d ih =>
    intro i hi
    have hm : (i + 1) % p.length < p.length := Nat.mod_lt _ (by omega)
    refine ev_s ?_
    simp only [spec_CircleOk.l0, if_pos (show (i : Int) < (p.length : Int) by omega)]
    refine Ev.bind (spec_RelValid_ev l hb) ?_
    refine ev_s ?_
    have wl : wrap64 ((l.length : Int) - 1) = (l.length : Int) - 1 := wrap_in (by omega) (by omega)
    simp only [spec_CircleOk.j1, h, if_true, next_eq (show i < p.length by omega) hp, if_neg (show ¬ ((p.length : Int) = 0) by omega), if_pos (show (0 : Int) ≤ (((i + 1) % p.length : Nat) : Int) by omega), if_pos (show (((i + 1) % p.length : Nat) : Int) < (p.length : Int) by omega), if_pos (show (0 : Int) ≤ (i : Int) by omega), if_pos (show (i : Int) < (p.length : Int) by omega), l1In_eq, Option.bind_some, wl, allB]
    by_cases h1 : 0 ≤ rd p (i : Int) ∧ rd p (i : Int) < (l.length : Int)
    · have e1 : decide (0 ≤ rd p (i : Int) ∧ rd p (i : Int) ≤ (l.length : Int) - 1) = true := decide_eq_true (by omega)
      by_cases h2 : 0 ≤ rd p (((i + 1) % p.length : Nat) : Int) ∧ rd p (((i + 1) % p.length : Nat) : Int) < (l.length : Int)
      · have e2 : decide (0 ≤ rd p (((i + 1) % p.length : Nat) : Int) ∧ rd p (((i + 1) % p.length : Nat) : Int) ≤ (l.length : Int) - 1) = true := decide_eq_true (by omega)
        obtain ⟨x, hx⟩ := Int.eq_ofNat_of_zero_le h1.1
        obtain ⟨y, hy⟩ := Int.eq_ofNat_of_zero_le h2.1
        have he : edge l p i = (R l x).testBit y := by simp only [edge, hx, hy]; rfl
        have i1 : inR l p i = true := decide_eq_true h1
        have i2 : inR l p ((i + 1) % p.length) = true := decide_eq_true h2
        simp only [e1, e2, if_true, if_pos h1.1, if_pos h1.2, i1, i2, Bool.true_and, he]
        simp only [hx, hy, rel_rd h x (by omega), l7Bit_eq (R l x) y (by omega), Option.bind_some]
        cases hb2 : (R l x).testBit y with
        | true =>
          simp only [if_true, if_neg (show ¬ ((1 : Int) = 0) by decide), show wrap64 ((i : Int) + 1) = ((i + 1 : Nat) : Int) by rw [wrap_in (by omega) (by omega)]; rfl, Bool.true_and]
          exact ih (i + 1) (by omega)
        | false =>
          simp only [Bool.false_eq_true, if_false, if_true, Bool.false_and]
          exact Ev.now _
      · have e2 : decide (0 ≤ rd p (((i + 1) % p.length : Nat) : Int) ∧ rd p (((i + 1) % p.length : Nat) : Int) ≤ (l.length : Int) - 1) = false := decide_eq_false (by omega)
        have i2 : inR l p ((i + 1) % p.length) = false := decide_eq_false h2
        simp only [e1, e2, if_true, Bool.false_eq_true, if_false, i2, Bool.and_false, Bool.false_and]
        exact Ev.now _
    · have e1 : decide (0 ≤ rd p (i : Int) ∧ rd p (i : Int) ≤ (l.length : Int) - 1) = false := decide_eq_false (by omega)
      have i1 : inR l p i = false := decide_eq_false h1
      simp only [e1, Bool.false_eq_true, if_false, i1, Bool.false_and]
      exact Ev.now _
theorem spec_CircleOk_ev (l p : List Int) (hl : l.length ≤ 140737488351232) (hp : p.length ≤ 140737488351232) : Ev (fun k => spec_CircleOk.f k l p) (circleOk l p) := by
  cases h : relOk l with
  | true =>
    refine ev_eq (spec_CircleOk_l0 h hl hp p.length 0 (by omega)) ?_
    unfold circleOk
    rw [h, Bool.true_and]
    by_cases h0 : 0 < p.length
    · simp only [decide_eq_true h0, Bool.and_true, Bool.true_and]
      rw [Bool.eq_iff_iff, Bool.and_eq_true, allB_iff, allB_iff, allB_iff]
      simp only [Bool.and_eq_true]
      constructor
      · intro hh
        exact ⟨fun m h1 h2 => (hh m h1 h2).1.1, fun m h1 h2 => (hh m h1 h2).2⟩
      · rintro ⟨g1, g2⟩ m h1 h2
        exact ⟨⟨g1 m h1 h2, g1 _ (Nat.zero_le _) (by have := Nat.mod_lt (m + 1) h0; omega)⟩, g2 m h1 h2⟩
    · simp [decide_eq_false h0]
  | false =>
    refine ev_eq (r := false) ?_ (by unfold circleOk; rw [h]; simp)
    have hv : Ev (fun k => spec_RelValid.f k l) false := ev_eq (spec_RelValid_ev l hl) h
    have fin : Ev (fun k => spec_CircleOk.j1 k l p ((0 : Nat) : Int) false) false := by
      refine ev_s ?_
      simp only [spec_CircleOk.j1, Bool.false_eq_true, if_false]
      refine Ev.bind hv ?_
      simp only [Bool.false_eq_true, if_false]
      exact Ev.now _
    simp only [spec_CircleOk.f]
    refine ev_s ?_
    simp only [spec_CircleOk.l0]
    by_cases h0 : (0 : Int) < (p.length : Int)
    · simp only [if_pos h0]
      exact Ev.bind hv fin
    · simp only [if_neg h0]; exact fin

-- part: law_FnExactCircleOk
theorem FnExactCircleOk : laws_FnExactCircleOk.Pure := by
  intro l0 l1 _ hl _ _ hl1 _
  refine Ev.rounds ?_
  simp only [laws_FnExactCircleOk.f]
  by_cases hb : (l0.length : Int) > 1048576
  · simp only [if_pos hb]; exact Ev.now _
  · simp only [if_neg hb]
    by_cases hb1 : (l1.length : Int) > 1048576
    · simp only [if_pos hb1]; exact Ev.now _
    · simp only [if_neg hb1]
      have ht := toIntS_ev l0 (by omega)
      have ht1 := toIntS_ev l1 (by omega)
      refine Ev.bind ht ?_
      refine Ev.bind ht1 ?_
      refine Ev.bind (spec_CircleOk_ev l0 l1 (by omega) (by omega)) ?_
      refine Ev.bind ht ?_
      refine Ev.bind ht1 ?_
      refine Ev.bind (impl_CircleOk_ev l0 l1 (by omega) (by omega)) ?_
      simp only [bne_self_eq_false, Bool.false_eq_true, if_false]
      refine Ev.bind ht ?_
      refine Ev.bind (eqIntS_ev l0 l0 (by omega)) ?_
      simp only [decide_true, if_true]
      refine Ev.bind ht1 ?_
      refine Ev.bind (eqIntS_ev l1 l1 (by omega)) ?_
      simp only [decide_true, if_true]
      exact Ev.now _

end Go.Proofs.Ytclapemogefepaa.Pure

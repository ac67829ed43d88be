/- The law FnWalksTo returns true for every input that the statement lets in; no condition of our own. -/
import Derived.Test.YtclapemogefepaaQx5
import Derived.Test.YtclapemogefepaaWSized
namespace Go.Proofs.Ytclapemogefepaa
open Go.ChangeShapes Go.WideShapes in
/-- The printed row names this word of the seat's without its first part. -/
theorem PrintWords.sized_ints {H : Type} {enc : TypeId × Value → H} {P : Program} {W : World} {base : Nat} {spare : Nat → Bool} {held : Bool} {t e : TypeId} {k : IntKind} {a : Option Addr} {len cap : Nat} {d : DataW H} {ps : List MemPlace} {ts : List TypeId} {ds : List (DataW H)} {j : Nat}
    (hsz : (DataW.weightsEach P ts ds).all (· ≤ reachBytes) = true) (ht : ts[j]? = some t) (hd : ds[j]? = some d) (hu : P.underlying t = some (.slice e)) (he : P.underlying e = some (.int k)) (hc : P.cellsOf e = 1) {B : Nat} (hB : P.bytesOf e = B)
    (h : DataW.Trod enc P W base spare held t (.slice a len cap) d ps) : len * B ≤ 140737488351232 :=
  Go.Proofs.YtclapemogefepaaW.PrintWords.sized_ints hsz ht hd hu he hc hB h
end Go.Proofs.Ytclapemogefepaa
namespace Go.Proofs.Ytclapemogefepaa.Pure
open Go.RowKit Go.Proofs.Ytclapemogefepaa.Q Go.Proofs.YtclapemogefepaaW.PrintWords Go.Proofs.YtclapemogefepaaW.PrintLast
set_option linter.unusedVariables false
set_option linter.unusedSimpArgs false

-- part: base
/-! ### words of mine -/
theorem ev_s {α : Type} {g : Nat → Option α} {r : α} (h : Ev (fun k => g (k + 1)) r) : Ev g r := Ev.step (fun _ => rfl) h
theorem ev_eq {α : Type} {g : Nat → Option α} {r q : α} (h : Ev g r) (e : r = q) : Ev g q := e ▸ h
theorem ev_now {α : Type} {r q : α} (e : r = q) : Ev (fun _ => some r) q := e ▸ Ev.now r
theorem wrap_in {x : Int} (h0 : -9223372036854775808 ≤ x) (h1 : x ≤ 9223372036854775807) : wrap64 x = x := by unfold wrap64; omega
theorem rd_eq (xs : List Int) (i : Nat) : rd xs (i : Int) = xs.getD i 0 := by simp [rd]
theorem rd_get {xs : List Int} {i : Nat} (h : i < xs.length) : rd xs (i : Int) = xs[i] := by simp [rd, h]
theorem wrap_nat2 (a b : Nat) (h : a + b < 4611686018427387904) : wrap64 ((a : Int) + (b : Int)) = ((a + b : Nat) : Int) := by rw [wrap_in (by omega) (by omega)]; omega
theorem ev_const {α : Type} {x : Option α} {a : α} (h : x = some a) : Ev (fun _ => x) a := by subst h; exact Ev.now a

-- part: bits
/-! ### sets as bits -/
theorem i64_wrap_nat (n : Nat) (h : n < 2 ^ 63) : IntKind.i64.wrap (n : Int) = (n : Int) := by rw [IntKind.wrap_i64]; omega
theorem mod64 {a : Nat} (ha : a < 2 ^ 62) : a % 2 ^ IntKind.i64.bits = a := Nat.mod_eq_of_lt (Nat.lt_of_lt_of_le ha (by decide))
theorem or_nat (a b : Nat) (ha : a < 2 ^ 62) (hb : b < 2 ^ 62) : Go.bits .or .i64 (a : Int) (b : Int) = ((a ||| b : Nat) : Int) := by
  simp only [bits, BitVec.ofInt_natCast, BitVec.toNat_or, BitVec.toNat_ofNat, mod64 ha, mod64 hb]
  exact i64_wrap_nat _ (Nat.lt_of_lt_of_le (Nat.or_lt_two_pow ha hb) (by decide))
theorem and_nat (a b : Nat) (ha : a < 2 ^ 62) (hb : b < 2 ^ 62) : Go.bits .and .i64 (a : Int) (b : Int) = ((a &&& b : Nat) : Int) := by
  simp only [bits, BitVec.ofInt_natCast, BitVec.toNat_and, BitVec.toNat_ofNat, mod64 ha, mod64 hb]
  exact i64_wrap_nat _ (Nat.lt_of_lt_of_le (Nat.and_lt_two_pow _ hb) (by decide))
theorem andNot_zero (a b : Nat) (ha : a < 2 ^ 62) (hb : b < 2 ^ 62) : Go.bits .andNot .i64 (a : Int) (b : Int) = 0 ↔ ∀ i, a.testBit i = true → b.testBit i = true := by
  have e : (BitVec.ofNat IntKind.i64.bits a &&& ~~~ BitVec.ofNat IntKind.i64.bits b).toNat = a &&& (a ^^^ b) := by
    apply Nat.eq_of_testBit_eq
    intro i
    rw [BitVec.testBit_toNat, BitVec.getLsbD_and, BitVec.getLsbD_not, BitVec.getLsbD_ofNat, BitVec.getLsbD_ofNat, Nat.testBit_and, Nat.testBit_xor]
    by_cases hi : i < IntKind.i64.bits
    · simp only [hi, decide_true, Bool.true_and]
      cases a.testBit i <;> cases b.testBit i <;> rfl
    · have h1 : a.testBit i = false := Nat.testBit_lt_two_pow (Nat.lt_of_lt_of_le ha (Nat.pow_le_pow_right (by decide) (by simp [IntKind.bits] at hi; omega)))
      simp [hi, h1]
  have hlt : a &&& (a ^^^ b) < 2 ^ 62 := Nat.and_lt_two_pow _ (Nat.xor_lt_two_pow ha hb)
  have e2 : Go.bits .andNot .i64 (a : Int) (b : Int) = ((a &&& (a ^^^ b) : Nat) : Int) := by
    simp only [bits, BitVec.ofInt_natCast]
    rw [e]
    exact i64_wrap_nat _ (Nat.lt_of_lt_of_le hlt (by decide))
  rw [e2]
  constructor
  · intro h i hi
    have h0 : a &&& (a ^^^ b) = 0 := by exact_mod_cast h
    have := congrArg (fun z => Nat.testBit z i) h0
    simp only [Nat.testBit_and, Nat.testBit_xor, hi, Nat.zero_testBit, Bool.true_and] at this
    cases hb' : b.testBit i with
    | true => rfl
    | false => rw [hb'] at this; simp at this
  · intro h
    have h0 : a &&& (a ^^^ b) = 0 := by
      apply Nat.eq_of_testBit_eq
      intro i
      rw [Nat.testBit_and, Nat.testBit_xor, Nat.zero_testBit]
      cases ha' : a.testBit i with
      | false => rfl
      | true => rw [h i ha']; rfl
    rw [h0]; rfl
theorem shr_nat (s n : Nat) (hn : n < 64) : shr .i64 (s : Int) (n : Int) = ((s >>> n : Nat) : Int) := by
  unfold shr
  rw [Int.toNat_natCast, Nat.min_eq_left (by simp [IntKind.bits]; omega), Nat.shiftRight_eq_div_pow]
  exact_mod_cast rfl
theorem shl_nat (s n : Nat) (hn : n < 64) (h : s * 2 ^ n < 2 ^ 63) : shl .i64 (s : Int) (n : Int) = ((s * 2 ^ n : Nat) : Int) := by
  unfold shl
  rw [Int.toNat_natCast, Nat.min_eq_left (by simp [IntKind.bits]; omega)]
  have := i64_wrap_nat (s * 2 ^ n) h
  rw [← this]
  congr 1
theorem shl_one (n : Nat) (hn : n < 62) : shl .i64 1 (n : Int) = ((2 ^ n : Nat) : Int) := by
  have h2 : 2 ^ n < 2 ^ 62 := Nat.pow_lt_pow_right (by decide) hn
  have h3 : (2 : Nat) ^ 62 < 2 ^ 63 := by decide
  have := shl_nat 1 n (by omega) (by omega)
  rw [Nat.one_mul] at this
  exact this
theorem bit_and (s n : Nat) (hs : s < 2 ^ 62) (hn : n < 64) : Go.bits .and .i64 (shr .i64 (s : Int) (n : Int)) 1 = if s.testBit n = true then 1 else 0 := by
  have hle : s >>> n ≤ s := by rw [Nat.shiftRight_eq_div_pow]; exact Nat.div_le_self _ _
  rw [shr_nat s n hn]
  have := and_nat (s >>> n) 1 (by omega) (by decide)
  rw [show ((1 : Nat) : Int) = 1 from rfl] at this
  rw [this, Nat.testBit_eq_decide_div_mod_eq, Nat.shiftRight_eq_div_pow, Nat.and_one_is_mod]
  have h2 : s / 2 ^ n % 2 < 2 := Nat.mod_lt _ (by decide)
  by_cases h : s / 2 ^ n % 2 = 1
  · simp [h]
  · simp [show s / 2 ^ n % 2 = 0 by omega]
theorem testBit_shift (s n : Nat) : s.testBit n = decide ((s >>> n) % 2 = 1) := by rw [Nat.testBit_eq_decide_div_mod_eq, Nat.shiftRight_eq_div_pow]
theorem bit_mod (s n : Nat) (hn : n < 64) : Int.tmod (shr .i64 (s : Int) (n : Int)) 2 = if s.testBit n = true then 1 else 0 := by
  rw [shr_nat s n hn, testBit_shift]
  generalize s >>> n = x
  rw [Int.tmod_eq_emod_of_nonneg (Int.natCast_nonneg _)]
  by_cases h : x % 2 = 1
  · simp only [h, decide_true, if_true]; omega
  · simp only [h, decide_false, Bool.false_eq_true, if_false]; omega
theorem add_bit (s j : Nat) (h : s.testBit j = false) : s + 2 ^ j = s ||| 2 ^ j := by
  have h1 : s % 2 ^ (j + 1) < 2 ^ j := by
    rw [Nat.mod_pow_succ]
    rw [Nat.testBit_eq_decide_div_mod_eq] at h
    have h2 : s / 2 ^ j % 2 < 2 := Nat.mod_lt _ (by decide)
    rw [show s / 2 ^ j % 2 = 0 by simp at h; omega]
    simpa using Nat.mod_lt s (Nat.two_pow_pos j)
  have h2 : s = 2 ^ (j + 1) * (s / 2 ^ (j + 1)) + s % 2 ^ (j + 1) := (Nat.div_add_mod _ _).symm
  have hp : 2 ^ (j + 1) = 2 * 2 ^ j := by rw [Nat.pow_succ, Nat.mul_comm]
  have h3 : s % 2 ^ (j + 1) + 2 ^ j < 2 ^ (j + 1) := by omega
  have h4 : s % 2 ^ (j + 1) < 2 ^ (j + 1) := by omega
  generalize s / 2 ^ (j + 1) = a at *
  generalize s % 2 ^ (j + 1) = b at *
  rw [h2, Nat.add_assoc, Nat.two_pow_add_eq_or_of_lt h3, Nat.two_pow_add_eq_or_of_lt h4, Nat.or_assoc]
  congr 1
  have := Nat.two_pow_add_eq_or_of_lt h1 1
  rw [Nat.mul_one] at this
  rw [Nat.add_comm, this, Nat.or_comm]
theorem testBit_or_two_pow (s j i : Nat) : (s ||| 2 ^ j).testBit i = (s.testBit i || decide (j = i)) := by
  rw [Nat.testBit_or, Nat.testBit_two_pow]
theorem or_lt {a b n : Nat} (ha : a < 2 ^ n) (hb : b < 2 ^ n) : a ||| b < 2 ^ n := Nat.or_lt_two_pow ha hb
theorem testBit_lt {a n i : Nat} (ha : a < 2 ^ n) (h : a.testBit i = true) : i < n := by
  rcases Nat.lt_or_ge i n with hi | hi
  · exact hi
  · rw [Nat.testBit_lt_two_pow (Nat.lt_of_lt_of_le ha (Nat.pow_le_pow_right (by decide) hi))] at h; cases h

-- part: l1In
theorem l1In_eq (n lo hi : Int) : spec_l1In.f n lo hi = some (decide (lo ≤ n ∧ n ≤ hi)) := by
  unfold spec_l1In.f
  by_cases h : n ≥ lo
  · rw [if_pos h]; simp [show lo ≤ n from h]
  · rw [if_neg h]; simp [show ¬ lo ≤ n from h]

-- part: RelValid
/-- What both of them say. -/
def relOk (l : List Int) : Bool := decide (1 ≤ l.length ∧ l.length ≤ 12) && l.all (fun x => decide (0 ≤ x ∧ x < ((2 ^ l.length : Nat) : Int)))
theorem all_drop {l : List Int} {p : Int → Bool} {i : Nat} (h : i < l.length) : (l.drop i).all p = (p l[i] && (l.drop (i + 1)).all p) := by
  rw [List.drop_eq_getElem_cons h]; rfl
theorem pow_le (n : Nat) (h : n ≤ 12) : 2 ^ n ≤ 4096 := Nat.le_trans (Nat.pow_le_pow_right (by decide) h) (by decide)
theorem spec_RelValid_l0 (l : List Int) (hb : l.length ≤ 140737488351232) : ∀ (d i : Nat), i + d = l.length → Ev (fun k => spec_RelValid.l0 k l i) ((l.drop i).all (fun x => decide (0 ≤ x ∧ x ≤ wrap64 ((wrap64 (2 ^ (mn (l.length : Int) 12).toNat)) - 1))) && decide (1 ≤ l.length ∧ l.length ≤ 12)) := by
  intro d
  induction d with
  | zero =>
    intro i h
    refine ev_s ?_
    simp only [spec_RelValid.l0, l1In_eq, Option.bind_some, if_neg (show ¬ ((i : Int) < (l.length : Int)) by omega)]
    rw [List.drop_of_length_le (by omega)]
    refine ev_now ?_
    simp only [List.all_nil, Bool.true_and]
    exact decide_eq_decide.mpr (by omega)
  | succ d ih =>
    intro i h
    refine ev_s ?_
    simp only [spec_RelValid.l0, l1In_eq, Option.bind_some, if_pos (show (i : Int) < (l.length : Int) by omega), if_pos (show (0 : Int) ≤ (i : Int) by omega), show wrap64 ((i : Int) + 1) = ((i + 1 : Nat) : Int) by rw [wrap_in (by omega) (by omega)]; rfl]
    rw [rd_get (show i < l.length by omega), all_drop (by omega)]
    by_cases hc : 0 ≤ l[i] ∧ l[i] ≤ wrap64 ((wrap64 (2 ^ (mn (l.length : Int) 12).toNat)) - 1)
    · simp only [decide_eq_true hc, Bool.true_and, if_true]
      exact ih (i + 1) (by omega)
    · simp only [decide_eq_false hc, Bool.false_and, Bool.false_eq_true, if_false]
      exact Ev.now _
theorem spec_RelValid_ev (l : List Int) (hb : l.length ≤ 140737488351232) : Ev (fun k => spec_RelValid.f k l) (relOk l) := by
  refine ev_eq (spec_RelValid_l0 l hb l.length 0 (by omega)) ?_
  unfold relOk
  by_cases h : 1 ≤ l.length ∧ l.length ≤ 12
  · have hp := pow_le l.length h.2
    have h0 : 1 ≤ 2 ^ l.length := Nat.one_le_two_pow
    have e : wrap64 ((wrap64 (2 ^ (mn (l.length : Int) 12).toNat)) - 1) = ((2 ^ l.length : Nat) : Int) - 1 := by
      have : mn (l.length : Int) 12 = (l.length : Int) := by unfold mn; split <;> omega
      rw [this, Int.toNat_natCast]
      have e2 : (2 : Int) ^ l.length = ((2 ^ l.length : Nat) : Int) := by exact_mod_cast rfl
      rw [e2, wrap_in (x := ((2 ^ l.length : Nat) : Int)) (by omega) (by omega), wrap_in (by omega) (by omega)]
    simp only [decide_eq_true h, Bool.true_and, Bool.and_true, List.drop_zero, e]
    congr 1
    funext x
    exact decide_eq_decide.mpr (by omega)
  · simp [decide_eq_false h]
theorem impl_RelValid_l0 (l : List Int) (hb : l.length ≤ 140737488351232) : ∀ (d i : Nat), i + d = l.length → Ev (fun k => impl_RelValid.l0 k l l (l.length : Int) i) ((l.drop i).all (fun x => decide (0 ≤ x ∧ x < shl .i64 1 (l.length : Int))) && decide (1 ≤ l.length ∧ l.length ≤ 12)) := by
  intro d
  induction d with
  | zero =>
    intro i h
    refine ev_s ?_
    simp only [impl_RelValid.l0, if_neg (show ¬ ((i : Int) < (l.length : Int)) by omega)]
    rw [List.drop_of_length_le (by omega)]
    simp only [List.all_nil, Bool.true_and]
    by_cases hc : (l.length : Int) ≥ 1
    · simp only [if_pos hc]
      exact ev_now (decide_eq_decide.mpr (by omega))
    · simp only [if_neg hc]
      exact ev_now (decide_eq_false (by omega)).symm
  | succ d ih =>
    intro i h
    refine ev_s ?_
    simp only [impl_RelValid.l0, if_pos (show (i : Int) < (l.length : Int) by omega), if_pos (show (0 : Int) ≤ (i : Int) by omega), show wrap64 ((i : Int) + 1) = ((i + 1 : Nat) : Int) by rw [wrap_in (by omega) (by omega)]; rfl]
    rw [rd_get (show i < l.length by omega), all_drop (by omega)]
    by_cases h1 : l[i] < 0
    · simp only [if_pos h1, decide_eq_false (show ¬ (0 ≤ l[i] ∧ l[i] < shl .i64 1 (l.length : Int)) by omega), Bool.false_and]
      exact Ev.now _
    · by_cases h2 : l[i] ≥ shl .i64 1 (l.length : Int)
      · simp only [if_neg h1, if_pos h2, decide_eq_false (show ¬ (0 ≤ l[i] ∧ l[i] < shl .i64 1 (l.length : Int)) by omega), Bool.false_and]
        exact Ev.now _
      · simp only [if_neg h1, if_neg h2, decide_eq_true (show (0 ≤ l[i] ∧ l[i] < shl .i64 1 (l.length : Int)) by omega), Bool.true_and]
        exact ih (i + 1) (by omega)
theorem impl_RelValid_ev (l : List Int) (hb : l.length ≤ 140737488351232) : Ev (fun k => impl_RelValid.f k l) (relOk l) := by
  refine ev_eq (impl_RelValid_l0 l hb l.length 0 (by omega)) ?_
  unfold relOk
  by_cases h : 1 ≤ l.length ∧ l.length ≤ 12
  · simp only [decide_eq_true h, Bool.true_and, Bool.and_true, List.drop_zero, shl_one l.length (by omega)]
  · simp [decide_eq_false h]

-- part: RelSem
/-! ### relations as sets -/
def R (l : List Int) (i : Nat) : Nat := (rd l (i : Int)).toNat
theorem R_out {l : List Int} {i : Nat} (h : l.length ≤ i) : R l i = 0 := by simp [R, rd, List.getElem?_eq_none h]
theorem rel_len {l : List Int} (h : relOk l = true) : 1 ≤ l.length ∧ l.length ≤ 12 := by simp [relOk] at h; exact h.1
theorem rel_lt {l : List Int} (h : relOk l = true) (i : Nat) : R l i < 2 ^ l.length := by
  rcases Nat.lt_or_ge i l.length with hi | hi
  · simp only [relOk, Bool.and_eq_true, List.all_eq_true, decide_eq_true_eq] at h
    have := h.2 l[i] (List.getElem_mem hi)
    unfold R; rw [rd_get hi]; omega
  · rw [R_out hi]; exact Nat.two_pow_pos _
theorem rel_rd {l : List Int} (h : relOk l = true) (i : Nat) (hi : i < l.length) : rd l (i : Int) = (R l i : Int) := by
  simp only [relOk, Bool.and_eq_true, List.all_eq_true, decide_eq_true_eq] at h
  have := h.2 l[i] (List.getElem_mem hi)
  unfold R; rw [rd_get hi]; omega
theorem rel_small {l : List Int} (h : relOk l = true) : 2 ^ l.length < 2 ^ 62 := Nat.lt_of_le_of_lt (pow_le _ (rel_len h).2) (by decide)
theorem rel_4096 {l : List Int} (h : relOk l = true) : 2 ^ l.length ≤ 4096 := pow_le _ (rel_len h).2
def afterF (l : List Int) (S : Nat) : Nat → Nat → Nat → Nat
  | 0, _, acc => acc
  | d + 1, i, acc => afterF l S d (i + 1) (if S.testBit i = true then acc ||| R l i else acc)
def after (l : List Int) (S : Nat) : Nat := afterF l S l.length 0 0
def walk (l : List Int) : Nat → Nat → Nat
  | 0, S => S
  | n + 1, S => walk l n (after l S)
theorem afterF_lt {l : List Int} (h : relOk l = true) (S : Nat) : ∀ d i acc, acc < 2 ^ l.length → afterF l S d i acc < 2 ^ l.length
  | 0, _, _, ha => ha
  | d + 1, i, acc, ha => afterF_lt h S d (i + 1) _ (by split; exact or_lt ha (rel_lt h i); exact ha)
theorem after_lt {l : List Int} (h : relOk l = true) (S : Nat) : after l S < 2 ^ l.length := afterF_lt h S _ _ _ (Nat.two_pow_pos _)
theorem walk_lt {l : List Int} (h : relOk l = true) : ∀ n S, S < 2 ^ l.length → walk l n S < 2 ^ l.length
  | 0, _, hS => hS
  | n + 1, S, _ => walk_lt h n _ (after_lt h S)
theorem afterF_bit (l : List Int) (S : Nat) (j : Nat) : ∀ d i acc, (afterF l S d i acc).testBit j = true ↔ acc.testBit j = true ∨ ∃ m, i ≤ m ∧ m < i + d ∧ S.testBit m = true ∧ (R l m).testBit j = true
  | 0, i, acc => by
    constructor
    · intro h; exact .inl h
    · rintro (h | ⟨m, h1, h2, _⟩)
      · exact h
      · omega
  | d + 1, i, acc => by
    rw [afterF, afterF_bit l S j d (i + 1)]
    constructor
    · rintro (h | ⟨m, h1, h2, h3, h4⟩)
      · by_cases hS : S.testBit i = true
        · rw [if_pos hS, Nat.testBit_or, Bool.or_eq_true] at h
          rcases h with h | h
          · exact .inl h
          · exact .inr ⟨i, by omega, by omega, hS, h⟩
        · rw [if_neg hS] at h; exact .inl h
      · exact .inr ⟨m, by omega, by omega, h3, h4⟩
    · rintro (h | ⟨m, h1, h2, h3, h4⟩)
      · refine .inl ?_
        split
        · rw [Nat.testBit_or, h]; rfl
        · exact h
      · by_cases hm : m = i
        · subst hm; refine .inl ?_
          rw [if_pos h3, Nat.testBit_or, h4, Bool.or_true]
        · exact .inr ⟨m, by omega, by omega, h3, h4⟩
theorem after_bit (l : List Int) (S j : Nat) : (after l S).testBit j = true ↔ ∃ m, S.testBit m = true ∧ (R l m).testBit j = true := by
  unfold after
  rw [afterF_bit]
  constructor
  · rintro (h | ⟨m, _, _, h3, h4⟩)
    · simp at h
    · exact ⟨m, h3, h4⟩
  · rintro ⟨m, h3, h4⟩
    refine .inr ⟨m, Nat.zero_le _, ?_, h3, h4⟩
    rcases Nat.lt_or_ge m l.length with hm | hm
    · omega
    · rw [R_out hm] at h4; simp at h4

-- part: after
theorem impl_after_l0 {l : List Int} (h : relOk l = true) (S : Nat) (hS : S < 2 ^ 62) : ∀ (d i acc : Nat), i + d = l.length → acc < 2 ^ l.length → Ev (fun k => impl_after.l0 k (S : Int) (acc : Int) l (l.length : Int) (i : Int)) ((afterF l S d i acc : Nat) : Int) := by
  have hl := rel_len h
  have hs := rel_small h
  intro d
  induction d with
  | zero =>
    intro i acc hi _
    refine ev_s ?_
    simp only [impl_after.l0, if_neg (show ¬ ((i : Int) < (l.length : Int)) by omega)]
    exact Ev.now _
  | succ d ih =>
    intro i acc hi ha
    have hr := rel_lt h i
    refine ev_s ?_
    simp only [impl_after.l0, if_pos (show (i : Int) < (l.length : Int) by omega), if_pos (show (0 : Int) ≤ (i : Int) by omega), show wrap64 ((i : Int) + 1) = ((i + 1 : Nat) : Int) by rw [wrap_in (by omega) (by omega)]; rfl, bit_and S i hS (by omega), rel_rd h i (by omega), or_nat acc (R l i) (by omega) (by omega)]
    by_cases hb : S.testBit i = true
    · simp only [if_pos hb, if_true]
      have := ih (i + 1) (acc ||| R l i) (by omega) (or_lt ha hr)
      rw [afterF, if_pos hb]; exact this
    · simp only [if_neg hb, if_neg (show ¬ ((0 : Int) = 1) by decide)]
      have := ih (i + 1) acc (by omega) ha
      rw [afterF, if_neg hb]; exact this
theorem impl_after_ev {l : List Int} (h : relOk l = true) (S : Nat) (hS : S < 2 ^ l.length) : Ev (fun k => impl_after.f k l (S : Int)) ((after l S : Nat) : Int) :=
  impl_after_l0 h S (Nat.lt_trans hS (rel_small h)) l.length 0 0 (by omega) (Nat.two_pow_pos _)

-- part: WalksToVal
/-- What both of them say. -/
def walksTo (l : List Int) (p n : Int) : Int := if relOk l = true ∧ 0 ≤ p ∧ p < (l.length : Int) ∧ 0 ≤ n ∧ n ≤ 99 then ((walk l n.toNat (2 ^ p.toNat) : Nat) : Int) else -1
theorem walksTo_in {l : List Int} (h : relOk l = true) (p n : Nat) (hp : p < l.length) (hn : n ≤ 99) : walksTo l (p : Int) (n : Int) = ((walk l n (2 ^ p) : Nat) : Int) := by
  unfold walksTo; rw [if_pos ⟨h, by omega, by omega, by omega, by omega⟩]; rfl

-- part: WalksTo
theorem impl_WalksTo_l0 {l : List Int} (h : relOk l = true) (n : Nat) (hn : n ≤ 200) : ∀ (d i S : Nat), i + d = n → S < 2 ^ l.length → Ev (fun k => impl_WalksTo.l0 k l (S : Int) (n : Int) (i : Int)) ((walk l d S : Nat) : Int) := by
  intro d
  induction d with
  | zero =>
    intro i S hi _
    refine ev_s ?_
    simp only [impl_WalksTo.l0, if_neg (show ¬ ((i : Int) < (n : Int)) by omega)]
    exact Ev.now _
  | succ d ih =>
    intro i S hi hS
    refine ev_s ?_
    simp only [impl_WalksTo.l0, if_pos (show (i : Int) < (n : Int) by omega), show wrap64 ((i : Int) + 1) = ((i + 1 : Nat) : Int) by rw [wrap_in (by omega) (by omega)]; rfl]
    refine Ev.bind (impl_after_ev h S hS) ?_
    exact ih (i + 1) _ (by omega) (after_lt h S)
theorem impl_WalksTo_ev (l : List Int) (hb : l.length ≤ 140737488351232) (p n : Int) : Ev (fun k => impl_WalksTo.f k l p n) (walksTo l p n) := by
  have bad : ∀ b : Bool, b = true → Ev (fun k => impl_WalksTo.j0 k l p n b) (-1) := by
    intro b hb; subst hb
    refine ev_s ?_
    simp only [impl_WalksTo.j0, if_true]
    exact Ev.now _
  simp only [impl_WalksTo.f]
  refine Ev.bind (impl_RelValid_ev l hb) ?_
  unfold walksTo
  cases h : relOk l with
  | false =>
    simp only [Bool.false_eq_true, if_false, false_and]
    exact bad _ rfl
  | true =>
    simp only [if_true, true_and]
    by_cases h1 : p < 0
    · simp only [if_pos h1, if_neg (show ¬ (0 ≤ p ∧ p < (l.length : Int) ∧ 0 ≤ n ∧ n ≤ 99) by omega)]; exact bad _ rfl
    · by_cases h2 : p ≥ (l.length : Int)
      · simp only [if_neg h1, if_pos h2, if_neg (show ¬ (0 ≤ p ∧ p < (l.length : Int) ∧ 0 ≤ n ∧ n ≤ 99) by omega)]; exact bad _ rfl
      · by_cases h3 : n < 0
        · simp only [if_neg h1, if_neg h2, if_pos h3, if_neg (show ¬ (0 ≤ p ∧ p < (l.length : Int) ∧ 0 ≤ n ∧ n ≤ 99) by omega)]; exact bad _ rfl
        · by_cases h4 : n > 99
          · simp only [if_neg h1, if_neg h2, if_neg h3, if_neg (show ¬ (0 ≤ p ∧ p < (l.length : Int) ∧ 0 ≤ n ∧ n ≤ 99) by omega)]
            exact bad _ (decide_eq_true h4)
          · simp only [if_neg h1, if_neg h2, if_neg h3, decide_eq_false h4, if_pos (show (0 ≤ p ∧ p < (l.length : Int) ∧ 0 ≤ n ∧ n ≤ 99) by omega)]
            obtain ⟨q, rfl⟩ := Int.eq_ofNat_of_zero_le (show 0 ≤ p by omega)
            obtain ⟨m, rfl⟩ := Int.eq_ofNat_of_zero_le (show 0 ≤ n by omega)
            have hl := rel_len h
            refine ev_s ?_
            simp only [impl_WalksTo.j0, Bool.false_eq_true, if_false, if_pos (show (0 : Int) ≤ (q : Int) by omega), Int.toNat_natCast, shl_one q (by omega)]
            exact impl_WalksTo_l0 h m (by omega) m 0 _ (by omega) (Nat.pow_lt_pow_right (by decide) (by omega))

-- part: l7Bit
theorem l7Bit_eq (s n : Nat) (hn : n < 64) : spec_l7Bit.f (s : Int) (n : Int) = some (if s.testBit n = true then 1 else 0) := by
  unfold spec_l7Bit.f
  rw [if_pos (by omega), bit_mod s n hn]

-- part: specWalksTo
/-- The bits of r from j on, put into s one by one. -/
def innerF (r : Nat) : Nat → Nat → Nat → Nat
  | 0, _, s => s
  | d + 1, j, s => innerF r d (j + 1) (if r.testBit j = true ∧ s.testBit j = false then s + 2 ^ j else s)
theorem innerF_bit (r : Nat) (i : Nat) : ∀ d j s, (innerF r d j s).testBit i = (s.testBit i || (decide (j ≤ i ∧ i < j + d) && r.testBit i))
  | 0, j, s => by simp [innerF]; omega
  | d + 1, j, s => by
    rw [innerF, innerF_bit r i d (j + 1)]
    by_cases h : r.testBit j = true ∧ s.testBit j = false
    · rw [if_pos h, add_bit s j h.2, testBit_or_two_pow]
      by_cases hji : j = i
      · subst hji; simp [h.1]
      · have : decide (j ≤ i ∧ i < j + (d + 1)) = decide (j + 1 ≤ i ∧ i < j + 1 + d) := decide_eq_decide.mpr (by omega)
        rw [this]; simp [hji]
    · rw [if_neg h]
      by_cases hji : j = i
      · subst hji
        cases hr : r.testBit j with
        | false => simp
        | true =>
          have : s.testBit j = true := by cases hs : s.testBit j with | true => rfl | false => exact absurd ⟨hr, hs⟩ h
          simp [this]
      · have : decide (j ≤ i ∧ i < j + (d + 1)) = decide (j + 1 ≤ i ∧ i < j + 1 + d) := decide_eq_decide.mpr (by omega)
        rw [this]
theorem innerF_all {r n s : Nat} (hr : r < 2 ^ n) : innerF r n 0 s = s ||| r := by
  apply Nat.eq_of_testBit_eq
  intro i
  rw [innerF_bit, Nat.testBit_or]
  cases h : r.testBit i with
  | false => simp
  | true => have := testBit_lt hr h; simp [this]
theorem innerF_lt {r n : Nat} : ∀ d j s, j + d ≤ n → s < 2 ^ n → innerF r d j s < 2 ^ n
  | 0, _, _, _, hs => hs
  | d + 1, j, s, hj, hs => by
    refine innerF_lt d (j + 1) _ (by omega) ?_
    split
    · rename_i h; rw [add_bit s j h.2]; exact or_lt hs (Nat.pow_lt_pow_right (by decide) (by omega))
    · exact hs
theorem spec_WalksTo_l2 {l : List Int} (h : relOk l = true) (n : Int) (S : Nat) (w : Int) (i : Nat) (hi : i < l.length) (r : Int) : ∀ (d j s : Nat), j + d = l.length → s < 2 ^ l.length →
    Ev (fun k => spec_WalksTo.l1 k l n (S : Int) w ((if S.testBit i = true then innerF (R l i) d j s else s : Nat) : Int) ((i + 1 : Nat) : Int)) r →
    Ev (fun k => spec_WalksTo.l2 k l n (S : Int) w (s : Int) (i : Int) (j : Int)) r := by
  have hl := rel_len h
  have h4 := rel_4096 h
  intro d
  induction d with
  | zero =>
    intro j s hj hs hc
    refine ev_s ?_
    simp only [spec_WalksTo.l2, if_neg (show ¬ ((j : Int) < (l.length : Int)) by omega), show wrap64 ((i : Int) + 1) = ((i + 1 : Nat) : Int) by rw [wrap_in (by omega) (by omega)]; rfl]
    simpa [innerF] using hc
  | succ d ih =>
    intro j s hj hs hc
    refine ev_s ?_
    have hp : 2 ^ j < 2 ^ l.length := Nat.pow_lt_pow_right (by decide) (by omega)
    simp only [spec_WalksTo.l2, if_pos (show (j : Int) < (l.length : Int) by omega), l7Bit_eq S i (by omega), Option.bind_some, show wrap64 ((j : Int) + 1) = ((j + 1 : Nat) : Int) by rw [wrap_in (by omega) (by omega)]; rfl, if_pos (show (0 : Int) ≤ (i : Int) by omega), if_pos (show (i : Int) < (l.length : Int) by omega), rel_rd h i hi, l7Bit_eq (R l i) j (by omega), l7Bit_eq s j (by omega), shl_one j (by omega), if_pos (show (0 : Int) ≤ (j : Int) by omega), wrap_nat2 s (2 ^ j) (by omega)]
    by_cases hb : S.testBit i = true
    · rw [if_pos hb] at hc
      simp only [if_pos hb, if_true]
      rw [innerF] at hc
      by_cases hr : (R l i).testBit j = true
      · simp only [if_pos hr, if_true]
        cases hsj : s.testBit j with
        | false =>
          simp only [Bool.false_eq_true, if_false, if_true]
          rw [if_pos ⟨hr, hsj⟩] at hc
          exact ih (j + 1) (s + 2 ^ j) (by omega) (by rw [add_bit s j hsj]; exact or_lt hs hp) (by rw [if_pos hb]; exact hc)
        | true =>
          simp only [if_true, if_neg (show ¬ ((1 : Int) = 0) by decide)]
          rw [if_neg (by rw [hsj]; simp)] at hc
          exact ih (j + 1) s (by omega) hs (by rw [if_pos hb]; exact hc)
      · simp only [if_neg hr, if_neg (show ¬ ((0 : Int) = 1) by decide)]
        rw [if_neg (fun hh => hr hh.1)] at hc
        exact ih (j + 1) s (by omega) hs (by rw [if_pos hb]; exact hc)
    · rw [if_neg hb] at hc
      simp only [if_neg hb, if_neg (show ¬ ((0 : Int) = 1) by decide)]
      exact ih (j + 1) s (by omega) hs (by rw [if_neg hb]; exact hc)
theorem spec_WalksTo_l1 {l : List Int} (h : relOk l = true) (n : Int) (S : Nat) (w : Nat) (hw : w ≤ 1000) (r : Int) : ∀ (d i s : Nat), i + d = l.length → s < 2 ^ l.length →
    Ev (fun k => spec_WalksTo.l0 k l n ((afterF l S d i s : Nat) : Int) ((w + 1 : Nat) : Int)) r →
    Ev (fun k => spec_WalksTo.l1 k l n (S : Int) (w : Int) (s : Int) (i : Int)) r := by
  intro d
  induction d with
  | zero =>
    intro i s hi hs hc
    refine ev_s ?_
    simp only [spec_WalksTo.l1, if_neg (show ¬ ((i : Int) < (l.length : Int)) by omega), show wrap64 ((w : Int) + 1) = ((w + 1 : Nat) : Int) by rw [wrap_in (by omega) (by omega)]; rfl]
    exact hc
  | succ d ih =>
    intro i s hi hs hc
    refine ev_s ?_
    simp only [spec_WalksTo.l1, if_pos (show (i : Int) < (l.length : Int) by omega)]
    refine spec_WalksTo_l2 h n S (w : Int) i (by omega) r l.length 0 s (by omega) hs ?_
    rw [innerF_all (rel_lt h i)]
    refine ih (i + 1) _ (by omega) ?_ hc
    split
    · exact or_lt hs (rel_lt h i)
    · exact hs
theorem spec_WalksTo_l0 {l : List Int} (h : relOk l = true) (n : Nat) (hn : n ≤ 200) : ∀ (d i S : Nat), i + d = n → S < 2 ^ l.length → Ev (fun k => spec_WalksTo.l0 k l (n : Int) (S : Int) (i : Int)) ((walk l d S : Nat) : Int) := by
  intro d
  induction d with
  | zero =>
    intro i S hi _
    refine ev_s ?_
    simp only [spec_WalksTo.l0, if_neg (show ¬ ((i : Int) < (n : Int)) by omega)]
    exact Ev.now _
  | succ d ih =>
    intro i S hi hS
    refine ev_s ?_
    simp only [spec_WalksTo.l0, if_pos (show (i : Int) < (n : Int) by omega)]
    exact spec_WalksTo_l1 h (n : Int) S i (by omega) _ l.length 0 0 (by omega) (Nat.two_pow_pos _) (ih (i + 1) _ (by omega) (after_lt h S))
theorem spec_WalksTo_ev (l : List Int) (hb : l.length ≤ 140737488351232) (p n : Int) : Ev (fun k => spec_WalksTo.f k l p n) (walksTo l p n) := by
  have bad : ∀ b : Bool, b = true → Ev (fun k => spec_WalksTo.j0 k l p n b) (-1) := by
    intro b hb; subst hb
    refine ev_s ?_
    simp only [spec_WalksTo.j0, if_true]
    exact Ev.now _
  simp only [spec_WalksTo.f]
  refine Ev.bind (spec_RelValid_ev l hb) ?_
  unfold walksTo
  cases h : relOk l with
  | false =>
    simp only [Bool.false_eq_true, if_false, false_and]
    exact bad _ rfl
  | true =>
    have hl := rel_len h
    simp only [if_true, true_and, l1In_eq, Option.bind_some, show wrap64 ((l.length : Int) - 1) = (l.length : Int) - 1 from wrap_in (by omega) (by omega)]
    by_cases h1 : 0 ≤ p ∧ p ≤ (l.length : Int) - 1
    · simp only [decide_eq_true h1, if_true]
      by_cases h2 : 0 ≤ n ∧ n ≤ 99
      · simp only [decide_eq_true h2, Bool.not_true, if_pos (show (0 ≤ p ∧ p < (l.length : Int) ∧ 0 ≤ n ∧ n ≤ 99) by omega)]
        obtain ⟨q, rfl⟩ := Int.eq_ofNat_of_zero_le (show 0 ≤ p by omega)
        obtain ⟨m, rfl⟩ := Int.eq_ofNat_of_zero_le (show 0 ≤ n by omega)
        refine ev_s ?_
        simp only [spec_WalksTo.j0, Bool.false_eq_true, if_false, if_pos (show (0 : Int) ≤ (q : Int) by omega), Int.toNat_natCast, shl_one q (by omega)]
        exact spec_WalksTo_l0 h m (by omega) m 0 _ (by omega) (Nat.pow_lt_pow_right (by decide) (by omega))
      · simp only [decide_eq_false h2, Bool.not_false, if_neg (show ¬ (0 ≤ p ∧ p < (l.length : Int) ∧ 0 ≤ n ∧ n ≤ 99) by omega)]
        exact bad _ rfl
    · simp only [decide_eq_false h1, Bool.false_eq_true, if_false, if_neg (show ¬ (0 ≤ p ∧ p < (l.length : Int) ∧ 0 ≤ n ∧ n ≤ 99) by omega)]
      exact bad _ rfl

-- part: draw
/-! ### the reader of a code -/
def Bytes (b : List Int) : Prop := b.length ≤ 2000 ∧ ∀ x ∈ b, 0 ≤ x ∧ x ≤ 255
theorem u8_of_wf {x : Int} (h : (Lit.int .u8 x).wf = true) : 0 ≤ x ∧ x ≤ 255 := by
  simp [Lit.wf, IntKind.min, IntKind.max, IntKind.bits, IntKind.signed] at h
  omega
theorem open_ev (l : List Int) (h : ∀ x ∈ l, (Lit.int .u8 x).wf = true) : ∃ b, Bytes b ∧ spec_l20Open.f l = some (b, ((0 : Nat) : Int)) := by
  have h' : ∀ x ∈ l, 0 ≤ x ∧ x ≤ 255 := fun x hx => u8_of_wf (h x hx)
  unfold spec_l20Open.f
  by_cases hl : (l.length : Int) > 2000
  · rw [if_pos hl, if_pos (by omega)]
    exact ⟨l.take 2000, ⟨by simp; omega, fun x hx => h' x (List.mem_of_mem_take hx)⟩, rfl⟩
  · rw [if_neg hl]
    exact ⟨l, ⟨by omega, h'⟩, rfl⟩
theorem rd_byte {b : List Int} (hb : Bytes b) {i : Int} (h0 : 0 ≤ i) (h1 : i < (b.length : Int)) : 0 ≤ rd b i ∧ rd b i ≤ 255 := by
  obtain ⟨n, rfl⟩ := Int.eq_ofNat_of_zero_le h0
  rw [rd_get (show n < b.length by omega)]
  exact hb.2 _ (List.getElem_mem _)
theorem wraps_i64 (n : Int) (h0 : 0 ≤ n) (h1 : n < 2 ^ 62) : IntKind.i64.wrap n = n := by rw [IntKind.wrap_i64]; omega
theorem xor_pos (a b : Nat) (ha : a < 2 ^ 62) (hb : b < 2 ^ 62) : Go.bits .xor .i64 (a : Int) (b : Int) = ((a ^^^ b : Nat) : Int) := by
  have ha' : a % 2 ^ IntKind.i64.bits = a := Nat.mod_eq_of_lt (Nat.lt_of_lt_of_le ha (by decide))
  have hb' : b % 2 ^ IntKind.i64.bits = b := Nat.mod_eq_of_lt (Nat.lt_of_lt_of_le hb (by decide))
  simp only [bits, BitVec.ofInt_natCast, BitVec.toNat_xor, BitVec.toNat_ofNat, ha', hb']
  exact wraps_i64 _ (Int.natCast_nonneg _) (by exact_mod_cast Nat.xor_lt_two_pow ha hb)
theorem pick_sum (r1 r2 p t : Int) (h1 : 0 ≤ r1 ∧ r1 ≤ 255) (h2 : 0 ≤ r2 ∧ r2 ≤ 255) (hp : 0 ≤ p ∧ p ≤ 1000000000000) (ht : 0 ≤ t ∧ t ≤ 1000000000000) :
    wrap64 ((wrap64 ((wrap64 ((wrap64 ((wrap64 r1) * 131)) + (wrap64 ((wrap64 r2) * 1117)))) + (wrap64 (p * 29)))) + (wrap64 ((wrap64 t) * 53))) = r1 * 131 + r2 * 1117 + p * 29 + t * 53 := by
  rw [wrap_in (x := r1) (by omega) (by omega), wrap_in (x := r2) (by omega) (by omega), wrap_in (x := t) (by omega) (by omega), wrap_in (x := r1 * 131) (by omega) (by omega), wrap_in (x := r2 * 1117) (by omega) (by omega), wrap_in (x := p * 29) (by omega) (by omega), wrap_in (x := t * 53) (by omega) (by omega), wrap_in (x := r1 * 131 + r2 * 1117) (by omega) (by omega), wrap_in (x := r1 * 131 + r2 * 1117 + p * 29) (by omega) (by omega), wrap_in (by omega) (by omega)]
theorem pick_mod (x n : Int) (hx : 0 ≤ x) (hn : 0 < n) : 0 ≤ Int.tmod x n ∧ Int.tmod x n < n := by
  rw [Int.tmod_eq_emod_of_nonneg hx]
  exact ⟨Int.emod_nonneg _ (by omega), Int.emod_lt_of_pos _ hn⟩
theorem pick_ev (b : List Int) (hb : Bytes b) (p : Nat) (hp : p ≤ 100000000000) (n : Int) : ∃ v : Int, 0 ≤ v ∧ (v < n ∨ v = 0) ∧ Ev (fun k => spec_l20Rd_pick.f k b (p : Int) n) (v, ((p + 1 : Nat) : Int)) := by
  have e1 : wrap64 ((p : Int) + 1) = ((p + 1 : Nat) : Int) := by rw [wrap_in (by omega) (by omega)]; rfl
  have e2 : wrap64 (((p + 1 : Nat) : Int) - 1) = (p : Int) := by rw [wrap_in (by omega) (by omega)]; omega
  by_cases hn : n < 1
  · refine ⟨0, Int.le_refl _, .inr rfl, ?_⟩
    simp only [spec_l20Rd_pick.f, if_pos hn, e1]
    refine ev_s ?_
    simp only [spec_l20Rd_pick.j0, if_true]
    exact Ev.now _
  · by_cases hl : b.length = 0
    · refine ⟨0, Int.le_refl _, .inr rfl, ?_⟩
      simp only [spec_l20Rd_pick.f, if_neg hn, e1, hl]
      refine ev_s ?_
      simp only [spec_l20Rd_pick.j0]
      exact Ev.now _
    · by_cases hlt : (p : Int) < (b.length : Int)
      · have hby := rd_byte hb (show (0 : Int) ≤ (p : Int) by omega) hlt
        have hm := pick_mod (rd b p) n hby.1 (by omega)
        refine ⟨Int.tmod (rd b p) n, hm.1, .inl hm.2, ?_⟩
        simp only [spec_l20Rd_pick.f, if_neg hn, e1, show ((b.length : Int) == 0) = false by simp; exact fun h => hl (by rw [h]; rfl)]
        refine ev_s ?_
        simp only [spec_l20Rd_pick.j0, Bool.false_eq_true, if_false, e2, if_pos hlt, if_pos (show (0 : Int) ≤ (p : Int) by omega), if_neg (show ¬ n = 0 by omega), wrap_in (x := rd b p) (by omega) (by omega)]
        exact Ev.now _
      · have hl0 : ¬ ((b.length : Int) = 0) := by omega
        have m1 := pick_mod (p : Int) (b.length : Int) (by omega) (by omega)
        have m2 := pick_mod ((p : Int) * 7 + 3) (b.length : Int) (by omega) (by omega)
        have b1 := rd_byte hb m1.1 m1.2
        have b2 := rd_byte hb m2.1 m2.2
        have d1 : 0 ≤ Int.tdiv (p : Int) (b.length : Int) := Int.tdiv_nonneg (by omega) (by omega)
        have d2 : Int.tdiv (p : Int) (b.length : Int) ≤ (p : Int) := Int.tdiv_le_self _ (by omega)
        have hs := pick_sum _ _ (p : Int) (Int.tdiv (p : Int) (b.length : Int)) b1 b2 (by omega) (by omega)
        obtain ⟨X, hX⟩ : ∃ X : Int, X = rd b (Int.tmod (p : Int) (b.length : Int)) * 131 + rd b (Int.tmod ((p : Int) * 7 + 3) (b.length : Int)) * 1117 + (p : Int) * 29 + Int.tdiv (p : Int) (b.length : Int) * 53 := ⟨_, rfl⟩
        rw [← hX] at hs
        have x0 : 0 ≤ X ∧ X < 20000000000000 := by omega
        have t0 : 0 ≤ Int.tdiv X 64 := Int.tdiv_nonneg (by omega) (by omega)
        have t1 : Int.tdiv X 64 ≤ X := Int.tdiv_le_self _ (by omega)
        have hbit : 0 ≤ Go.bits .xor .i64 X (Int.tdiv X 64) := by
          obtain ⟨u, hu⟩ := Int.eq_ofNat_of_zero_le x0.1
          obtain ⟨v, hv⟩ := Int.eq_ofNat_of_zero_le t0
          rw [hv, hu]
          rw [xor_pos u v (by omega) (by omega)]
          omega
        have hm := pick_mod _ n hbit (by omega)
        refine ⟨_, hm.1, .inl hm.2, ?_⟩
        simp only [spec_l20Rd_pick.f, if_neg hn, e1, show ((b.length : Int) == 0) = false by simp; exact fun h => hl (by rw [h]; rfl)]
        refine ev_s ?_
        simp only [spec_l20Rd_pick.j0, Bool.false_eq_true, if_false, e2, if_neg hlt, if_neg hl0, wrap_in (x := (p : Int) * 7) (by omega) (by omega), wrap_in (x := (p : Int) * 7 + 3) (by omega) (by omega), if_pos m1.1, if_pos m1.2, if_pos m2.1, if_pos m2.2, if_neg (show ¬ n = 0 by omega), hs, wrap_in (x := Int.tdiv X 64) (by omega) (by omega)]
        exact Ev.now _
theorem odd_ev (b : List Int) (hb : Bytes b) (p : Nat) (hp : p ≤ 100000000000) (n : Int) (hn : n ≤ 1000000) : ∃ (v : Bool) (q : Nat), q ≤ p + 1 ∧ Ev (fun k => spec_l20Rd_odd.f k b (p : Int) n) (v, (q : Int)) := by
  by_cases h : n > 0
  · obtain ⟨v, h0, h1, he⟩ := pick_ev b hb p hp n
    refine ⟨(v == wrap64 (n - 1)), p + 1, Nat.le_refl _, ?_⟩
    simp only [spec_l20Rd_odd.f, if_pos h]
    refine Ev.bind he ?_
    exact Ev.now _
  · refine ⟨false, p, by omega, ?_⟩
    simp only [spec_l20Rd_odd.f, if_neg h]
    exact Ev.now _

-- part: l20Rel
theorem l20Rel_l0 (b : List Int) (hb : Bytes b) (n : Int) (dots : Nat) (hn : n ≤ 1000000) (hd : 1 ≤ dots ∧ dots ≤ 20) (down : Bool) : ∀ (d p : Nat) (x : List Int), p + 2 * d ≤ 1000000000 → x.length = dots → (∀ y ∈ x, ∃ m : Nat, y = (m : Int) ∧ m < 2 ^ 20) →
    ∃ (out : List Int) (q : Nat), q ≤ p + 2 * d + 5 ∧ out.length ≤ 20 ∧ Ev (fun k => spec_l20Rel.l0 k n (dots : Int) x down (d : Int) b (p : Int)) (out, (q : Int)) := by
  intro d
  induction d with
  | succ d ih =>
    intro p x hp hx hpos
    obtain ⟨a, a0, a1, he1⟩ := pick_ev b hb p (by omega) (dots : Int)
    obtain ⟨c, c0, c1, he2⟩ := pick_ev b hb (p + 1) (by omega) (dots : Int)
    obtain ⟨an, rfl⟩ := Int.eq_ofNat_of_zero_le a0
    obtain ⟨cn, rfl⟩ := Int.eq_ofNat_of_zero_le c0
    have e1 : wrap64 (((d + 1 : Nat) : Int) - 1) = (d : Int) := by rw [wrap_in (by omega) (by omega)]; omega
    have step : ∀ (x' : List Int), x'.length = dots → (∀ y ∈ x', ∃ m : Nat, y = (m : Int) ∧ m < 2 ^ 20) → ∃ (out : List Int) (q : Nat), q ≤ p + 2 * (d + 1) + 5 ∧ out.length ≤ 20 ∧ Ev (fun k => spec_l20Rel.l0 k n (dots : Int) x' down (d : Int) b ((p + 1 + 1 : Nat) : Int)) (out, (q : Int)) := by
      intro x' h1 h2
      obtain ⟨out, q, hq, ho, hE⟩ := ih (p + 1 + 1) x' (by omega) h1 h2
      exact ⟨out, q, by omega, ho, hE⟩
    have join : ∀ (t : Bool), ∃ (out : List Int) (q : Nat), q ≤ p + 2 * (d + 1) + 5 ∧ out.length ≤ 20 ∧ Ev (fun k => spec_l20Rel.j1 k n (dots : Int) x down ((d + 1 : Nat) : Int) (an : Int) (cn : Int) t b ((p + 1 + 1 : Nat) : Int)) (out, (q : Int)) := by
      intro t
      cases t with
      | true =>
        obtain ⟨out, q, hq, ho, hE⟩ := step x hx hpos
        refine ⟨out, q, hq, ho, ev_s ?_⟩
        simp only [spec_l20Rel.j1, if_true, e1]
        exact hE
      | false =>
        have ha : an < x.length := by omega
        obtain ⟨rn, hrn, hlt⟩ : ∃ m : Nat, rd x (an : Int) = (m : Int) ∧ m < 2 ^ 20 := by rw [rd_get ha]; exact hpos _ (List.getElem_mem ha)
        cases hbit : rn.testBit cn with
        | true =>
          obtain ⟨out, q, hq, ho, hE⟩ := step x hx hpos
          refine ⟨out, q, hq, ho, ev_s ?_⟩
          simp only [spec_l20Rel.j1, Bool.false_eq_true, if_false, if_pos (show (0 : Int) ≤ (an : Int) by omega), if_pos (show (an : Int) < (x.length : Int) by omega), hrn, l7Bit_eq rn cn (by omega), Option.bind_some, hbit, if_true, if_neg (show ¬ ((1 : Int) = 0) by decide), e1]
          exact hE
        | false =>
          have hv : rn + 2 ^ cn < 2 ^ 20 := by rw [add_bit rn cn hbit]; exact or_lt hlt (Nat.pow_lt_pow_right (by decide) (by omega))
          obtain ⟨out, q, hq, ho, hE⟩ := step (x.set an ((rn + 2 ^ cn : Nat) : Int)) (by simpa using hx) (by
            intro y hy
            rcases List.mem_or_eq_of_mem_set hy with h | h
            · exact hpos y h
            · exact ⟨_, h, hv⟩)
          refine ⟨out, q, hq, ho, ev_s ?_⟩
          simp only [spec_l20Rel.j1, Bool.false_eq_true, if_false, if_pos (show (0 : Int) ≤ (an : Int) by omega), if_pos (show (an : Int) < (x.length : Int) by omega), hrn, l7Bit_eq rn cn (by omega), Option.bind_some, hbit, if_true, if_pos (show (0 : Int) ≤ (cn : Int) by omega), Int.toNat_natCast, shl_one cn (by omega), wrap_nat2 rn (2 ^ cn) (by omega), e1]
          exact hE
    cases down with
    | true =>
      obtain ⟨out, q, hq, ho, hE⟩ := join (decide ((an : Int) ≤ (cn : Int)))
      refine ⟨out, q, hq, ho, ev_s ?_⟩
      simp only [spec_l20Rel.l0, if_pos (show ((d + 1 : Nat) : Int) > 0 by omega)]
      refine Ev.bind he1 ?_
      refine Ev.bind he2 ?_
      simp only [if_true]
      exact hE
    | false =>
      obtain ⟨out, q, hq, ho, hE⟩ := join false
      refine ⟨out, q, hq, ho, ev_s ?_⟩
      simp only [spec_l20Rel.l0, if_pos (show ((d + 1 : Nat) : Int) > 0 by omega)]
      refine Ev.bind he1 ?_
      refine Ev.bind he2 ?_
      simp only [Bool.false_eq_true, if_false]
      exact hE
  | zero =>
    intro p x hp hx hpos
    obtain ⟨o, q, hq, he⟩ := odd_ev b hb p (by omega) n hn
    cases o with
    | false =>
      refine ⟨x, q, by omega, by omega, ev_s ?_⟩
      simp only [spec_l20Rel.l0, if_neg (show ¬ (((0 : Nat) : Int) > 0) by omega)]
      refine Ev.bind he ?_
      simp only [Bool.false_eq_true, if_false]
      exact Ev.now _
    | true =>
      obtain ⟨v, _, _, he1⟩ := pick_ev b hb q (by omega) 3
      by_cases h0 : v = 0
      · subst h0
        refine ⟨[], q + 1, by omega, by simp, ev_s ?_⟩
        simp only [spec_l20Rel.l0, if_neg (show ¬ (((0 : Nat) : Int) > 0) by omega)]
        refine Ev.bind he ?_
        simp only [if_true]
        refine Ev.bind he1 ?_
        simp only [if_true]
        exact Ev.now _
      · by_cases h1 : v = 1
        · subst h1
          refine ⟨List.replicate 13 0, q + 1, by omega, by simp, ev_s ?_⟩
          simp only [spec_l20Rel.l0, if_neg (show ¬ (((0 : Nat) : Int) > 0) by omega)]
          refine Ev.bind he ?_
          simp only [if_true]
          refine Ev.bind he1 ?_
          simp only [if_neg h0, if_true, if_pos (show 13 ≤ 35184372088832 by decide)]
          exact Ev.now _
        · obtain ⟨u, hu0, hu1, he2⟩ := pick_ev b hb (q + 1) (by omega) 2
          refine ⟨x.set (0 : Int).toNat (rd [(-1), shl .i64 1 (dots : Int)] u), q + 1 + 1, by omega, by simp; omega, ev_s ?_⟩
          simp only [spec_l20Rel.l0, if_neg (show ¬ (((0 : Nat) : Int) > 0) by omega)]
          refine Ev.bind he ?_
          simp only [if_true]
          refine Ev.bind he1 ?_
          simp only [if_neg h0, if_neg h1, if_pos (show (0 : Int) ≤ (dots : Int) by omega), Option.bind_some]
          refine Ev.bind he2 ?_
          simp only [if_pos hu0, if_pos (show u < (([(-1), shl .i64 1 (dots : Int)] : List Int).length : Int) by simp; omega), if_pos (show (0 : Int) < (x.length : Int) by omega)]
          exact Ev.now _
theorem l20Rel_ev (b : List Int) (hb : Bytes b) (p : Nat) (hp : p ≤ 100000000) (most n : Int) (hm : 1 ≤ most ∧ most ≤ 19) (hn : n ≤ 1000000) :
    ∃ (out : List Int) (q : Nat), q ≤ p + 200 ∧ out.length ≤ 20 ∧ Ev (fun k => spec_l20Rel.f k b (p : Int) most n) (out, (q : Int)) := by
  obtain ⟨v, v0, v1, he1⟩ := pick_ev b hb p (by omega) most
  obtain ⟨vn, rfl⟩ := Int.eq_ofNat_of_zero_le v0
  obtain ⟨t, t0, t1, he2⟩ := pick_ev b hb (p + 1) (by omega) 3
  have e1 : wrap64 (1 + (vn : Int)) = ((1 + vn : Nat) : Int) := by rw [wrap_in (by omega) (by omega)]; omega
  have e2 : wrap64 ((wrap64 (2 * ((1 + vn : Nat) : Int))) + 1) = ((2 * (1 + vn) + 1 : Nat) : Int) := by
    rw [wrap_in (x := 2 * ((1 + vn : Nat) : Int)) (by omega) (by omega), wrap_in (by omega) (by omega)]; omega
  obtain ⟨k, k0, k1, he3⟩ := pick_ev b hb (p + 1 + 1) (by omega) ((2 * (1 + vn) + 1 : Nat) : Int)
  obtain ⟨kn, rfl⟩ := Int.eq_ofNat_of_zero_le k0
  obtain ⟨out, q, hq, ho, hE⟩ := l20Rel_l0 b hb n (1 + vn) hn (by omega) (decide (t > 0)) kn (p + 1 + 1 + 1) (List.replicate (1 + vn) 0) (by omega) (by simp) (by
    intro y hy
    rw [List.mem_replicate] at hy
    exact ⟨0, hy.2, by decide⟩)
  refine ⟨out, q, by omega, ho, ?_⟩
  simp only [spec_l20Rel.f]
  refine Ev.bind he1 ?_
  simp only [e1, if_pos (show (0 : Int) ≤ ((1 + vn : Nat) : Int) by omega), Int.toNat_natCast, if_pos (show 1 + vn ≤ 35184372088832 by omega)]
  refine Ev.bind he2 ?_
  simp only [e2]
  refine Ev.bind he3 ?_
  exact hE

-- part: alive
theorem alive_ev : Ev (fun k => laws_alive.f k) true := Ev.of laws_alive.mono (k := 20) (by decide +kernel)

-- part: walkSnoc
theorem walk_snoc (l : List Int) : ∀ n S, walk l (n + 1) S = after l (walk l n S)
  | 0, _ => rfl
  | n + 1, S => walk_snoc l n (after l S)

-- part: law_FnWalksTo
theorem walks_l1 {l : List Int} (h : relOk l = true) (p s : Int) (S N : Nat) (hS : S < 2 ^ l.length) (j : Nat) (hj : j < l.length) (r : Bool) : ∀ (d k : Nat) (b : Bool), k + d = l.length →
    Ev (fun n => laws_FnWalksTo.l1 n l p s (S : Int) (N : Int) (j : Int) (b || (afterF l S d k 0).testBit j) (l.length : Int)) r →
    Ev (fun n => laws_FnWalksTo.l1 n l p s (S : Int) (N : Int) (j : Int) b (k : Int)) r := by
  have hl := rel_len h
  intro d
  induction d with
  | zero =>
    intro k b hk hc
    rw [show k = l.length by omega]
    simpa [afterF] using hc
  | succ d ih =>
    intro k b hk hc
    refine ev_s ?_
    simp only [laws_FnWalksTo.l1, if_pos (show (k : Int) < (l.length : Int) by omega), if_pos (show (0 : Int) ≤ (k : Int) by omega), if_pos (show (0 : Int) ≤ (j : Int) by omega), bit_mod S k (by omega), rel_rd h k (by omega), bit_mod (R l k) j (by omega), show wrap64 ((k : Int) + 1) = ((k + 1 : Nat) : Int) by rw [wrap_in (by omega) (by omega)]; rfl]
    have key : (afterF l S (d + 1) k 0).testBit j = ((S.testBit k && (R l k).testBit j) || (afterF l S d (k + 1) 0).testBit j) := by
      rw [Bool.eq_iff_iff, Bool.or_eq_true, Bool.and_eq_true, afterF_bit, afterF_bit]
      constructor
      · rintro (h0 | ⟨m, h1, h2, h3, h4⟩)
        · simp at h0
        · by_cases hm : m = k
          · subst hm; exact .inl ⟨h3, h4⟩
          · exact .inr (.inr ⟨m, by omega, by omega, h3, h4⟩)
      · rintro (⟨h3, h4⟩ | h0 | ⟨m, h1, h2, h3, h4⟩)
        · exact .inr ⟨k, by omega, by omega, h3, h4⟩
        · simp at h0
        · exact .inr ⟨m, by omega, by omega, h3, h4⟩
    rw [key] at hc
    cases b with
    | true =>
      simp only [if_true]
      refine ih (k + 1) true (by omega) ?_
      simpa using hc
    | false =>
      simp only [Bool.false_eq_true, if_false]
      cases hb1 : S.testBit k with
      | true =>
        simp only [if_true]
        refine ih (k + 1) _ (by omega) ?_
        rw [hb1] at hc
        cases hb2 : (R l k).testBit j with
        | true => rw [hb2] at hc; simpa using hc
        | false => rw [hb2] at hc; simpa using hc
      | false =>
        simp only [Bool.false_eq_true, if_false, if_neg (show ¬ ((0 : Int) = 1) by decide)]
        refine ih (k + 1) false (by omega) ?_
        rw [hb1] at hc
        simpa using hc
theorem walks_end {l : List Int} (h : relOk l = true) (p : Nat) (hp : p < l.length) (s N x : Int) (S : Nat) (hS : S < 2 ^ l.length) : Ev (fun n => laws_FnWalksTo.j1 n l (p : Int) s (S : Int) N x false) true := by
  have hl := rel_len h
  refine ev_s ?_
  simp only [laws_FnWalksTo.j1, Bool.false_eq_true, if_false, shl_one l.length (by omega), if_pos (show (S : Int) < ((2 ^ l.length : Nat) : Int) by omega), if_pos (show (0 : Int) ≤ (p : Int) by omega), shl_one p (by omega)]
  refine Ev.bind (ev_eq (impl_WalksTo_ev l (by omega) (p : Int) 0) (walksTo_in h p 0 hp (by omega))) ?_
  simp only [walk, beq_self_eq_true]
  exact Ev.now _
theorem walks_l0 {l : List Int} (h : relOk l = true) (p : Nat) (hp : p < l.length) (s : Nat) (hs : s < 99) (S : Nat) (hS : S < 2 ^ l.length) : ∀ (d j : Nat), j + d = l.length → Ev (fun n => laws_FnWalksTo.l0 n l (p : Int) (s : Int) (S : Int) ((after l S : Nat) : Int) (j : Int)) true := by
  have hl := rel_len h
  intro d
  induction d with
  | zero =>
    intro j hj
    refine ev_s ?_
    simp only [laws_FnWalksTo.l0, if_neg (show ¬ ((j : Int) < (l.length : Int)) by omega)]
    exact walks_end h p hp _ _ _ S hS
  | succ d ih =>
    intro j hj
    refine ev_s ?_
    simp only [laws_FnWalksTo.l0, if_pos (show (j : Int) < (l.length : Int) by omega), decide_eq_true (show (s : Int) < 99 by omega)]
    refine ev_s ?_
    simp only [laws_FnWalksTo.j1, if_true]
    refine walks_l1 h (p : Int) (s : Int) S (after l S) hS j (by omega) true l.length 0 false (by omega) ?_
    refine ev_s ?_
    simp only [laws_FnWalksTo.l1, if_neg (show ¬ ((l.length : Int) < (l.length : Int)) by omega), if_pos (show (0 : Int) ≤ (j : Int) by omega), bit_mod (after l S) j (by omega), Bool.false_or, show wrap64 ((j : Int) + 1) = ((j + 1 : Nat) : Int) by rw [wrap_in (by omega) (by omega)]; rfl]
    have : ((afterF l S l.length 0 0).testBit j != ((if (after l S).testBit j = true then (1 : Int) else 0) == 1)) = false := by
      show ((after l S).testBit j != _) = false
      cases (after l S).testBit j <;> rfl
    simp only [this, Bool.false_eq_true, if_false]
    exact ih (j + 1) (by omega)
theorem draw_walks (l0 : List Int) (hw : ∀ x ∈ l0, (Lit.int .u8 x).wf = true) (b : List Int) (hby : Bytes b) (ho : spec_l20Open.f l0 = some (b, ((0 : Nat) : Int))) (l : List Int) (q : Nat) (hq : q ≤ 1000) (hE : Ev (fun k => spec_l20Rel.f k b ((0 : Nat) : Int) 7 12) (l, (q : Int))) :
    ∃ p s : Int, Ev (fun k => spec_DrawWalksTo.f k l0) (l, p, s) := by
  obtain ⟨n1, h1⟩ : ∃ n : Int, n = wrap64 ((l.length : Int) + 1) := ⟨_, rfl⟩
  obtain ⟨v1, _, _, e1⟩ := pick_ev b hby q (by omega) n1
  obtain ⟨v2, _, _, e2⟩ := pick_ev b hby (q + 1) (by omega) 20
  obtain ⟨v3, _, _, e3⟩ := pick_ev b hby (q + 1 + 1) (by omega) 9
  obtain ⟨v4, _, _, e4⟩ := pick_ev b hby (q + 1 + 1 + 1) (by omega) 30
  obtain ⟨v5, _, _, e5⟩ := pick_ev b hby (q + 1 + 1 + 1 + 1) (by omega) 30
  have hd : Ev (fun k => spec_DrawWalksTo.f k l0) (l, wrap64 (v1 - (wrap64 (Int.tdiv v2 19))), wrap64 ((wrap64 (v3 + (wrap64 ((wrap64 (Int.tdiv v4 29)) * 99)))) - (wrap64 ((wrap64 (Int.tdiv v5 29)) * 9)))) := by
    unfold spec_DrawWalksTo.f
    refine Ev.bind (ev_const ho) ?_
    refine Ev.bind hE ?_
    rw [h1] at e1
    refine Ev.bind e1 ?_
    refine Ev.bind e2 ?_
    refine Ev.bind e3 ?_
    refine Ev.bind e4 ?_
    refine Ev.bind e5 ?_
    exact Ev.now _
  exact ⟨_, _, hd⟩
theorem FnWalksTo : laws_FnWalksTo.Pure := by
  intro l0 _ _ hw
  refine Ev.rounds ?_
  simp only [laws_FnWalksTo.f]
  by_cases hb : (l0.length : Int) > 1048576
  · simp only [if_pos hb]; exact Ev.now _
  · simp only [if_neg hb]
    obtain ⟨b, hby, ho⟩ := open_ev l0 hw
    obtain ⟨l, q, hq, hl, hE⟩ := l20Rel_ev b hby 0 (by omega) 7 12 (by omega) (by omega)
    obtain ⟨p, s, hd⟩ := draw_walks l0 hw b hby ho l q (by omega) hE
    refine Ev.bind hd ?_
    refine Ev.bind (impl_WalksTo_ev l (by omega) p s) ?_
    refine Ev.bind (spec_WalksTo_ev l (by omega) p s) ?_
    simp only [if_true]
    by_cases hc : relOk l = true ∧ 0 ≤ p ∧ p < (l.length : Int) ∧ 0 ≤ s ∧ s ≤ 99
    · obtain ⟨h, p0, p1, s0, s1⟩ := hc
      obtain ⟨pn, rfl⟩ := Int.eq_ofNat_of_zero_le p0
      obtain ⟨sn, rfl⟩ := Int.eq_ofNat_of_zero_le s0
      have hpn : pn < l.length := by omega
      have hS : walk l sn (2 ^ pn) < 2 ^ l.length := walk_lt h sn _ (Nat.pow_lt_pow_right (by decide) hpn)
      simp only [walksTo_in h pn sn hpn (by omega), if_neg (show ¬ (((walk l sn (2 ^ pn) : Nat) : Int) < 0) by omega), show wrap64 ((sn : Int) + 1) = ((sn + 1 : Nat) : Int) by rw [wrap_in (by omega) (by omega)]; rfl]
      refine Ev.bind (impl_WalksTo_ev l (by omega) (pn : Int) ((sn + 1 : Nat) : Int)) ?_
      by_cases h99 : sn < 99
      · simp only [walksTo_in h pn (sn + 1) hpn (by omega), walk_snoc]
        exact walks_l0 h pn hpn sn h99 _ hS l.length 0 (by omega)
      · refine ev_s ?_
        have hlen := rel_len h
        simp only [laws_FnWalksTo.l0, if_pos (show (0 : Int) < (l.length : Int) by omega), decide_eq_false (show ¬ ((sn : Int) < 99) by omega)]
        exact walks_end h pn hpn _ _ _ _ hS
    · simp only [walksTo, if_neg hc, if_pos (show (-1 : Int) < 0 by decide), if_true]
      refine Ev.bind alive_ev ?_
      exact Ev.now _

end Go.Proofs.Ytclapemogefepaa.Pure

/- The law FnRelValid returns true for every input that the statement lets in; no condition of our own. -/
import Derived.Test.YtclapemogefepaaQx3
import Derived.Test.YtclapemogefepaaWSized
namespace Go.Proofs.Ytclapemogefepaa
open Go.ChangeShapes Go.WideShapes in
/-- The printed row names this word of the seat's without its first part. -/
theorem PrintWords.sized_ints {H : Type} {enc : TypeId × Value → H} {P : Program} {W : World} {base : Nat} {spare : Nat → Bool} {held : Bool} {t e : TypeId} {k : IntKind} {a : Option Addr} {len cap : Nat} {d : DataW H} {ps : List MemPlace} {ts : List TypeId} {ds : List (DataW H)} {j : Nat}
    (hsz : (DataW.weightsEach P ts ds).all (· ≤ reachBytes) = true) (ht : ts[j]? = some t) (hd : ds[j]? = some d) (hu : P.underlying t = some (.slice e)) (he : P.underlying e = some (.int k)) (hc : P.cellsOf e = 1) {B : Nat} (hB : P.bytesOf e = B)
    (h : DataW.Trod enc P W base spare held t (.slice a len cap) d ps) : len * B ≤ 140737488351232 :=
  Go.Proofs.YtclapemogefepaaW.PrintWords.sized_ints hsz ht hd hu he hc hB h
end Go.Proofs.Ytclapemogefepaa
namespace Go.Proofs.Ytclapemogefepaa.Pure
open Go.RowKit Go.Proofs.Ytclapemogefepaa.Q Go.Proofs.YtclapemogefepaaW.PrintWords Go.Proofs.YtclapemogefepaaW.PrintLast
set_option linter.unusedVariables false
set_option linter.unusedSimpArgs false

-- part: base
/-! ### words of mine -/
theorem ev_s {α : Type} {g : Nat → Option α} {r : α} (h : Ev (fun k => g (k + 1)) r) : Ev g r := Ev.step (fun _ => rfl) h
theorem ev_eq {α : Type} {g : Nat → Option α} {r q : α} (h : Ev g r) (e : r = q) : Ev g q := e ▸ h
theorem ev_now {α : Type} {r q : α} (e : r = q) : Ev (fun _ => some r) q := e ▸ Ev.now r
theorem wrap_in {x : Int} (h0 : -9223372036854775808 ≤ x) (h1 : x ≤ 9223372036854775807) : wrap64 x = x := by unfold wrap64; omega
theorem rd_eq (xs : List Int) (i : Nat) : rd xs (i : Int) = xs.getD i 0 := by simp [rd]
theorem rd_get {xs : List Int} {i : Nat} (h : i < xs.length) : rd xs (i : Int) = xs[i] := by simp [rd, h]
theorem wrap_nat2 (a b : Nat) (h : a + b < 4611686018427387904) : wrap64 ((a : Int) + (b : Int)) = ((a + b : Nat) : Int) := by rw [wrap_in (by omega) (by omega)]; omega
theorem ev_const {α : Type} {x : Option α} {a : α} (h : x = some a) : Ev (fun _ => x) a := by subst h; exact Ev.now a

-- part: bits
/-! ### sets as bits -/
theorem i64_wrap_nat (n : Nat) (h : n < 2 ^ 63) : IntKind.i64.wrap (n : Int) = (n : Int) := by rw [IntKind.wrap_i64]; omega
theorem mod64 {a : Nat} (ha : a < 2 ^ 62) : a % 2 ^ IntKind.i64.bits = a := Nat.mod_eq_of_lt (Nat.lt_of_lt_of_le ha (by decide))
theorem or_nat (a b : Nat) (ha : a < 2 ^ 62) (hb : b < 2 ^ 62) : Go.bits .or .i64 (a : Int) (b : Int) = ((a ||| b : Nat) : Int) := by
  simp only [bits, BitVec.ofInt_natCast, BitVec.toNat_or, BitVec.toNat_ofNat, mod64 ha, mod64 hb]
  exact i64_wrap_nat _ (Nat.lt_of_lt_of_le (Nat.or_lt_two_pow ha hb) (by decide))
theorem and_nat (a b : Nat) (ha : a < 2 ^ 62) (hb : b < 2 ^ 62) : Go.bits .and .i64 (a : Int) (b : Int) = ((a &&& b : Nat) : Int) := by
  simp only [bits, BitVec.ofInt_natCast, BitVec.toNat_and, BitVec.toNat_ofNat, mod64 ha, mod64 hb]
  exact i64_wrap_nat _ (Nat.lt_of_lt_of_le (Nat.and_lt_two_pow _ hb) (by decide))
theorem andNot_zero (a b : Nat) (ha : a < 2 ^ 62) (hb : b < 2 ^ 62) : Go.bits .andNot .i64 (a : Int) (b : Int) = 0 ↔ ∀ i, a.testBit i = true → b.testBit i = true := by
  have e : (BitVec.ofNat IntKind.i64.bits a &&& ~~~ BitVec.ofNat IntKind.i64.bits b).toNat = a &&& (a ^^^ b) := by
    apply Nat.eq_of_testBit_eq
    intro i
    rw [BitVec.testBit_toNat, BitVec.getLsbD_and, BitVec.getLsbD_not, BitVec.getLsbD_ofNat, BitVec.getLsbD_ofNat, Nat.testBit_and, Nat.testBit_xor]
    by_cases hi : i < IntKind.i64.bits
    · simp only [hi, decide_true, Bool.true_and]
      cases a.testBit i <;> cases b.testBit i <;> rfl
    · have h1 : a.testBit i = false := Nat.testBit_lt_two_pow (Nat.lt_of_lt_of_le ha (Nat.pow_le_pow_right (by decide) (by simp [IntKind.bits] at hi; omega)))
      simp [hi, h1]
  have hlt : a &&& (a ^^^ b) < 2 ^ 62 := Nat.and_lt_two_pow _ (Nat.xor_lt_two_pow ha hb)
  have e2 : Go.bits .andNot .i64 (a : Int) (b : Int) = ((a &&& (a ^^^ b) : Nat) : Int) := by
    simp only [bits, BitVec.ofInt_natCast]
    rw [e]
    exact i64_wrap_nat _ (Nat.lt_of_lt_of_le hlt (by decide))
  rw [e2]
  constructor
  · intro h i hi
    have h0 : a &&& (a ^^^ b) = 0 := by exact_mod_cast h
    have := congrArg (fun z => Nat.testBit z i) h0
    simp only [Nat.testBit_and, Nat.testBit_xor, hi, Nat.zero_testBit, Bool.true_and] at this
    cases hb' : b.testBit i with
    | true => rfl
    | false => rw [hb'] at this; simp at this
  · intro h
    have h0 : a &&& (a ^^^ b) = 0 := by
      apply Nat.eq_of_testBit_eq
      intro i
      rw [Nat.testBit_and, Nat.testBit_xor, Nat.zero_testBit]
      cases ha' : a.testBit i with
      | false => rfl
      | true => rw [h i ha']; rfl
    rw [h0]; rfl
theorem shr_nat (s n : Nat) (hn : n < 64) : shr .i64 (s : Int) (n : Int) = ((s >>> n : Nat) : Int) := by
  unfold shr
  rw [Int.toNat_natCast, Nat.min_eq_left (by simp [IntKind.bits]; omega), Nat.shiftRight_eq_div_pow]
  exact_mod_cast rfl
theorem shl_nat (s n : Nat) (hn : n < 64) (h : s * 2 ^ n < 2 ^ 63) : shl .i64 (s : Int) (n : Int) = ((s * 2 ^ n : Nat) : Int) := by
  unfold shl
  rw [Int.toNat_natCast, Nat.min_eq_left (by simp [IntKind.bits]; omega)]
  have := i64_wrap_nat (s * 2 ^ n) h
  rw [← this]
  congr 1
theorem shl_one (n : Nat) (hn : n < 62) : shl .i64 1 (n : Int) = ((2 ^ n : Nat) : Int) := by
  have h2 : 2 ^ n < 2 ^ 62 := Nat.pow_lt_pow_right (by decide) hn
  have h3 : (2 : Nat) ^ 62 < 2 ^ 63 := by decide
  have := shl_nat 1 n (by omega) (by omega)
  rw [Nat.one_mul] at this
  exact this
theorem bit_and (s n : Nat) (hs : s < 2 ^ 62) (hn : n < 64) : Go.bits .and .i64 (shr .i64 (s : Int) (n : Int)) 1 = if s.testBit n = true then 1 else 0 := by
  have hle : s >>> n ≤ s := by rw [Nat.shiftRight_eq_div_pow]; exact Nat.div_le_self _ _
  rw [shr_nat s n hn]
  have := and_nat (s >>> n) 1 (by omega) (by decide)
  rw [show ((1 : Nat) : Int) = 1 from rfl] at this
  rw [this, Nat.testBit_eq_decide_div_mod_eq, Nat.shiftRight_eq_div_pow, Nat.and_one_is_mod]
  have h2 : s / 2 ^ n % 2 < 2 := Nat.mod_lt _ (by decide)
  by_cases h : s / 2 ^ n % 2 = 1
  · simp [h]
  · simp [show s / 2 ^ n % 2 = 0 by omega]
theorem testBit_shift (s n : Nat) : s.testBit n = decide ((s >>> n) % 2 = 1) := by rw [Nat.testBit_eq_decide_div_mod_eq, Nat.shiftRight_eq_div_pow]
theorem bit_mod (s n : Nat) (hn : n < 64) : Int.tmod (shr .i64 (s : Int) (n : Int)) 2 = if s.testBit n = true then 1 else 0 := by
  rw [shr_nat s n hn, testBit_shift]
  generalize s >>> n = x
  rw [Int.tmod_eq_emod_of_nonneg (Int.natCast_nonneg _)]
  by_cases h : x % 2 = 1
  · simp only [h, decide_true, if_true]; omega
  · simp only [h, decide_false, Bool.false_eq_true, if_false]; omega
theorem add_bit (s j : Nat) (h : s.testBit j = false) : s + 2 ^ j = s ||| 2 ^ j := by
  have h1 : s % 2 ^ (j + 1) < 2 ^ j := by
    rw [Nat.mod_pow_succ]
    rw [Nat.testBit_eq_decide_div_mod_eq] at h
    have h2 : s / 2 ^ j % 2 < 2 := Nat.mod_lt _ (by decide)
    rw [show s / 2 ^ j % 2 = 0 by simp at h; omega]
    simpa using Nat.mod_lt s (Nat.two_pow_pos j)
  have h2 : s = 2 ^ (j + 1) * (s / 2 ^ (j + 1)) + s % 2 ^ (j + 1) := (Nat.div_add_mod _ _).symm
  have hp : 2 ^ (j + 1) = 2 * 2 ^ j := by rw [Nat.pow_succ, Nat.mul_comm]
  have h3 : s % 2 ^ (j + 1) + 2 ^ j < 2 ^ (j + 1) := by omega
  have h4 : s % 2 ^ (j + 1) < 2 ^ (j + 1) := by omega
  generalize s / 2 ^ (j + 1) = a at *
  generalize s % 2 ^ (j + 1) = b at *
  rw [h2, Nat.add_assoc, Nat.two_pow_add_eq_or_of_lt h3, Nat.two_pow_add_eq_or_of_lt h4, Nat.or_assoc]
  congr 1
  have := Nat.two_pow_add_eq_or_of_lt h1 1
  rw [Nat.mul_one] at this
  rw [Nat.add_comm, this, Nat.or_comm]
theorem testBit_or_two_pow (s j i : Nat) : (s ||| 2 ^ j).testBit i = (s.testBit i || decide (j = i)) := by
  rw [Nat.testBit_or, Nat.testBit_two_pow]
theorem or_lt {a b n : Nat} (ha : a < 2 ^ n) (hb : b < 2 ^ n) : a ||| b < 2 ^ n := Nat.or_lt_two_pow ha hb
theorem testBit_lt {a n i : Nat} (ha : a < 2 ^ n) (h : a.testBit i = true) : i < n := by
  rcases Nat.lt_or_ge i n with hi | hi
  · exact hi
  · rw [Nat.testBit_lt_two_pow (Nat.lt_of_lt_of_le ha (Nat.pow_le_pow_right (by decide) hi))] at h; cases h

-- part: l1In
theorem l1In_eq (n lo hi : Int) : spec_l1In.f n lo hi = some (decide (lo ≤ n ∧ n ≤ hi)) := by
  unfold spec_l1In.f
  by_cases h : n ≥ lo
  · rw [if_pos h]; simp [show lo ≤ n from h]
  · rw [if_neg h]; simp [show ¬ lo ≤ n from h]

-- part: RelValid
/-- What both of them say. -/
def relOk (l : List Int) : Bool := decide (1 ≤ l.length ∧ l.length ≤ 12) && l.all (fun x => decide (0 ≤ x ∧ x < ((2 ^ l.length : Nat) : Int)))
theorem all_drop {l : List Int} {p : Int → Bool} {i : Nat} (h : i < l.length) : (l.drop i).all p = (p l[i] && (l.drop (i + 1)).all p) := by
  rw [List.drop_eq_getElem_cons h]; rfl
theorem pow_le (n : Nat) (h : n ≤ 12) : 2 ^ n ≤ 4096 := Nat.le_trans (Nat.pow_le_pow_right (by decide) h) (by decide)
theorem spec_RelValid_l0 (l : List Int) (hb : l.length ≤ 140737488351232) : ∀ (d i : Nat), i + d = l.length → Ev (fun k => spec_RelValid.l0 k l i) ((l.drop i).all (fun x => decide (0 ≤ x ∧ x ≤ wrap64 ((wrap64 (2 ^ (mn (l.length : Int) 12).toNat)) - 1))) && decide (1 ≤ l.length ∧ l.length ≤ 12)) := by
  intro d
  induction d with
  | zero =>
    intro i h
    refine ev_s ?_
    simp only [spec_RelValid.l0, l1In_eq, Option.bind_some, if_neg (show ¬ ((i : Int) < (l.length : Int)) by omega)]
    rw [List.drop_of_length_le (by omega)]
    refine ev_now ?_
    simp only [List.all_nil, Bool.true_and]
    exact decide_eq_decide.mpr (by omega)
  | succ d ih =>
    intro i h
    refine ev_s ?_
    simp only [spec_RelValid.l0, l1In_eq, Option.bind_some, if_pos (show (i : Int) < (l.length : Int) by omega), if_pos (show (0 : Int) ≤ (i : Int) by omega), show wrap64 ((i : Int) + 1) = ((i + 1 : Nat) : Int) by rw [wrap_in (by omega) (by omega)]; rfl]
    rw [rd_get (show i < l.length by omega), all_drop (by omega)]
    by_cases hc : 0 ≤ l[i] ∧ l[i] ≤ wrap64 ((wrap64 (2 ^ (mn (l.length : Int) 12).toNat)) - 1)
    · simp only [decide_eq_true hc, Bool.true_and, if_true]
      exact ih (i + 1) (by omega)
    · simp only [decide_eq_false hc, Bool.false_and, Bool.false_eq_true, if_false]
      exact Ev.now _
theorem spec_RelValid_ev (l : List Int) (hb : l.length ≤ 140737488351232) : Ev (fun k => spec_RelValid.f k l) (relOk l) := by
  refine ev_eq (spec_RelValid_l0 l hb l.length 0 (by omega)) ?_
  unfold relOk
  by_cases h : 1 ≤ l.length ∧ l.length ≤ 12
  · have hp := pow_le l.length h.2
    have h0 : 1 ≤ 2 ^ l.length := Nat.one_le_two_pow
    have e : wrap64 ((wrap64 (2 ^ (mn (l.length : Int) 12).toNat)) - 1) = ((2 ^ l.length : Nat) : Int) - 1 := by
      have : mn (l.length : Int) 12 = (l.length : Int) := by unfold mn; split <;> omega
      rw [this, Int.toNat_natCast]
      have e2 : (2 : Int) ^ l.length = ((2 ^ l.length : Nat) : Int) := by exact_mod_cast rfl
      rw [e2, wrap_in (x := ((2 ^ l.length : Nat) : Int)) (by omega) (by omega), wrap_in (by omega) (by omega)]
    simp only [decide_eq_true h, Bool.true_and, Bool.and_true, List.drop_zero, e]
    congr 1
    funext x
    exact decide_eq_decide.mpr (by omega)
  · simp [decide_eq_false h]
theorem impl_RelValid_l0 (l : List Int) (hb : l.length ≤ 140737488351232) : ∀ (d i : Nat), i + d = l.length → Ev (fun k => impl_RelValid.l0 k l l (l.length : Int) i) ((l.drop i).all (fun x => decide (0 ≤ x ∧ x < shl .i64 1 (l.length : Int))) && decide (1 ≤ l.length ∧ l.length ≤ 12)) := by
  intro d
  induction d with
  | zero =>
    intro i h
    refine ev_s ?_
    simp only [impl_RelValid.l0, if_neg (show ¬ ((i : Int) < (l.length : Int)) by omega)]
    rw [List.drop_of_length_le (by omega)]
    simp only [List.all_nil, Bool.true_and]
    by_cases hc : (l.length : Int) ≥ 1
    · simp only [if_pos hc]
      exact ev_now (decide_eq_decide.mpr (by omega))
    · simp only [if_neg hc]
      exact ev_now (decide_eq_false (by omega)).symm
  | succ d ih =>
    intro i h
    refine ev_s ?_
    simp only [impl_RelValid.l0, if_pos (show (i : Int) < (l.length : Int) by omega), if_pos (show (0 : Int) ≤ (i : Int) by omega), show wrap64 ((i : Int) + 1) = ((i + 1 : Nat) : Int) by rw [wrap_in (by omega) (by omega)]; rfl]
    rw [rd_get (show i < l.length by omega), all_drop (by omega)]
    by_cases h1 : l[i] < 0
    · simp only [if_pos h1, decide_eq_false (show ¬ (0 ≤ l[i] ∧ l[i] < shl .i64 1 (l.length : Int)) by omega), Bool.false_and]
      exact Ev.now _
    · by_cases h2 : l[i] ≥ shl .i64 1 (l.length : Int)
      · simp only [if_neg h1, if_pos h2, decide_eq_false (show ¬ (0 ≤ l[i] ∧ l[i] < shl .i64 1 (l.length : Int)) by omega), Bool.false_and]
        exact Ev.now _
      · simp only [if_neg h1, if_neg h2, decide_eq_true (show (0 ≤ l[i] ∧ l[i] < shl .i64 1 (l.length : Int)) by omega), Bool.true_and]
        exact ih (i + 1) (by omega)
theorem impl_RelValid_ev (l : List Int) (hb : l.length ≤ 140737488351232) : Ev (fun k => impl_RelValid.f k l) (relOk l) := by
  refine ev_eq (impl_RelValid_l0 l hb l.length 0 (by omega)) ?_
  unfold relOk
  by_cases h : 1 ≤ l.length ∧ l.length ≤ 12
  · simp only [decide_eq_true h, Bool.true_and, Bool.and_true, List.drop_zero, shl_one l.length (by omega)]
  · simp [decide_eq_false h]

-- part: l7Bit
theorem l7Bit_eq (s n : Nat) (hn : n < 64) : spec_l7Bit.f (s : Int) (n : Int) = some (if s.testBit n = true then 1 else 0) := by
  unfold spec_l7Bit.f
  rw [if_pos (by omega), bit_mod s n hn]

-- part: draw
/-! ### the reader of a code -/
def Bytes (b : List Int) : Prop := b.length ≤ 2000 ∧ ∀ x ∈ b, 0 ≤ x ∧ x ≤ 255
theorem u8_of_wf {x : Int} (h : (Lit.int .u8 x).wf = true) : 0 ≤ x ∧ x ≤ 255 := by
  simp [Lit.wf, IntKind.min, IntKind.max, IntKind.bits, IntKind.signed] at h
  omega
theorem open_ev (l : List Int) (h : ∀ x ∈ l, (Lit.int .u8 x).wf = true) : ∃ b, Bytes b ∧ spec_l20Open.f l = some (b, ((0 : Nat) : Int)) := by
  have h' : ∀ x ∈ l, 0 ≤ x ∧ x ≤ 255 := fun x hx => u8_of_wf (h x hx)
  unfold spec_l20Open.f
  by_cases hl : (l.length : Int) > 2000
  · rw [if_pos hl, if_pos (by omega)]
    exact ⟨l.take 2000, ⟨by simp; omega, fun x hx => h' x (List.mem_of_mem_take hx)⟩, rfl⟩
  · rw [if_neg hl]
    exact ⟨l, ⟨by omega, h'⟩, rfl⟩
theorem rd_byte {b : List Int} (hb : Bytes b) {i : Int} (h0 : 0 ≤ i) (h1 : i < (b.length : Int)) : 0 ≤ rd b i ∧ rd b i ≤ 255 := by
  obtain ⟨n, rfl⟩ := Int.eq_ofNat_of_zero_le h0
  rw [rd_get (show n < b.length by omega)]
  exact hb.2 _ (List.getElem_mem _)
theorem wraps_i64 (n : Int) (h0 : 0 ≤ n) (h1 : n < 2 ^ 62) : IntKind.i64.wrap n = n := by rw [IntKind.wrap_i64]; omega
theorem xor_pos (a b : Nat) (ha : a < 2 ^ 62) (hb : b < 2 ^ 62) : Go.bits .xor .i64 (a : Int) (b : Int) = ((a ^^^ b : Nat) : Int) := by
  have ha' : a % 2 ^ IntKind.i64.bits = a := Nat.mod_eq_of_lt (Nat.lt_of_lt_of_le ha (by decide))
  have hb' : b % 2 ^ IntKind.i64.bits = b := Nat.mod_eq_of_lt (Nat.lt_of_lt_of_le hb (by decide))
  simp only [bits, BitVec.ofInt_natCast, BitVec.toNat_xor, BitVec.toNat_ofNat, ha', hb']
  exact wraps_i64 _ (Int.natCast_nonneg _) (by exact_mod_cast Nat.xor_lt_two_pow ha hb)
theorem pick_sum (r1 r2 p t : Int) (h1 : 0 ≤ r1 ∧ r1 ≤ 255) (h2 : 0 ≤ r2 ∧ r2 ≤ 255) (hp : 0 ≤ p ∧ p ≤ 1000000000000) (ht : 0 ≤ t ∧ t ≤ 1000000000000) :
    wrap64 ((wrap64 ((wrap64 ((wrap64 ((wrap64 r1) * 131)) + (wrap64 ((wrap64 r2) * 1117)))) + (wrap64 (p * 29)))) + (wrap64 ((wrap64 t) * 53))) = r1 * 131 + r2 * 1117 + p * 29 + t * 53 := by
  rw [wrap_in (x := r1) (by omega) (by omega), wrap_in (x := r2) (by omega) (by omega), wrap_in (x := t) (by omega) (by omega), wrap_in (x := r1 * 131) (by omega) (by omega), wrap_in (x := r2 * 1117) (by omega) (by omega), wrap_in (x := p * 29) (by omega) (by omega), wrap_in (x := t * 53) (by omega) (by omega), wrap_in (x := r1 * 131 + r2 * 1117) (by omega) (by omega), wrap_in (x := r1 * 131 + r2 * 1117 + p * 29) (by omega) (by omega), wrap_in (by omega) (by omega)]
theorem pick_mod (x n : Int) (hx : 0 ≤ x) (hn : 0 < n) : 0 ≤ Int.tmod x n ∧ Int.tmod x n < n := by
  rw [Int.tmod_eq_emod_of_nonneg hx]
  exact ⟨Int.emod_nonneg _ (by omega), Int.emod_lt_of_pos _ hn⟩
theorem pick_ev (b : List Int) (hb : Bytes b) (p : Nat) (hp : p ≤ 100000000000) (n : Int) : ∃ v : Int, 0 ≤ v ∧ (v < n ∨ v = 0) ∧ Ev (fun k => spec_l20Rd_pick.f k b (p : Int) n) (v, ((p + 1 : Nat) : Int)) := by
  have e1 : wrap64 ((p : Int) + 1) = ((p + 1 : Nat) : Int) := by rw [wrap_in (by omega) (by omega)]; rfl
  have e2 : wrap64 (((p + 1 : Nat) : Int) - 1) = (p : Int) := by rw [wrap_in (by omega) (by omega)]; omega
  by_cases hn : n < 1
  · refine ⟨0, Int.le_refl _, .inr rfl, ?_⟩
    simp only [spec_l20Rd_pick.f, if_pos hn, e1]
    refine ev_s ?_
    simp only [spec_l20Rd_pick.j0, if_true]
    exact Ev.now _
  · by_cases hl : b.length = 0
    · refine ⟨0, Int.le_refl _, .inr rfl, ?_⟩
      simp only [spec_l20Rd_pick.f, if_neg hn, e1, hl]
      refine ev_s ?_
      simp only [spec_l20Rd_pick.j0]
      exact Ev.now _
    · by_cases hlt : (p : Int) < (b.length : Int)
      · have hby := rd_byte hb (show (0 : Int) ≤ (p : Int) by omega) hlt
        have hm := pick_mod (rd b p) n hby.1 (by omega)
        refine ⟨Int.tmod (rd b p) n, hm.1, .inl hm.2, ?_⟩
        simp only [spec_l20Rd_pick.f, if_neg hn, e1, show ((b.length : Int) == 0) = false by simp; exact fun h => hl (by rw [h]; rfl)]
        refine ev_s ?_
        simp only [spec_l20Rd_pick.j0, Bool.false_eq_true, if_false, e2, if_pos hlt, if_pos (show (0 : Int) ≤ (p : Int) by omega), if_neg (show ¬ n = 0 by omega), wrap_in (x := rd b p) (by omega) (by omega)]
        exact Ev.now _
      · have hl0 : ¬ ((b.length : Int) = 0) := by omega
        have m1 := pick_mod (p : Int) (b.length : Int) (by omega) (by omega)
        have m2 := pick_mod ((p : Int) * 7 + 3) (b.length : Int) (by omega) (by omega)
        have b1 := rd_byte hb m1.1 m1.2
        have b2 := rd_byte hb m2.1 m2.2
        have d1 : 0 ≤ Int.tdiv (p : Int) (b.length : Int) := Int.tdiv_nonneg (by omega) (by omega)
        have d2 : Int.tdiv (p : Int) (b.length : Int) ≤ (p : Int) := Int.tdiv_le_self _ (by omega)
        have hs := pick_sum _ _ (p : Int) (Int.tdiv (p : Int) (b.length : Int)) b1 b2 (by omega) (by omega)
        obtain ⟨X, hX⟩ : ∃ X : Int, X = rd b (Int.tmod (p : Int) (b.length : Int)) * 131 + rd b (Int.tmod ((p : Int) * 7 + 3) (b.length : Int)) * 1117 + (p : Int) * 29 + Int.tdiv (p : Int) (b.length : Int) * 53 := ⟨_, rfl⟩
        rw [← hX] at hs
        have x0 : 0 ≤ X ∧ X < 20000000000000 := by omega
        have t0 : 0 ≤ Int.tdiv X 64 := Int.tdiv_nonneg (by omega) (by omega)
        have t1 : Int.tdiv X 64 ≤ X := Int.tdiv_le_self _ (by omega)
        have hbit : 0 ≤ Go.bits .xor .i64 X (Int.tdiv X 64) := by
          obtain ⟨u, hu⟩ := Int.eq_ofNat_of_zero_le x0.1
          obtain ⟨v, hv⟩ := Int.eq_ofNat_of_zero_le t0
          rw [hv, hu]
          rw [xor_pos u v (by omega) (by omega)]
          omega
        have hm := pick_mod _ n hbit (by omega)
        refine ⟨_, hm.1, .inl hm.2, ?_⟩
        simp only [spec_l20Rd_pick.f, if_neg hn, e1, show ((b.length : Int) == 0) = false by simp; exact fun h => hl (by rw [h]; rfl)]
        refine ev_s ?_
        simp only [spec_l20Rd_pick.j0, Bool.false_eq_true, if_false, e2, if_neg hlt, if_neg hl0, wrap_in (x := (p : Int) * 7) (by omega) (by omega), wrap_in (x := (p : Int) * 7 + 3) (by omega) (by omega), if_pos m1.1, if_pos m1.2, if_pos m2.1, if_pos m2.2, if_neg (show ¬ n = 0 by omega), hs, wrap_in (x := Int.tdiv X 64) (by omega) (by omega)]
        exact Ev.now _
theorem odd_ev (b : List Int) (hb : Bytes b) (p : Nat) (hp : p ≤ 100000000000) (n : Int) (hn : n ≤ 1000000) : ∃ (v : Bool) (q : Nat), q ≤ p + 1 ∧ Ev (fun k => spec_l20Rd_odd.f k b (p : Int) n) (v, (q : Int)) := by
  by_cases h : n > 0
  · obtain ⟨v, h0, h1, he⟩ := pick_ev b hb p hp n
    refine ⟨(v == wrap64 (n - 1)), p + 1, Nat.le_refl _, ?_⟩
    simp only [spec_l20Rd_odd.f, if_pos h]
    refine Ev.bind he ?_
    exact Ev.now _
  · refine ⟨false, p, by omega, ?_⟩
    simp only [spec_l20Rd_odd.f, if_neg h]
    exact Ev.now _

-- part: l20Rel
theorem l20Rel_l0 (b : List Int) (hb : Bytes b) (n : Int) (dots : Nat) (hn : n ≤ 1000000) (hd : 1 ≤ dots ∧ dots ≤ 20) (down : Bool) : ∀ (d p : Nat) (x : List Int), p + 2 * d ≤ 1000000000 → x.length = dots → (∀ y ∈ x, ∃ m : Nat, y = (m : Int) ∧ m < 2 ^ 20) →
    ∃ (out : List Int) (q : Nat), q ≤ p + 2 * d + 5 ∧ out.length ≤ 20 ∧ Ev (fun k => spec_l20Rel.l0 k n (dots : Int) x down (d : Int) b (p : Int)) (out, (q : Int)) := by
  intro d
  induction d with
  | succ d ih =>
    intro p x hp hx hpos
    obtain ⟨a, a0, a1, he1⟩ := pick_ev b hb p (by omega) (dots : Int)
    obtain ⟨c, c0, c1, he2⟩ := pick_ev b hb (p + 1) (by omega) (dots : Int)
    obtain ⟨an, rfl⟩ := Int.eq_ofNat_of_zero_le a0
    obtain ⟨cn, rfl⟩ := Int.eq_ofNat_of_zero_le c0
    have e1 : wrap64 (((d + 1 : Nat) : Int) - 1) = (d : Int) := by rw [wrap_in (by omega) (by omega)]; omega
    have step : ∀ (x' : List Int), x'.length = dots → (∀ y ∈ x', ∃ m : Nat, y = (m : Int) ∧ m < 2 ^ 20) → ∃ (out : List Int) (q : Nat), q ≤ p + 2 * (d + 1) + 5 ∧ out.length ≤ 20 ∧ Ev (fun k => spec_l20Rel.l0 k n (dots : Int) x' down (d : Int) b ((p + 1 + 1 : Nat) : Int)) (out, (q : Int)) := by
      intro x' h1 h2
      obtain ⟨out, q, hq, ho, hE⟩ := ih (p + 1 + 1) x' (by omega) h1 h2
      exact ⟨out, q, by omega, ho, hE⟩
    have join : ∀ (t : Bool), ∃ (out : List Int) (q : Nat), q ≤ p + 2 * (d + 1) + 5 ∧ out.length ≤ 20 ∧ Ev (fun k => spec_l20Rel.j1 k n (dots : Int) x down ((d + 1 : Nat) : Int) (an : Int) (cn : Int) t b ((p + 1 + 1 : Nat) : Int)) (out, (q : Int)) := by
      intro t
      cases t with
      | true =>
        obtain ⟨out, q, hq, ho, hE⟩ := step x hx hpos
        refine ⟨out, q, hq, ho, ev_s ?_⟩
        simp only [spec_l20Rel.j1, if_true, e1]
        exact hE
      | false =>
        have ha : an < x.length := by omega
        obtain ⟨rn, hrn, hlt⟩ : ∃ m : Nat, rd x (an : Int) = (m : Int) ∧ m < 2 ^ 20 := by rw [rd_get ha]; exact hpos _ (List.getElem_mem ha)
        cases hbit : rn.testBit cn with
        | true =>
          obtain ⟨out, q, hq, ho, hE⟩ := step x hx hpos
          refine ⟨out, q, hq, ho, ev_s ?_⟩
          simp only [spec_l20Rel.j1, Bool.false_eq_true, if_false, if_pos (show (0 : Int) ≤ (an : Int) by omega), if_pos (show (an : Int) < (x.length : Int) by omega), hrn, l7Bit_eq rn cn (by omega), Option.bind_some, hbit, if_true, if_neg (show ¬ ((1 : Int) = 0) by decide), e1]
          exact hE
        | false =>
          have hv : rn + 2 ^ cn < 2 ^ 20 := by rw [add_bit rn cn hbit]; exact or_lt hlt (Nat.pow_lt_pow_right (by decide) (by omega))
          obtain ⟨out, q, hq, ho, hE⟩ := step (x.set an ((rn + 2 ^ cn : Nat) : Int)) (by simpa using hx) (by
            intro y hy
            rcases List.mem_or_eq_of_mem_set hy with h | h
            · exact hpos y h
            · exact ⟨_, h, hv⟩)
          refine ⟨out, q, hq, ho, ev_s ?_⟩
          simp only [spec_l20Rel.j1, Bool.false_eq_true, if_false, if_pos (show (0 : Int) ≤ (an : Int) by omega), if_pos (show (an : Int) < (x.length : Int) by omega), hrn, l7Bit_eq rn cn (by omega), Option.bind_some, hbit, if_true, if_pos (show (0 : Int) ≤ (cn : Int) by omega), Int.toNat_natCast, shl_one cn (by omega), wrap_nat2 rn (2 ^ cn) (by omega), e1]
          exact hE
    cases down with
    | true =>
      obtain ⟨out, q, hq, ho, hE⟩ := join (decide ((an : Int) ≤ (cn : Int)))
      refine ⟨out, q, hq, ho, ev_s ?_⟩
      simp only [spec_l20Rel.l0, if_pos (show ((d + 1 : Nat) : Int) > 0 by omega)]
      refine Ev.bind he1 ?_
      refine Ev.bind he2 ?_
      simp only [if_true]
      exact hE
    | false =>
      obtain ⟨out, q, hq, ho, hE⟩ := join false
      refine ⟨out, q, hq, ho, ev_s ?_⟩
      simp only [spec_l20Rel.l0, if_pos (show ((d + 1 : Nat) : Int) > 0 by omega)]
      refine Ev.bind he1 ?_
      refine Ev.bind he2 ?_
      simp only [Bool.false_eq_true, if_false]
      exact hE
  | zero =>
    intro p x hp hx hpos
    obtain ⟨o, q, hq, he⟩ := odd_ev b hb p (by omega) n hn
    cases o with
    | false =>
      refine ⟨x, q, by omega, by omega, ev_s ?_⟩
      simp only [spec_l20Rel.l0, if_neg (show ¬ (((0 : Nat) : Int) > 0) by omega)]
      refine Ev.bind he ?_
      simp only [Bool.false_eq_true, if_false]
      exact Ev.now _
    | true =>
      obtain ⟨v, _, _, he1⟩ := pick_ev b hb q (by omega) 3
      by_cases h0 : v = 0
      · subst h0
        refine ⟨[], q + 1, by omega, by simp, ev_s ?_⟩
        simp only [spec_l20Rel.l0, if_neg (show ¬ (((0 : Nat) : Int) > 0) by omega)]
        refine Ev.bind he ?_
        simp only [if_true]
        refine Ev.bind he1 ?_
        simp only [if_true]
        exact Ev.now _
      · by_cases h1 : v = 1
        · subst h1
          refine ⟨List.replicate 13 0, q + 1, by omega, by simp, ev_s ?_⟩
          simp only [spec_l20Rel.l0, if_neg (show ¬ (((0 : Nat) : Int) > 0) by omega)]
          refine Ev.bind he ?_
          simp only [if_true]
          refine Ev.bind he1 ?_
          simp only [if_neg h0, if_true, if_pos (show 13 ≤ 35184372088832 by decide)]
          exact Ev.now _
        · obtain ⟨u, hu0, hu1, he2⟩ := pick_ev b hb (q + 1) (by omega) 2
          refine ⟨x.set (0 : Int).toNat (rd [(-1), shl .i64 1 (dots : Int)] u), q + 1 + 1, by omega, by simp; omega, ev_s ?_⟩
          simp only [spec_l20Rel.l0, if_neg (show ¬ (((0 : Nat) : Int) > 0) by omega)]
          refine Ev.bind he ?_
          simp only [if_true]
          refine Ev.bind he1 ?_
          simp only [if_neg h0, if_neg h1, if_pos (show (0 : Int) ≤ (dots : Int) by omega), Option.bind_some]
          refine Ev.bind he2 ?_
          simp only [if_pos hu0, if_pos (show u < (([(-1), shl .i64 1 (dots : Int)] : List Int).length : Int) by simp; omega), if_pos (show (0 : Int) < (x.length : Int) by omega)]
          exact Ev.now _
theorem l20Rel_ev (b : List Int) (hb : Bytes b) (p : Nat) (hp : p ≤ 100000000) (most n : Int) (hm : 1 ≤ most ∧ most ≤ 19) (hn : n ≤ 1000000) :
    ∃ (out : List Int) (q : Nat), q ≤ p + 200 ∧ out.length ≤ 20 ∧ Ev (fun k => spec_l20Rel.f k b (p : Int) most n) (out, (q : Int)) := by
  obtain ⟨v, v0, v1, he1⟩ := pick_ev b hb p (by omega) most
  obtain ⟨vn, rfl⟩ := Int.eq_ofNat_of_zero_le v0
  obtain ⟨t, t0, t1, he2⟩ := pick_ev b hb (p + 1) (by omega) 3
  have e1 : wrap64 (1 + (vn : Int)) = ((1 + vn : Nat) : Int) := by rw [wrap_in (by omega) (by omega)]; omega
  have e2 : wrap64 ((wrap64 (2 * ((1 + vn : Nat) : Int))) + 1) = ((2 * (1 + vn) + 1 : Nat) : Int) := by
    rw [wrap_in (x := 2 * ((1 + vn : Nat) : Int)) (by omega) (by omega), wrap_in (by omega) (by omega)]; omega
  obtain ⟨k, k0, k1, he3⟩ := pick_ev b hb (p + 1 + 1) (by omega) ((2 * (1 + vn) + 1 : Nat) : Int)
  obtain ⟨kn, rfl⟩ := Int.eq_ofNat_of_zero_le k0
  obtain ⟨out, q, hq, ho, hE⟩ := l20Rel_l0 b hb n (1 + vn) hn (by omega) (decide (t > 0)) kn (p + 1 + 1 + 1) (List.replicate (1 + vn) 0) (by omega) (by simp) (by
    intro y hy
    rw [List.mem_replicate] at hy
    exact ⟨0, hy.2, by decide⟩)
  refine ⟨out, q, by omega, ho, ?_⟩
  simp only [spec_l20Rel.f]
  refine Ev.bind he1 ?_
  simp only [e1, if_pos (show (0 : Int) ≤ ((1 + vn : Nat) : Int) by omega), Int.toNat_natCast, if_pos (show 1 + vn ≤ 35184372088832 by omega)]
  refine Ev.bind he2 ?_
  simp only [e2]
  refine Ev.bind he3 ?_
  exact hE

-- part: alive
theorem alive_ev : Ev (fun k => laws_alive.f k) true := Ev.of laws_alive.mono (k := 20) (by decide +kernel)

-- part: law_FnRelValid
theorem FnRelValid : laws_FnRelValid.Pure := by
  intro l0 _ _ hw
  refine Ev.rounds ?_
  simp only [laws_FnRelValid.f]
  by_cases hb : (l0.length : Int) > 1048576
  · simp only [if_pos hb]; exact Ev.now _
  · simp only [if_neg hb]
    obtain ⟨b, hby, ho⟩ := open_ev l0 hw
    obtain ⟨out, q, _, hl, hE⟩ := l20Rel_ev b hby 0 (by omega) 7 3 (by omega) (by omega)
    have hd : Ev (fun k => spec_DrawRelValid.f k l0) out := by
      simp only [spec_DrawRelValid.f, ho, Option.bind_some]
      refine Ev.bind hE ?_
      exact Ev.now _
    have hnil : Ev (fun k => impl_RelValid.f k []) false := ev_eq (impl_RelValid_ev [] (by simp)) (by simp [relOk])
    have hz : relOk out = true → relOk (List.replicate out.length 0) = true := by
      simp only [relOk, Bool.and_eq_true, decide_eq_true_eq, List.length_replicate]
      intro h
      refine ⟨h.1, ?_⟩
      have := Nat.two_pow_pos out.length
      simp
      exact Or.inr (by exact_mod_cast this)
    refine Ev.bind hd ?_
    refine Ev.bind (impl_RelValid_ev out (by omega)) ?_
    refine Ev.bind (spec_RelValid_ev out (by omega)) ?_
    simp only [bne_self_eq_false, Bool.false_eq_true, if_false]
    cases h : relOk out with
    | true =>
      simp only [if_true, if_pos (show (0 : Int) ≤ (out.length : Int) by omega), Int.toNat_natCast, if_pos (show out.length ≤ 35184372088832 by omega)]
      refine Ev.bind (ev_eq (impl_RelValid_ev (List.replicate out.length 0) (by simp; omega)) (hz h)) ?_
      simp only [if_true]
      refine Ev.bind hnil ?_
      simp only [Bool.false_eq_true, if_false]
      refine Ev.bind alive_ev ?_
      exact Ev.now _
    | false =>
      simp only [Bool.false_eq_true, if_false]
      refine Ev.bind hnil ?_
      simp only [Bool.false_eq_true, if_false]
      refine Ev.bind alive_ev ?_
      exact Ev.now _

end Go.Proofs.Ytclapemogefepaa.Pure

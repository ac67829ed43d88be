/- The law FnBagValid returns true for every input that the statement lets in; no condition of our own. -/
import Derived.Test.YtndohhiocnimaaaPFnBagValidx3
import Derived.Test.YtndohhiocnimaaaWSized
namespace Go.Proofs.Ytndohhiocnimaaa
open Go.ChangeShapes Go.WideShapes in
/-- The printed row names this word of the seat's without its first part. -/
theorem PrintWords.sized_ints {H : Type} {enc : TypeId × Value → H} {P : Program} {W : World} {base : Nat} {spare : Nat → Bool} {held : Bool} {t e : TypeId} {k : IntKind} {a : Option Addr} {len cap : Nat} {d : DataW H} {ps : List MemPlace} {ts : List TypeId} {ds : List (DataW H)} {j : Nat}
    (hsz : (DataW.weightsEach P ts ds).all (· ≤ reachBytes) = true) (ht : ts[j]? = some t) (hd : ds[j]? = some d) (hu : P.underlying t = some (.slice e)) (he : P.underlying e = some (.int k)) (hc : P.cellsOf e = 1) {B : Nat} (hB : P.bytesOf e = B)
    (h : DataW.Trod enc P W base spare held t (.slice a len cap) d ps) : len * B ≤ 140737488351232 :=
  Go.Proofs.YtndohhiocnimaaaW.PrintWords.sized_ints hsz ht hd hu he hc hB h
end Go.Proofs.Ytndohhiocnimaaa
namespace Go.Proofs.Ytndohhiocnimaaa.Pure
open Go.RowKit Go.Proofs.Ytndohhiocnimaaa.PFnBagValid Go.Proofs.YtndohhiocnimaaaW.PrintWords Go.Proofs.YtndohhiocnimaaaW.PrintLast
set_option linter.unusedVariables false
set_option linter.unusedSimpArgs false

-- part: base
/-! ### words of mine -/
theorem ev_s {α : Type} {g : Nat → Option α} {r : α} (h : Ev (fun k => g (k + 1)) r) : Ev g r := Ev.step (fun _ => rfl) h
theorem ev_eq {α : Type} {g : Nat → Option α} {r q : α} (h : Ev g r) (e : r = q) : Ev g q := e ▸ h
theorem ev_now {α : Type} {r q : α} (e : r = q) : Ev (fun _ => some r) q := e ▸ Ev.now r
theorem wrap_in {x : Int} (h0 : -9223372036854775808 ≤ x) (h1 : x ≤ 9223372036854775807) : wrap64 x = x := by unfold wrap64; omega
theorem rd_eq (xs : List Int) (i : Nat) : rd xs (i : Int) = xs.getD i 0 := by simp [rd]
theorem rd_get {xs : List Int} {i : Nat} (h : i < xs.length) : rd xs (i : Int) = xs[i] := by simp [rd, h]
theorem wrap_nat2 (a b : Nat) (h : a + b < 4611686018427387904) : wrap64 ((a : Int) + (b : Int)) = ((a + b : Nat) : Int) := by rw [wrap_in (by omega) (by omega)]; omega

-- part: l1In
theorem l1In_eq (n lo hi : Int) : spec_l1In.f n lo hi = some (decide (lo ≤ n ∧ n ≤ hi)) := by
  unfold spec_l1In.f
  by_cases h : n ≥ lo
  · rw [if_pos h]; simp [show lo ≤ n from h]
  · rw [if_neg h]; simp [show ¬ lo ≤ n from h]

-- part: allB
def allB (f : Nat → Bool) : Nat → Nat → Bool
  | 0, _ => true
  | d + 1, i => f i && allB f d (i + 1)
theorem allB_iff (f : Nat → Bool) : ∀ d i, allB f d i = true ↔ ∀ m, i ≤ m → m < i + d → f m = true
  | 0, i => by simp [allB]; omega
  | d + 1, i => by
    rw [allB, Bool.and_eq_true, allB_iff f d (i + 1)]
    constructor
    · rintro ⟨h1, h2⟩ m hm hm2
      by_cases h : m = i
      · subst h; exact h1
      · exact h2 m (by omega) (by omega)
    · intro h
      exact ⟨h i (by omega) (by omega), fun m h1 h2 => h m (by omega) (by omega)⟩

-- part: BagValid
/-- What both of them ask at a place. -/
def bagAt (l : List Int) (i : Nat) : Bool := decide (0 ≤ rd l (i : Int) ∧ rd l (i : Int) ≤ 9 ∧ (0 < i → rd l (i : Int) ≤ rd l ((i - 1 : Nat) : Int)))
def bagOk (l : List Int) : Bool := allB (bagAt l) l.length 0 && decide (l.length ≤ 16)
theorem spec_BagValid_l0 (l : List Int) (hb : l.length ≤ 140737488351232) : ∀ (d i : Nat), i + d = l.length → Ev (fun k => spec_BagValid.l0 k l (i : Int)) (allB (bagAt l) d i && decide (l.length ≤ 16)) := by
  intro d
  induction d with
  | zero =>
    intro i h
    refine ev_s ?_
    simp only [spec_BagValid.l0, if_neg (show ¬ ((i : Int) < (l.length : Int)) by omega), allB, Bool.true_and]
    exact ev_now (decide_eq_decide.mpr (by omega))
  | succ d ih =>
    intro i h
    refine ev_s ?_
    simp only [spec_BagValid.l0, l1In_eq, Option.bind_some, if_pos (show (i : Int) < (l.length : Int) by omega), if_pos (show (0 : Int) ≤ (i : Int) by omega), show wrap64 ((i : Int) + 1) = ((i + 1 : Nat) : Int) by rw [wrap_in (by omega) (by omega)]; rfl, allB]
    by_cases h1 : 0 ≤ rd l (i : Int) ∧ rd l (i : Int) ≤ 9
    · simp only [decide_eq_true h1, if_true]
      by_cases h0 : (i : Int) > 0
      · have e : wrap64 ((i : Int) - 1) = ((i - 1 : Nat) : Int) := by rw [wrap_in (by omega) (by omega)]; omega
        simp only [if_pos h0, e, if_pos (show (0 : Int) ≤ ((i - 1 : Nat) : Int) by omega), if_pos (show ((i - 1 : Nat) : Int) < (l.length : Int) by omega)]
        by_cases h2 : rd l (i : Int) > rd l ((i - 1 : Nat) : Int)
        · have hf : bagAt l i = false := decide_eq_false (fun hh => by have := hh.2.2 (by omega); omega)
          simp only [if_pos h2, hf, Bool.false_and]; exact Ev.now _
        · have ht : bagAt l i = true := decide_eq_true ⟨h1.1, h1.2, fun _ => by omega⟩
          simp only [if_neg h2, ht, Bool.true_and]; exact ih (i + 1) (by omega)
      · have ht : bagAt l i = true := decide_eq_true ⟨h1.1, h1.2, fun _ => by omega⟩
        simp only [if_neg h0, ht, Bool.true_and]; exact ih (i + 1) (by omega)
    · have hf : bagAt l i = false := decide_eq_false (fun hh => h1 ⟨hh.1, hh.2.1⟩)
      simp only [decide_eq_false h1, Bool.false_eq_true, if_false, hf, Bool.false_and]; exact Ev.now _
theorem spec_BagValid_ev (l : List Int) (hb : l.length ≤ 140737488351232) : Ev (fun k => spec_BagValid.f k l) (bagOk l) := spec_BagValid_l0 l hb l.length 0 (by omega)
theorem impl_BagValid_l0 (l : List Int) (hb : l.length ≤ 140737488351232) : ∀ (d i : Nat), i + d = l.length → Ev (fun k => impl_BagValid.l0 k l l (l.length : Int) (i : Int)) (allB (bagAt l) d i && decide (l.length ≤ 16)) := by
  intro d
  induction d with
  | zero =>
    intro i h
    refine ev_s ?_
    simp only [impl_BagValid.l0, if_neg (show ¬ ((i : Int) < (l.length : Int)) by omega), allB, Bool.true_and]
    exact ev_now (decide_eq_decide.mpr (by omega))
  | succ d ih =>
    intro i h
    refine ev_s ?_
    simp only [impl_BagValid.l0, if_pos (show (i : Int) < (l.length : Int) by omega), if_pos (show (0 : Int) ≤ (i : Int) by omega), show wrap64 ((i : Int) + 1) = ((i + 1 : Nat) : Int) by rw [wrap_in (by omega) (by omega)]; rfl, allB]
    by_cases h1 : rd l (i : Int) < 0
    · have hf : bagAt l i = false := decide_eq_false (fun hh => by omega)
      simp only [if_pos h1, hf, Bool.false_and]; exact Ev.now _
    · by_cases h9 : rd l (i : Int) > 9
      · have hf : bagAt l i = false := decide_eq_false (fun hh => by omega)
        simp only [if_neg h1, if_pos h9, hf, Bool.false_and]; exact Ev.now _
      · simp only [if_neg h1, if_neg h9]
        by_cases h0 : (i : Int) > 0
        · have e : wrap64 ((i : Int) - 1) = ((i - 1 : Nat) : Int) := by rw [wrap_in (by omega) (by omega)]; omega
          simp only [if_pos h0, e, if_pos (show (0 : Int) ≤ ((i - 1 : Nat) : Int) by omega), if_pos (show ((i - 1 : Nat) : Int) < (l.length : Int) by omega)]
          by_cases h2 : rd l (i : Int) > rd l ((i - 1 : Nat) : Int)
          · have hf : bagAt l i = false := decide_eq_false (fun hh => by have := hh.2.2 (by omega); omega)
            simp only [if_pos h2, hf, Bool.false_and]; exact Ev.now _
          · have ht : bagAt l i = true := decide_eq_true ⟨by omega, by omega, fun _ => by omega⟩
            simp only [if_neg h2, ht, Bool.true_and]; exact ih (i + 1) (by omega)
        · have ht : bagAt l i = true := decide_eq_true ⟨by omega, by omega, fun _ => by omega⟩
          simp only [if_neg h0, ht, Bool.true_and]; exact ih (i + 1) (by omega)
theorem impl_BagValid_ev (l : List Int) (hb : l.length ≤ 140737488351232) : Ev (fun k => impl_BagValid.f k l) (bagOk l) := impl_BagValid_l0 l hb l.length 0 (by omega)
theorem rd_drop (l : List Int) (a i : Nat) : rd (l.drop a) (i : Int) = rd l ((a + i : Nat) : Int) := by simp only [rd, Int.toNat_natCast, List.getD_eq_getElem?_getD, List.getElem?_drop]
theorem bagOk_drop {l : List Int} (h : bagOk l = true) (a : Nat) : bagOk (l.drop a) = true := by
  simp only [bagOk, Bool.and_eq_true, allB_iff, decide_eq_true_eq, bagAt, rd_drop] at h ⊢
  refine ⟨fun m _ hm => ?_, by simp; omega⟩
  rw [List.length_drop] at hm
  obtain ⟨h1, h2, h3⟩ := h.1 (a + m) (by omega) (by omega)
  refine ⟨h1, h2, fun h0 => ?_⟩
  have := h3 (by omega)
  rw [show a + m - 1 = a + (m - 1) by omega] at this
  exact this

-- part: specBagOf
theorem l6Many_l0 (l : List Int) (n : Int) (hb : l.length ≤ 140737488351232) : ∀ (d i c : Nat), i + d = l.length → c ≤ i → Ev (fun k => spec_l6Many.l0 k l n (c : Int) (i : Int)) ((c + (l.drop i).count n : Nat) : Int) := by
  intro d
  induction d with
  | zero =>
    intro i c h _
    refine ev_s ?_
    simp only [spec_l6Many.l0, if_neg (show ¬ ((i : Int) < (l.length : Int)) by omega)]
    rw [List.drop_of_length_le (by omega)]
    exact Ev.now _
  | succ d ih =>
    intro i c h hc
    refine ev_s ?_
    simp only [spec_l6Many.l0, if_pos (show (i : Int) < (l.length : Int) by omega), if_pos (show (0 : Int) ≤ (i : Int) by omega), show wrap64 ((i : Int) + 1) = ((i + 1 : Nat) : Int) by rw [wrap_in (by omega) (by omega)]; rfl, show wrap64 ((c : Int) + 1) = ((c + 1 : Nat) : Int) by rw [wrap_in (by omega) (by omega)]; rfl]
    rw [rd_get (show i < l.length by omega), List.drop_eq_getElem_cons (show i < l.length by omega)]
    by_cases he : l[i] = n
    · simp only [if_pos he]
      rw [he, List.count_cons_self, show c + ((l.drop (i + 1)).count n + 1) = (c + 1) + (l.drop (i + 1)).count n by omega]
      exact ih (i + 1) (c + 1) (by omega) (by omega)
    · simp only [if_neg he]
      rw [List.count_cons_of_ne (fun e => he e)]
      exact ih (i + 1) c (by omega) (by omega)
theorem l6Many_ev (l : List Int) (n : Int) (hb : l.length ≤ 140737488351232) : Ev (fun k => spec_l6Many.f k l n) ((l.count n : Nat) : Int) :=
  ev_eq (l6Many_l0 l n hb l.length 0 0 (by omega) (by omega)) (by simp)
/-- The numbers below n, the greater ones first. -/
def bagFrom (l : List Int) : Nat → List Int
  | 0 => []
  | n + 1 => List.replicate (l.count (n : Int)) (n : Int) ++ bagFrom l n
def inAll (l : List Int) : Bool := l.all (fun x => decide (0 ≤ x ∧ x ≤ 9))
def bagOf (l : List Int) : List Int := if inAll l = true ∧ l.length ≤ 16 then bagFrom l 10 else []
theorem spec_BagOf_l2 (l : List Int) (n : Int) (r : List Int) : ∀ (m : Nat) (out : List Int), out.length + m ≤ 1000 → Ev (fun k => spec_BagOf.l1 k l (out ++ List.replicate m n) (wrap64 (n - 1))) r → Ev (fun k => spec_BagOf.l2 k l out n (m : Int)) r
  | 0, out, _, hc => by
    refine ev_s ?_
    simp only [spec_BagOf.l2, if_neg (show ¬ (((0 : Nat) : Int) > 0) by omega)]
    simpa using hc
  | m + 1, out, hm, hc => by
    refine ev_s ?_
    simp only [spec_BagOf.l2, if_pos (show ((m + 1 : Nat) : Int) > 0 by omega), if_pos (show out.length < 17592186044416 by omega), show wrap64 (((m + 1 : Nat) : Int) - 1) = (m : Int) by rw [wrap_in (by omega) (by omega)]; omega]
    refine spec_BagOf_l2 l n r m (out ++ [n]) (by simp; omega) ?_
    simpa [List.append_assoc, List.replicate_succ] using hc
theorem spec_BagOf_l1 (l : List Int) (hl : l.length ≤ 16) : ∀ (n : Nat) (out : List Int), n ≤ 10 → out.length + 16 * n ≤ 900 → Ev (fun k => spec_BagOf.l1 k l out ((n : Int) - 1)) (out ++ bagFrom l n)
  | 0, out, _, _ => by
    refine ev_s ?_
    simp only [spec_BagOf.l1, if_neg (show ¬ (((0 : Nat) : Int) - 1 ≥ 0) by omega)]
    refine ev_s ?_
    simp only [spec_BagOf.j2, Bool.false_eq_true, if_false]
    exact ev_now (by simp [bagFrom])
  | n + 1, out, hn, ho => by
    have hc : l.count (n : Int) ≤ l.length := List.count_le_length
    refine ev_s ?_
    simp only [show ((n + 1 : Nat) : Int) - 1 = (n : Int) by omega, spec_BagOf.l1, if_pos (show (n : Int) ≥ 0 by omega), show decide ((l.length : Int) ≤ 16) = true from decide_eq_true (by omega)]
    refine ev_s ?_
    simp only [spec_BagOf.j2, if_true]
    refine Ev.bind (l6Many_ev l (n : Int) (by omega)) ?_
    refine spec_BagOf_l2 l (n : Int) _ _ out (by omega) ?_
    rw [show wrap64 ((n : Int) - 1) = (n : Int) - 1 from wrap_in (by omega) (by omega)]
    have := spec_BagOf_l1 l hl n (out ++ List.replicate (l.count (n : Int)) (n : Int)) (by omega) (by simp; omega)
    rw [List.append_assoc] at this
    exact this
theorem spec_BagOf_l0 (l : List Int) (hb : l.length ≤ 140737488351232) : ∀ (d i : Nat), i + d = l.length → Ev (fun k => spec_BagOf.l0 k l [] (i : Int)) (if (l.drop i).all (fun x => decide (0 ≤ x ∧ x ≤ 9)) = true ∧ l.length ≤ 16 then bagFrom l 10 else []) := by
  intro d
  induction d with
  | zero =>
    intro i h
    refine ev_s ?_
    simp only [spec_BagOf.l0, if_neg (show ¬ ((i : Int) < (l.length : Int)) by omega)]
    rw [List.drop_of_length_le (by omega)]
    by_cases h16 : l.length ≤ 16
    · rw [if_pos ⟨rfl, h16⟩]
      exact spec_BagOf_l1 l h16 10 [] (by omega) (by simp)
    · rw [if_neg (fun hh => h16 hh.2)]
      refine ev_s ?_
      simp only [spec_BagOf.l1, if_pos (show (9 : Int) ≥ 0 by decide), show decide ((l.length : Int) ≤ 16) = false from decide_eq_false (by omega)]
      refine ev_s ?_
      simp only [spec_BagOf.j2, Bool.false_eq_true, if_false]
      exact Ev.now _
  | succ d ih =>
    intro i h
    refine ev_s ?_
    simp only [spec_BagOf.l0, l1In_eq, Option.bind_some, if_pos (show (i : Int) < (l.length : Int) by omega), if_pos (show (0 : Int) ≤ (i : Int) by omega), show wrap64 ((i : Int) + 1) = ((i + 1 : Nat) : Int) by rw [wrap_in (by omega) (by omega)]; rfl]
    rw [rd_get (show i < l.length by omega), List.drop_eq_getElem_cons (show i < l.length by omega), List.all_cons]
    by_cases hc : 0 ≤ l[i] ∧ l[i] ≤ 9
    · simp only [decide_eq_true hc, Bool.true_and, if_true]
      exact ih (i + 1) (by omega)
    · simp only [decide_eq_false hc, Bool.false_and, Bool.false_eq_true, if_false, false_and]
      exact Ev.now _
theorem spec_BagOf_ev (l : List Int) (hb : l.length ≤ 140737488351232) : Ev (fun k => spec_BagOf.f k l) (bagOf l) := spec_BagOf_l0 l hb l.length 0 (by omega)
theorem bagFrom_length (l : List Int) (hl : l.length ≤ 16) : ∀ n, (bagFrom l n).length ≤ 16 * n
  | 0 => by simp [bagFrom]
  | n + 1 => by have := bagFrom_length l hl n; have : l.count (n : Int) ≤ l.length := List.count_le_length; simp only [bagFrom, List.length_append, List.length_replicate]; omega
theorem bagOf_length (l : List Int) : (bagOf l).length ≤ 160 := by
  unfold bagOf; split
  · rename_i h; have := bagFrom_length l h.2 10; omega
  · simp

-- part: draw
/-! ### the reader of a code -/
def Bytes (b : List Int) : Prop := b.length ≤ 2000 ∧ ∀ x ∈ b, 0 ≤ x ∧ x ≤ 255
theorem u8_of_wf {x : Int} (h : (Lit.int .u8 x).wf = true) : 0 ≤ x ∧ x ≤ 255 := by
  simp [Lit.wf, IntKind.min, IntKind.max, IntKind.bits, IntKind.signed] at h
  omega
theorem open_ev (l : List Int) (h : ∀ x ∈ l, (Lit.int .u8 x).wf = true) : ∃ b, Bytes b ∧ spec_l20Open.f l = some (b, ((0 : Nat) : Int)) := by
  have h' : ∀ x ∈ l, 0 ≤ x ∧ x ≤ 255 := fun x hx => u8_of_wf (h x hx)
  unfold spec_l20Open.f
  by_cases hl : (l.length : Int) > 2000
  · rw [if_pos hl, if_pos (by omega)]
    exact ⟨l.take 2000, ⟨by simp; omega, fun x hx => h' x (List.mem_of_mem_take hx)⟩, rfl⟩
  · rw [if_neg hl]
    exact ⟨l, ⟨by omega, h'⟩, rfl⟩
theorem rd_byte {b : List Int} (hb : Bytes b) {i : Int} (h0 : 0 ≤ i) (h1 : i < (b.length : Int)) : 0 ≤ rd b i ∧ rd b i ≤ 255 := by
  obtain ⟨n, rfl⟩ := Int.eq_ofNat_of_zero_le h0
  rw [rd_get (show n < b.length by omega)]
  exact hb.2 _ (List.getElem_mem _)
theorem wraps_i64 (n : Int) (h0 : 0 ≤ n) (h1 : n < 2 ^ 62) : IntKind.i64.wrap n = n := by rw [IntKind.wrap_i64]; omega
theorem xor_pos (a b : Nat) (ha : a < 2 ^ 62) (hb : b < 2 ^ 62) : Go.bits .xor .i64 (a : Int) (b : Int) = ((a ^^^ b : Nat) : Int) := by
  have ha' : a % 2 ^ IntKind.i64.bits = a := Nat.mod_eq_of_lt (Nat.lt_of_lt_of_le ha (by decide))
  have hb' : b % 2 ^ IntKind.i64.bits = b := Nat.mod_eq_of_lt (Nat.lt_of_lt_of_le hb (by decide))
  simp only [bits, BitVec.ofInt_natCast, BitVec.toNat_xor, BitVec.toNat_ofNat, ha', hb']
  exact wraps_i64 _ (Int.natCast_nonneg _) (by exact_mod_cast Nat.xor_lt_two_pow ha hb)
theorem pick_sum (r1 r2 p t : Int) (h1 : 0 ≤ r1 ∧ r1 ≤ 255) (h2 : 0 ≤ r2 ∧ r2 ≤ 255) (hp : 0 ≤ p ∧ p ≤ 1000000000000) (ht : 0 ≤ t ∧ t ≤ 1000000000000) :
    wrap64 ((wrap64 ((wrap64 ((wrap64 ((wrap64 r1) * 131)) + (wrap64 ((wrap64 r2) * 1117)))) + (wrap64 (p * 29)))) + (wrap64 ((wrap64 t) * 53))) = r1 * 131 + r2 * 1117 + p * 29 + t * 53 := by
  rw [wrap_in (x := r1) (by omega) (by omega), wrap_in (x := r2) (by omega) (by omega), wrap_in (x := t) (by omega) (by omega), wrap_in (x := r1 * 131) (by omega) (by omega), wrap_in (x := r2 * 1117) (by omega) (by omega), wrap_in (x := p * 29) (by omega) (by omega), wrap_in (x := t * 53) (by omega) (by omega), wrap_in (x := r1 * 131 + r2 * 1117) (by omega) (by omega), wrap_in (x := r1 * 131 + r2 * 1117 + p * 29) (by omega) (by omega), wrap_in (by omega) (by omega)]
theorem pick_mod (x n : Int) (hx : 0 ≤ x) (hn : 0 < n) : 0 ≤ Int.tmod x n ∧ Int.tmod x n < n := by
  rw [Int.tmod_eq_emod_of_nonneg hx]
  exact ⟨Int.emod_nonneg _ (by omega), Int.emod_lt_of_pos _ hn⟩
theorem pick_ev (b : List Int) (hb : Bytes b) (p : Nat) (hp : p ≤ 100000000000) (n : Int) : ∃ v : Int, 0 ≤ v ∧ (v < n ∨ v = 0) ∧ Ev (fun k => spec_l20Rd_pick.f k b (p : Int) n) (v, ((p + 1 : Nat) : Int)) := by
  have e1 : wrap64 ((p : Int) + 1) = ((p + 1 : Nat) : Int) := by rw [wrap_in (by omega) (by omega)]; rfl
  have e2 : wrap64 (((p + 1 : Nat) : Int) - 1) = (p : Int) := by rw [wrap_in (by omega) (by omega)]; omega
  by_cases hn : n < 1
  · refine ⟨0, Int.le_refl _, .inr rfl, ?_⟩
    simp only [spec_l20Rd_pick.f, if_pos hn, e1]
    refine ev_s ?_
    simp only [spec_l20Rd_pick.j0, if_true]
    exact Ev.now _
  · by_cases hl : b.length = 0
    · refine ⟨0, Int.le_refl _, .inr rfl, ?_⟩
      simp only [spec_l20Rd_pick.f, if_neg hn, e1, hl]
      refine ev_s ?_
      simp only [spec_l20Rd_pick.j0]
      exact Ev.now _
    · by_cases hlt : (p : Int) < (b.length : Int)
      · have hby := rd_byte hb (show (0 : Int) ≤ (p : Int) by omega) hlt
        have hm := pick_mod (rd b p) n hby.1 (by omega)
        refine ⟨Int.tmod (rd b p) n, hm.1, .inl hm.2, ?_⟩
        simp only [spec_l20Rd_pick.f, if_neg hn, e1, show ((b.length : Int) == 0) = false by simp; exact fun h => hl (by rw [h]; rfl)]
        refine ev_s ?_
        simp only [spec_l20Rd_pick.j0, Bool.false_eq_true, if_false, e2, if_pos hlt, if_pos (show (0 : Int) ≤ (p : Int) by omega), if_neg (show ¬ n = 0 by omega), wrap_in (x := rd b p) (by omega) (by omega)]
        exact Ev.now _
      · have hl0 : ¬ ((b.length : Int) = 0) := by omega
        have m1 := pick_mod (p : Int) (b.length : Int) (by omega) (by omega)
        have m2 := pick_mod ((p : Int) * 7 + 3) (b.length : Int) (by omega) (by omega)
        have b1 := rd_byte hb m1.1 m1.2
        have b2 := rd_byte hb m2.1 m2.2
        have d1 : 0 ≤ Int.tdiv (p : Int) (b.length : Int) := Int.tdiv_nonneg (by omega) (by omega)
        have d2 : Int.tdiv (p : Int) (b.length : Int) ≤ (p : Int) := Int.tdiv_le_self _ (by omega)
        have hs := pick_sum _ _ (p : Int) (Int.tdiv (p : Int) (b.length : Int)) b1 b2 (by omega) (by omega)
        obtain ⟨X, hX⟩ : ∃ X : Int, X = rd b (Int.tmod (p : Int) (b.length : Int)) * 131 + rd b (Int.tmod ((p : Int) * 7 + 3) (b.length : Int)) * 1117 + (p : Int) * 29 + Int.tdiv (p : Int) (b.length : Int) * 53 := ⟨_, rfl⟩
        rw [← hX] at hs
        have x0 : 0 ≤ X ∧ X < 20000000000000 := by omega
        have t0 : 0 ≤ Int.tdiv X 64 := Int.tdiv_nonneg (by omega) (by omega)
        have t1 : Int.tdiv X 64 ≤ X := Int.tdiv_le_self _ (by omega)
        have hbit : 0 ≤ Go.bits .xor .i64 X (Int.tdiv X 64) := by
          obtain ⟨u, hu⟩ := Int.eq_ofNat_of_zero_le x0.1
          obtain ⟨v, hv⟩ := Int.eq_ofNat_of_zero_le t0
          rw [hv, hu]
          rw [xor_pos u v (by omega) (by omega)]
          omega
        have hm := pick_mod _ n hbit (by omega)
        refine ⟨_, hm.1, .inl hm.2, ?_⟩
        simp only [spec_l20Rd_pick.f, if_neg hn, e1, show ((b.length : Int) == 0) = false by simp; exact fun h => hl (by rw [h]; rfl)]
        refine ev_s ?_
        simp only [spec_l20Rd_pick.j0, Bool.false_eq_true, if_false, e2, if_neg hlt, if_neg hl0, wrap_in (x := (p : Int) * 7) (by omega) (by omega), wrap_in (x := (p : Int) * 7 + 3) (by omega) (by omega), if_pos m1.1, if_pos m1.2, if_pos m2.1, if_pos m2.2, if_neg (show ¬ n = 0 by omega), hs, wrap_in (x := Int.tdiv X 64) (by omega) (by omega)]
        exact Ev.now _
theorem odd_ev (b : List Int) (hb : Bytes b) (p : Nat) (hp : p ≤ 100000000000) (n : Int) (hn : n ≤ 1000000) : ∃ (v : Bool) (q : Nat), q ≤ p + 1 ∧ Ev (fun k => spec_l20Rd_odd.f k b (p : Int) n) (v, (q : Int)) := by
  by_cases h : n > 0
  · obtain ⟨v, h0, h1, he⟩ := pick_ev b hb p hp n
    refine ⟨(v == wrap64 (n - 1)), p + 1, Nat.le_refl _, ?_⟩
    simp only [spec_l20Rd_odd.f, if_pos h]
    refine Ev.bind he ?_
    exact Ev.now _
  · refine ⟨false, p, by omega, ?_⟩
    simp only [spec_l20Rd_odd.f, if_neg h]
    exact Ev.now _

-- part: l20Bag
theorem l20Bag_l0 (b : List Int) (hb : Bytes b) (n : Int) (hn : n ≤ 1000000) : ∀ (d p : Nat) (x : List Int), p + 3 * d ≤ 1000000000 → x.length + d ≤ 100 →
    ∃ (out : List Int) (q : Nat), q ≤ p + 3 * d + 5 ∧ out.length ≤ 200 ∧ Ev (fun k => spec_l20Bag.l0 k n x (d : Int) b (p : Int)) (out, (q : Int)) := by
  intro d
  induction d with
  | succ d ih =>
    intro p x hp hx
    obtain ⟨v1, _, _, he1⟩ := pick_ev b hb p (by omega) 6
    obtain ⟨v2, _, _, he2⟩ := pick_ev b hb (p + 1) (by omega) 9
    obtain ⟨v3, _, _, he3⟩ := pick_ev b hb (p + 1 + 1) (by omega) 4
    obtain ⟨out, q, hq, ho, hE⟩ := ih (p + 1 + 1 + 1) (x ++ [wrap64 (v1 + (wrap64 ((wrap64 (Int.tdiv v2 8)) * v3)))]) (by omega) (by simp; omega)
    refine ⟨out, q, by omega, ho, ?_⟩
    refine ev_s ?_
    simp only [spec_l20Bag.l0, if_pos (show ((d + 1 : Nat) : Int) > 0 by omega), show wrap64 (((d + 1 : Nat) : Int) - 1) = (d : Int) by rw [wrap_in (by omega) (by omega)]; omega]
    refine Ev.bind he1 ?_
    refine Ev.bind he2 ?_
    refine Ev.bind he3 ?_
    simp only [if_pos (show x.length < 17592186044416 by omega)]
    exact hE
  | zero =>
    intro p x hp hx
    have hlen := bagOf_length x
    obtain ⟨o, q, hq, he⟩ := odd_ev b hb p (by omega) n hn
    have hd : ∀ (out : List Int) (q' : Nat), Ev (fun k => (spec_l20Rd_odd.f k b (p : Int) n).bind fun bt142 => (if bt142.1 = true then ((spec_l20Rd_pick.f k b bt142.2 3).bind fun bt144 => (if bt144.1 = 0 then ((some (([0] : List Int) : List Int)).bind fun y146 => (if (bagOf x).length < 17592186044416 then ((some ((bagOf x) ++ [1] : List Int)).bind fun y149 => (if y146.length + y149.length < 17592186044416 then (some ((y146 ++ y149), bt144.2)) else (none))) else (none))) else (if bt144.1 = 1 then ((some (([10] : List Int) : List Int)).bind fun y155 => (if y155.length + (bagOf x).length < 17592186044416 then (some ((y155 ++ (bagOf x)), bt144.2)) else (none))) else (if 17 ≤ 35184372088832 then (some ((List.replicate 17 0), bt144.2)) else (none))))) else (some ((bagOf x), bt142.2)))) (out, (q' : Int)) → Ev (fun k => spec_l20Bag.l0 k n x ((0 : Nat) : Int) b (p : Int)) (out, (q' : Int)) := by
      intro out q' h
      refine ev_s ?_
      simp only [spec_l20Bag.l0, if_neg (show ¬ (((0 : Nat) : Int) > 0) by omega)]
      exact Ev.bind (spec_BagOf_ev x (by omega)) h
    cases o with
    | false =>
      refine ⟨bagOf x, q, by omega, by omega, hd _ _ ?_⟩
      refine Ev.bind he ?_
      simp only [Bool.false_eq_true, if_false]
      exact Ev.now _
    | true =>
      obtain ⟨v, _, _, he1⟩ := pick_ev b hb q (by omega) 3
      by_cases h0 : v = 0
      · subst h0
        refine ⟨[0] ++ (bagOf x ++ [1]), q + 1, by omega, by simp; omega, hd _ _ ?_⟩
        refine Ev.bind he ?_
        simp only [if_true]
        refine Ev.bind he1 ?_
        simp only [if_true, Option.bind_some, if_pos (show (bagOf x).length < 17592186044416 by omega), if_pos (show ([0] : List Int).length + (bagOf x ++ [1]).length < 17592186044416 by simp; omega)]
        exact Ev.now _
      · by_cases h1 : v = 1
        · subst h1
          refine ⟨[10] ++ bagOf x, q + 1, by omega, by simp; omega, hd _ _ ?_⟩
          refine Ev.bind he ?_
          simp only [if_true]
          refine Ev.bind he1 ?_
          simp only [if_neg h0, if_true, Option.bind_some, if_pos (show ([10] : List Int).length + (bagOf x).length < 17592186044416 by simp; omega)]
          exact Ev.now _
        · refine ⟨List.replicate 17 0, q + 1, by omega, by simp, hd _ _ ?_⟩
          refine Ev.bind he ?_
          simp only [if_true]
          refine Ev.bind he1 ?_
          simp only [if_neg h0, if_neg h1, if_pos (show 17 ≤ 35184372088832 by decide)]
          exact Ev.now _
theorem l20Bag_ev (b : List Int) (hb : Bytes b) (p : Nat) (hp : p ≤ 100000000) (n : Int) (hn : n ≤ 1000000) :
    ∃ (out : List Int) (q : Nat), q ≤ p + 30 ∧ out.length ≤ 200 ∧ Ev (fun k => spec_l20Bag.f k b (p : Int) n) (out, (q : Int)) := by
  obtain ⟨v, h0, h1, he⟩ := pick_ev b hb p (by omega) 7
  obtain ⟨m, rfl⟩ := Int.eq_ofNat_of_zero_le h0
  obtain ⟨out, q, hq, ho, hE⟩ := l20Bag_l0 b hb n hn m (p + 1) [] (by omega) (by simp; omega)
  refine ⟨out, q, by omega, ho, ?_⟩
  simp only [spec_l20Bag.f]
  refine Ev.bind he ?_
  exact hE

-- part: alive
theorem alive_ev : Ev (fun k => laws_alive.f k) true := Ev.of laws_alive.mono (k := 20) (by decide +kernel)

-- part: law_FnBagValid
theorem FnBagValid : laws_FnBagValid.Pure := by
  intro l0 _ _ hw
  refine Ev.rounds ?_
  simp only [laws_FnBagValid.f]
  by_cases hb : (l0.length : Int) > 1048576
  · simp only [if_pos hb]; exact Ev.now _
  · simp only [if_neg hb]
    obtain ⟨b, hby, ho⟩ := open_ev l0 hw
    obtain ⟨out, q, _, hl, hE⟩ := l20Bag_ev b hby 0 (by omega) 2 (by omega)
    have hd : Ev (fun k => spec_DrawBagValid.f k l0) out := by
      simp only [spec_DrawBagValid.f, ho, Option.bind_some]
      refine Ev.bind hE ?_
      exact Ev.now _
    have hnil : Ev (fun k => impl_BagValid.f k []) true := ev_eq (impl_BagValid_ev [] (by simp)) (by decide)
    refine Ev.bind hd ?_
    refine Ev.bind (impl_BagValid_ev out (by omega)) ?_
    refine Ev.bind (spec_BagValid_ev out (by omega)) ?_
    simp only [bne_self_eq_false, Bool.false_eq_true, if_false]
    cases h : bagOk out with
    | true =>
      simp only [if_true]
      by_cases h0 : (out.length : Int) = 0
      · simp only [if_pos h0]
        refine Ev.bind hnil ?_
        simp only [if_true]
        refine Ev.bind alive_ev ?_
        exact Ev.now _
      · simp only [if_neg h0, if_pos (show 1 ≤ (out.length : Int) by omega)]
        refine Ev.bind (ev_eq (impl_BagValid_ev (out.drop 1) (by simp; omega)) (bagOk_drop h 1)) ?_
        simp only [if_true]
        refine Ev.bind hnil ?_
        simp only [if_true]
        refine Ev.bind alive_ev ?_
        exact Ev.now _
    | false =>
      simp only [Bool.false_eq_true, if_false]
      refine Ev.bind hnil ?_
      simp only [if_true]
      refine Ev.bind alive_ev ?_
      exact Ev.now _

end Go.Proofs.Ytndohhiocnimaaa.Pure

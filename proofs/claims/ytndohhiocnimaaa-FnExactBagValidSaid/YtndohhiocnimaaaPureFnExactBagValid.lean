/- The law FnExactBagValid returns true for every input that the statement lets in; no condition of our own. -/
import Derived.Test.YtndohhiocnimaaaPFnExactBagValidx1
import Derived.Test.YtndohhiocnimaaaWSized
namespace Go.Proofs.Ytndohhiocnimaaa
open Go.ChangeShapes Go.WideShapes in
/-- The printed row names this word of the seat's without its first part. -/
theorem PrintWords.sized_ints {H : Type} {enc : TypeId × Value → H} {P : Program} {W : World} {base : Nat} {spare : Nat → Bool} {held : Bool} {t e : TypeId} {k : IntKind} {a : Option Addr} {len cap : Nat} {d : DataW H} {ps : List MemPlace} {ts : List TypeId} {ds : List (DataW H)} {j : Nat}
    (hsz : (DataW.weightsEach P ts ds).all (· ≤ reachBytes) = true) (ht : ts[j]? = some t) (hd : ds[j]? = some d) (hu : P.underlying t = some (.slice e)) (he : P.underlying e = some (.int k)) (hc : P.cellsOf e = 1) {B : Nat} (hB : P.bytesOf e = B)
    (h : DataW.Trod enc P W base spare held t (.slice a len cap) d ps) : len * B ≤ 140737488351232 :=
  Go.Proofs.YtndohhiocnimaaaW.PrintWords.sized_ints hsz ht hd hu he hc hB h
end Go.Proofs.Ytndohhiocnimaaa
namespace Go.Proofs.Ytndohhiocnimaaa.Pure
open Go.RowKit Go.Proofs.Ytndohhiocnimaaa.PFnExactBagValid Go.Proofs.YtndohhiocnimaaaW.PrintWords Go.Proofs.YtndohhiocnimaaaW.PrintLast
set_option linter.unusedVariables false
set_option linter.unusedSimpArgs false

-- part: base
/-! ### words of mine -/
theorem ev_s {α : Type} {g : Nat → Option α} {r : α} (h : Ev (fun k => g (k + 1)) r) : Ev g r := Ev.step (fun _ => rfl) h
theorem ev_eq {α : Type} {g : Nat → Option α} {r q : α} (h : Ev g r) (e : r = q) : Ev g q := e ▸ h
theorem ev_now {α : Type} {r q : α} (e : r = q) : Ev (fun _ => some r) q := e ▸ Ev.now r
theorem wrap_in {x : Int} (h0 : -9223372036854775808 ≤ x) (h1 : x ≤ 9223372036854775807) : wrap64 x = x := by unfold wrap64; omega
theorem rd_eq (xs : List Int) (i : Nat) : rd xs (i : Int) = xs.getD i 0 := by simp [rd]
theorem rd_get {xs : List Int} {i : Nat} (h : i < xs.length) : rd xs (i : Int) = xs[i] := by simp [rd, h]
theorem wrap_nat2 (a b : Nat) (h : a + b < 4611686018427387904) : wrap64 ((a : Int) + (b : Int)) = ((a + b : Nat) : Int) := by rw [wrap_in (by omega) (by omega)]; omega

-- part: toIntS
theorem toIntS_l0 (l : List Int) (hl : l.length ≤ 35184372088832) : ∀ (d i : Nat) (x : List Int), i + d = l.length → x.length = l.length → x.take i = l.take i → Ev (fun k => laws_toIntS.l0 k l x i) l := by
  intro d
  induction d with
  | zero =>
    intro i x h hx ht
    refine ev_s ?_
    simp only [laws_toIntS.l0]
    rw [show i = l.length by omega] at ht ⊢
    simp only [if_neg (show ¬ ((l.length : Int) < (l.length : Int)) by omega)]
    rw [List.take_of_length_le (by omega), List.take_length] at ht
    rw [ht]; exact Ev.now _
  | succ d ih =>
    intro i x h hx ht
    refine ev_s ?_
    simp only [laws_toIntS.l0]
    simp only [if_pos (show (i : Int) < (l.length : Int) by omega), if_pos (show (0 : Int) ≤ (i : Int) by omega), if_pos (show (i : Int) < (x.length : Int) by omega), show wrap64 ((i : Int) + 1) = ((i + 1 : Nat) : Int) by rw [wrap_in (by omega) (by omega)]; rfl, Int.toNat_natCast]
    refine ih (i + 1) _ (by omega) (by simpa using hx) ?_
    rw [rd_get (show i < l.length by omega)]
    apply List.ext_getElem?
    intro j
    have := congrArg (fun z => z[j]?) ht
    simp only [List.getElem?_take] at this ⊢
    by_cases hj : j < i
    · rw [if_pos hj, if_pos hj] at this
      rw [if_pos (by omega), if_pos (by omega), List.getElem?_set_ne (by omega)]; exact this
    · by_cases hji : j = i
      · subst hji
        rw [if_pos (by omega), if_pos (by omega), List.getElem?_set_self (by omega), List.getElem?_eq_getElem (by omega)]
      · rw [if_neg (by omega), if_neg (by omega)]
theorem toIntS_ev (l : List Int) (hl : l.length ≤ 35184372088832) : Ev (fun k => laws_toIntS.f k l) l := by
  simp only [laws_toIntS.f, Int.toNat_natCast, if_pos (show (0 : Int) ≤ (l.length : Int) by omega), if_pos hl]
  exact toIntS_l0 l hl l.length 0 _ (by omega) (by simp) (by simp)

-- part: eqIntS
theorem eqIntS_l0 (F : Nat → List Int → List Int → Int → Option Bool)
    (h0 : ∀ k a b i, F (k + 1) a b i = if i < (a.length : Int) then (if 0 ≤ i then (if i < (b.length : Int) then (if (rd a i) = (rd b i) then (F k a b (wrap64 (i + 1))) else (some false)) else none) else none) else some true)
    (a b : List Int) (hl : a.length = b.length) (hb : a.length ≤ 140737488351232) : ∀ (d i : Nat), i + d = a.length → a.take i = b.take i → Ev (fun k => F k a b i) (decide (a = b)) := by
  intro d
  induction d with
  | zero =>
    intro i h ht
    refine ev_s ?_
    simp only [h0]
    simp only [if_neg (show ¬ ((i : Int) < (a.length : Int)) by omega)]
    rw [List.take_of_length_le (by omega), List.take_of_length_le (by omega)] at ht
    simp only [ht, decide_true]; exact Ev.now _
  | succ d ih =>
    intro i h ht
    refine ev_s ?_
    simp only [h0]
    simp only [if_pos (show (i : Int) < (a.length : Int) by omega), if_pos (show (0 : Int) ≤ (i : Int) by omega), if_pos (show (i : Int) < (b.length : Int) by omega), show wrap64 ((i : Int) + 1) = ((i + 1 : Nat) : Int) by rw [wrap_in (by omega) (by omega)]; rfl]
    rw [rd_get (show i < a.length by omega), rd_get (show i < b.length by omega)]
    by_cases he : a[i] = b[i]
    · simp only [if_pos he]
      refine ih (i + 1) (by omega) ?_
      rw [List.take_succ_eq_append_getElem (by omega), List.take_succ_eq_append_getElem (by omega), ht, he]
    · simp only [if_neg he]
      refine ev_now (Eq.symm (decide_eq_false (fun hab => he ?_)))
      subst hab; rfl
theorem eqIntS_ev (a b : List Int) (hb : a.length ≤ 140737488351232) : Ev (fun k => laws_eqIntS.f k a b) (decide (a = b)) := by
  simp only [laws_eqIntS.f]
  by_cases hl : a.length = b.length
  · simp only [if_pos (show (a.length : Int) = (b.length : Int) by omega)]
    exact eqIntS_l0 laws_eqIntS.l0 (fun _ _ _ _ => rfl) a b hl hb a.length 0 (by omega) (by simp)
  · simp only [if_neg (show ¬ ((a.length : Int) = (b.length : Int)) by omega)]
    exact ev_now (Eq.symm (decide_eq_false (fun hab => hl (by rw [hab]))))

-- part: l1In
theorem l1In_eq (n lo hi : Int) : spec_l1In.f n lo hi = some (decide (lo ≤ n ∧ n ≤ hi)) := by
  unfold spec_l1In.f
  by_cases h : n ≥ lo
  · rw [if_pos h]; simp [show lo ≤ n from h]
  · rw [if_neg h]; simp [show ¬ lo ≤ n from h]

-- part: allB
def allB (f : Nat → Bool) : Nat → Nat → Bool
  | 0, _ => true
  | d + 1, i => f i && allB f d (i + 1)
theorem allB_iff (f : Nat → Bool) : ∀ d i, allB f d i = true ↔ ∀ m, i ≤ m → m < i + d → f m = true
  | 0, i => by simp [allB]; omega
  | d + 1, i => by
    rw [allB, Bool.and_eq_true, allB_iff f d (i + 1)]
    constructor
    · rintro ⟨h1, h2⟩ m hm hm2
      by_cases h : m = i
      · subst h; exact h1
      · exact h2 m (by omega) (by omega)
    · intro h
      exact ⟨h i (by omega) (by omega), fun m h1 h2 => h m (by omega) (by omega)⟩

-- part: BagValid
/-- What both of them ask at a place. -/
def bagAt (l : List Int) (i : Nat) : Bool := decide (0 ≤ rd l (i : Int) ∧ rd l (i : Int) ≤ 9 ∧ (0 < i → rd l (i : Int) ≤ rd l ((i - 1 : Nat) : Int)))
def bagOk (l : List Int) : Bool := allB (bagAt l) l.length 0 && decide (l.length ≤ 16)
theorem spec_BagValid_l0 (l : List Int) (hb : l.length ≤ 140737488351232) : ∀ (d i : Nat), i + d = l.length → Ev (fun k => spec_BagValid.l0 k l (i : Int)) (allB (bagAt l) d i && decide (l.length ≤ 16)) := by
  intro d
  induction d with
  | zero =>
    intro i h
    refine ev_s ?_
    simp only [spec_BagValid.l0, if_neg (show ¬ ((i : Int) < (l.length : Int)) by omega), allB, Bool.true_and]
    exact ev_now (decide_eq_decide.mpr (by omega))
  | succ d ih =>
    intro i h
    refine ev_s ?_
    simp only [spec_BagValid.l0, l1In_eq, Option.bind_some, if_pos (show (i : Int) < (l.length : Int) by omega), if_pos (show (0 : Int) ≤ (i : Int) by omega), show wrap64 ((i : Int) + 1) = ((i + 1 : Nat) : Int) by rw [wrap_in (by omega) (by omega)]; rfl, allB]
    by_cases h1 : 0 ≤ rd l (i : Int) ∧ rd l (i : Int) ≤ 9
    · simp only [decide_eq_true h1, if_true]
      by_cases h0 : (i : Int) > 0
      · have e : wrap64 ((i : Int) - 1) = ((i - 1 : Nat) : Int) := by rw [wrap_in (by omega) (by omega)]; omega
        simp only [if_pos h0, e, if_pos (show (0 : Int) ≤ ((i - 1 : Nat) : Int) by omega), if_pos (show ((i - 1 : Nat) : Int) < (l.length : Int) by omega)]
        by_cases h2 : rd l (i : Int) > rd l ((i - 1 : Nat) : Int)
        · have hf : bagAt l i = false := decide_eq_false (fun hh => by have := hh.2.2 (by omega); omega)
          simp only [if_pos h2, hf, Bool.false_and]; exact Ev.now _
        · have ht : bagAt l i = true := decide_eq_true ⟨h1.1, h1.2, fun _ => by omega⟩
          simp only [if_neg h2, ht, Bool.true_and]; exact ih (i + 1) (by omega)
      · have ht : bagAt l i = true := decide_eq_true ⟨h1.1, h1.2, fun _ => by omega⟩
        simp only [if_neg h0, ht, Bool.true_and]; exact ih (i + 1) (by omega)
    · have hf : bagAt l i = false := decide_eq_false (fun hh => h1 ⟨hh.1, hh.2.1⟩)
      simp only [decide_eq_false h1, Bool.false_eq_true, if_false, hf, Bool.false_and]; exact Ev.now _
theorem spec_BagValid_ev (l : List Int) (hb : l.length ≤ 140737488351232) : Ev (fun k => spec_BagValid.f k l) (bagOk l) := spec_BagValid_l0 l hb l.length 0 (by omega)
theorem impl_BagValid_l0 (l : List Int) (hb : l.length ≤ 140737488351232) : ∀ (d i : Nat), i + d = l.length → Ev (fun k => impl_BagValid.l0 k l l (l.length : Int) (i : Int)) (allB (bagAt l) d i && decide (l.length ≤ 16)) := by
  intro d
  induction d with
  | zero =>
    intro i h
    refine ev_s ?_
    simp only [impl_BagValid.l0, if_neg (show ¬ ((i : Int) < (l.length : Int)) by omega), allB, Bool.true_and]
    exact ev_now (decide_eq_decide.mpr (by omega))
  | succ d ih =>
    intro i h
    refine ev_s ?_
    simp only [impl_BagValid.l0, if_pos (show (i : Int) < (l.length : Int) by omega), if_pos (show (0 : Int) ≤ (i : Int) by omega), show wrap64 ((i : Int) + 1) = ((i + 1 : Nat) : Int) by rw [wrap_in (by omega) (by omega)]; rfl, allB]
    by_cases h1 : rd l (i : Int) < 0
    · have hf : bagAt l i = false := decide_eq_false (fun hh => by omega)
      simp only [if_pos h1, hf, Bool.false_and]; exact Ev.now _
    · by_cases h9 : rd l (i : Int) > 9
      · have hf : bagAt l i = false := decide_eq_false (fun hh => by omega)
        simp only [if_neg h1, if_pos h9, hf, Bool.false_and]; exact Ev.now _
      · simp only [if_neg h1, if_neg h9]
        by_cases h0 : (i : Int) > 0
        · have e : wrap64 ((i : Int) - 1) = ((i - 1 : Nat) : Int) := by rw [wrap_in (by omega) (by omega)]; omega
          simp only [if_pos h0, e, if_pos (show (0 : Int) ≤ ((i - 1 : Nat) : Int) by omega), if_pos (show ((i - 1 : Nat) : Int) < (l.length : Int) by omega)]
          by_cases h2 : rd l (i : Int) > rd l ((i - 1 : Nat) : Int)
          · have hf : bagAt l i = false := decide_eq_false (fun hh => by have := hh.2.2 (by omega); omega)
            simp only [if_pos h2, hf, Bool.false_and]; exact Ev.now _
          · have ht : bagAt l i = true := decide_eq_true ⟨by omega, by omega, fun _ => by omega⟩
            simp only [if_neg h2, ht, Bool.true_and]; exact ih (i + 1) (by omega)
        · have ht : bagAt l i = true := decide_eq_true ⟨by omega, by omega, fun _ => by omega⟩
          simp only [if_neg h0, ht, Bool.true_and]; exact ih (i + 1) (by omega)
theorem impl_BagValid_ev (l : List Int) (hb : l.length ≤ 140737488351232) : Ev (fun k => impl_BagValid.f k l) (bagOk l) := impl_BagValid_l0 l hb l.length 0 (by omega)
theorem rd_drop (l : List Int) (a i : Nat) : rd (l.drop a) (i : Int) = rd l ((a + i : Nat) : Int) := by simp only [rd, Int.toNat_natCast, List.getD_eq_getElem?_getD, List.getElem?_drop]
theorem bagOk_drop {l : List Int} (h : bagOk l = true) (a : Nat) : bagOk (l.drop a) = true := by
  simp only [bagOk, Bool.and_eq_true, allB_iff, decide_eq_true_eq, bagAt, rd_drop] at h ⊢
  refine ⟨fun m _ hm => ?_, by simp; omega⟩
  rw [List.length_drop] at hm
  obtain ⟨h1, h2, h3⟩ := h.1 (a + m) (by omega) (by omega)
  refine ⟨h1, h2, fun h0 => ?_⟩
  have := h3 (by omega)
  rw [show a + m - 1 = a + (m - 1) by omega] at this
  exact this

-- part: law_FnExactBagValid
theorem FnExactBagValid : laws_FnExactBagValid.Pure := by
  intro l0 _ hl _
  refine Ev.rounds ?_
  simp only [laws_FnExactBagValid.f]
  by_cases hb : (l0.length : Int) > 1048576
  · simp only [if_pos hb]; exact Ev.now _
  · simp only [if_neg hb]
    have ht := toIntS_ev l0 (by omega)
    refine Ev.bind ht ?_
    refine Ev.bind (spec_BagValid_ev l0 (by omega)) ?_
    refine Ev.bind ht ?_
    refine Ev.bind (impl_BagValid_ev l0 (by omega)) ?_
    simp only [bne_self_eq_false, Bool.false_eq_true, if_false]
    refine Ev.bind ht ?_
    refine Ev.bind (eqIntS_ev l0 l0 (by omega)) ?_
    simp only [decide_true, if_true]
    exact Ev.now _

end Go.Proofs.Ytndohhiocnimaaa.Pure

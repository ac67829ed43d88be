/- The law FnExactRowCompare returns true for every input that the statement lets in; no condition of our own. -/
import Derived.Test.YtpnmaimmmcgcoaaPFnExactRowComparex2
import Derived.Test.YtpnmaimmmcgcoaaWSized
namespace Go.Proofs.Ytpnmaimmmcgcoaa
open Go.ChangeShapes Go.WideShapes in
/-- The printed row names this word of the seat's without its first part. -/
theorem PrintWords.sized_ints {H : Type} {enc : TypeId × Value → H} {P : Program} {W : World} {base : Nat} {spare : Nat → Bool} {held : Bool} {t e : TypeId} {k : IntKind} {a : Option Addr} {len cap : Nat} {d : DataW H} {ps : List MemPlace} {ts : List TypeId} {ds : List (DataW H)} {j : Nat}
    (hsz : (DataW.weightsEach P ts ds).all (· ≤ reachBytes) = true) (ht : ts[j]? = some t) (hd : ds[j]? = some d) (hu : P.underlying t = some (.slice e)) (he : P.underlying e = some (.int k)) (hc : P.cellsOf e = 1) {B : Nat} (hB : P.bytesOf e = B)
    (h : DataW.Trod enc P W base spare held t (.slice a len cap) d ps) : len * B ≤ 140737488351232 :=
  Go.Proofs.YtpnmaimmmcgcoaaW.PrintWords.sized_ints hsz ht hd hu he hc hB h
end Go.Proofs.Ytpnmaimmmcgcoaa
namespace Go.Proofs.Ytpnmaimmmcgcoaa.Pure
open Go.RowKit Go.Proofs.Ytpnmaimmmcgcoaa.PFnExactRowCompare Go.Proofs.YtpnmaimmmcgcoaaW.PrintWords Go.Proofs.YtpnmaimmmcgcoaaW.PrintLast
set_option linter.unusedVariables false
set_option linter.unusedSimpArgs false

-- part: base
/-! ### words of mine -/
theorem ev_s {α : Type} {g : Nat → Option α} {r : α} (h : Ev (fun k => g (k + 1)) r) : Ev g r := Ev.step (fun _ => rfl) h
theorem ev_eq {α : Type} {g : Nat → Option α} {r q : α} (h : Ev g r) (e : r = q) : Ev g q := e ▸ h
theorem ev_now {α : Type} {r q : α} (e : r = q) : Ev (fun _ => some r) q := e ▸ Ev.now r
theorem wrap_in {x : Int} (h0 : -9223372036854775808 ≤ x) (h1 : x ≤ 9223372036854775807) : wrap64 x = x := by unfold wrap64; omega
theorem rd_eq (xs : List Int) (i : Nat) : rd xs (i : Int) = xs.getD i 0 := by simp [rd]
theorem rd_get {xs : List Int} {i : Nat} (h : i < xs.length) : rd xs (i : Int) = xs[i] := by simp [rd, h]

-- part: toIntS
theorem toIntS_l0 (l : List Int) (hl : l.length ≤ 35184372088832) : ∀ (d i : Nat) (x : List Int), i + d = l.length → x.length = l.length → x.take i = l.take i → Ev (fun k => laws_toIntS.l0 k l x i) l := by
  intro d
  induction d with
  | zero =>
    intro i x h hx ht
    refine ev_s ?_
    simp only [laws_toIntS.l0]
    rw [show i = l.length by omega] at ht ⊢
    simp only [if_neg (show ¬ ((l.length : Int) < (l.length : Int)) by omega)]
    rw [List.take_of_length_le (by omega), List.take_length] at ht
    rw [ht]; exact Ev.now _
  | succ d ih =>
    intro i x h hx ht
    refine ev_s ?_
    simp only [laws_toIntS.l0]
    simp only [if_pos (show (i : Int) < (l.length : Int) by omega), if_pos (show (0 : Int) ≤ (i : Int) by omega), if_pos (show (i : Int) < (x.length : Int) by omega), show wrap64 ((i : Int) + 1) = ((i + 1 : Nat) : Int) by rw [wrap_in (by omega) (by omega)]; rfl, Int.toNat_natCast]
    refine ih (i + 1) _ (by omega) (by simpa using hx) ?_
    rw [rd_get (show i < l.length by omega)]
    apply List.ext_getElem?
    intro j
    have := congrArg (fun z => z[j]?) ht
    simp only [List.getElem?_take] at this ⊢
    by_cases hj : j < i
    · rw [if_pos hj, if_pos hj] at this
      rw [if_pos (by omega), if_pos (by omega), List.getElem?_set_ne (by omega)]; exact this
    · by_cases hji : j = i
      · subst hji
        rw [if_pos (by omega), if_pos (by omega), List.getElem?_set_self (by omega), List.getElem?_eq_getElem (by omega)]
      · rw [if_neg (by omega), if_neg (by omega)]
theorem toIntS_ev (l : List Int) (hl : l.length ≤ 35184372088832) : Ev (fun k => laws_toIntS.f k l) l := by
  simp only [laws_toIntS.f, Int.toNat_natCast, if_pos (show (0 : Int) ≤ (l.length : Int) by omega), if_pos hl]
  exact toIntS_l0 l hl l.length 0 _ (by omega) (by simp) (by simp)

-- part: eqIntS
theorem eqIntS_l0 (F : Nat → List Int → List Int → Int → Option Bool)
    (h0 : ∀ k a b i, F (k + 1) a b i = if i < (a.length : Int) then (if 0 ≤ i then (if i < (b.length : Int) then (if (rd a i) = (rd b i) then (F k a b (wrap64 (i + 1))) else (some false)) else none) else none) else some true)
    (a b : List Int) (hl : a.length = b.length) (hb : a.length ≤ 140737488351232) : ∀ (d i : Nat), i + d = a.length → a.take i = b.take i → Ev (fun k => F k a b i) (decide (a = b)) := by
  intro d
  induction d with
  | zero =>
    intro i h ht
    refine ev_s ?_
    simp only [h0]
    simp only [if_neg (show ¬ ((i : Int) < (a.length : Int)) by omega)]
    rw [List.take_of_length_le (by omega), List.take_of_length_le (by omega)] at ht
    simp only [ht, decide_true]; exact Ev.now _
  | succ d ih =>
    intro i h ht
    refine ev_s ?_
    simp only [h0]
    simp only [if_pos (show (i : Int) < (a.length : Int) by omega), if_pos (show (0 : Int) ≤ (i : Int) by omega), if_pos (show (i : Int) < (b.length : Int) by omega), show wrap64 ((i : Int) + 1) = ((i + 1 : Nat) : Int) by rw [wrap_in (by omega) (by omega)]; rfl]
    rw [rd_get (show i < a.length by omega), rd_get (show i < b.length by omega)]
    by_cases he : a[i] = b[i]
    · simp only [if_pos he]
      refine ih (i + 1) (by omega) ?_
      rw [List.take_succ_eq_append_getElem (by omega), List.take_succ_eq_append_getElem (by omega), ht, he]
    · simp only [if_neg he]
      refine ev_now (Eq.symm (decide_eq_false (fun hab => he ?_)))
      subst hab; rfl
theorem eqIntS_ev (a b : List Int) (hb : a.length ≤ 140737488351232) : Ev (fun k => laws_eqIntS.f k a b) (decide (a = b)) := by
  simp only [laws_eqIntS.f]
  by_cases hl : a.length = b.length
  · simp only [if_pos (show (a.length : Int) = (b.length : Int) by omega)]
    exact eqIntS_l0 laws_eqIntS.l0 (fun _ _ _ _ => rfl) a b hl hb a.length 0 (by omega) (by simp)
  · simp only [if_neg (show ¬ ((a.length : Int) = (b.length : Int)) by omega)]
    exact ev_now (Eq.symm (decide_eq_false (fun hab => hl (by rw [hab]))))

-- part: l1In
theorem l1In_eq (n lo hi : Int) : spec_l1In.f n lo hi = some (decide (lo ≤ n ∧ n ≤ hi)) := by
  unfold spec_l1In.f
  by_cases h : n ≥ lo
  · rw [if_pos h]; simp [show lo ≤ n from h]
  · rw [if_neg h]; simp [show ¬ lo ≤ n from h]

-- part: RowValid
/-- What both of them say. -/
def rowOk (l : List Int) : Bool := l.all (fun x => decide (0 ≤ x ∧ x ≤ 9999)) && decide (1 ≤ l.length ∧ l.length ≤ 5)
theorem rowOk_drop {l : List Int} {i : Nat} (h : i < l.length) : (l.drop i).all (fun x => decide (0 ≤ x ∧ x ≤ 9999)) = (decide (0 ≤ l[i] ∧ l[i] ≤ 9999) && (l.drop (i + 1)).all (fun x => decide (0 ≤ x ∧ x ≤ 9999))) := by
  rw [List.drop_eq_getElem_cons h]; rfl
theorem spec_RowValid_l0 (l : List Int) (hb : l.length ≤ 140737488351232) : ∀ (d i : Nat), i + d = l.length → Ev (fun k => spec_RowValid.l0 k l i) ((l.drop i).all (fun x => decide (0 ≤ x ∧ x ≤ 9999)) && decide (1 ≤ l.length ∧ l.length ≤ 5)) := by
  intro d
  induction d with
  | zero =>
    intro i h
    refine ev_s ?_
    simp only [spec_RowValid.l0, l1In_eq, Option.bind_some]
    simp only [if_neg (show ¬ ((i : Int) < (l.length : Int)) by omega)]
    rw [List.drop_of_length_le (by omega)]
    refine ev_now ?_
    simp only [List.all_nil, Bool.true_and]
    exact decide_eq_decide.mpr (by omega)
  | succ d ih =>
    intro i h
    refine ev_s ?_
    simp only [spec_RowValid.l0, l1In_eq, Option.bind_some]
    simp only [if_pos (show (i : Int) < (l.length : Int) by omega), if_pos (show (0 : Int) ≤ (i : Int) by omega), show wrap64 ((i : Int) + 1) = ((i + 1 : Nat) : Int) by rw [wrap_in (by omega) (by omega)]; rfl]
    rw [rd_get (show i < l.length by omega), rowOk_drop (by omega)]
    by_cases hc : 0 ≤ l[i] ∧ l[i] ≤ 9999
    · simp only [decide_eq_true hc, Bool.true_and, if_true]
      exact ih (i + 1) (by omega)
    · simp only [decide_eq_false hc, Bool.false_and, Bool.false_eq_true, if_false]
      exact Ev.now _
theorem spec_RowValid_ev (l : List Int) (hb : l.length ≤ 140737488351232) : Ev (fun k => spec_RowValid.f k l) (rowOk l) := spec_RowValid_l0 l hb l.length 0 (by omega)
theorem impl_RowValid_l0 (l : List Int) (hb : l.length ≤ 140737488351232) : ∀ (d i : Nat), i + d = l.length → Ev (fun k => impl_RowValid.l0 k l l (l.length : Int) i) ((l.drop i).all (fun x => decide (0 ≤ x ∧ x ≤ 9999)) && decide (1 ≤ l.length ∧ l.length ≤ 5)) := by
  intro d
  induction d with
  | zero =>
    intro i h
    refine ev_s ?_
    simp only [impl_RowValid.l0]
    simp only [if_neg (show ¬ ((i : Int) < (l.length : Int)) by omega)]
    rw [List.drop_of_length_le (by omega)]
    by_cases hc : (l.length : Int) ≥ 1
    · simp only [if_pos hc]
      refine ev_now ?_
      simp only [List.all_nil, Bool.true_and]
      exact decide_eq_decide.mpr (by omega)
    · simp only [if_neg hc]
      refine ev_now ?_
      simp only [List.all_nil, Bool.true_and]
      exact (decide_eq_false (by omega)).symm
  | succ d ih =>
    intro i h
    refine ev_s ?_
    simp only [impl_RowValid.l0]
    simp only [if_pos (show (i : Int) < (l.length : Int) by omega), if_pos (show (0 : Int) ≤ (i : Int) by omega), show wrap64 ((i : Int) + 1) = ((i + 1 : Nat) : Int) by rw [wrap_in (by omega) (by omega)]; rfl]
    rw [rd_get (show i < l.length by omega), rowOk_drop (by omega)]
    by_cases h1 : l[i] < 0
    · simp only [if_pos h1, decide_eq_false (show ¬ (0 ≤ l[i] ∧ l[i] ≤ 9999) by omega), Bool.false_and]
      exact Ev.now _
    · by_cases h2 : l[i] > 9999
      · simp only [if_neg h1, if_pos h2, decide_eq_false (show ¬ (0 ≤ l[i] ∧ l[i] ≤ 9999) by omega), Bool.false_and]
        exact Ev.now _
      · simp only [if_neg h1, if_neg h2, decide_eq_true (show (0 ≤ l[i] ∧ l[i] ≤ 9999) by omega), Bool.true_and]
        exact ih (i + 1) (by omega)
theorem impl_RowValid_ev (l : List Int) (hb : l.length ≤ 140737488351232) : Ev (fun k => impl_RowValid.f k l) (rowOk l) := impl_RowValid_l0 l hb l.length 0 (by omega)

-- part: RowCompare
/-- The first place at which they differ. -/
def cmpG : List Int → List Int → Int
  | x :: a, y :: b => if x < y then -1 else if x > y then 1 else cmpG a b
  | _, _ => 0
theorem cmpG_drop {a b : List Int} {i : Nat} (ha : i < a.length) (hb : i < b.length) : cmpG (a.drop i) (b.drop i) = if a[i] < b[i] then -1 else if a[i] > b[i] then 1 else cmpG (a.drop (i + 1)) (b.drop (i + 1)) := by
  rw [List.drop_eq_getElem_cons ha, List.drop_eq_getElem_cons hb]; rfl
theorem spec_RowCompare_l0 (a b : List Int) (hab : a.length = b.length) (hb : a.length ≤ 140737488351232) : ∀ (d i : Nat), i + d = a.length → Ev (fun k => spec_RowCompare.l0 k a b i) (cmpG (a.drop i) (b.drop i)) := by
  intro d
  induction d with
  | zero =>
    intro i h
    refine ev_s ?_
    simp only [spec_RowCompare.l0, if_neg (show ¬ ((i : Int) < (a.length : Int)) by omega)]
    rw [List.drop_of_length_le (by omega)]
    exact Ev.now _
  | succ d ih =>
    intro i h
    refine ev_s ?_
    simp only [spec_RowCompare.l0, if_pos (show (i : Int) < (a.length : Int) by omega), if_pos (show (i : Int) < (b.length : Int) by omega), if_pos (show (0 : Int) ≤ (i : Int) by omega), show wrap64 ((i : Int) + 1) = ((i + 1 : Nat) : Int) by rw [wrap_in (by omega) (by omega)]; rfl]
    rw [rd_get (show i < a.length by omega), rd_get (show i < b.length by omega), cmpG_drop (by omega) (by omega)]
    by_cases h1 : a[i] < b[i]
    · simp only [if_pos h1]; exact Ev.now _
    · by_cases h2 : a[i] > b[i]
      · simp only [if_neg h1, if_pos h2]; exact Ev.now _
      · simp only [if_neg h1, if_neg h2]; exact ih (i + 1) (by omega)
theorem cmpInt_eq (x y : Int) : cmp_Compare_int.f x y = some (if x < y then -1 else if x > y then 1 else 0) := by
  simp only [cmp_Compare_int.f, cmp_isNaN_int.f, Option.bind_some, bne_self_eq_false, Bool.false_eq_true, if_false]
  by_cases h1 : x < y
  · simp [h1]
  · by_cases h2 : x > y
    · simp [h1, h2]
    · simp [h1, h2]
theorem impl_Compare_l0 (a b : List Int) (hab : a.length = b.length) (hb : a.length ≤ 140737488351232) : ∀ (d i : Nat), i + d = a.length → Ev (fun k => slices_Compare_int_int.l0 k a b a (a.length : Int) i) (cmpG (a.drop i) (b.drop i)) := by
  intro d
  induction d with
  | zero =>
    intro i h
    refine ev_s ?_
    simp only [slices_Compare_int_int.l0, if_neg (show ¬ ((i : Int) < (a.length : Int)) by omega), if_neg (show ¬ ((a.length : Int) < (b.length : Int)) by omega)]
    rw [List.drop_of_length_le (by omega)]
    exact Ev.now _
  | succ d ih =>
    intro i h
    refine ev_s ?_
    simp only [slices_Compare_int_int.l0, if_pos (show (i : Int) < (a.length : Int) by omega), if_neg (show ¬ ((i : Int) ≥ (b.length : Int)) by omega), if_pos (show (i : Int) < (b.length : Int) by omega), if_pos (show (0 : Int) ≤ (i : Int) by omega), show wrap64 ((i : Int) + 1) = ((i + 1 : Nat) : Int) by rw [wrap_in (by omega) (by omega)]; rfl, cmpInt_eq, Option.bind_some]
    rw [rd_get (show i < a.length by omega), rd_get (show i < b.length by omega), cmpG_drop (by omega) (by omega)]
    by_cases h1 : a[i] < b[i]
    · simp only [if_pos h1, if_neg (show ¬ ((-1 : Int) = 0) by decide)]; exact Ev.now _
    · by_cases h2 : a[i] > b[i]
      · simp only [if_neg h1, if_pos h2, if_neg (show ¬ ((1 : Int) = 0) by decide)]; exact Ev.now _
      · simp only [if_neg h1, if_neg h2, if_true]; exact ih (i + 1) (by omega)
def rowCmp (a b : List Int) : Int := if rowOk a = true ∧ rowOk b = true ∧ a.length = b.length then cmpG a b else -2
theorem spec_RowCompare_ev (a b : List Int) (ha : a.length ≤ 140737488351232) (hb : b.length ≤ 140737488351232) : Ev (fun k => spec_RowCompare.f k a b) (rowCmp a b) := by
  simp only [spec_RowCompare.f]
  refine Ev.bind (spec_RowValid_ev a ha) ?_
  unfold rowCmp
  cases h1 : rowOk a with
  | false =>
    simp only [Bool.false_eq_true, if_false, false_and]
    refine ev_s ?_
    simp only [spec_RowCompare.j0, if_true]
    exact Ev.now _
  | true =>
    simp only [if_true, true_and]
    refine Ev.bind (spec_RowValid_ev b hb) ?_
    cases h2 : rowOk b with
    | false =>
      simp only [Bool.false_eq_true, if_false, false_and]
      refine ev_s ?_
      simp only [spec_RowCompare.j0, if_true]
      exact Ev.now _
    | true =>
      simp only [if_true, true_and]
      refine ev_s ?_
      by_cases h : a.length = b.length
      · simp only [spec_RowCompare.j0, if_pos h, show ((a.length : Int) != (b.length : Int)) = false by rw [h]; simp, Bool.false_eq_true, if_false]
        exact spec_RowCompare_l0 a b h ha a.length 0 (by omega)
      · simp only [spec_RowCompare.j0, if_neg h, show ((a.length : Int) != (b.length : Int)) = true by rw [bne_iff_ne]; omega, if_true]
        exact Ev.now _
theorem impl_RowCompare_ev (a b : List Int) (ha : a.length ≤ 140737488351232) (hb : b.length ≤ 140737488351232) : Ev (fun k => impl_RowCompare.f k a b) (rowCmp a b) := by
  simp only [impl_RowCompare.f]
  refine Ev.bind (impl_RowValid_ev a ha) ?_
  unfold rowCmp
  cases h1 : rowOk a with
  | false => simp only [Bool.false_eq_true, if_false, false_and]; exact Ev.now _
  | true =>
    simp only [if_true, true_and]
    refine Ev.bind (impl_RowValid_ev b hb) ?_
    cases h2 : rowOk b with
    | false => simp only [Bool.false_eq_true, if_false, false_and]; exact Ev.now _
    | true =>
      simp only [if_true, true_and]
      by_cases h : a.length = b.length
      · simp only [if_pos h, if_pos (show (a.length : Int) = (b.length : Int) by omega), slices_Compare_int_int.f]
        refine Ev.bind (impl_Compare_l0 a b h ha a.length 0 (by omega)) ?_
        exact Ev.now _
      · simp only [if_neg h, if_neg (show ¬ ((a.length : Int) = (b.length : Int)) by omega)]; exact Ev.now _

-- part: law_FnExactRowCompare
theorem FnExactRowCompare : laws_FnExactRowCompare.Pure := by
  intro l0 l1 _ hl _ _ hl1 _
  refine Ev.rounds ?_
  simp only [laws_FnExactRowCompare.f]
  by_cases hb : (l0.length : Int) > 1048576
  · simp only [if_pos hb]; exact Ev.now _
  · simp only [if_neg hb]
    by_cases hb1 : (l1.length : Int) > 1048576
    · simp only [if_pos hb1]; exact Ev.now _
    · simp only [if_neg hb1]
      have ht := toIntS_ev l0 (by omega)
      have ht1 := toIntS_ev l1 (by omega)
      refine Ev.bind ht ?_
      refine Ev.bind ht1 ?_
      refine Ev.bind (spec_RowCompare_ev l0 l1 (by omega) (by omega)) ?_
      refine Ev.bind ht ?_
      refine Ev.bind ht1 ?_
      refine Ev.bind (impl_RowCompare_ev l0 l1 (by omega) (by omega)) ?_
      simp only [if_true]
      refine Ev.bind ht ?_
      refine Ev.bind (eqIntS_ev l0 l0 (by omega)) ?_
      simp only [decide_true, if_true]
      refine Ev.bind ht1 ?_
      refine Ev.bind (eqIntS_ev l1 l1 (by omega)) ?_
      simp only [decide_true, if_true]
      exact Ev.now _

end Go.Proofs.Ytpnmaimmmcgcoaa.Pure

/- The law FnRowOrd returns true for every input that the statement lets in; no condition of our own. -/
import Derived.Test.YtmmabfmomblllaaLax8
namespace Go.Proofs.Ytmmabfmomblllaa.Pure
open Go.RowKit Go.Proofs.Ytmmabfmomblllaa.La Go.Proofs.YtmmabfmomblllaaW.PrintWords Go.Proofs.YtmmabfmomblllaaW.PrintLast
set_option linter.unusedVariables false
set_option linter.unusedSimpArgs false

-- part: base
/-! ### words of mine -/
theorem ev_s {α : Type} {g : Nat → Option α} {r : α} (h : Ev (fun k => g (k + 1)) r) : Ev g r := Ev.step (fun _ => rfl) h
theorem ev_eq {α : Type} {g : Nat → Option α} {r q : α} (h : Ev g r) (e : r = q) : Ev g q := e ▸ h
theorem ev_now {α : Type} {r q : α} (e : r = q) : Ev (fun _ => some r) q := e ▸ Ev.now r
theorem wrap_in {x : Int} (h0 : -9223372036854775808 ≤ x) (h1 : x ≤ 9223372036854775807) : wrap64 x = x := by unfold wrap64; omega
theorem rd_eq (xs : List Int) (i : Nat) : rd xs (i : Int) = xs.getD i 0 := by simp [rd]
theorem rd_get {xs : List Int} {i : Nat} (h : i < xs.length) : rd xs (i : Int) = xs[i] := by simp [rd, h]
theorem wrap_nat2 (a b : Nat) (h : a + b < 4611686018427387904) : wrap64 ((a : Int) + (b : Int)) = ((a + b : Nat) : Int) := by rw [wrap_in (by omega) (by omega)]; omega
theorem ev_const {α : Type} {x : Option α} {a : α} (h : x = some a) : Ev (fun _ => x) a := by subst h; exact Ev.now a

-- part: eqLoop
theorem eqIntS_l0 (F : Nat → List Int → List Int → Int → Option Bool)
    (h0 : ∀ k a b i, F (k + 1) a b i = if i < (a.length : Int) then (if 0 ≤ i then (if i < (b.length : Int) then (if (rd a i) = (rd b i) then (F k a b (wrap64 (i + 1))) else (some false)) else none) else none) else some true)
    (a b : List Int) (hl : a.length = b.length) (hb : a.length ≤ 140737488351232) : ∀ (d i : Nat), i + d = a.length → a.take i = b.take i → Ev (fun k => F k a b i) (decide (a = b)) := by
  intro d
  induction d with
  | zero =>
    intro i h ht
    refine ev_s ?_
    simp only [h0]
    simp only [if_neg (show ¬ ((i : Int) < (a.length : Int)) by omega)]
    rw [List.take_of_length_le (by omega), List.take_of_length_le (by omega)] at ht
    simp only [ht, decide_true]; exact Ev.now _
  | succ d ih =>
    intro i h ht
    refine ev_s ?_
    simp only [h0]
    simp only [if_pos (show (i : Int) < (a.length : Int) by omega), if_pos (show (0 : Int) ≤ (i : Int) by omega), if_pos (show (i : Int) < (b.length : Int) by omega), show wrap64 ((i : Int) + 1) = ((i + 1 : Nat) : Int) by rw [wrap_in (by omega) (by omega)]; rfl]
    rw [rd_get (show i < a.length by omega), rd_get (show i < b.length by omega)]
    by_cases he : a[i] = b[i]
    · simp only [if_pos he]
      refine ih (i + 1) (by omega) ?_
      rw [List.take_succ_eq_append_getElem (by omega), List.take_succ_eq_append_getElem (by omega), ht, he]
    · simp only [if_neg he]
      refine ev_now (Eq.symm (decide_eq_false (fun hab => he ?_)))
      subst hab; rfl

-- part: sameInts
theorem sameInts_ev (a b : List Int) (hb : a.length ≤ 140737488351232) : Ev (fun k => laws_sameInts.f k a b) (decide (a = b)) := by
  simp only [laws_sameInts.f]
  by_cases hl : a.length = b.length
  · simp only [if_pos (show (a.length : Int) = (b.length : Int) by omega)]
    exact eqIntS_l0 laws_sameInts.l0 (fun _ _ _ _ => rfl) a b hl hb a.length 0 (by omega) (by simp)
  · simp only [if_neg (show ¬ ((a.length : Int) = (b.length : Int)) by omega)]
    exact ev_now (Eq.symm (decide_eq_false (fun hab => hl (by rw [hab]))))

-- part: l1In
theorem l1In_eq (n lo hi : Int) : spec_l1In.f n lo hi = some (decide (lo ≤ n ∧ n ≤ hi)) := by
  unfold spec_l1In.f
  by_cases h : n ≥ lo
  · rw [if_pos h]; simp [show lo ≤ n from h]
  · rw [if_neg h]; simp [show ¬ lo ≤ n from h]

-- part: RowValid
/-- What both of them say. -/
def rowOk (l : List Int) : Bool := l.all (fun x => decide (0 ≤ x ∧ x ≤ 9999)) && decide (1 ≤ l.length ∧ l.length ≤ 5)
theorem rowOk_drop {l : List Int} {i : Nat} (h : i < l.length) : (l.drop i).all (fun x => decide (0 ≤ x ∧ x ≤ 9999)) = (decide (0 ≤ l[i] ∧ l[i] ≤ 9999) && (l.drop (i + 1)).all (fun x => decide (0 ≤ x ∧ x ≤ 9999))) := by
  rw [List.drop_eq_getElem_cons h]; rfl
theorem spec_RowValid_l0 (l : List Int) (hb : l.length ≤ 140737488351232) : ∀ (d i : Nat), i + d = l.length → Ev (fun k => spec_RowValid.l0 k l i) ((l.drop i).all (fun x => decide (0 ≤ x ∧ x ≤ 9999)) && decide (1 ≤ l.length ∧ l.length ≤ 5)) := by
  intro d
  induction d with
  | zero =>
    intro i h
    refine ev_s ?_
    simp only [spec_RowValid.l0, l1In_eq, Option.bind_some]
    simp only [if_neg (show ¬ ((i : Int) < (l.length : Int)) by omega)]
    rw [List.drop_of_length_le (by omega)]
    refine ev_now ?_
    simp only [List.all_nil, Bool.true_and]
    exact decide_eq_decide.mpr (by omega)
  | succ d ih =>
    intro i h
    refine ev_s ?_
    simp only [spec_RowValid.l0, l1In_eq, Option.bind_some]
    simp only [if_pos (show (i : Int) < (l.length : Int) by omega), if_pos (show (0 : Int) ≤ (i : Int) by omega), show wrap64 ((i : Int) + 1) = ((i + 1 : Nat) : Int) by rw [wrap_in (by omega) (by omega)]; rfl]
    rw [rd_get (show i < l.length by omega), rowOk_drop (by omega)]
    by_cases hc : 0 ≤ l[i] ∧ l[i] ≤ 9999
    · simp only [decide_eq_true hc, Bool.true_and, if_true]
      exact ih (i + 1) (by omega)
    · simp only [decide_eq_false hc, Bool.false_and, Bool.false_eq_true, if_false]
      exact Ev.now _
theorem spec_RowValid_ev (l : List Int) (hb : l.length ≤ 140737488351232) : Ev (fun k => spec_RowValid.f k l) (rowOk l) := spec_RowValid_l0 l hb l.length 0 (by omega)
theorem impl_RowValid_l0 (l : List Int) (hb : l.length ≤ 140737488351232) : ∀ (d i : Nat), i + d = l.length → Ev (fun k => impl_RowValid.l0 k l l (l.length : Int) i) ((l.drop i).all (fun x => decide (0 ≤ x ∧ x ≤ 9999)) && decide (1 ≤ l.length ∧ l.length ≤ 5)) := by
  intro d
  induction d with
  | zero =>
    intro i h
    refine ev_s ?_
    simp only [impl_RowValid.l0]
    simp only [if_neg (show ¬ ((i : Int) < (l.length : Int)) by omega)]
    rw [List.drop_of_length_le (by omega)]
    by_cases hc : (l.length : Int) ≥ 1
    · simp only [if_pos hc]
      refine ev_now ?_
      simp only [List.all_nil, Bool.true_and]
      exact decide_eq_decide.mpr (by omega)
    · simp only [if_neg hc]
      refine ev_now ?_
      simp only [List.all_nil, Bool.true_and]
      exact (decide_eq_false (by omega)).symm
  | succ d ih =>
    intro i h
    refine ev_s ?_
    simp only [impl_RowValid.l0]
    simp only [if_pos (show (i : Int) < (l.length : Int) by omega), if_pos (show (0 : Int) ≤ (i : Int) by omega), show wrap64 ((i : Int) + 1) = ((i + 1 : Nat) : Int) by rw [wrap_in (by omega) (by omega)]; rfl]
    rw [rd_get (show i < l.length by omega), rowOk_drop (by omega)]
    by_cases h1 : l[i] < 0
    · simp only [if_pos h1, decide_eq_false (show ¬ (0 ≤ l[i] ∧ l[i] ≤ 9999) by omega), Bool.false_and]
      exact Ev.now _
    · by_cases h2 : l[i] > 9999
      · simp only [if_neg h1, if_pos h2, decide_eq_false (show ¬ (0 ≤ l[i] ∧ l[i] ≤ 9999) by omega), Bool.false_and]
        exact Ev.now _
      · simp only [if_neg h1, if_neg h2, decide_eq_true (show (0 ≤ l[i] ∧ l[i] ≤ 9999) by omega), Bool.true_and]
        exact ih (i + 1) (by omega)
theorem impl_RowValid_ev (l : List Int) (hb : l.length ≤ 140737488351232) : Ev (fun k => impl_RowValid.f k l) (rowOk l) := impl_RowValid_l0 l hb l.length 0 (by omega)

-- part: RowCompare
/-- The first place at which they differ. -/
def cmpG : List Int → List Int → Int
  | x :: a, y :: b => if x < y then -1 else if x > y then 1 else cmpG a b
  | _, _ => 0
theorem cmpG_drop {a b : List Int} {i : Nat} (ha : i < a.length) (hb : i < b.length) : cmpG (a.drop i) (b.drop i) = if a[i] < b[i] then -1 else if a[i] > b[i] then 1 else cmpG (a.drop (i + 1)) (b.drop (i + 1)) := by
  rw [List.drop_eq_getElem_cons ha, List.drop_eq_getElem_cons hb]; rfl
theorem cmpInt_eq (x y : Int) : cmp_Compare_int.f x y = some (if x < y then -1 else if x > y then 1 else 0) := by
  simp only [cmp_Compare_int.f, cmp_isNaN_int.f, Option.bind_some, bne_self_eq_false, Bool.false_eq_true, if_false]
  by_cases h1 : x < y
  · simp [h1]
  · by_cases h2 : x > y
    · simp [h1, h2]
    · simp [h1, h2]
def rowCmp (a b : List Int) : Int := if rowOk a = true ∧ rowOk b = true ∧ a.length = b.length then cmpG a b else -2

-- part: O
/-! ### ordinals -/
/-- An ordinal: a sum of terms w^e * n. -/
inductive O where
  | z : O
  | c (n : Nat) (e r : O) : O

-- part: coreO
def O.cmp : O → O → Ordering
  | .z, .z => .eq
  | .z, .c .. => .lt
  | .c .., .z => .gt
  | .c n e r, .c m f s => ((O.cmp e f).then (compare n m)).then (O.cmp r s)

theorem O.cmp_self : ∀ a : O, O.cmp a a = .eq
  | .z => rfl
  | .c n e r => by
    have h1 := O.cmp_self e
    have h2 := O.cmp_self r
    simp [O.cmp, h1, h2]

theorem O.eq_of_cmp : ∀ a b : O, O.cmp a b = .eq → a = b
  | .z, .z => fun _ => rfl
  | .z, .c .. => fun h => by simp [O.cmp] at h
  | .c .., .z => fun h => by simp [O.cmp] at h
  | .c n e r, .c m f s => fun h => by
    simp only [O.cmp, Ordering.then_eq_eq] at h
    obtain ⟨⟨h1, h2⟩, h3⟩ := h
    rw [O.eq_of_cmp e f h1, O.eq_of_cmp r s h3, Nat.compare_eq_eq.mp h2]

theorem O.cmp_swap : ∀ a b : O, (O.cmp a b).swap = O.cmp b a
  | .z, .z => rfl
  | .z, .c .. => rfl
  | .c .., .z => rfl
  | .c n e r, .c m f s => by
    have h1 := O.cmp_swap e f
    have h2 := O.cmp_swap r s
    simp only [O.cmp, Ordering.swap_then, h1, h2, Nat.compare_swap]

theorem O.cmp_gt_iff (a b : O) : O.cmp a b = .gt ↔ O.cmp b a = .lt := by
  rw [← O.cmp_swap a b]
  cases O.cmp a b <;> simp [Ordering.swap]

theorem O.lt_trans : ∀ a b c : O, O.cmp a b = .lt → O.cmp b c = .lt → O.cmp a c = .lt
  | .z, .z, _ => fun h => by simp [O.cmp] at h
  | .c .., .z, _ => fun h => by simp [O.cmp] at h
  | .z, .c .., .z => fun _ h => by simp [O.cmp] at h
  | .z, .c .., .c .. => fun _ _ => rfl
  | .c .., .c .., .z => fun _ h => by simp [O.cmp] at h
  | .c n e r, .c m f s, .c k g t => fun h1 h2 => by
    simp only [O.cmp, Ordering.then_eq_lt] at h1 h2 ⊢
    rcases h1 with (h1 | ⟨h1, h1'⟩) | ⟨h1, h1'⟩
    · rcases h2 with (h2 | ⟨h2, h2'⟩) | ⟨h2, h2'⟩
      · exact .inl (.inl (O.lt_trans _ _ _ h1 h2))
      · rw [← O.eq_of_cmp _ _ h2]; exact .inl (.inl h1)
      · rw [Ordering.then_eq_eq] at h2; rw [← O.eq_of_cmp _ _ h2.1]; exact .inl (.inl h1)
    · have := O.eq_of_cmp _ _ h1; subst this
      rcases h2 with (h2 | ⟨h2, h2'⟩) | ⟨h2, h2'⟩
      · exact .inl (.inl h2)
      · have h3 := O.eq_of_cmp _ _ h2; subst h3
        rw [Nat.compare_eq_lt] at h1' h2'
        exact .inl (.inr ⟨h2, Nat.compare_eq_lt.mpr (by omega)⟩)
      · rw [Ordering.then_eq_eq] at h2; rw [← Nat.compare_eq_eq.mp h2.2]; exact .inl (.inr ⟨h2.1, h1'⟩)
    · rw [Ordering.then_eq_eq] at h1
      have := O.eq_of_cmp _ _ h1.1; subst this
      have := Nat.compare_eq_eq.mp h1.2; subst this
      rcases h2 with (h2 | ⟨h2, h2'⟩) | ⟨h2, h2'⟩
      · exact .inl (.inl h2)
      · exact .inl (.inr ⟨h2, h2'⟩)
      · exact .inr ⟨h2, O.lt_trans _ _ _ h1' h2'⟩

theorem O.cmp_tri (a b : O) : O.cmp a b = .lt ∨ a = b ∨ O.cmp b a = .lt := by
  cases h : O.cmp a b with
  | lt => exact .inl rfl
  | eq => exact .inr (.inl (O.eq_of_cmp _ _ h))
  | gt => exact .inr (.inr ((O.cmp_gt_iff _ _).mp h))

theorem O.lt_irrefl (a : O) : O.cmp a a ≠ .lt := by rw [O.cmp_self]; simp
theorem O.lt_asymm {a b : O} (h : O.cmp a b = .lt) : O.cmp b a ≠ .lt := fun h' => O.lt_irrefl a (O.lt_trans _ _ _ h h')

/-- The first exponent is less than e. -/
def O.hd (e : O) : O → Prop
  | .z => True
  | .c _ f _ => O.cmp f e = .lt

/-- A normal form. -/
def O.NF : O → Prop
  | .z => True
  | .c n e r => 1 ≤ n ∧ O.NF e ∧ O.NF r ∧ O.hd e r

-- part: oRow
def O.len : O → Nat
  | .z => 0
  | .c _ _ r => O.len r + 1
def O.body : O → List Int
  | .z => []
  | .c n e r => (n : Int) :: (O.len e : Int) :: (O.body e ++ O.body r)
def O.row (o : O) : List Int := (O.len o : Int) :: O.body o
theorem O.len_le : ∀ o : O, o.len ≤ o.body.length
  | .z => Nat.le_refl _
  | .c n e r => by have := O.len_le r; simp only [O.len, O.body, List.length_cons, List.length_append]; omega
/-- These terms are this ordinal. -/
inductive IsO : List S42 → O → Prop where
  | nil : IsO [] .z
  | cons {n : Nat} {e r : List S42} {oe or_ : O} (he : IsO e oe) (hr : IsO r or_) : IsO (⟨(n : Int), e⟩ :: r) (.c n oe or_)
theorem IsO.len {l : List S42} {o : O} (h : IsO l o) : l.length = o.len := by
  induction h with
  | nil => rfl
  | cons he hr ihe ihr => simp [O.len, ihr]
theorem rd_T42_mid (pre suf : List S42) (x : S42) : rd_T42 (pre ++ x :: suf) ((pre.length : Nat) : Int) = x := by simp [rd_T42]
def O.num (n : Nat) : O := if n = 0 then .z else .c n .z .z
theorem number_eq (n : Nat) : ∃ l, impl_number.f (n : Int) = some l ∧ IsO l (O.num n) := by
  unfold impl_number.f O.num
  by_cases h : n = 0
  · subst h; exact ⟨[], rfl, .nil⟩
  · rw [if_neg (show ¬ ((n : Int) = 0) by omega), if_neg h]
    exact ⟨_, rfl, .cons .nil .nil⟩
theorem rowOf_l0 {suf : List S42} {o : O} (h : IsO suf o) : ∀ (pre : List S42) (out : List Int), pre.length + suf.length ≤ 1000000 → out.length + o.body.length ≤ 1000000 → Ev (fun k => impl_rowOf.l0 k out (pre ++ suf) (((pre ++ suf).length : Nat) : Int) (pre.length : Int)) (out ++ o.body) := by
  induction h with
  | nil =>
    intro pre out _ _
    refine ev_s ?_
    simp only [impl_rowOf.l0, List.append_nil, if_neg (show ¬ ((pre.length : Int) < (pre.length : Int)) by omega), O.body]
    exact Ev.now _
  | @cons n e r oe or_ he hr ihe ihr =>
    intro pre out hp ho
    simp only [List.length_cons] at hp
    simp only [O.body, List.length_cons, List.length_append] at ho
    have hlen : ((pre ++ (⟨(n : Int), e⟩ : S42) :: r).length : Nat) = pre.length + (r.length + 1) := by simp
    have he1 := IsO.len he
    have hel := O.len_le oe
    have hE : Ev (fun k => impl_rowOf.f k e) oe.row := by
      refine ev_s ?_
      simp only [impl_rowOf.f]
      have := ihe [] [(e.length : Int)] (by simp; omega) (by simp; omega)
      rw [List.nil_append] at this
      refine ev_eq this ?_
      rw [O.row, ← he1]; rfl
    refine ev_s ?_
    simp only [impl_rowOf.l0, rd_T42_mid, hlen, if_pos (show (pre.length : Int) < ((pre.length + (r.length + 1) : Nat) : Int) by omega), if_pos (show (0 : Int) ≤ (pre.length : Int) by omega), if_pos (show out.length < 17592186044416 by omega), Option.bind_some]
    refine Ev.bind hE ?_
    have hrow : oe.row.length = oe.body.length + 1 := by simp [O.row]
    simp only [List.length_append, List.length_singleton, hrow, if_pos (show out.length + 1 + (oe.body.length + 1) < 17592186044416 by omega), show wrap64 ((pre.length : Int) + 1) = ((pre.length + 1 : Nat) : Int) by rw [wrap_in (by omega) (by omega)]; rfl]
    have := ihr (pre ++ [⟨(n : Int), e⟩]) (out ++ [(n : Int)] ++ oe.row) (by simp; omega) (by simp [hrow]; omega)
    simp only [List.append_assoc, List.singleton_append, List.length_append, List.length_cons, List.length_nil] at this
    refine ev_eq ?_ (show out ++ ((n : Int) :: (oe.row ++ or_.body)) = out ++ (O.c n oe or_).body by simp [O.body, O.row])
    simp only [List.append_assoc, List.singleton_append]
    exact this
theorem rowOf_ev {l : List S42} {o : O} (h : IsO l o) (ho : o.body.length ≤ 100000) : Ev (fun k => impl_rowOf.f k l) o.row := by
  have hl := IsO.len h
  have := O.len_le o
  refine ev_s ?_
  simp only [impl_rowOf.f]
  have := rowOf_l0 h [] [(l.length : Int)] (by simp; omega) (by simp; omega)
  rw [List.nil_append] at this
  refine ev_eq this ?_
  rw [O.row, ← hl]; rfl

-- part: oBody
theorem O.row_length (o : O) : o.row.length = o.body.length + 1 := by simp [O.row]
theorem O.body_c (n : Nat) (e r : O) : (O.c n e r).body = (n : Int) :: (e.row ++ r.body) := by simp [O.body, O.row]

-- part: oAppDef
def O.app : O → O → O
  | .z, y => y
  | .c n e r, y => .c n e (O.app r y)
theorem O.app_z : ∀ x : O, O.app x .z = x
  | .z => rfl
  | .c n e r => by rw [O.app, O.app_z r]

-- part: oApp
theorem O.app_assoc : ∀ x y t : O, O.app (O.app x y) t = O.app x (O.app y t)
  | .z, _, _ => rfl
  | .c n e r, y, t => by simp only [O.app, O.app_assoc r y t]
theorem O.app_body : ∀ x y : O, (O.app x y).body = x.body ++ y.body
  | .z, _ => rfl
  | .c n e r, y => by simp only [O.app, O.body, O.app_body r y, List.cons_append, List.append_assoc]
theorem O.app_len : ∀ x y : O, (O.app x y).len = x.len + y.len
  | .z, _ => by simp [O.app, O.len]
  | .c n e r, y => by simp only [O.app, O.len, O.app_len r y]; omega
theorem IsO.app {a b : List S42} {x y : O} (ha : IsO a x) (hb : IsO b y) : IsO (a ++ b) (O.app x y) := by
  induction ha with
  | nil => exact hb
  | cons he _ _ ih => exact .cons he ih

-- part: oTerms
/-! ### reading ordinals back -/
/-- The terms of an ordinal. -/
def O.terms : O → List S42
  | .z => []
  | .c n e r => ⟨(n : Int), O.terms e⟩ :: O.terms r
theorem O.terms_is : ∀ o : O, IsO o.terms o
  | .z => .nil
  | .c n e r => .cons (O.terms_is e) (O.terms_is r)
theorem IsO.terms {l : List S42} {o : O} (h : IsO l o) : l = o.terms := by
  induction h with
  | nil => rfl
  | cons _ _ h1 h2 => rw [O.terms, h1, h2]
theorem O.terms_len (o : O) : o.terms.length = o.len := IsO.len o.terms_is
def ordI : Ordering → Int
  | .lt => -1
  | .eq => 0
  | .gt => 1
theorem ordI_swap (o : Ordering) : ordI o.swap = -ordI o := by cases o <;> rfl
theorem ordI_zero {o : Ordering} : ordI o = 0 ↔ o = .eq := by cases o <;> decide
theorem ordI_neg {o : Ordering} : ordI o < 0 ↔ o = .lt := by cases o <;> decide
theorem cmpInt_nat (x y : Nat) : cmp_Compare_int.f (x : Int) (y : Int) = some (ordI (compare x y)) := by
  simp only [cmp_Compare_int.f, cmp_isNaN_int.f, Option.bind_some, bne_self_eq_false, Bool.false_eq_true, if_false]
  by_cases h1 : x < y
  · rw [if_pos (show (x : Int) < (y : Int) by omega), Nat.compare_eq_lt.mpr h1]; rfl
  · by_cases h2 : y < x
    · rw [if_neg (show ¬ ((x : Int) < (y : Int)) by omega), if_pos (show (x : Int) > (y : Int) by omega), Nat.compare_eq_gt.mpr h2]; rfl
    · rw [if_neg (show ¬ ((x : Int) < (y : Int)) by omega), if_neg (show ¬ ((x : Int) > (y : Int)) by omega), Nat.compare_eq_eq.mpr (by omega)]; rfl
theorem ordI_then (a b : Ordering) : ordI (a.then b) = if ordI a = 0 then ordI b else ordI a := by cases a <;> rfl
theorem compare_step (n m : Nat) (e r f s : O) (pa pb : List S42) (hp : pa.length = pb.length) (hb : pa.length ≤ 1000000) (h1 : Ev (fun k => impl_compare.f k e.terms f.terms) (ordI (O.cmp e f)))
    (h2 : Ev (fun k => impl_compare.l0 k (pa ++ ((⟨(n : Int), O.terms e⟩ : S42) :: O.terms r)) (pb ++ ((⟨(m : Int), O.terms f⟩ : S42) :: O.terms s)) ((pa.length + 1 : Nat) : Int)) (ordI (O.cmp r s))) :
    Ev (fun k => impl_compare.l0 k (pa ++ ((⟨(n : Int), O.terms e⟩ : S42) :: O.terms r)) (pb ++ ((⟨(m : Int), O.terms f⟩ : S42) :: O.terms s)) (pa.length : Int)) (ordI (O.cmp (.c n e r) (.c m f s))) := by
  have hla : (pa ++ ((⟨(n : Int), O.terms e⟩ : S42) :: O.terms r)).length = pa.length + (r.terms.length + 1) := by simp
  have hlb : (pb ++ ((⟨(m : Int), O.terms f⟩ : S42) :: O.terms s)).length = pb.length + (s.terms.length + 1) := by simp
  have ea : rd_T42 (pa ++ ((⟨(n : Int), O.terms e⟩ : S42) :: O.terms r)) (pa.length : Int) = ⟨(n : Int), O.terms e⟩ := rd_T42_mid pa r.terms ⟨(n : Int), O.terms e⟩
  have eb : rd_T42 (pb ++ ((⟨(m : Int), O.terms f⟩ : S42) :: O.terms s)) (pa.length : Int) = ⟨(m : Int), O.terms f⟩ := by rw [hp]; exact rd_T42_mid pb s.terms ⟨(m : Int), O.terms f⟩
  generalize pa ++ ((⟨(n : Int), O.terms e⟩ : S42) :: O.terms r) = A at *
  generalize pb ++ ((⟨(m : Int), O.terms f⟩ : S42) :: O.terms s) = B at *
  have ew : wrap64 ((pa.length : Int) + 1) = ((pa.length + 1 : Nat) : Int) := wrap_nat2 pa.length 1 (by omega)
  have g1 : (pa.length : Int) < (A.length : Int) := by omega
  have g2 : (pa.length : Int) < (B.length : Int) := by omega
  refine ev_s ?_
  simp only [impl_compare.l0, if_pos g1, decide_eq_true g2]
  refine ev_s ?_
  simp only [impl_compare.j1, if_true, if_pos (show (0 : Int) ≤ (pa.length : Int) from Int.natCast_nonneg _), if_pos g1, if_pos g2, ea, eb, ew]
  refine Ev.bind h1 ?_
  rw [O.cmp, ordI_then, ordI_then]
  by_cases q1 : ordI (O.cmp e f) = 0
  · simp only [if_pos q1, cmpInt_nat, Option.bind_some]
    by_cases q2 : ordI (compare n m) = 0
    · simp only [if_pos q2]
      exact h2
    · simp only [if_neg q2]
      exact Ev.now _
  · simp only [if_neg q1]
    exact Ev.now _
theorem compare_l0 : ∀ (x y : O) (pa pb : List S42), pa.length = pb.length → pa.length + x.body.length ≤ 1000000 → pb.length + y.body.length ≤ 1000000 →
    Ev (fun k => impl_compare.l0 k (pa ++ x.terms) (pb ++ y.terms) (pa.length : Int)) (ordI (O.cmp x y))
  | .z, .z, pa, pb, hp, _, _ => by
    refine ev_s ?_
    simp only [impl_compare.l0, O.terms, List.append_nil, if_neg (show ¬ ((pa.length : Int) < (pa.length : Int)) by omega)]
    refine ev_s ?_
    simp only [impl_compare.j1, Bool.false_eq_true, if_false, cmpInt_nat, Option.bind_some, hp, Nat.compare_eq_eq.mpr]
    exact Ev.now _
  | .z, .c m f s, pa, pb, hp, _, _ => by
    refine ev_s ?_
    simp only [impl_compare.l0, O.terms, List.append_nil, if_neg (show ¬ ((pa.length : Int) < (pa.length : Int)) by omega)]
    refine ev_s ?_
    have hl : (pb ++ (⟨(m : Int), O.terms f⟩ :: O.terms s : List S42)).length = pb.length + (s.terms.length + 1) := by simp
    simp only [impl_compare.j1, Bool.false_eq_true, if_false, cmpInt_nat, Option.bind_some, hl, Nat.compare_eq_lt.mpr (show pa.length < pb.length + (s.terms.length + 1) by omega)]
    exact Ev.now _
  | .c n e r, .z, pa, pb, hp, _, _ => by
    refine ev_s ?_
    have hl : (pa ++ (⟨(n : Int), O.terms e⟩ :: O.terms r : List S42)).length = pa.length + (r.terms.length + 1) := by simp
    simp only [impl_compare.l0, O.terms, List.append_nil, hl, if_pos (show (pa.length : Int) < ((pa.length + (r.terms.length + 1) : Nat) : Int) by omega), decide_eq_false (show ¬ ((pa.length : Int) < (pb.length : Int)) by omega)]
    refine ev_s ?_
    simp only [impl_compare.j1, Bool.false_eq_true, if_false, hl, cmpInt_nat, Option.bind_some, Nat.compare_eq_gt.mpr (show pb.length < pa.length + (r.terms.length + 1) by omega)]
    exact Ev.now _
  | .c n e r, .c m f s, pa, pb, hp, ha, hb => by
    simp only [O.body, List.length_cons, List.length_append] at ha hb
    have ih1 : Ev (fun k => impl_compare.f k e.terms f.terms) (ordI (O.cmp e f)) := by
      have := compare_l0 e f [] [] rfl (by simp only [List.length_nil]; omega) (by simp only [List.length_nil]; omega)
      rw [List.nil_append, List.nil_append] at this
      refine ev_s ?_
      simp only [impl_compare.f]
      exact this
    have ih2 := compare_l0 r s (pa ++ [⟨(n : Int), e.terms⟩]) (pb ++ [⟨(m : Int), f.terms⟩]) (by simp only [List.length_append, List.length_singleton, hp]) (by simp only [List.length_append, List.length_singleton]; omega) (by simp only [List.length_append, List.length_singleton]; omega)
    simp only [List.append_assoc, List.singleton_append, List.length_append, List.length_singleton] at ih2
    exact compare_step n m e r f s pa pb hp (by omega) ih1 ih2
theorem compare_ev (x y : O) (hx : x.body.length ≤ 100000) (hy : y.body.length ≤ 100000) : Ev (fun k => impl_compare.f k x.terms y.terms) (ordI (O.cmp x y)) := by
  have := compare_l0 x y [] [] rfl (by simp; omega) (by simp; omega)
  rw [List.nil_append, List.nil_append] at this
  refine ev_s ?_
  simp only [impl_compare.f]
  exact this
/-- In reach of the reader: each sum has 60 terms at most, each number is in 1..9999, the exponents fall. -/
def O.Sm : O → Prop
  | .z => True
  | .c n e r => (1 ≤ n ∧ n ≤ 9999) ∧ (O.Sm e ∧ e.len ≤ 60) ∧ O.Sm r ∧ O.hd e r
theorem O.Sm.nf : ∀ {o : O}, o.Sm → o.NF
  | .z, _ => trivial
  | .c n e r, h => ⟨h.1.1, O.Sm.nf h.2.1.1, O.Sm.nf h.2.2.1, h.2.2.2⟩
/-- What stands last ahead: nothing, or a term with this exponent. -/
def LastE (pa : List S42) (r : O) : Prop := pa = [] ∨ ∃ pb m f, pa = pb ++ [⟨m, O.terms f⟩] ∧ f.body.length ≤ 100000 ∧ O.hd f r
theorem takeOrd_l0 : ∀ (r : O), r.Sm → ∀ (pa : List S42) (t : List Int), pa.length + r.len ≤ 60 → r.body.length ≤ 100000 → LastE pa r →
    Ev (fun k => impl_takeOrd.l0 k (r.body ++ t) pa ((pa.length + r.len : Nat) : Int) (pa.length : Int)) (pa ++ r.terms, t, true)
  | .z, _, pa, t, _, _, _ => by
    refine ev_s ?_
    simp only [impl_takeOrd.l0, O.len, O.body, O.terms, Nat.add_zero, List.nil_append, List.append_nil, Int.lt_irrefl, if_false]
    exact Ev.now _
  | .c n e r, hs, pa, t, hl, hb, hlast => by
    obtain ⟨hn, ⟨hse, hle⟩, hsr, hhd⟩ := hs
    simp only [O.len] at hl
    simp only [O.body, List.length_cons, List.length_append] at hb
    have ihr := takeOrd_l0 r hsr (pa ++ [⟨(n : Int), e.terms⟩]) t (by simp; omega) (by omega) (.inr ⟨pa, n, e, rfl, by omega, hhd⟩)
    have ihe : Ev (fun k => impl_takeOrd.f k ((e.len : Int) :: (e.body ++ (r.body ++ t)))) (e.terms, r.body ++ t, true) := by
      have := takeOrd_l0 e hse [] (r.body ++ t) (by simpa using hle) (by omega) (.inl rfl)
      simp only [List.length_nil, Nat.zero_add, List.nil_append] at this
      refine ev_s ?_
      have hc : rd ((e.len : Int) :: (e.body ++ (r.body ++ t))) 0 = (e.len : Int) := rfl
      simp only [impl_takeOrd.f, List.length_cons, if_neg (show ¬ (((e.body ++ (r.body ++ t)).length + 1 : Nat) : Int) = 0 by omega), if_pos (show (0 : Int) < (((e.body ++ (r.body ++ t)).length + 1 : Nat) : Int) by omega), if_pos (show (1 : Int) ≤ (((e.body ++ (r.body ++ t)).length + 1 : Nat) : Int) by omega), Option.bind_some, hc, List.drop_succ_cons, List.drop_zero, if_neg (show ¬ ((e.len : Int) < 0) by omega), decide_eq_false (show ¬ ((e.len : Int) > 60) by omega)]
      refine ev_s ?_
      simp only [impl_takeOrd.j0, Bool.false_eq_true, if_false]
      exact this
    have hbody : (O.c n e r).body ++ t = (n : Int) :: ((e.len : Int) :: (e.body ++ (r.body ++ t))) := by simp [O.body]
    have hc : rd ((n : Int) :: ((e.len : Int) :: (e.body ++ (r.body ++ t)))) 0 = (n : Int) := rfl
    have hw : wrap64 ((pa.length : Int) + 1) = (((pa ++ [(⟨(n : Int), e.terms⟩ : S42)]).length : Nat) : Int) := by
      rw [List.length_append, List.length_singleton]; exact wrap_nat2 pa.length 1 (by omega)
    have hcnt : ((pa.length + (O.c n e r).len : Nat) : Int) = (((pa ++ [(⟨(n : Int), e.terms⟩ : S42)]).length + r.len : Nat) : Int) := by
      simp only [O.len, List.length_append, List.length_singleton]; omega
    have hres : pa ++ (O.c n e r).terms = pa ++ [(⟨(n : Int), e.terms⟩ : S42)] ++ r.terms := by simp [O.terms]
    rw [hbody, hres]
    refine ev_s ?_
    simp only [impl_takeOrd.l0, List.length_cons, if_pos (show (pa.length : Int) < ((pa.length + (O.c n e r).len : Nat) : Int) by simp only [O.len]; omega), hc]
    have hlen : (((e.len : Int) :: (e.body ++ (r.body ++ t))).length : Nat) = (e.body ++ (r.body ++ t)).length + 1 := by simp
    simp only [if_neg (show ¬ ((((e.body ++ (r.body ++ t)).length + 1 + 1 : Nat) : Int) = 0) by omega), if_pos (show (0 : Int) < (((e.body ++ (r.body ++ t)).length + 1 + 1 : Nat) : Int) by omega), if_neg (show ¬ ((n : Int) < 1) by omega), decide_eq_false (show ¬ ((n : Int) > 9999) by omega)]
    refine ev_s ?_
    simp only [impl_takeOrd.j2, Bool.false_eq_true, if_false, List.length_cons, if_pos (show (1 : Int) ≤ (((e.body ++ (r.body ++ t)).length + 1 + 1 : Nat) : Int) by omega), List.drop_succ_cons, List.drop_zero]
    refine Ev.bind ihe ?_
    simp only [if_true, if_pos (show (0 : Int) < (((e.body ++ (r.body ++ t)).length + 1 + 1 : Nat) : Int) by omega), hc, if_pos (show pa.length < 4398046511104 by omega), hw, hcnt]
    rcases hlast with h0 | ⟨pb, m, f, hpa, hfb, hfd⟩
    · simp only [if_neg (show ¬ ((pa.length : Int) > 0) by rw [h0]; simp)]
      exact ihr
    · have hpl : pa.length = pb.length + 1 := by rw [hpa]; simp
      have hw1 : wrap64 ((pa.length : Int) - 1) = (pb.length : Int) := by rw [wrap_in (by omega) (by omega)]; omega
      have hrd : rd_T42 pa (pb.length : Int) = ⟨m, O.terms f⟩ := by rw [hpa]; exact rd_T42_mid pb [] ⟨m, O.terms f⟩
      simp only [if_pos (show (pa.length : Int) > 0 by omega), hw1, if_pos (show (0 : Int) ≤ (pb.length : Int) by omega), if_pos (show (pb.length : Int) < (pa.length : Int) by omega), hrd]
      refine Ev.bind (compare_ev e f (by omega) hfb) ?_
      have : ordI (O.cmp e f) = -1 := by rw [show O.cmp e f = .lt from hfd]; rfl
      simp only [this, if_neg (show ¬ ((-1 : Int) ≥ 0) by decide)]
      exact ihr
theorem takeOrd_ev {o : O} (hs : o.Sm) (hl : o.len ≤ 60) (hb : o.body.length ≤ 100000) (t : List Int) : Ev (fun k => impl_takeOrd.f k (o.row ++ t)) (o.terms, t, true) := by
  have := takeOrd_l0 o hs [] t (by simpa using hl) hb (.inl rfl)
  simp only [List.length_nil, Nat.zero_add, List.nil_append] at this
  refine ev_s ?_
  have hc : rd ((o.len : Int) :: (o.body ++ t)) 0 = (o.len : Int) := rfl
  simp only [O.row, List.cons_append, impl_takeOrd.f, List.length_cons, if_neg (show ¬ (((o.body ++ t).length + 1 : Nat) : Int) = 0 by omega), if_pos (show (0 : Int) < (((o.body ++ t).length + 1 : Nat) : Int) by omega), if_pos (show (1 : Int) ≤ (((o.body ++ t).length + 1 : Nat) : Int) by omega), Option.bind_some, hc, List.drop_succ_cons, List.drop_zero, if_neg (show ¬ ((o.len : Int) < 0) by omega), decide_eq_false (show ¬ ((o.len : Int) > 60) by omega)]
  refine ev_s ?_
  simp only [impl_takeOrd.j0, Bool.false_eq_true, if_false]
  exact this
theorem ordOf_ev {o : O} (hs : o.Sm) (hb : o.row.length ≤ 60) : Ev (fun k => impl_ordOf.f k o.row) (o.terms, true) := by
  have hlb := O.len_le o
  have hr : o.row.length = o.body.length + 1 := by simp [O.row]
  have h := takeOrd_ev hs (by omega) (by omega) []
  rw [List.append_nil] at h
  simp only [impl_ordOf.f, if_neg (show ¬ ((o.row.length : Int) < 1) by omega), if_neg (show ¬ ((o.row.length : Int) > 60) by omega)]
  refine Ev.bind h ?_
  simp only [if_true]
  exact ev_now (by simp)
theorem OrdCompare_ev {x y : O} (hx : x.Sm) (hy : y.Sm) (hxb : x.row.length ≤ 60) (hyb : y.row.length ≤ 60) : Ev (fun k => impl_OrdCompare.f k x.row y.row) (ordI (O.cmp x y)) := by
  have e1 : x.row.length = x.body.length + 1 := by simp [O.row]
  have e2 : y.row.length = y.body.length + 1 := by simp [O.row]
  simp only [impl_OrdCompare.f]
  refine Ev.bind (ordOf_ev hx hxb) ?_
  refine Ev.bind (ordOf_ev hy hyb) ?_
  simp only [if_true]
  refine Ev.bind (compare_ev x y (by omega) (by omega)) ?_
  exact Ev.now _

-- part: l1Make
/-- Numbers and exponents, one behind the other. -/
def zipB : List Int → List (List Int) → List Int
  | t :: ts, e :: es => t :: e ++ zipB ts es
  | _, _ => []
theorem zipB_drop {t : List Int} {e : List (List Int)} {i : Nat} (ht : i < t.length) (he : i < e.length) : zipB (t.drop i) (e.drop i) = t[i] :: e[i] ++ zipB (t.drop (i + 1)) (e.drop (i + 1)) := by
  rw [List.drop_eq_getElem_cons ht, List.drop_eq_getElem_cons he]; rfl
theorem zipB_snoc : ∀ (t : List Int) (e : List (List Int)) (n : Int) (x : List Int), t.length = e.length → zipB (t ++ [n]) (e ++ [x]) = zipB t e ++ n :: x
  | [], [], n, x, _ => by simp [zipB]
  | [], _ :: _, _, _, h => by simp at h
  | _ :: _, [], _, _, h => by simp at h
  | a :: t, b :: e, n, x, h => by
    have := zipB_snoc t e n x (by simpa using h)
    simp [zipB, this]
theorem rdL1_get {xs : List (List Int)} {i : Nat} (h : i < xs.length) : rd_L3 xs (i : Int) = xs[i] := by simp [rd_L3, h]
theorem l1Make_l0 (t : List Int) (e : List (List Int)) (hl : t.length = e.length) (hb : t.length ≤ 1000000) : ∀ (d i : Nat) (out : List Int), i + d = t.length → out.length + (zipB (t.drop i) (e.drop i)).length ≤ 1000000 → Ev (fun k => spec_l1Make.l0 k t e out (i : Int)) (out ++ zipB (t.drop i) (e.drop i)) := by
  intro d
  induction d with
  | zero =>
    intro i out h _
    refine ev_s ?_
    simp only [spec_l1Make.l0, if_neg (show ¬ ((i : Int) < (t.length : Int)) by omega)]
    rw [List.drop_of_length_le (by omega)]
    exact ev_now (by simp [zipB])
  | succ d ih =>
    intro i out h ho
    rw [zipB_drop (show i < t.length by omega) (show i < e.length by omega)] at ho
    simp only [List.length_append, List.length_cons] at ho
    refine ev_s ?_
    simp only [spec_l1Make.l0, if_pos (show (i : Int) < (t.length : Int) by omega), if_pos (show (0 : Int) ≤ (i : Int) by omega), if_pos (show (i : Int) < (e.length : Int) by omega), if_pos (show out.length < 17592186044416 by omega), Option.bind_some, rdL1_get (show i < e.length by omega), rd_get (show i < t.length by omega), show wrap64 ((i : Int) + 1) = ((i + 1 : Nat) : Int) by rw [wrap_in (by omega) (by omega)]; rfl, List.length_append, List.length_singleton, if_pos (show out.length + 1 + e[i].length < 17592186044416 by omega)]
    refine ev_eq (ih (i + 1) _ (by omega) (by simp; omega)) ?_
    rw [zipB_drop (show i < t.length by omega) (show i < e.length by omega)]
    simp
theorem l1Make_ev (t : List Int) (e : List (List Int)) (hl : t.length = e.length) (hb : t.length ≤ 100000) (hz : (zipB t e).length ≤ 100000) : Ev (fun k => spec_l1Make.f k t e) ((t.length : Int) :: zipB t e) := by
  simp only [spec_l1Make.f]
  exact l1Make_l0 t e hl (by omega) t.length 0 [(t.length : Int)] (by omega) (by simp; omega)

-- part: RowOrd
def rowO : List Int → O
  | [] => .z
  | x :: r => if x > 0 then .c x.toNat (O.num r.length) (rowO r) else rowO r
theorem rowO_drop {l : List Int} {i : Nat} (h : i < l.length) : rowO (l.drop i) = if l[i] > 0 then .c l[i].toNat (O.num (l.length - 1 - i)) (rowO (l.drop (i + 1))) else rowO (l.drop (i + 1)) := by
  rw [List.drop_eq_getElem_cons h, rowO]
  congr 2
  rw [List.length_drop]; congr 1; omega
theorem num_body (n : Nat) : (O.num n).body.length ≤ 2 := by unfold O.num; split <;> simp [O.body]
theorem rowO_body : ∀ l : List Int, (rowO l).body.length ≤ 4 * l.length
  | [] => by simp [rowO, O.body]
  | x :: r => by
    have := rowO_body r
    have := num_body r.length
    rw [rowO]; split
    · simp only [O.body, List.length_cons, List.length_append]; omega
    · simp only [List.length_cons]; omega
theorem rowOk_pos {l : List Int} (h : rowOk l = true) {i : Nat} (hi : i < l.length) : 0 ≤ l[i] := by
  simp only [rowOk, Bool.and_eq_true, List.all_eq_true, decide_eq_true_eq] at h
  exact (h.1 l[i] (List.getElem_mem hi)).1
theorem rowOk_len {l : List Int} (h : rowOk l = true) : 1 ≤ l.length ∧ l.length ≤ 5 := by simp [rowOk] at h; exact h.2
theorem impl_RowOrd_l0 {l : List Int} (h : rowOk l = true) : ∀ (d i : Nat) (x : List S42) (o : O), i + d = l.length → IsO x o → o.body.length ≤ 4 * i → Ev (fun k => impl_RowOrd.l0 k l x l (l.length : Int) (i : Int)) (O.row (O.app o (rowO (l.drop i)))) := by
  have hl := rowOk_len h
  intro d
  induction d with
  | zero =>
    intro i x o hi hx ho
    refine ev_s ?_
    simp only [impl_RowOrd.l0, if_neg (show ¬ ((i : Int) < (l.length : Int)) by omega)]
    rw [List.drop_of_length_le (by omega), rowO, O.app_z]
    refine Ev.bind (rowOf_ev hx (by omega)) ?_
    exact Ev.now _
  | succ d ih =>
    intro i x o hi hx ho
    have hxl := IsO.len hx
    have hol := O.len_le o
    have hp := rowOk_pos h (show i < l.length by omega)
    have e : wrap64 ((wrap64 ((l.length : Int) - 1)) - (i : Int)) = ((l.length - 1 - i : Nat) : Int) := by
      rw [wrap_in (x := (l.length : Int) - 1) (by omega) (by omega), wrap_in (by omega) (by omega)]; omega
    obtain ⟨ln, hn1, hn2⟩ := number_eq (l.length - 1 - i)
    refine ev_s ?_
    simp only [impl_RowOrd.l0, if_pos (show (i : Int) < (l.length : Int) by omega), if_pos (show (0 : Int) ≤ (i : Int) by omega), e, hn1, Option.bind_some, rd_get (show i < l.length by omega), show wrap64 ((i : Int) + 1) = ((i + 1 : Nat) : Int) by rw [wrap_in (by omega) (by omega)]; rfl, if_pos (show x.length < 4398046511104 by omega)]
    rw [rowO_drop (show i < l.length by omega)]
    by_cases hc : l[i] > 0
    · simp only [if_pos hc]
      obtain ⟨m, hm⟩ := Int.eq_ofNat_of_zero_le hp
      have hx2 : IsO (x ++ [(⟨l[i], ln⟩ : S42)]) (O.app o (.c l[i].toNat (O.num (l.length - 1 - i)) .z)) := by
        rw [hm]
        exact IsO.app hx (.cons hn2 .nil)
      have hnb := num_body (l.length - 1 - i)
      refine ev_eq (ih (i + 1) _ _ (by omega) hx2 ?_) ?_
      · rw [O.app_body]; simp only [O.body, List.length_append, List.length_cons, List.length_nil]; omega
      · rw [O.app_assoc]; rfl
    · simp only [if_neg hc]
      exact ih (i + 1) x o (by omega) hx (by omega)
def rowOrd (l : List Int) : List Int := if rowOk l = true then O.row (rowO l) else []
theorem rowOrd_length (l : List Int) : (rowOrd l).length ≤ 100 := by
  unfold rowOrd; split
  · rename_i h
    have := rowOk_len h
    have := rowO_body l
    simp only [O.row, List.length_cons]; omega
  · simp
theorem impl_RowOrd_ev (l : List Int) (hb : l.length ≤ 140737488351232) : Ev (fun k => impl_RowOrd.f k l) (rowOrd l) := by
  simp only [impl_RowOrd.f]
  refine Ev.bind (impl_RowValid_ev l hb) ?_
  unfold rowOrd
  cases h : rowOk l with
  | false => simp only [Bool.false_eq_true, if_false]; exact Ev.now _
  | true =>
    simp only [if_true]
    exact impl_RowOrd_l0 h l.length 0 [] .z (by omega) .nil (by simp [O.body])

-- part: RowOrdSpec
theorem spec_OrdOf_eq (n : Nat) (h : n ≤ 9999) : spec_OrdOf.f (n : Int) = some (O.num n).row := by
  unfold spec_OrdOf.f
  rw [l1In_eq, Option.bind_some, decide_eq_true (show 0 ≤ (n : Int) ∧ (n : Int) ≤ 9999 by omega), if_pos rfl]
  unfold O.num
  by_cases h0 : n = 0
  · subst h0; rfl
  · rw [if_neg (by omega), if_neg h0]; simp [O.row, O.body, O.len]
theorem spec_RowOrd_l0 {l : List Int} (h : rowOk l = true) : ∀ (d i : Nat) (t : List Int) (e : List (List Int)), i + d = l.length → t.length = e.length → t.length ≤ i → (zipB t e).length ≤ 4 * i → Ev (fun k => spec_RowOrd.l0 k l t e (i : Int)) (((t.length + (rowO (l.drop i)).len : Nat) : Int) :: (zipB t e ++ (rowO (l.drop i)).body)) := by
  have hl := rowOk_len h
  intro d
  induction d with
  | zero =>
    intro i t e hi ht hti hz
    refine ev_s ?_
    simp only [spec_RowOrd.l0, if_neg (show ¬ ((i : Int) < (l.length : Int)) by omega)]
    rw [List.drop_of_length_le (by omega)]
    refine Ev.bind (l1Make_ev t e ht (by omega) (by omega)) ?_
    exact ev_now (by simp [rowO, O.len, O.body])
  | succ d ih =>
    intro i t e hi ht hti hz
    have hp := rowOk_pos h (show i < l.length by omega)
    have e1 : wrap64 ((wrap64 ((l.length : Int) - 1)) - (i : Int)) = ((l.length - 1 - i : Nat) : Int) := by
      rw [wrap_in (x := (l.length : Int) - 1) (by omega) (by omega), wrap_in (by omega) (by omega)]; omega
    refine ev_s ?_
    simp only [spec_RowOrd.l0, if_pos (show (i : Int) < (l.length : Int) by omega), if_pos (show (0 : Int) ≤ (i : Int) by omega), e1, spec_OrdOf_eq (l.length - 1 - i) (by omega), Option.bind_some, rd_get (show i < l.length by omega), show wrap64 ((i : Int) + 1) = ((i + 1 : Nat) : Int) by rw [wrap_in (by omega) (by omega)]; rfl, if_pos (show t.length < 17592186044416 by omega), if_pos (show e.length < 5864062014805 by omega)]
    rw [rowO_drop (show i < l.length by omega)]
    by_cases hc : l[i] > 0
    · simp only [if_pos hc]
      have hnb := num_body (l.length - 1 - i)
      have hzs := zipB_snoc t e l[i] (O.num (l.length - 1 - i)).row ht
      refine ev_eq (ih (i + 1) _ _ (by omega) (by simp [ht]) (by simp; omega) ?_) ?_
      · rw [hzs]; simp only [O.row, List.length_append, List.length_cons]; omega
      · rw [hzs]
        have hm : (l[i].toNat : Int) = l[i] := by omega
        simp only [O.len, O.body, O.row, List.length_append, List.length_singleton, List.append_assoc, List.cons_append, hm, List.cons.injEq, and_true]
        omega
    · simp only [if_neg hc]
      exact ih (i + 1) t e (by omega) ht (by omega) (by omega)
theorem spec_RowOrd_ev (l : List Int) (hb : l.length ≤ 140737488351232) : Ev (fun k => spec_RowOrd.f k l) (rowOrd l) := by
  simp only [spec_RowOrd.f]
  refine Ev.bind (spec_RowValid_ev l hb) ?_
  unfold rowOrd
  cases h : rowOk l with
  | false => simp only [Bool.false_eq_true, if_false]; exact Ev.now _
  | true =>
    simp only [if_true]
    refine ev_eq (spec_RowOrd_l0 h l.length 0 [] [] (by omega) rfl (by simp) (by simp [zipB])) ?_
    simp [O.row, zipB]

-- part: rowCmpO
theorem cmp_num (i j : Nat) : O.cmp (O.num i) (O.num j) = compare i j := by
  unfold O.num
  by_cases h1 : i = 0
  · by_cases h2 : j = 0
    · subst h1; subst h2; rfl
    · subst h1; rw [if_pos rfl, if_neg h2, Nat.compare_eq_lt.mpr (by omega)]; rfl
  · by_cases h2 : j = 0
    · subst h2; rw [if_pos rfl, if_neg h1, Nat.compare_eq_gt.mpr (by omega)]; rfl
    · rw [if_neg h1, if_neg h2]
      simp only [O.cmp]
      cases compare i j <;> rfl
theorem num_Sm {n : Nat} (h : n ≤ 9999) : (O.num n).Sm ∧ (O.num n).len ≤ 60 := by
  unfold O.num
  by_cases h1 : n = 0
  · rw [if_pos h1]; exact ⟨trivial, by simp [O.len]⟩
  · rw [if_neg h1]; exact ⟨⟨by omega, ⟨trivial, by simp [O.len]⟩, trivial, trivial⟩, by simp [O.len]⟩
theorem rowO_hd : ∀ (l : List Int) (n : Nat), l.length ≤ n → O.hd (O.num n) (rowO l)
  | [], _, _ => trivial
  | x :: r, n, h => by
    simp only [List.length_cons] at h
    rw [rowO]
    split
    · show O.cmp (O.num r.length) (O.num n) = .lt
      rw [cmp_num]; exact Nat.compare_eq_lt.mpr (by omega)
    · exact rowO_hd r n (by omega)
theorem rowO_Sm : ∀ (l : List Int), l.length ≤ 100 → (∀ x ∈ l, x ≤ 9999) → (rowO l).Sm
  | [], _, _ => trivial
  | x :: r, h, hx => by
    simp only [List.length_cons] at h
    have h1 := hx x (by simp)
    have ih := rowO_Sm r (by omega) (fun y hy => hx y (by simp [hy]))
    rw [rowO]
    split
    · exact ⟨⟨by omega, by omega⟩, num_Sm (by omega), ih, rowO_hd r _ (Nat.le_refl _)⟩
    · exact ih
theorem hd_cmp {e f : O} {n : Nat} {r x : O} (h : O.hd e x) : O.cmp x (.c n e r) = .lt := by
  cases x with
  | z => rfl
  | c m g s =>
    have hg : O.cmp g e = .lt := h
    simp only [O.cmp, hg]; rfl
theorem rowO_cmp : ∀ (a b : List Int), a.length = b.length → (∀ x ∈ a, 0 ≤ x) → (∀ x ∈ b, 0 ≤ x) → ordI (O.cmp (rowO a) (rowO b)) = cmpG a b
  | [], [], _, _, _ => rfl
  | [], _ :: _, h, _, _ => by simp at h
  | _ :: _, [], h, _, _ => by simp at h
  | x :: a, y :: b, h, ha, hb => by
    simp only [List.length_cons, Nat.add_right_cancel_iff] at h
    have hx := ha x (by simp)
    have hy := hb y (by simp)
    have ih := rowO_cmp a b h (fun z hz => ha z (by simp [hz])) (fun z hz => hb z (by simp [hz]))
    rw [cmpG, rowO, rowO, h]
    by_cases h1 : x > 0
    · by_cases h2 : y > 0
      · rw [if_pos h1, if_pos h2, O.cmp, O.cmp_self, ordI_then, ordI_then]
        obtain ⟨m, rfl⟩ := Int.eq_ofNat_of_zero_le hx
        obtain ⟨n, rfl⟩ := Int.eq_ofNat_of_zero_le hy
        rw [if_pos (show ordI .eq = 0 from rfl), Int.toNat_natCast, Int.toNat_natCast]
        by_cases h3 : m < n
        · rw [if_pos (show (m : Int) < (n : Int) by omega), Nat.compare_eq_lt.mpr h3]; rfl
        · by_cases h4 : n < m
          · rw [if_neg (show ¬ ((m : Int) < (n : Int)) by omega), if_pos (show (m : Int) > (n : Int) by omega), Nat.compare_eq_gt.mpr h4]; rfl
          · rw [if_neg (show ¬ ((m : Int) < (n : Int)) by omega), if_neg (show ¬ ((m : Int) > (n : Int)) by omega), Nat.compare_eq_eq.mpr (by omega)]
            exact ih
      · have h5 : O.cmp (rowO b) (.c x.toNat (O.num b.length) (rowO a)) = .lt := hd_cmp (f := .z) (rowO_hd b _ (Nat.le_refl _))
        rw [if_pos h1, if_neg h2, if_neg (by omega), if_pos (by omega), (O.cmp_gt_iff _ _).mpr h5]; rfl
    · by_cases h2 : y > 0
      · have h5 : O.cmp (rowO a) (.c y.toNat (O.num b.length) (rowO b)) = .lt := hd_cmp (f := .z) (rowO_hd a _ (by omega))
        rw [if_neg h1, if_pos h2, if_pos (by omega), h5]; rfl
      · rw [if_neg h1, if_neg h2, if_neg (by omega), if_neg (by omega)]
        exact ih
theorem rowOk_all {l : List Int} (h : rowOk l = true) : (∀ x ∈ l, 0 ≤ x) ∧ (∀ x ∈ l, x ≤ 9999) := by
  simp only [rowOk, Bool.and_eq_true, List.all_eq_true, decide_eq_true_eq] at h
  exact ⟨fun x hx => (h.1 x hx).1, fun x hx => (h.1 x hx).2⟩
/-- Of two rows of one length: their ordinals compare as they do. -/
theorem RowsOrd_ev {a b : List Int} (ha : rowOk a = true) (hb : rowOk b = true) (h : a.length = b.length) : Ev (fun k => impl_OrdCompare.f k (rowOrd a) (rowOrd b)) (cmpG a b) := by
  have hla := rowOk_len ha
  have hlb := rowOk_len hb
  have ba := rowO_body a
  have bb := rowO_body b
  unfold rowOrd
  rw [if_pos ha, if_pos hb, ← rowO_cmp a b h (rowOk_all ha).1 (rowOk_all hb).1]
  exact OrdCompare_ev (rowO_Sm a (by omega) (rowOk_all ha).2) (rowO_Sm b (by omega) (rowOk_all hb).2) (by simp only [O.row, List.length_cons]; omega) (by simp only [O.row, List.length_cons]; omega)
theorem cmpG_swap : ∀ (a b : List Int), cmpG b a = -cmpG a b
  | [], [] => rfl
  | [], _ :: _ => rfl
  | _ :: _, [] => rfl
  | x :: a, y :: b => by
    rw [cmpG, cmpG]
    by_cases h1 : x < y
    · rw [if_pos h1, if_neg (by omega), if_pos (by omega)]; rfl
    · by_cases h2 : x > y
      · have h3 : y < x := h2
        simp only [if_neg h1, if_pos h2, if_pos h3]
      · rw [if_neg h1, if_neg h2, if_neg (by omega), if_neg (by omega)]; exact cmpG_swap a b
theorem cmpG_range : ∀ (a b : List Int), -1 ≤ cmpG a b ∧ cmpG a b ≤ 1
  | [], [] => by simp [cmpG]
  | [], _ :: _ => by simp [cmpG]
  | _ :: _, [] => by simp [cmpG]
  | x :: a, y :: b => by
    rw [cmpG]
    have := cmpG_range a b
    split
    · omega
    · split <;> omega

-- part: told
/-! ### an ordinal told, if it is valid -/
def O.most : O → Nat
  | .z => 0
  | .c n e r => max (max n (O.most e)) (O.most r)
theorem O.Sm_of : ∀ {x : O}, x.NF → x.most ≤ 9999 → x.row.length ≤ 60 → x.Sm
  | .z, _, _, _ => trivial
  | .c n e r, h, hm, hl => by
    have h1 := O.row_length e
    have h2 := O.row_length r
    have h3 := O.len_le e
    rw [O.row_length, O.body_c] at hl
    simp only [List.length_cons, List.length_append] at hl
    simp only [O.most] at hm
    exact ⟨⟨h.1, by omega⟩, ⟨O.Sm_of h.2.1 (by omega) (by omega), by omega⟩, O.Sm_of h.2.2.1 (by omega) (by omega), h.2.2.2⟩
theorem O.most_of : ∀ {x : O}, x.Sm → x.most ≤ 9999
  | .z, _ => by simp [O.most]
  | .c n e r, h => by
    have h1 := O.most_of h.2.1.1
    have h2 := O.most_of h.2.2.1
    have h3 := h.1.2
    simp only [O.most]; omega
theorem sizeOf_l0 : ∀ (r : O) (pre : List S42) (a : Nat), pre.length + r.body.length ≤ 1000000 → a + r.body.length ≤ 1000000 →
    Ev (fun k => impl_sizeOf.l0 k (a : Int) (pre ++ r.terms) (((pre ++ r.terms).length : Nat) : Int) (pre.length : Int)) ((a + r.body.length : Nat) : Int)
  | .z, pre, a, _, _ => by
    refine ev_s ?_
    simp only [impl_sizeOf.l0, O.terms, List.append_nil, Int.lt_irrefl, if_false]
    exact Ev.now _
  | .c n e r, pre, a, hp, ha => by
    rw [O.body_c] at hp ha
    simp only [List.length_cons, List.length_append] at hp ha
    have hre := O.row_length e
    have hE : Ev (fun k => impl_sizeOf.f k e.terms) (e.row.length : Int) := by
      refine ev_s ?_
      simp only [impl_sizeOf.f]
      have := sizeOf_l0 e [] 1 (by simp only [List.length_nil]; omega) (by omega)
      simp only [List.nil_append] at this
      exact ev_eq this (by omega)
    have hlen : (pre ++ (O.c n e r).terms).length = pre.length + (r.terms.length + 1) := by simp [O.terms]
    have hmid : rd_T42 (pre ++ (O.c n e r).terms) (pre.length : Int) = ⟨(n : Int), e.terms⟩ := rd_T42_mid pre r.terms ⟨(n : Int), e.terms⟩
    have happ : pre ++ (O.c n e r).terms = (pre ++ [⟨(n : Int), e.terms⟩]) ++ r.terms := by simp [O.terms]
    have ew : wrap64 ((pre.length : Int) + 1) = (((pre ++ [(⟨(n : Int), e.terms⟩ : S42)]).length : Nat) : Int) := by
      rw [List.length_append, List.length_singleton]; exact wrap_nat2 pre.length 1 (by omega)
    have g1 : (pre.length : Int) < (((pre ++ (O.c n e r).terms).length : Nat) : Int) := by omega
    have ih := sizeOf_l0 r (pre ++ [⟨(n : Int), e.terms⟩]) (a + (1 + e.row.length)) (by simp only [List.length_append, List.length_singleton]; omega) (by omega)
    refine ev_s ?_
    simp only [impl_sizeOf.l0, if_pos g1, if_pos (show (0 : Int) ≤ (pre.length : Int) from Int.natCast_nonneg _), hmid]
    refine Ev.bind hE ?_
    have hacc : wrap64 ((a : Int) + wrap64 (1 + (e.row.length : Int))) = ((a + (1 + e.row.length) : Nat) : Int) := by
      rw [wrap_in (x := 1 + (e.row.length : Int)) (by omega) (by omega), wrap_in (by omega) (by omega)]; omega
    rw [hacc, ew]
    rw [happ] at *
    exact ev_eq ih (by rw [O.body_c]; simp only [List.length_cons, List.length_append]; omega)
theorem sizeOf_ev {o : O} (hb : o.row.length ≤ 100000) : Ev (fun k => impl_sizeOf.f k o.terms) (o.row.length : Int) := by
  have hr := O.row_length o
  refine ev_s ?_
  simp only [impl_sizeOf.f]
  have := sizeOf_l0 o [] 1 (by simp only [List.length_nil]; omega) (by omega)
  simp only [List.nil_append] at this
  exact ev_eq this (by omega)
theorem most_l0 : ∀ (r : O) (pre : List S42) (a : Nat), pre.length + r.body.length ≤ 1000000 →
    Ev (fun k => impl_most.l0 k (a : Int) (pre ++ r.terms) (((pre ++ r.terms).length : Nat) : Int) (pre.length : Int)) ((max a r.most : Nat) : Int)
  | .z, pre, a, _ => by
    refine ev_s ?_
    simp only [impl_most.l0, O.terms, List.append_nil, Int.lt_irrefl, if_false, O.most]
    exact ev_now (by omega)
  | .c n e r, pre, a, hp => by
    rw [O.body_c] at hp
    simp only [List.length_cons, List.length_append] at hp
    have hre := O.row_length e
    have hE : Ev (fun k => impl_most.f k e.terms) (e.most : Int) := by
      refine ev_s ?_
      simp only [impl_most.f]
      have := most_l0 e [] 0 (by simp only [List.length_nil]; omega)
      simp only [List.nil_append] at this
      exact ev_eq this (by omega)
    have hlen : (pre ++ (O.c n e r).terms).length = pre.length + (r.terms.length + 1) := by simp [O.terms]
    have hmid : rd_T42 (pre ++ (O.c n e r).terms) (pre.length : Int) = ⟨(n : Int), e.terms⟩ := rd_T42_mid pre r.terms ⟨(n : Int), e.terms⟩
    have happ : pre ++ (O.c n e r).terms = (pre ++ [⟨(n : Int), e.terms⟩]) ++ r.terms := by simp [O.terms]
    have ew : wrap64 ((pre.length : Int) + 1) = (((pre ++ [(⟨(n : Int), e.terms⟩ : S42)]).length : Nat) : Int) := by
      rw [List.length_append, List.length_singleton]; exact wrap_nat2 pre.length 1 (by omega)
    have g1 : (pre.length : Int) < (((pre ++ (O.c n e r).terms).length : Nat) : Int) := by omega
    have ih := most_l0 r (pre ++ [⟨(n : Int), e.terms⟩]) (max (max a n) e.most) (by simp only [List.length_append, List.length_singleton]; omega)
    refine ev_s ?_
    simp only [impl_most.l0, if_pos g1, if_pos (show (0 : Int) ≤ (pre.length : Int) from Int.natCast_nonneg _), hmid]
    refine Ev.bind hE ?_
    have hacc : mx (mx (a : Int) (n : Int)) (e.most : Int) = ((max (max a n) e.most : Nat) : Int) := by
      unfold mx
      split <;> split <;> omega
    rw [hacc, ew]
    rw [happ] at *
    exact ev_eq ih (by simp only [O.most]; omega)
theorem most_ev {o : O} (hb : o.row.length ≤ 100000) : Ev (fun k => impl_most.f k o.terms) (o.most : Int) := by
  have hr := O.row_length o
  refine ev_s ?_
  simp only [impl_most.f]
  have := most_l0 o [] 0 (by simp only [List.length_nil]; omega)
  simp only [List.nil_append] at this
  exact ev_eq this (by omega)
/-- What is told of an ordinal: its row, if it is valid. -/
def O.fit (x : O) : List Int × Bool := if x.row.length ≤ 60 ∧ x.most ≤ 9999 then (x.row, true) else ([], false)
theorem O.fit_len (x : O) : x.fit.1.length ≤ 60 := by unfold O.fit; split <;> simp_all
theorem told_ev {x : O} (hb : x.row.length ≤ 100000) : Ev (fun k => impl_told.f k x.terms) x.fit := by
  have hr := O.row_length x
  have bad : Ev (fun k => impl_told.j0 k x.terms true) ([], false) := by
    refine ev_s ?_
    simp only [impl_told.j0, if_true]
    exact Ev.now _
  simp only [impl_told.f]
  refine Ev.bind (sizeOf_ev hb) ?_
  unfold O.fit
  by_cases h1 : x.row.length ≤ 60
  · simp only [if_neg (show ¬ ((x.row.length : Int) > 60) by omega)]
    refine Ev.bind (most_ev hb) ?_
    by_cases h2 : x.most ≤ 9999
    · rw [if_pos ⟨h1, h2⟩]
      simp only [decide_eq_false (show ¬ ((x.most : Int) > 9999) by omega)]
      refine ev_s ?_
      simp only [impl_told.j0, Bool.false_eq_true, if_false, slices_Clip_int_int.f, Option.bind_some]
      exact Ev.bind (rowOf_ev x.terms_is (by omega)) (Ev.now _)
    · rw [if_neg (fun h => h2 h.2)]
      simp only [decide_eq_true (show (x.most : Int) > 9999 by omega)]
      exact bad
  · rw [if_neg (fun h => h1 h.1)]
    simp only [if_pos (show (x.row.length : Int) > 60 by omega)]
    exact bad

-- part: gAdd
/-! ### one more -/
def succO : O → O
  | .z => .c 1 .z .z
  | .c n .z _ => .c (n + 1) .z .z
  | .c n (.c m f s) r => .c n (.c m f s) (succO r)
theorem succO_more : ∀ (a : List Int) (v : Int), 0 ≤ v → rowO (a ++ [v + 1]) = succO (rowO (a ++ [v]))
  | [], v, h => by
    have e0 : O.num (0 : Nat) = .z := rfl
    simp only [List.nil_append, rowO, List.length_nil, e0, if_pos (show v + 1 > 0 by omega)]
    by_cases h1 : v > 0
    · simp only [if_pos h1, succO]
      rw [show (v + 1).toNat = v.toNat + 1 by omega]
    · have : v = 0 := by omega
      subst this
      simp only [if_neg (show ¬ ((0 : Int) > 0) by decide), succO]
      rfl
  | x :: a, v, h => by
    have ih := succO_more a v h
    simp only [List.cons_append, rowO]
    have hl : (a ++ [v + 1]).length = (a ++ [v]).length := by simp
    rw [hl, ih]
    by_cases h1 : x > 0
    · simp only [if_pos h1]
      have hn : ∃ m f s, O.num (a ++ [v]).length = .c m f s := by
        unfold O.num
        rw [if_neg (by simp)]
        exact ⟨_, _, _, rfl⟩
      obtain ⟨m, f, s, hn⟩ := hn
      rw [hn, succO]
    · simp only [if_neg h1]
theorem cmp_z : ∀ e : O, e ≠ .z → O.cmp e .z = .gt
  | .z, h => absurd rfl h
  | .c _ _ _, _ => rfl
theorem add_l0 : ∀ (x : O), x.Sm → ∀ (pre out : List S42), pre.length + x.body.length ≤ 10000 → out.length + x.body.length ≤ 10000 →
    Ev (fun k => impl_add.l0 k [(⟨1, []⟩ : S42)] out (pre ++ x.terms) (((pre ++ x.terms).length : Nat) : Int) (pre.length : Int) 1 []) (out ++ (succO x).terms) := by
  intro x
  have fin : ∀ (L pre out : List S42) (f : Int), L.length = pre.length → out.length ≤ 10000 → Ev (fun k => impl_add.l0 k [(⟨1, []⟩ : S42)] out L ((L.length : Nat) : Int) (pre.length : Int) f []) (out ++ [(⟨f, []⟩ : S42)]) := by
    intro L pre out f hL ho
    refine ev_s ?_
    simp only [impl_add.l0, if_neg (show ¬ ((pre.length : Int) < (L.length : Int)) by omega), if_pos (show out.length < 4398046511104 by omega), Option.bind_some, List.length_singleton, List.drop_one, List.tail_cons, List.length_append, List.length_nil, List.append_nil, if_pos (show (1 : Int) ≤ ((1 : Nat) : Int) by decide), if_pos (show out.length + 1 + 0 < 4398046511104 by omega)]
    exact Ev.now _
  induction x with
  | z =>
    intro hs pre out hp ho
    simp only [O.terms, List.append_nil, succO]
    exact fin pre pre out 1 rfl (by omega)
  | c n e r _ ihr =>
    intro hs pre out hp ho
    rw [O.body_c] at hp ho
    simp only [List.length_cons, List.length_append] at hp ho
    have hmid : rd_T42 (pre ++ (O.c n e r).terms) (pre.length : Int) = ⟨(n : Int), e.terms⟩ := rd_T42_mid pre r.terms ⟨(n : Int), e.terms⟩
    have hlen : (pre ++ (O.c n e r).terms).length = pre.length + (r.terms.length + 1) := by simp [O.terms]
    have hc : Ev (fun k => impl_compare.f k e.terms []) (ordI (O.cmp e .z)) := compare_ev e .z (by have := O.row_length e; omega) (by simp [O.body])
    have ew : wrap64 ((pre.length : Int) + 1) = ((pre.length + 1 : Nat) : Int) := wrap_nat2 pre.length 1 (by omega)
    have hn := hs.1
    refine ev_s ?_
    simp only [impl_add.l0, if_pos (show (pre.length : Int) < (((pre ++ (O.c n e r).terms).length : Nat) : Int) by omega), if_pos (show (0 : Int) ≤ (pre.length : Int) from Int.natCast_nonneg _), hmid]
    refine Ev.bind hc ?_
    by_cases he : e = .z
    · subst he
      have hr : r = .z := by
        cases r with
        | z => rfl
        | c m g s =>
          exfalso
          have hh : O.cmp g .z = .lt := hs.2.2.2
          cases g with
          | z => cases hh
          | c _ _ _ => cases hh
      subst hr
      have c0 : ordI (O.cmp .z .z) = 0 := rfl
      simp only [c0, if_neg (show ¬ ((0 : Int) > 0) by decide), if_true, ew, show wrap64 (1 + (n : Int)) = ((n : Int) + 1) by rw [wrap_in (by omega) (by omega)]; omega]
      have := fin (pre ++ (O.c n .z .z).terms) (pre ++ [(⟨(n : Int), []⟩ : S42)]) out ((n : Int) + 1) (by simp [O.terms]) (by omega)
      rw [show (pre ++ [(⟨(n : Int), []⟩ : S42)]).length = pre.length + 1 by simp] at this
      refine ev_eq this ?_
      simp [succO, O.terms]
    · have c1 : ordI (O.cmp e .z) = 1 := by rw [cmp_z e he]; rfl
      have ih := ihr hs.2.2.1 (pre ++ [(⟨(n : Int), e.terms⟩ : S42)]) (out ++ [(⟨(n : Int), e.terms⟩ : S42)]) (by simp only [List.length_append, List.length_singleton]; omega) (by simp only [List.length_append, List.length_singleton]; omega)
      have happ : (pre ++ [(⟨(n : Int), e.terms⟩ : S42)]) ++ r.terms = pre ++ (O.c n e r).terms := by simp [O.terms]
      rw [happ, show (pre ++ [(⟨(n : Int), e.terms⟩ : S42)]).length = pre.length + 1 by simp] at ih
      simp only [c1, if_pos (show (1 : Int) > 0 by decide), if_pos (show out.length < 4398046511104 by omega), Option.bind_some, if_neg (show ¬ ((1 : Int) = 0) by decide), ew]
      refine ev_eq ih ?_
      cases e with
      | z => exact absurd rfl he
      | c m f s => simp [succO, O.terms]
theorem add_one_ev {x : O} (hs : x.Sm) (hb : x.body.length ≤ 1000) : Ev (fun k => impl_add.f k x.terms [(⟨1, []⟩ : S42)]) (succO x).terms := by
  simp only [impl_add.f, List.length_singleton, if_neg (show ¬ (((1 : Nat) : Int) = 0) by decide), if_pos (show (0 : Int) < ((1 : Nat) : Int) by decide)]
  have e0 : rd_T42 [(⟨1, []⟩ : S42)] 0 = ⟨1, []⟩ := rfl
  rw [e0]
  have := add_l0 x hs [] [] (by simp; omega) (by simp; omega)
  simp only [List.nil_append, List.length_nil] at this
  exact this
theorem succO_body : ∀ x : O, (succO x).body.length ≤ x.body.length + 2
  | .z => by simp [succO, O.body, O.row]
  | .c n .z r => by
    have h1 : O.z.row.length = 1 := rfl
    have h2 : O.z.body.length = 0 := rfl
    simp only [succO, O.body_c, List.length_cons, List.length_append]; omega
  | .c n (.c m f s) r => by
    have := succO_body r
    simp only [succO, O.body_c, List.length_cons, List.length_append] at this ⊢
    omega

-- part: draw
/-! ### the reader of a code -/
def Bytes (b : List Int) : Prop := b.length ≤ 2000 ∧ ∀ x ∈ b, 0 ≤ x ∧ x ≤ 255
theorem u8_of_wf {x : Int} (h : (Lit.int .u8 x).wf = true) : 0 ≤ x ∧ x ≤ 255 := by
  simp [Lit.wf, IntKind.min, IntKind.max, IntKind.bits, IntKind.signed] at h
  omega
theorem open_ev (l : List Int) (h : ∀ x ∈ l, (Lit.int .u8 x).wf = true) : ∃ b, Bytes b ∧ spec_l20Open.f l = some (b, ((0 : Nat) : Int)) := by
  have h' : ∀ x ∈ l, 0 ≤ x ∧ x ≤ 255 := fun x hx => u8_of_wf (h x hx)
  unfold spec_l20Open.f
  by_cases hl : (l.length : Int) > 2000
  · rw [if_pos hl, if_pos (by omega)]
    exact ⟨l.take 2000, ⟨by simp; omega, fun x hx => h' x (List.mem_of_mem_take hx)⟩, rfl⟩
  · rw [if_neg hl]
    exact ⟨l, ⟨by omega, h'⟩, rfl⟩
theorem rd_byte {b : List Int} (hb : Bytes b) {i : Int} (h0 : 0 ≤ i) (h1 : i < (b.length : Int)) : 0 ≤ rd b i ∧ rd b i ≤ 255 := by
  obtain ⟨n, rfl⟩ := Int.eq_ofNat_of_zero_le h0
  rw [rd_get (show n < b.length by omega)]
  exact hb.2 _ (List.getElem_mem _)
theorem wraps_i64 (n : Int) (h0 : 0 ≤ n) (h1 : n < 2 ^ 62) : IntKind.i64.wrap n = n := by rw [IntKind.wrap_i64]; omega
theorem xor_pos (a b : Nat) (ha : a < 2 ^ 62) (hb : b < 2 ^ 62) : Go.bits .xor .i64 (a : Int) (b : Int) = ((a ^^^ b : Nat) : Int) := by
  have ha' : a % 2 ^ IntKind.i64.bits = a := Nat.mod_eq_of_lt (Nat.lt_of_lt_of_le ha (by decide))
  have hb' : b % 2 ^ IntKind.i64.bits = b := Nat.mod_eq_of_lt (Nat.lt_of_lt_of_le hb (by decide))
  simp only [bits, BitVec.ofInt_natCast, BitVec.toNat_xor, BitVec.toNat_ofNat, ha', hb']
  exact wraps_i64 _ (Int.natCast_nonneg _) (by exact_mod_cast Nat.xor_lt_two_pow ha hb)
theorem pick_sum (r1 r2 p t : Int) (h1 : 0 ≤ r1 ∧ r1 ≤ 255) (h2 : 0 ≤ r2 ∧ r2 ≤ 255) (hp : 0 ≤ p ∧ p ≤ 1000000000000) (ht : 0 ≤ t ∧ t ≤ 1000000000000) :
    wrap64 ((wrap64 ((wrap64 ((wrap64 ((wrap64 r1) * 131)) + (wrap64 ((wrap64 r2) * 1117)))) + (wrap64 (p * 29)))) + (wrap64 ((wrap64 t) * 53))) = r1 * 131 + r2 * 1117 + p * 29 + t * 53 := by
  rw [wrap_in (x := r1) (by omega) (by omega), wrap_in (x := r2) (by omega) (by omega), wrap_in (x := t) (by omega) (by omega), wrap_in (x := r1 * 131) (by omega) (by omega), wrap_in (x := r2 * 1117) (by omega) (by omega), wrap_in (x := p * 29) (by omega) (by omega), wrap_in (x := t * 53) (by omega) (by omega), wrap_in (x := r1 * 131 + r2 * 1117) (by omega) (by omega), wrap_in (x := r1 * 131 + r2 * 1117 + p * 29) (by omega) (by omega), wrap_in (by omega) (by omega)]
theorem pick_mod (x n : Int) (hx : 0 ≤ x) (hn : 0 < n) : 0 ≤ Int.tmod x n ∧ Int.tmod x n < n := by
  rw [Int.tmod_eq_emod_of_nonneg hx]
  exact ⟨Int.emod_nonneg _ (by omega), Int.emod_lt_of_pos _ hn⟩
theorem pick_ev (b : List Int) (hb : Bytes b) (p : Nat) (hp : p ≤ 100000000000) (n : Int) : ∃ v : Int, 0 ≤ v ∧ (v < n ∨ v = 0) ∧ Ev (fun k => spec_l20Rd_pick.f k b (p : Int) n) (v, ((p + 1 : Nat) : Int)) := by
  have e1 : wrap64 ((p : Int) + 1) = ((p + 1 : Nat) : Int) := by rw [wrap_in (by omega) (by omega)]; rfl
  have e2 : wrap64 (((p + 1 : Nat) : Int) - 1) = (p : Int) := by rw [wrap_in (by omega) (by omega)]; omega
  by_cases hn : n < 1
  · refine ⟨0, Int.le_refl _, .inr rfl, ?_⟩
    simp only [spec_l20Rd_pick.f, if_pos hn, e1]
    refine ev_s ?_
    simp only [spec_l20Rd_pick.j0, if_true]
    exact Ev.now _
  · by_cases hl : b.length = 0
    · refine ⟨0, Int.le_refl _, .inr rfl, ?_⟩
      simp only [spec_l20Rd_pick.f, if_neg hn, e1, hl]
      refine ev_s ?_
      simp only [spec_l20Rd_pick.j0]
      exact Ev.now _
    · by_cases hlt : (p : Int) < (b.length : Int)
      · have hby := rd_byte hb (show (0 : Int) ≤ (p : Int) by omega) hlt
        have hm := pick_mod (rd b p) n hby.1 (by omega)
        refine ⟨Int.tmod (rd b p) n, hm.1, .inl hm.2, ?_⟩
        simp only [spec_l20Rd_pick.f, if_neg hn, e1, show ((b.length : Int) == 0) = false by simp; exact fun h => hl (by rw [h]; rfl)]
        refine ev_s ?_
        simp only [spec_l20Rd_pick.j0, Bool.false_eq_true, if_false, e2, if_pos hlt, if_pos (show (0 : Int) ≤ (p : Int) by omega), if_neg (show ¬ n = 0 by omega), wrap_in (x := rd b p) (by omega) (by omega)]
        exact Ev.now _
      · have hl0 : ¬ ((b.length : Int) = 0) := by omega
        have m1 := pick_mod (p : Int) (b.length : Int) (by omega) (by omega)
        have m2 := pick_mod ((p : Int) * 7 + 3) (b.length : Int) (by omega) (by omega)
        have b1 := rd_byte hb m1.1 m1.2
        have b2 := rd_byte hb m2.1 m2.2
        have d1 : 0 ≤ Int.tdiv (p : Int) (b.length : Int) := Int.tdiv_nonneg (by omega) (by omega)
        have d2 : Int.tdiv (p : Int) (b.length : Int) ≤ (p : Int) := Int.tdiv_le_self _ (by omega)
        have hs := pick_sum _ _ (p : Int) (Int.tdiv (p : Int) (b.length : Int)) b1 b2 (by omega) (by omega)
        obtain ⟨X, hX⟩ : ∃ X : Int, X = rd b (Int.tmod (p : Int) (b.length : Int)) * 131 + rd b (Int.tmod ((p : Int) * 7 + 3) (b.length : Int)) * 1117 + (p : Int) * 29 + Int.tdiv (p : Int) (b.length : Int) * 53 := ⟨_, rfl⟩
        rw [← hX] at hs
        have x0 : 0 ≤ X ∧ X < 20000000000000 := by omega
        have t0 : 0 ≤ Int.tdiv X 64 := Int.tdiv_nonneg (by omega) (by omega)
        have t1 : Int.tdiv X 64 ≤ X := Int.tdiv_le_self _ (by omega)
        have hbit : 0 ≤ Go.bits .xor .i64 X (Int.tdiv X 64) := by
          obtain ⟨u, hu⟩ := Int.eq_ofNat_of_zero_le x0.1
          obtain ⟨v, hv⟩ := Int.eq_ofNat_of_zero_le t0
          rw [hv, hu]
          rw [xor_pos u v (by omega) (by omega)]
          omega
        have hm := pick_mod _ n hbit (by omega)
        refine ⟨_, hm.1, .inl hm.2, ?_⟩
        simp only [spec_l20Rd_pick.f, if_neg hn, e1, show ((b.length : Int) == 0) = false by simp; exact fun h => hl (by rw [h]; rfl)]
        refine ev_s ?_
        simp only [spec_l20Rd_pick.j0, Bool.false_eq_true, if_false, e2, if_neg hlt, if_neg hl0, wrap_in (x := (p : Int) * 7) (by omega) (by omega), wrap_in (x := (p : Int) * 7 + 3) (by omega) (by omega), if_pos m1.1, if_pos m1.2, if_pos m2.1, if_pos m2.2, if_neg (show ¬ n = 0 by omega), hs, wrap_in (x := Int.tdiv X 64) (by omega) (by omega)]
        exact Ev.now _
theorem odd_ev (b : List Int) (hb : Bytes b) (p : Nat) (hp : p ≤ 100000000000) (n : Int) (hn : n ≤ 1000000) : ∃ (v : Bool) (q : Nat), q ≤ p + 1 ∧ Ev (fun k => spec_l20Rd_odd.f k b (p : Int) n) (v, (q : Int)) := by
  by_cases h : n > 0
  · obtain ⟨v, h0, h1, he⟩ := pick_ev b hb p hp n
    refine ⟨(v == wrap64 (n - 1)), p + 1, Nat.le_refl _, ?_⟩
    simp only [spec_l20Rd_odd.f, if_pos h]
    refine Ev.bind he ?_
    exact Ev.now _
  · refine ⟨false, p, by omega, ?_⟩
    simp only [spec_l20Rd_odd.f, if_neg h]
    exact Ev.now _

-- part: l20Row
theorem l20Row_l0 (b : List Int) (hb : Bytes b) (long n : Int) (hlong : 1 ≤ long ∧ long ≤ 20) (hn : n ≤ 1000000) : ∀ (d i p : Nat) (x : List Int), (i : Int) + d = long → x.length = i → p + d ≤ 1000000000 →
    ∃ (out : List Int) (q : Nat), q ≤ p + d + 5 ∧ out.length ≤ 20 ∧ Ev (fun k => spec_l20Row.l0 k long n x (i : Int) b (p : Int)) (out, (q : Int)) := by
  intro d
  induction d with
  | succ d ih =>
    intro i p x h hx hp
    obtain ⟨v, _, _, he⟩ := pick_ev b hb p (by omega) 4
    obtain ⟨out, q, hq, ho, hE⟩ := ih (i + 1) (p + 1) (x ++ [v]) (by omega) (by simp; omega) (by omega)
    refine ⟨out, q, by omega, ho, ?_⟩
    refine ev_s ?_
    simp only [spec_l20Row.l0, if_pos (show (i : Int) < long by omega), show wrap64 ((i : Int) + 1) = ((i + 1 : Nat) : Int) by rw [wrap_in (by omega) (by omega)]; rfl]
    refine Ev.bind he ?_
    simp only [if_pos (show x.length < 17592186044416 by omega)]
    exact hE
  | zero =>
    intro i p x h hx hp
    obtain ⟨o, q, hq, he⟩ := odd_ev b hb p (by omega) n hn
    cases o with
    | false =>
      refine ⟨x, q, by omega, by omega, ?_⟩
      refine ev_s ?_
      simp only [spec_l20Row.l0, if_neg (show ¬ (i : Int) < long by omega)]
      refine Ev.bind he ?_
      simp only [Bool.false_eq_true, if_false]
      exact Ev.now _
    | true =>
      obtain ⟨v, _, _, he1⟩ := pick_ev b hb q (by omega) 3
      have hd : Ev (fun k => spec_l20Row.l0 k long n x (i : Int) b (p : Int)) = Ev (fun k => spec_l20Row.l0 k long n x (i : Int) b (p : Int)) := rfl
      by_cases h0 : v = 0
      · subst h0
        refine ⟨[], q + 1, by omega, by simp, ?_⟩
        refine ev_s ?_
        simp only [spec_l20Row.l0, if_neg (show ¬ (i : Int) < long by omega)]
        refine Ev.bind he ?_
        simp only [if_true]
        refine Ev.bind he1 ?_
        simp only [if_true]
        exact Ev.now _
      · by_cases h1 : v = 1
        · subst h1
          refine ⟨List.replicate 6 0, q + 1, by omega, by simp, ?_⟩
          refine ev_s ?_
          simp only [spec_l20Row.l0, if_neg (show ¬ (i : Int) < long by omega)]
          refine Ev.bind he ?_
          simp only [if_true]
          refine Ev.bind he1 ?_
          simp only [if_neg h0, if_true, if_pos (show 6 ≤ 35184372088832 by decide)]
          exact Ev.now _
        · obtain ⟨u, hu0, hu1, he2⟩ := pick_ev b hb (q + 1) (by omega) 2
          refine ⟨x.set (0 : Int).toNat (rd [(-1), 10000] u), q + 1 + 1, by omega, by simp; omega, ?_⟩
          refine ev_s ?_
          simp only [spec_l20Row.l0, if_neg (show ¬ (i : Int) < long by omega)]
          refine Ev.bind he ?_
          simp only [if_true]
          refine Ev.bind he1 ?_
          simp only [if_neg h0, if_neg h1, Option.bind_some]
          refine Ev.bind he2 ?_
          simp only [if_pos hu0, if_pos (show u < (([(-1), 10000] : List Int).length : Int) by simp; omega), if_pos (show (0 : Int) < (x.length : Int) by omega)]
          exact Ev.now _
theorem l20Row_ev (b : List Int) (hb : Bytes b) (p : Nat) (hp : p ≤ 100000000) (long n : Int) (hlong : 1 ≤ long ∧ long ≤ 20) (hn : n ≤ 1000000) :
    ∃ (out : List Int) (q : Nat), q ≤ p + 30 ∧ out.length ≤ 20 ∧ Ev (fun k => spec_l20Row.f k b (p : Int) long n) (out, (q : Int)) := by
  obtain ⟨out, q, hq, ho, hE⟩ := l20Row_l0 b hb long n hlong hn long.toNat 0 p [] (by omega) rfl (by omega)
  exact ⟨out, q, by omega, ho, hE⟩

-- part: alive
theorem alive_ev : Ev (fun k => laws_alive.f k) true := Ev.of laws_alive.mono (k := 20) (by decide +kernel)

-- part: law_FnRowOrd
theorem OrdOf_ev (n : Nat) (h : n ≤ 9999) : Ev (fun k => impl_OrdOf.f k (n : Int)) (O.num n).row := by
  obtain ⟨l, hl, hi⟩ := number_eq n
  unfold impl_OrdOf.f
  simp only [if_neg (show ¬ ((n : Int) < 0) by omega), decide_eq_false (show ¬ ((n : Int) > 9999) by omega)]
  refine ev_s ?_
  simp only [impl_OrdOf.j0, Bool.false_eq_true, if_false, hl, Option.bind_some]
  exact Ev.bind (rowOf_ev hi (by have := num_body n; omega)) (Ev.now _)
theorem DrawRowOrd_ev (l : List Int) (h : ∀ x ∈ l, (Lit.int .u8 x).wf = true) : ∃ (a : List Int), a.length ≤ 20 ∧ Ev (fun k => spec_DrawRowOrd.f k l) a := by
  obtain ⟨b, hb, ho⟩ := open_ev l h
  obtain ⟨v, hv0, hv1, he⟩ := pick_ev b hb 0 (by omega) 5
  obtain ⟨out, q, hq, hl, hE⟩ := l20Row_ev b hb 1 (by omega) (1 + v) 9 (by omega) (by omega)
  refine ⟨out, hl, ?_⟩
  simp only [spec_DrawRowOrd.f, ho, Option.bind_some]
  refine Ev.bind he ?_
  simp only [wrap_in (x := 1 + v) (by omega) (by omega)]
  exact Ev.bind hE (Ev.now _)
theorem FnRowOrd : laws_FnRowOrd.Pure := by
  intro l0 _ _ hw
  refine Ev.rounds ?_
  simp only [laws_FnRowOrd.f]
  by_cases hb : (l0.length : Int) > 1048576
  · simp only [if_pos hb]; exact Ev.now _
  simp only [if_neg hb]
  obtain ⟨a, ha, he⟩ := DrawRowOrd_ev l0 hw
  refine Ev.bind he ?_
  refine Ev.bind (impl_RowOrd_ev a (by omega)) ?_
  refine Ev.bind (spec_RowOrd_ev a (by omega)) ?_
  have hl := rowOrd_length a
  refine Ev.bind (sameInts_ev _ _ (by omega)) ?_
  simp only [decide_true, if_true]
  by_cases h : rowOk a = true
  · have hv : rowOrd a = (rowO a).row := by rw [rowOrd, if_pos h]
    have hla := rowOk_len h
    have hbd := rowO_body a
    have hall := rowOk_all h
    have hs := rowO_Sm a (by omega) hall.2
    have hrl := O.row_length (rowO a)
    rw [hv]
    simp only [if_neg (show ¬ ((rowO a).row.length : Int) = 0 by omega)]
    refine Ev.bind (OrdOf_ev a.length (by omega)) ?_
    obtain ⟨hns, hnl⟩ := num_Sm (n := a.length) (by omega)
    have hnb := num_body a.length
    have hnr := O.row_length (O.num a.length)
    have htop : (O.c 1 (O.num a.length) .z).Sm := ⟨⟨by omega, by omega⟩, ⟨hns, hnl⟩, trivial, trivial⟩
    have htl : (O.c 1 (O.num a.length) .z).row.length ≤ 60 := by
      rw [O.row_length, O.body_c]; simp only [List.length_cons, List.length_append, O.body]; simp; omega
    have hpow : Ev (fun k => impl_OrdPower.f k (O.num a.length).row) ((O.c 1 (O.num a.length) .z).row, true) := by
      simp only [impl_OrdPower.f]
      refine Ev.bind (ordOf_ev hns (by omega)) ?_
      simp only [if_true, impl_power.f, Option.bind_some]
      have e : [(⟨1, (O.num a.length).terms⟩ : S42)] = (O.c 1 (O.num a.length) .z).terms := rfl
      rw [e]
      refine Ev.bind (told_ev (by omega)) ?_
      exact ev_now (by rw [O.fit, if_pos ⟨htl, O.most_of htop⟩])
    refine Ev.bind hpow ?_
    obtain ⟨p, v, rfl⟩ : ∃ p v, a = p ++ [v] := ⟨a.dropLast, a.getLast (by intro e; rw [e] at hla; simp at hla), (List.dropLast_concat_getLast _).symm⟩
    have hpl : (p ++ [v]).length = p.length + 1 := by simp
    have hv0 := hall.1 v (by simp)
    have hv9 := hall.2 v (by simp)
    have ew : wrap64 (((p ++ [v]).length : Int) - 1) = (p.length : Int) := by rw [wrap_in (by omega) (by omega)]; omega
    have er : rd (p ++ [v]) (p.length : Int) = v := by rw [rd_eq]; simp
    have es : (p ++ [v]).set p.length (v + 1) = p ++ [v + 1] := by simp
    simp only [Option.bind_some, List.length_nil, List.nil_append, if_pos (show 0 + (p ++ [v]).length < 17592186044416 by omega), ew, if_pos (show (0 : Int) ≤ (p.length : Int) from Int.natCast_nonneg _), if_pos (show (p.length : Int) < ((p ++ [v]).length : Int) by omega), er, Int.toNat_natCast, wrap_in (x := v + 1) (by omega) (by omega), es]
    clear ew
    have hsb := succO_body (rowO (p ++ [v]))
    have hnext : Ev (fun k => impl_OrdNext.f k (rowO (p ++ [v])).row) (succO (rowO (p ++ [v]))).fit := by
      simp only [impl_OrdNext.f]
      refine Ev.bind (ordOf_ev hs (by omega)) ?_
      have e1 : impl_number.f 1 = some [(⟨1, []⟩ : S42)] := rfl
      simp only [if_true, e1, Option.bind_some]
      refine Ev.bind (add_one_ev hs (by omega)) ?_
      refine Ev.bind (told_ev (by rw [O.row_length]; omega)) ?_
      exact ev_now rfl
    refine Ev.bind hnext ?_
    have hval : Ev (fun k => impl_OrdValid.f k (rowO (p ++ [v])).row) true := by
      simp only [impl_OrdValid.f]
      exact Ev.bind (ordOf_ev hs (by omega)) (Ev.now _)
    refine Ev.bind hval ?_
    simp only [if_true]
    refine Ev.bind (OrdCompare_ev hs htop (by omega) htl) ?_
    have hcmp : O.cmp (rowO (p ++ [v])) (.c 1 (O.num (p ++ [v]).length) .z) = .lt := hd_cmp (f := .z) (rowO_hd _ _ (Nat.le_refl _))
    rw [hcmp]
    simp only [ordI, if_true]
    have hpl2 : (p ++ [v + 1]).length = p.length + 1 := by simp
    refine Ev.bind (impl_RowValid_ev _ (by omega)) ?_
    cases h2 : rowOk (p ++ [v + 1]) with
    | false => simp only [Bool.false_eq_true, if_false]; exact Ev.now _
    | true =>
      simp only [if_true]
      have e3 := succO_more p v hv0
      have hb3 := rowO_body (p ++ [v + 1])
      have hs3 := rowO_Sm (p ++ [v + 1]) (by omega) (rowOk_all h2).2
      have hr3 : (rowO (p ++ [v + 1])).row.length ≤ 60 := by rw [O.row_length]; omega
      rw [← e3, O.fit, if_pos ⟨hr3, O.most_of hs3⟩]
      simp only [if_true]
      refine Ev.bind (impl_RowOrd_ev _ (by omega)) ?_
      have hv3 : rowOrd (p ++ [v + 1]) = (rowO (p ++ [v + 1])).row := by rw [rowOrd, if_pos h2]
      rw [hv3]
      refine Ev.bind (sameInts_ev _ _ (by omega)) ?_
      exact ev_now (by simp)
  · have hv : rowOrd a = [] := by rw [rowOrd, if_neg h]
    rw [hv]
    simp only [List.length_nil, if_pos (show ((0 : Nat) : Int) = 0 from rfl)]
    refine Ev.bind (impl_RowValid_ev a (by omega)) ?_
    rw [Bool.eq_false_iff.mpr h]
    simp only [Bool.false_eq_true, if_false]
    exact Ev.bind alive_ev (Ev.now _)

end Go.Proofs.Ytmmabfmomblllaa.Pure

/- The law FnExactRowOrd returns true for every input that the statement lets in; no condition of our own. -/
import Derived.Test.YtpnmaimmmcgcoaaPFnExactRowOrdx3
import Derived.Test.YtpnmaimmmcgcoaaWSized
namespace Go.Proofs.Ytpnmaimmmcgcoaa
open Go.ChangeShapes Go.WideShapes in
/-- The printed row names this word of the seat's without its first part. -/
theorem PrintWords.sized_ints {H : Type} {enc : TypeId × Value → H} {P : Program} {W : World} {base : Nat} {spare : Nat → Bool} {held : Bool} {t e : TypeId} {k : IntKind} {a : Option Addr} {len cap : Nat} {d : DataW H} {ps : List MemPlace} {ts : List TypeId} {ds : List (DataW H)} {j : Nat}
    (hsz : (DataW.weightsEach P ts ds).all (· ≤ reachBytes) = true) (ht : ts[j]? = some t) (hd : ds[j]? = some d) (hu : P.underlying t = some (.slice e)) (he : P.underlying e = some (.int k)) (hc : P.cellsOf e = 1) {B : Nat} (hB : P.bytesOf e = B)
    (h : DataW.Trod enc P W base spare held t (.slice a len cap) d ps) : len * B ≤ 140737488351232 :=
  Go.Proofs.YtpnmaimmmcgcoaaW.PrintWords.sized_ints hsz ht hd hu he hc hB h
end Go.Proofs.Ytpnmaimmmcgcoaa
namespace Go.Proofs.Ytpnmaimmmcgcoaa.Pure
open Go.RowKit Go.Proofs.Ytpnmaimmmcgcoaa.PFnExactRowOrd Go.Proofs.YtpnmaimmmcgcoaaW.PrintWords Go.Proofs.YtpnmaimmmcgcoaaW.PrintLast
set_option linter.unusedVariables false
set_option linter.unusedSimpArgs false

-- part: base
/-! ### words of mine -/
theorem ev_s {α : Type} {g : Nat → Option α} {r : α} (h : Ev (fun k => g (k + 1)) r) : Ev g r := Ev.step (fun _ => rfl) h
theorem ev_eq {α : Type} {g : Nat → Option α} {r q : α} (h : Ev g r) (e : r = q) : Ev g q := e ▸ h
theorem ev_now {α : Type} {r q : α} (e : r = q) : Ev (fun _ => some r) q := e ▸ Ev.now r
theorem wrap_in {x : Int} (h0 : -9223372036854775808 ≤ x) (h1 : x ≤ 9223372036854775807) : wrap64 x = x := by unfold wrap64; omega
theorem rd_eq (xs : List Int) (i : Nat) : rd xs (i : Int) = xs.getD i 0 := by simp [rd]
theorem rd_get {xs : List Int} {i : Nat} (h : i < xs.length) : rd xs (i : Int) = xs[i] := by simp [rd, h]
theorem wrap_nat2 (a b : Nat) (h : a + b < 4611686018427387904) : wrap64 ((a : Int) + (b : Int)) = ((a + b : Nat) : Int) := by rw [wrap_in (by omega) (by omega)]; omega

-- part: toIntS
theorem toIntS_l0 (l : List Int) (hl : l.length ≤ 35184372088832) : ∀ (d i : Nat) (x : List Int), i + d = l.length → x.length = l.length → x.take i = l.take i → Ev (fun k => laws_toIntS.l0 k l x i) l := by
  intro d
  induction d with
  | zero =>
    intro i x h hx ht
    refine ev_s ?_
    simp only [laws_toIntS.l0]
    rw [show i = l.length by omega] at ht ⊢
    simp only [if_neg (show ¬ ((l.length : Int) < (l.length : Int)) by omega)]
    rw [List.take_of_length_le (by omega), List.take_length] at ht
    rw [ht]; exact Ev.now _
  | succ d ih =>
    intro i x h hx ht
    refine ev_s ?_
    simp only [laws_toIntS.l0]
    simp only [if_pos (show (i : Int) < (l.length : Int) by omega), if_pos (show (0 : Int) ≤ (i : Int) by omega), if_pos (show (i : Int) < (x.length : Int) by omega), show wrap64 ((i : Int) + 1) = ((i + 1 : Nat) : Int) by rw [wrap_in (by omega) (by omega)]; rfl, Int.toNat_natCast]
    refine ih (i + 1) _ (by omega) (by simpa using hx) ?_
    rw [rd_get (show i < l.length by omega)]
    apply List.ext_getElem?
    intro j
    have := congrArg (fun z => z[j]?) ht
    simp only [List.getElem?_take] at this ⊢
    by_cases hj : j < i
    · rw [if_pos hj, if_pos hj] at this
      rw [if_pos (by omega), if_pos (by omega), List.getElem?_set_ne (by omega)]; exact this
    · by_cases hji : j = i
      · subst hji
        rw [if_pos (by omega), if_pos (by omega), List.getElem?_set_self (by omega), List.getElem?_eq_getElem (by omega)]
      · rw [if_neg (by omega), if_neg (by omega)]
theorem toIntS_ev (l : List Int) (hl : l.length ≤ 35184372088832) : Ev (fun k => laws_toIntS.f k l) l := by
  simp only [laws_toIntS.f, Int.toNat_natCast, if_pos (show (0 : Int) ≤ (l.length : Int) by omega), if_pos hl]
  exact toIntS_l0 l hl l.length 0 _ (by omega) (by simp) (by simp)

-- part: eqIntS
theorem eqIntS_l0 (F : Nat → List Int → List Int → Int → Option Bool)
    (h0 : ∀ k a b i, F (k + 1) a b i = if i < (a.length : Int) then (if 0 ≤ i then (if i < (b.length : Int) then (if (rd a i) = (rd b i) then (F k a b (wrap64 (i + 1))) else (some false)) else none) else none) else some true)
    (a b : List Int) (hl : a.length = b.length) (hb : a.length ≤ 140737488351232) : ∀ (d i : Nat), i + d = a.length → a.take i = b.take i → Ev (fun k => F k a b i) (decide (a = b)) := by
  intro d
  induction d with
  | zero =>
    intro i h ht
    refine ev_s ?_
    simp only [h0]
    simp only [if_neg (show ¬ ((i : Int) < (a.length : Int)) by omega)]
    rw [List.take_of_length_le (by omega), List.take_of_length_le (by omega)] at ht
    simp only [ht, decide_true]; exact Ev.now _
  | succ d ih =>
    intro i h ht
    refine ev_s ?_
    simp only [h0]
    simp only [if_pos (show (i : Int) < (a.length : Int) by omega), if_pos (show (0 : Int) ≤ (i : Int) by omega), if_pos (show (i : Int) < (b.length : Int) by omega), show wrap64 ((i : Int) + 1) = ((i + 1 : Nat) : Int) by rw [wrap_in (by omega) (by omega)]; rfl]
    rw [rd_get (show i < a.length by omega), rd_get (show i < b.length by omega)]
    by_cases he : a[i] = b[i]
    · simp only [if_pos he]
      refine ih (i + 1) (by omega) ?_
      rw [List.take_succ_eq_append_getElem (by omega), List.take_succ_eq_append_getElem (by omega), ht, he]
    · simp only [if_neg he]
      refine ev_now (Eq.symm (decide_eq_false (fun hab => he ?_)))
      subst hab; rfl
theorem eqIntS_ev (a b : List Int) (hb : a.length ≤ 140737488351232) : Ev (fun k => laws_eqIntS.f k a b) (decide (a = b)) := by
  simp only [laws_eqIntS.f]
  by_cases hl : a.length = b.length
  · simp only [if_pos (show (a.length : Int) = (b.length : Int) by omega)]
    exact eqIntS_l0 laws_eqIntS.l0 (fun _ _ _ _ => rfl) a b hl hb a.length 0 (by omega) (by simp)
  · simp only [if_neg (show ¬ ((a.length : Int) = (b.length : Int)) by omega)]
    exact ev_now (Eq.symm (decide_eq_false (fun hab => hl (by rw [hab]))))

-- part: mark
/-! ### marks -/
def marksOf (a n : Nat) : List Int := (List.range n).map (fun i => ((a + i : Nat) : Int))
theorem marksOf_length (a n : Nat) : (marksOf a n).length = n := by simp [marksOf]
theorem markIntS_l0 (a : Nat) (n : Nat) (hn : a + n ≤ 1000000000000000) : ∀ (d i : Nat) (x : List Int), i + d = n → x.length = n → x.take i = marksOf a i → Ev (fun k => laws_markIntS.l0 k x ((a + i : Nat) : Int) (i : Int)) (((a + n : Nat) : Int), marksOf a n) := by
  intro d
  induction d with
  | zero =>
    intro i x h hx ht
    refine ev_s ?_
    simp only [laws_markIntS.l0, if_neg (show ¬ ((i : Int) < (x.length : Int)) by omega)]
    rw [List.take_of_length_le (by omega)] at ht
    obtain rfl : i = n := by omega
    rw [← ht]; exact Ev.now _
  | succ d ih =>
    intro i x h hx ht
    refine ev_s ?_
    simp only [laws_markIntS.l0, if_pos (show (i : Int) < (x.length : Int) by omega), if_pos (show (0 : Int) ≤ (i : Int) by omega), Int.toNat_natCast, show wrap64 ((i : Int) + 1) = ((i + 1 : Nat) : Int) by rw [wrap_in (by omega) (by omega)]; rfl, show wrap64 (((a + i : Nat) : Int) + 1) = ((a + (i + 1) : Nat) : Int) by rw [wrap_in (by omega) (by omega)]; omega]
    refine ih (i + 1) _ (by omega) (by simpa using hx) ?_
    have e : marksOf a (i + 1) = marksOf a i ++ [((a + i : Nat) : Int)] := by simp [marksOf, List.range_succ]
    rw [e, ← ht, List.take_succ_eq_append_getElem (by simp; omega), List.getElem_set_self]
    congr 1
    rw [List.take_set_of_le (by omega)]
theorem markIntS_ev (l : List Int) (a : Nat) (hn : a + l.length ≤ 1000000000000000) : Ev (fun k => laws_markIntS.f k l (a : Int)) (((a + l.length : Nat) : Int), marksOf a l.length) :=
  markIntS_l0 a l.length hn l.length 0 l (by omega) rfl (by simp [marksOf])
theorem heldIntS_l0 (a n : Nat) (hn : a + n ≤ 1000000000000000) : ∀ (d i : Nat), i + d = n → Ev (fun k => laws_heldIntS.l0 k (marksOf a n) ((a + i : Nat) : Int) (i : Int)) ((a + n : Nat) : Int) := by
  intro d
  induction d with
  | zero =>
    intro i h
    refine ev_s ?_
    simp only [laws_heldIntS.l0, marksOf_length, if_neg (show ¬ ((i : Int) < (n : Int)) by omega)]
    exact ev_now (by rw [show i = n by omega])
  | succ d ih =>
    intro i h
    refine ev_s ?_
    have hr : rd (marksOf a n) (i : Int) = ((a + i : Nat) : Int) := by rw [rd_get (by rw [marksOf_length]; omega)]; simp [marksOf]
    simp only [laws_heldIntS.l0, marksOf_length, if_pos (show (i : Int) < (n : Int) by omega), if_pos (show (0 : Int) ≤ (i : Int) by omega), hr, if_true, show wrap64 ((i : Int) + 1) = ((i + 1 : Nat) : Int) by rw [wrap_in (by omega) (by omega)]; rfl, show wrap64 (((a + i : Nat) : Int) + 1) = ((a + (i + 1) : Nat) : Int) by rw [wrap_in (by omega) (by omega)]; omega]
    exact ih (i + 1) (by omega)
theorem heldIntS_ev (a n : Nat) (hn : a + n ≤ 1000000000000000) : Ev (fun k => laws_heldIntS.f k (marksOf a n) (a : Int)) ((a + n : Nat) : Int) :=
  heldIntS_l0 a n hn n 0 (by omega)

-- part: l1In
theorem l1In_eq (n lo hi : Int) : spec_l1In.f n lo hi = some (decide (lo ≤ n ∧ n ≤ hi)) := by
  unfold spec_l1In.f
  by_cases h : n ≥ lo
  · rw [if_pos h]; simp [show lo ≤ n from h]
  · rw [if_neg h]; simp [show ¬ lo ≤ n from h]

-- part: RowValid
/-- What both of them say. -/
def rowOk (l : List Int) : Bool := l.all (fun x => decide (0 ≤ x ∧ x ≤ 9999)) && decide (1 ≤ l.length ∧ l.length ≤ 5)
theorem rowOk_drop {l : List Int} {i : Nat} (h : i < l.length) : (l.drop i).all (fun x => decide (0 ≤ x ∧ x ≤ 9999)) = (decide (0 ≤ l[i] ∧ l[i] ≤ 9999) && (l.drop (i + 1)).all (fun x => decide (0 ≤ x ∧ x ≤ 9999))) := by
  rw [List.drop_eq_getElem_cons h]; rfl
theorem spec_RowValid_l0 (l : List Int) (hb : l.length ≤ 140737488351232) : ∀ (d i : Nat), i + d = l.length → Ev (fun k => spec_RowValid.l0 k l i) ((l.drop i).all (fun x => decide (0 ≤ x ∧ x ≤ 9999)) && decide (1 ≤ l.length ∧ l.length ≤ 5)) := by
  intro d
  induction d with
  | zero =>
    intro i h
    refine ev_s ?_
    simp only [spec_RowValid.l0, l1In_eq, Option.bind_some]
    simp only [if_neg (show ¬ ((i : Int) < (l.length : Int)) by omega)]
    rw [List.drop_of_length_le (by omega)]
    refine ev_now ?_
    simp only [List.all_nil, Bool.true_and]
    exact decide_eq_decide.mpr (by omega)
  | succ d ih =>
    intro i h
    refine ev_s ?_
    simp only [spec_RowValid.l0, l1In_eq, Option.bind_some]
    simp only [if_pos (show (i : Int) < (l.length : Int) by omega), if_pos (show (0 : Int) ≤ (i : Int) by omega), show wrap64 ((i : Int) + 1) = ((i + 1 : Nat) : Int) by rw [wrap_in (by omega) (by omega)]; rfl]
    rw [rd_get (show i < l.length by omega), rowOk_drop (by omega)]
    by_cases hc : 0 ≤ l[i] ∧ l[i] ≤ 9999
    · simp only [decide_eq_true hc, Bool.true_and, if_true]
      exact ih (i + 1) (by omega)
    · simp only [decide_eq_false hc, Bool.false_and, Bool.false_eq_true, if_false]
      exact Ev.now _
theorem spec_RowValid_ev (l : List Int) (hb : l.length ≤ 140737488351232) : Ev (fun k => spec_RowValid.f k l) (rowOk l) := spec_RowValid_l0 l hb l.length 0 (by omega)
theorem impl_RowValid_l0 (l : List Int) (hb : l.length ≤ 140737488351232) : ∀ (d i : Nat), i + d = l.length → Ev (fun k => impl_RowValid.l0 k l l (l.length : Int) i) ((l.drop i).all (fun x => decide (0 ≤ x ∧ x ≤ 9999)) && decide (1 ≤ l.length ∧ l.length ≤ 5)) := by
  intro d
  induction d with
  | zero =>
    intro i h
    refine ev_s ?_
    simp only [impl_RowValid.l0]
    simp only [if_neg (show ¬ ((i : Int) < (l.length : Int)) by omega)]
    rw [List.drop_of_length_le (by omega)]
    by_cases hc : (l.length : Int) ≥ 1
    · simp only [if_pos hc]
      refine ev_now ?_
      simp only [List.all_nil, Bool.true_and]
      exact decide_eq_decide.mpr (by omega)
    · simp only [if_neg hc]
      refine ev_now ?_
      simp only [List.all_nil, Bool.true_and]
      exact (decide_eq_false (by omega)).symm
  | succ d ih =>
    intro i h
    refine ev_s ?_
    simp only [impl_RowValid.l0]
    simp only [if_pos (show (i : Int) < (l.length : Int) by omega), if_pos (show (0 : Int) ≤ (i : Int) by omega), show wrap64 ((i : Int) + 1) = ((i + 1 : Nat) : Int) by rw [wrap_in (by omega) (by omega)]; rfl]
    rw [rd_get (show i < l.length by omega), rowOk_drop (by omega)]
    by_cases h1 : l[i] < 0
    · simp only [if_pos h1, decide_eq_false (show ¬ (0 ≤ l[i] ∧ l[i] ≤ 9999) by omega), Bool.false_and]
      exact Ev.now _
    · by_cases h2 : l[i] > 9999
      · simp only [if_neg h1, if_pos h2, decide_eq_false (show ¬ (0 ≤ l[i] ∧ l[i] ≤ 9999) by omega), Bool.false_and]
        exact Ev.now _
      · simp only [if_neg h1, if_neg h2, decide_eq_true (show (0 ≤ l[i] ∧ l[i] ≤ 9999) by omega), Bool.true_and]
        exact ih (i + 1) (by omega)
theorem impl_RowValid_ev (l : List Int) (hb : l.length ≤ 140737488351232) : Ev (fun k => impl_RowValid.f k l) (rowOk l) := impl_RowValid_l0 l hb l.length 0 (by omega)

-- part: oRow
/-! ### ordinals -/
/-- An ordinal: a sum of terms w^e * n. -/
inductive O where
  | z : O
  | c (n : Nat) (e r : O) : O
def O.len : O → Nat
  | .z => 0
  | .c _ _ r => O.len r + 1
def O.body : O → List Int
  | .z => []
  | .c n e r => (n : Int) :: (O.len e : Int) :: (O.body e ++ O.body r)
def O.row (o : O) : List Int := (O.len o : Int) :: O.body o
theorem O.len_le : ∀ o : O, o.len ≤ o.body.length
  | .z => Nat.le_refl _
  | .c n e r => by have := O.len_le r; simp only [O.len, O.body, List.length_cons, List.length_append]; omega
/-- These terms are this ordinal. -/
inductive IsO : List S55 → O → Prop where
  | nil : IsO [] .z
  | cons {n : Nat} {e r : List S55} {oe or_ : O} (he : IsO e oe) (hr : IsO r or_) : IsO (⟨(n : Int), e⟩ :: r) (.c n oe or_)
theorem IsO.len {l : List S55} {o : O} (h : IsO l o) : l.length = o.len := by
  induction h with
  | nil => rfl
  | cons he hr ihe ihr => simp [O.len, ihr]
theorem rd_T55_mid (pre suf : List S55) (x : S55) : rd_T55 (pre ++ x :: suf) ((pre.length : Nat) : Int) = x := by simp [rd_T55]
def O.num (n : Nat) : O := if n = 0 then .z else .c n .z .z
theorem number_eq (n : Nat) : ∃ l, impl_number.f (n : Int) = some l ∧ IsO l (O.num n) := by
  unfold impl_number.f O.num
  by_cases h : n = 0
  · subst h; exact ⟨[], rfl, .nil⟩
  · rw [if_neg (show ¬ ((n : Int) = 0) by omega), if_neg h]
    exact ⟨_, rfl, .cons .nil .nil⟩
theorem rowOf_l0 {suf : List S55} {o : O} (h : IsO suf o) : ∀ (pre : List S55) (out : List Int), pre.length + suf.length ≤ 1000000 → out.length + o.body.length ≤ 1000000 → Ev (fun k => impl_rowOf.l0 k out (pre ++ suf) (((pre ++ suf).length : Nat) : Int) (pre.length : Int)) (out ++ o.body) := by
  induction h with
  | nil =>
    intro pre out _ _
    refine ev_s ?_
    simp only [impl_rowOf.l0, List.append_nil, if_neg (show ¬ ((pre.length : Int) < (pre.length : Int)) by omega), O.body]
    exact Ev.now _
  | @cons n e r oe or_ he hr ihe ihr =>
    intro pre out hp ho
    simp only [List.length_cons] at hp
    simp only [O.body, List.length_cons, List.length_append] at ho
    have hlen : ((pre ++ (⟨(n : Int), e⟩ : S55) :: r).length : Nat) = pre.length + (r.length + 1) := by simp
    have he1 := IsO.len he
    have hel := O.len_le oe
    have hE : Ev (fun k => impl_rowOf.f k e) oe.row := by
      refine ev_s ?_
      simp only [impl_rowOf.f]
      have := ihe [] [(e.length : Int)] (by simp; omega) (by simp; omega)
      rw [List.nil_append] at this
      refine ev_eq this ?_
      rw [O.row, ← he1]; rfl
    refine ev_s ?_
    simp only [impl_rowOf.l0, rd_T55_mid, hlen, if_pos (show (pre.length : Int) < ((pre.length + (r.length + 1) : Nat) : Int) by omega), if_pos (show (0 : Int) ≤ (pre.length : Int) by omega), if_pos (show out.length < 17592186044416 by omega), Option.bind_some]
    refine Ev.bind hE ?_
    have hrow : oe.row.length = oe.body.length + 1 := by simp [O.row]
    simp only [List.length_append, List.length_singleton, hrow, if_pos (show out.length + 1 + (oe.body.length + 1) < 17592186044416 by omega), show wrap64 ((pre.length : Int) + 1) = ((pre.length + 1 : Nat) : Int) by rw [wrap_in (by omega) (by omega)]; rfl]
    have := ihr (pre ++ [⟨(n : Int), e⟩]) (out ++ [(n : Int)] ++ oe.row) (by simp; omega) (by simp [hrow]; omega)
    simp only [List.append_assoc, List.singleton_append, List.length_append, List.length_cons, List.length_nil] at this
    refine ev_eq ?_ (show out ++ ((n : Int) :: (oe.row ++ or_.body)) = out ++ (O.c n oe or_).body by simp [O.body, O.row])
    simp only [List.append_assoc, List.singleton_append]
    exact this
theorem rowOf_ev {l : List S55} {o : O} (h : IsO l o) (ho : o.body.length ≤ 100000) : Ev (fun k => impl_rowOf.f k l) o.row := by
  have hl := IsO.len h
  have := O.len_le o
  refine ev_s ?_
  simp only [impl_rowOf.f]
  have := rowOf_l0 h [] [(l.length : Int)] (by simp; omega) (by simp; omega)
  rw [List.nil_append] at this
  refine ev_eq this ?_
  rw [O.row, ← hl]; rfl

-- part: oApp
def O.app : O → O → O
  | .z, y => y
  | .c n e r, y => .c n e (O.app r y)
theorem O.app_z : ∀ x : O, O.app x .z = x
  | .z => rfl
  | .c n e r => by rw [O.app, O.app_z r]
theorem O.app_assoc : ∀ x y t : O, O.app (O.app x y) t = O.app x (O.app y t)
  | .z, _, _ => rfl
  | .c n e r, y, t => by simp only [O.app, O.app_assoc r y t]
theorem O.app_body : ∀ x y : O, (O.app x y).body = x.body ++ y.body
  | .z, _ => rfl
  | .c n e r, y => by simp only [O.app, O.body, O.app_body r y, List.cons_append, List.append_assoc]
theorem O.app_len : ∀ x y : O, (O.app x y).len = x.len + y.len
  | .z, _ => by simp [O.app, O.len]
  | .c n e r, y => by simp only [O.app, O.len, O.app_len r y]; omega
theorem IsO.app {a b : List S55} {x y : O} (ha : IsO a x) (hb : IsO b y) : IsO (a ++ b) (O.app x y) := by
  induction ha with
  | nil => exact hb
  | cons he _ _ ih => exact .cons he ih

-- part: l1Make
/-- Numbers and exponents, one behind the other. -/
def zipB : List Int → List (List Int) → List Int
  | t :: ts, e :: es => t :: e ++ zipB ts es
  | _, _ => []
theorem zipB_drop {t : List Int} {e : List (List Int)} {i : Nat} (ht : i < t.length) (he : i < e.length) : zipB (t.drop i) (e.drop i) = t[i] :: e[i] ++ zipB (t.drop (i + 1)) (e.drop (i + 1)) := by
  rw [List.drop_eq_getElem_cons ht, List.drop_eq_getElem_cons he]; rfl
theorem zipB_snoc : ∀ (t : List Int) (e : List (List Int)) (n : Int) (x : List Int), t.length = e.length → zipB (t ++ [n]) (e ++ [x]) = zipB t e ++ n :: x
  | [], [], n, x, _ => by simp [zipB]
  | [], _ :: _, _, _, h => by simp at h
  | _ :: _, [], _, _, h => by simp at h
  | a :: t, b :: e, n, x, h => by
    have := zipB_snoc t e n x (by simpa using h)
    simp [zipB, this]
theorem rdL1_get {xs : List (List Int)} {i : Nat} (h : i < xs.length) : rd_L1 xs (i : Int) = xs[i] := by simp [rd_L1, h]
theorem l1Make_l0 (t : List Int) (e : List (List Int)) (hl : t.length = e.length) (hb : t.length ≤ 1000000) : ∀ (d i : Nat) (out : List Int), i + d = t.length → out.length + (zipB (t.drop i) (e.drop i)).length ≤ 1000000 → Ev (fun k => spec_l1Make.l0 k t e out (i : Int)) (out ++ zipB (t.drop i) (e.drop i)) := by
  intro d
  induction d with
  | zero =>
    intro i out h _
    refine ev_s ?_
    simp only [spec_l1Make.l0, if_neg (show ¬ ((i : Int) < (t.length : Int)) by omega)]
    rw [List.drop_of_length_le (by omega)]
    exact ev_now (by simp [zipB])
  | succ d ih =>
    intro i out h ho
    rw [zipB_drop (show i < t.length by omega) (show i < e.length by omega)] at ho
    simp only [List.length_append, List.length_cons] at ho
    refine ev_s ?_
    simp only [spec_l1Make.l0, if_pos (show (i : Int) < (t.length : Int) by omega), if_pos (show (0 : Int) ≤ (i : Int) by omega), if_pos (show (i : Int) < (e.length : Int) by omega), if_pos (show out.length < 17592186044416 by omega), Option.bind_some, rdL1_get (show i < e.length by omega), rd_get (show i < t.length by omega), show wrap64 ((i : Int) + 1) = ((i + 1 : Nat) : Int) by rw [wrap_in (by omega) (by omega)]; rfl, List.length_append, List.length_singleton, if_pos (show out.length + 1 + e[i].length < 17592186044416 by omega)]
    refine ev_eq (ih (i + 1) _ (by omega) (by simp; omega)) ?_
    rw [zipB_drop (show i < t.length by omega) (show i < e.length by omega)]
    simp
theorem l1Make_ev (t : List Int) (e : List (List Int)) (hl : t.length = e.length) (hb : t.length ≤ 100000) (hz : (zipB t e).length ≤ 100000) : Ev (fun k => spec_l1Make.f k t e) ((t.length : Int) :: zipB t e) := by
  simp only [spec_l1Make.f]
  exact l1Make_l0 t e hl (by omega) t.length 0 [(t.length : Int)] (by omega) (by simp; omega)

-- part: RowOrd
def rowO : List Int → O
  | [] => .z
  | x :: r => if x > 0 then .c x.toNat (O.num r.length) (rowO r) else rowO r
theorem rowO_drop {l : List Int} {i : Nat} (h : i < l.length) : rowO (l.drop i) = if l[i] > 0 then .c l[i].toNat (O.num (l.length - 1 - i)) (rowO (l.drop (i + 1))) else rowO (l.drop (i + 1)) := by
  rw [List.drop_eq_getElem_cons h, rowO]
  congr 2
  rw [List.length_drop]; congr 1; omega
theorem num_body (n : Nat) : (O.num n).body.length ≤ 2 := by unfold O.num; split <;> simp [O.body]
theorem rowO_body : ∀ l : List Int, (rowO l).body.length ≤ 4 * l.length
  | [] => by simp [rowO, O.body]
  | x :: r => by
    have := rowO_body r
    have := num_body r.length
    rw [rowO]; split
    · simp only [O.body, List.length_cons, List.length_append]; omega
    · simp only [List.length_cons]; omega
theorem spec_OrdOf_eq (n : Nat) (h : n ≤ 9999) : spec_OrdOf.f (n : Int) = some (O.num n).row := by
  unfold spec_OrdOf.f
  rw [l1In_eq, Option.bind_some, decide_eq_true (show 0 ≤ (n : Int) ∧ (n : Int) ≤ 9999 by omega), if_pos rfl]
  unfold O.num
  by_cases h0 : n = 0
  · subst h0; rfl
  · rw [if_neg (by omega), if_neg h0]; simp [O.row, O.body, O.len]
theorem rowOk_pos {l : List Int} (h : rowOk l = true) {i : Nat} (hi : i < l.length) : 0 ≤ l[i] := by
  simp only [rowOk, Bool.and_eq_true, List.all_eq_true, decide_eq_true_eq] at h
  exact (h.1 l[i] (List.getElem_mem hi)).1
theorem rowOk_len {l : List Int} (h : rowOk l = true) : 1 ≤ l.length ∧ l.length ≤ 5 := by simp [rowOk] at h; exact h.2
theorem impl_RowOrd_l0 {l : List Int} (h : rowOk l = true) : ∀ (d i : Nat) (x : List S55) (o : O), i + d = l.length → IsO x o → o.body.length ≤ 4 * i → Ev (fun k => impl_RowOrd.l0 k l x l (l.length : Int) (i : Int)) (O.row (O.app o (rowO (l.drop i)))) := by
  have hl := rowOk_len h
  intro d
  induction d with
  | zero =>
    intro i x o hi hx ho
    refine ev_s ?_
    simp only [impl_RowOrd.l0, if_neg (show ¬ ((i : Int) < (l.length : Int)) by omega)]
    rw [List.drop_of_length_le (by omega), rowO, O.app_z]
    refine Ev.bind (rowOf_ev hx (by omega)) ?_
    exact Ev.now _
  | succ d ih =>
    intro i x o hi hx ho
    have hxl := IsO.len hx
    have hol := O.len_le o
    have hp := rowOk_pos h (show i < l.length by omega)
    have e : wrap64 ((wrap64 ((l.length : Int) - 1)) - (i : Int)) = ((l.length - 1 - i : Nat) : Int) := by
      rw [wrap_in (x := (l.length : Int) - 1) (by omega) (by omega), wrap_in (by omega) (by omega)]; omega
    obtain ⟨ln, hn1, hn2⟩ := number_eq (l.length - 1 - i)
    refine ev_s ?_
    simp only [impl_RowOrd.l0, if_pos (show (i : Int) < (l.length : Int) by omega), if_pos (show (0 : Int) ≤ (i : Int) by omega), e, hn1, Option.bind_some, rd_get (show i < l.length by omega), show wrap64 ((i : Int) + 1) = ((i + 1 : Nat) : Int) by rw [wrap_in (by omega) (by omega)]; rfl, if_pos (show x.length < 4398046511104 by omega)]
    rw [rowO_drop (show i < l.length by omega)]
    by_cases hc : l[i] > 0
    · simp only [if_pos hc]
      obtain ⟨m, hm⟩ := Int.eq_ofNat_of_zero_le hp
      have hx2 : IsO (x ++ [(⟨l[i], ln⟩ : S55)]) (O.app o (.c l[i].toNat (O.num (l.length - 1 - i)) .z)) := by
        rw [hm]
        exact IsO.app hx (.cons hn2 .nil)
      have hnb := num_body (l.length - 1 - i)
      refine ev_eq (ih (i + 1) _ _ (by omega) hx2 ?_) ?_
      · rw [O.app_body]; simp only [O.body, List.length_append, List.length_cons, List.length_nil]; omega
      · rw [O.app_assoc]; rfl
    · simp only [if_neg hc]
      exact ih (i + 1) x o (by omega) hx (by omega)
def rowOrd (l : List Int) : List Int := if rowOk l = true then O.row (rowO l) else []
theorem rowOrd_length (l : List Int) : (rowOrd l).length ≤ 100 := by
  unfold rowOrd; split
  · rename_i h
    have := rowOk_len h
    have := rowO_body l
    simp only [O.row, List.length_cons]; omega
  · simp
theorem impl_RowOrd_ev (l : List Int) (hb : l.length ≤ 140737488351232) : Ev (fun k => impl_RowOrd.f k l) (rowOrd l) := by
  simp only [impl_RowOrd.f]
  refine Ev.bind (impl_RowValid_ev l hb) ?_
  unfold rowOrd
  cases h : rowOk l with
  | false => simp only [Bool.false_eq_true, if_false]; exact Ev.now _
  | true =>
    simp only [if_true]
    exact impl_RowOrd_l0 h l.length 0 [] .z (by omega) .nil (by simp [O.body])
theorem spec_RowOrd_l0 {l : List Int} (h : rowOk l = true) : ∀ (d i : Nat) (t : List Int) (e : List (List Int)), i + d = l.length → t.length = e.length → t.length ≤ i → (zipB t e).length ≤ 4 * i → Ev (fun k => spec_RowOrd.l0 k l t e (i : Int)) (((t.length + (rowO (l.drop i)).len : Nat) : Int) :: (zipB t e ++ (rowO (l.drop i)).body)) := by
  have hl := rowOk_len h
  intro d
  induction d with
  | zero =>
    intro i t e hi ht hti hz
    refine ev_s ?_
    simp only [spec_RowOrd.l0, if_neg (show ¬ ((i : Int) < (l.length : Int)) by omega)]
    rw [List.drop_of_length_le (by omega)]
    refine Ev.bind (l1Make_ev t e ht (by omega) (by omega)) ?_
    exact ev_now (by simp [rowO, O.len, O.body])
  | succ d ih =>
    intro i t e hi ht hti hz
    have hp := rowOk_pos h (show i < l.length by omega)
    have e1 : wrap64 ((wrap64 ((l.length : Int) - 1)) - (i : Int)) = ((l.length - 1 - i : Nat) : Int) := by
      rw [wrap_in (x := (l.length : Int) - 1) (by omega) (by omega), wrap_in (by omega) (by omega)]; omega
    refine ev_s ?_
    simp only [spec_RowOrd.l0, if_pos (show (i : Int) < (l.length : Int) by omega), if_pos (show (0 : Int) ≤ (i : Int) by omega), e1, spec_OrdOf_eq (l.length - 1 - i) (by omega), Option.bind_some, rd_get (show i < l.length by omega), show wrap64 ((i : Int) + 1) = ((i + 1 : Nat) : Int) by rw [wrap_in (by omega) (by omega)]; rfl, if_pos (show t.length < 17592186044416 by omega), if_pos (show e.length < 5864062014805 by omega)]
    rw [rowO_drop (show i < l.length by omega)]
    by_cases hc : l[i] > 0
    · simp only [if_pos hc]
      have hnb := num_body (l.length - 1 - i)
      have hzs := zipB_snoc t e l[i] (O.num (l.length - 1 - i)).row ht
      refine ev_eq (ih (i + 1) _ _ (by omega) (by simp [ht]) (by simp; omega) ?_) ?_
      · rw [hzs]; simp only [O.row, List.length_append, List.length_cons]; omega
      · rw [hzs]
        have hm : (l[i].toNat : Int) = l[i] := by omega
        simp only [O.len, O.body, O.row, List.length_append, List.length_singleton, List.append_assoc, List.cons_append, hm, List.cons.injEq, and_true]
        omega
    · simp only [if_neg hc]
      exact ih (i + 1) t e (by omega) ht (by omega) (by omega)
theorem spec_RowOrd_ev (l : List Int) (hb : l.length ≤ 140737488351232) : Ev (fun k => spec_RowOrd.f k l) (rowOrd l) := by
  simp only [spec_RowOrd.f]
  refine Ev.bind (spec_RowValid_ev l hb) ?_
  unfold rowOrd
  cases h : rowOk l with
  | false => simp only [Bool.false_eq_true, if_false]; exact Ev.now _
  | true =>
    simp only [if_true]
    refine ev_eq (spec_RowOrd_l0 h l.length 0 [] [] (by omega) rfl (by simp) (by simp [zipB])) ?_
    simp [O.row, zipB]

-- part: law_FnExactRowOrd
theorem FnExactRowOrd : laws_FnExactRowOrd.Pure := by
  intro l0 _ hl _
  refine Ev.rounds ?_
  simp only [laws_FnExactRowOrd.f]
  by_cases hb : (l0.length : Int) > 1048576
  · simp only [if_pos hb]; exact Ev.now _
  · simp only [if_neg hb]
    have ht := toIntS_ev l0 (by omega)
    have hlen : (rowOrd l0).length ≤ 1048576 := by have := rowOrd_length l0; omega
    have heq : Ev (fun k => laws_eqIntS.f k (rowOrd l0) (rowOrd l0)) true := ev_eq (eqIntS_ev _ _ (by omega)) (by simp)
    have hheld := heldIntS_ev 1 (rowOrd l0).length (by omega)
    refine Ev.bind ht ?_
    refine Ev.bind (spec_RowOrd_ev l0 (by omega)) ?_
    refine Ev.bind ht ?_
    refine Ev.bind (impl_RowOrd_ev l0 (by omega)) ?_
    refine Ev.bind heq ?_
    simp only [if_true]
    refine Ev.bind ht ?_
    refine Ev.bind (eqIntS_ev l0 l0 (by omega)) ?_
    simp only [decide_true, if_true]
    refine Ev.bind (markIntS_ev l0 1 (by omega)) ?_
    simp only [if_neg (show ¬ (((1 + l0.length : Nat) : Int) < 0) by omega)]
    refine Ev.bind heq ?_
    refine ev_s ?_
    simp only [laws_FnExactRowOrd.j0, Bool.not_true, Bool.false_eq_true, if_false]
    refine Ev.bind (markIntS_ev (rowOrd l0) 1 (by omega)) ?_
    refine Ev.bind hheld ?_
    simp only [if_neg (show ¬ (((1 + (rowOrd l0).length : Nat) : Int) < 0) by omega), if_true]
    refine Ev.bind ht ?_
    refine Ev.bind (impl_RowOrd_ev l0 (by omega)) ?_
    refine Ev.bind heq ?_
    simp only [if_true]
    refine Ev.bind hheld ?_
    simp only [if_neg (show ¬ (((1 + (rowOrd l0).length : Nat) : Int) < 0) by omega), if_true]
    exact Ev.now _

end Go.Proofs.Ytpnmaimmmcgcoaa.Pure

/- The law FnExactHydraText returns true for every input that the statement lets in; no condition of our own. -/
import Derived.Test.YtondfcdpkpgiiaaMx3
namespace Go.Proofs.Ytondfcdpkpgiiaa.Pure
open Go.RowKit Go.Proofs.Ytondfcdpkpgiiaa.M Go.Proofs.YtondfcdpkpgiiaaW.PrintWords Go.Proofs.YtondfcdpkpgiiaaW.PrintLast
set_option linter.unusedVariables false
set_option linter.unusedSimpArgs false

-- part: base
/-! ### words of mine -/
theorem ev_s {α : Type} {g : Nat → Option α} {r : α} (h : Ev (fun k => g (k + 1)) r) : Ev g r := Ev.step (fun _ => rfl) h
theorem ev_eq {α : Type} {g : Nat → Option α} {r q : α} (h : Ev g r) (e : r = q) : Ev g q := e ▸ h
theorem ev_now {α : Type} {r q : α} (e : r = q) : Ev (fun _ => some r) q := e ▸ Ev.now r
theorem wrap_in {x : Int} (h0 : -9223372036854775808 ≤ x) (h1 : x ≤ 9223372036854775807) : wrap64 x = x := by unfold wrap64; omega
theorem rd_eq (xs : List Int) (i : Nat) : rd xs (i : Int) = xs.getD i 0 := by simp [rd]
theorem rd_get {xs : List Int} {i : Nat} (h : i < xs.length) : rd xs (i : Int) = xs[i] := by simp [rd, h]
theorem wrap_nat2 (a b : Nat) (h : a + b < 4611686018427387904) : wrap64 ((a : Int) + (b : Int)) = ((a + b : Nat) : Int) := by rw [wrap_in (by omega) (by omega)]; omega
theorem ev_const {α : Type} {x : Option α} {a : α} (h : x = some a) : Ev (fun _ => x) a := by subst h; exact Ev.now a

-- part: toIntS
theorem toIntS_l0 (l : List Int) (hl : l.length ≤ 35184372088832) : ∀ (d i : Nat) (x : List Int), i + d = l.length → x.length = l.length → x.take i = l.take i → Ev (fun k => laws_toIntS.l0 k l x i) l := by
  intro d
  induction d with
  | zero =>
    intro i x h hx ht
    refine ev_s ?_
    simp only [laws_toIntS.l0]
    rw [show i = l.length by omega] at ht ⊢
    simp only [if_neg (show ¬ ((l.length : Int) < (l.length : Int)) by omega)]
    rw [List.take_of_length_le (by omega), List.take_length] at ht
    rw [ht]; exact Ev.now _
  | succ d ih =>
    intro i x h hx ht
    refine ev_s ?_
    simp only [laws_toIntS.l0]
    simp only [if_pos (show (i : Int) < (l.length : Int) by omega), if_pos (show (0 : Int) ≤ (i : Int) by omega), if_pos (show (i : Int) < (x.length : Int) by omega), show wrap64 ((i : Int) + 1) = ((i + 1 : Nat) : Int) by rw [wrap_in (by omega) (by omega)]; rfl, Int.toNat_natCast]
    refine ih (i + 1) _ (by omega) (by simpa using hx) ?_
    rw [rd_get (show i < l.length by omega)]
    apply List.ext_getElem?
    intro j
    have := congrArg (fun z => z[j]?) ht
    simp only [List.getElem?_take] at this ⊢
    by_cases hj : j < i
    · rw [if_pos hj, if_pos hj] at this
      rw [if_pos (by omega), if_pos (by omega), List.getElem?_set_ne (by omega)]; exact this
    · by_cases hji : j = i
      · subst hji
        rw [if_pos (by omega), if_pos (by omega), List.getElem?_set_self (by omega), List.getElem?_eq_getElem (by omega)]
      · rw [if_neg (by omega), if_neg (by omega)]
theorem toIntS_ev (l : List Int) (hl : l.length ≤ 35184372088832) : Ev (fun k => laws_toIntS.f k l) l := by
  simp only [laws_toIntS.f, Int.toNat_natCast, if_pos (show (0 : Int) ≤ (l.length : Int) by omega), if_pos hl]
  exact toIntS_l0 l hl l.length 0 _ (by omega) (by simp) (by simp)

-- part: eqLoop
theorem eqIntS_l0 (F : Nat → List Int → List Int → Int → Option Bool)
    (h0 : ∀ k a b i, F (k + 1) a b i = if i < (a.length : Int) then (if 0 ≤ i then (if i < (b.length : Int) then (if (rd a i) = (rd b i) then (F k a b (wrap64 (i + 1))) else (some false)) else none) else none) else some true)
    (a b : List Int) (hl : a.length = b.length) (hb : a.length ≤ 140737488351232) : ∀ (d i : Nat), i + d = a.length → a.take i = b.take i → Ev (fun k => F k a b i) (decide (a = b)) := by
  intro d
  induction d with
  | zero =>
    intro i h ht
    refine ev_s ?_
    simp only [h0]
    simp only [if_neg (show ¬ ((i : Int) < (a.length : Int)) by omega)]
    rw [List.take_of_length_le (by omega), List.take_of_length_le (by omega)] at ht
    simp only [ht, decide_true]; exact Ev.now _
  | succ d ih =>
    intro i h ht
    refine ev_s ?_
    simp only [h0]
    simp only [if_pos (show (i : Int) < (a.length : Int) by omega), if_pos (show (0 : Int) ≤ (i : Int) by omega), if_pos (show (i : Int) < (b.length : Int) by omega), show wrap64 ((i : Int) + 1) = ((i + 1 : Nat) : Int) by rw [wrap_in (by omega) (by omega)]; rfl]
    rw [rd_get (show i < a.length by omega), rd_get (show i < b.length by omega)]
    by_cases he : a[i] = b[i]
    · simp only [if_pos he]
      refine ih (i + 1) (by omega) ?_
      rw [List.take_succ_eq_append_getElem (by omega), List.take_succ_eq_append_getElem (by omega), ht, he]
    · simp only [if_neg he]
      refine ev_now (Eq.symm (decide_eq_false (fun hab => he ?_)))
      subst hab; rfl

-- part: eqIntS
theorem eqIntS_ev (a b : List Int) (hb : a.length ≤ 140737488351232) : Ev (fun k => laws_eqIntS.f k a b) (decide (a = b)) := by
  simp only [laws_eqIntS.f]
  by_cases hl : a.length = b.length
  · simp only [if_pos (show (a.length : Int) = (b.length : Int) by omega)]
    exact eqIntS_l0 laws_eqIntS.l0 (fun _ _ _ _ => rfl) a b hl hb a.length 0 (by omega) (by simp)
  · simp only [if_neg (show ¬ ((a.length : Int) = (b.length : Int)) by omega)]
    exact ev_now (Eq.symm (decide_eq_false (fun hab => hl (by rw [hab]))))

-- part: l1In
theorem l1In_eq (n lo hi : Int) : spec_l1In.f n lo hi = some (decide (lo ≤ n ∧ n ≤ hi)) := by
  unfold spec_l1In.f
  by_cases h : n ≥ lo
  · rw [if_pos h]; simp [show lo ≤ n from h]
  · rw [if_neg h]; simp [show ¬ lo ≤ n from h]

-- part: H
/-! ### hydras -/
/-- A hydra: its branches. -/
inductive H where
  | nul : H
  | cons (b r : H) : H

-- part: hRow
/-! ### hydras as rows -/
def H.len : H → Nat
  | .nul => 0
  | .cons _ r => H.len r + 1
def H.body : H → List Int
  | .nul => []
  | .cons b r => (H.len b : Int) :: (H.body b ++ H.body r)
def H.row (h : H) : List Int := (h.len : Int) :: h.body
theorem H.body_cons (b r : H) : (H.cons b r).body = b.row ++ r.body := rfl
theorem H.row_length (h : H) : h.row.length = h.body.length + 1 := by simp [H.row]
theorem H.len_le : ∀ h : H, h.len ≤ h.body.length
  | .nul => Nat.le_refl _
  | .cons b r => by have := H.len_le r; simp only [H.len, H.body, List.length_cons, List.length_append]; omega
/-- So many trees can't be read at the beginning of a row. -/
inductive BadN : Nat → List Int → Prop where
  | nil (m : Nat) : BadN (m + 1) []
  | out (m : Nat) (x : Int) (r : List Int) (h : x < 0 ∨ 60 < x) : BadN (m + 1) (x :: r)
  | deep (m : Nat) (x : Int) (r : List Int) (h0 : 0 ≤ x) (h1 : x ≤ 60) (h : BadN x.toNat r) : BadN (m + 1) (x :: r)
  | next (m : Nat) (b : H) (t : List Int) (hb : b.row.length ≤ 60) (h : BadN m t) : BadN (m + 1) (b.row ++ t)
/-- Either so many trees can be read, or not. -/
theorem read_total : ∀ (n : Nat), n ≤ 60 → ∀ (m : Nat) (l : List Int), l.length ≤ n → (∃ s t, l = H.body s ++ t ∧ s.len = m) ∨ BadN m l
  | n, hn, 0, l, _ => .inl ⟨.nul, l, rfl, rfl⟩
  | n, hn, m + 1, [], _ => .inr (.nil m)
  | 0, hn, m + 1, x :: r, h => by simp at h
  | n + 1, hn, m + 1, x :: r, h => by
    simp only [List.length_cons, Nat.add_le_add_iff_right] at h
    by_cases hx : x < 0 ∨ 60 < x
    · exact .inr (.out m x r hx)
    · rcases read_total n (by omega) x.toNat r h with ⟨s, t, hs, hl⟩ | hb
      · have hxl : x = (s.len : Int) := by omega
        have he : x :: r = s.row ++ t := by rw [hs, hxl]; rfl
        have hlr : r.length = s.body.length + t.length := by rw [hs, List.length_append]
        have hlen : t.length ≤ n := by omega
        rcases read_total n (by omega) m t hlen with ⟨s2, t2, hs2, hl2⟩ | hb
        · refine .inl ⟨.cons s s2, t2, ?_, by rw [H.len, hl2]⟩
          rw [he, hs2, H.body_cons, List.append_assoc]
        · rw [he]
          exact .inr (.next m s t (by rw [H.row_length]; omega) hb)
      · exact .inr (.deep m x r (by omega) (by omega) hb)
theorem H.body_inj : ∀ (s s' : H) (t t' : List Int), s.len = s'.len → s.body ++ t = s'.body ++ t' → s = s' ∧ t = t'
  | .nul, .nul, t, t', _, h => ⟨rfl, h⟩
  | .nul, .cons .., _, _, h, _ => by simp [H.len] at h
  | .cons .., .nul, _, _, h, _ => by simp [H.len] at h
  | .cons b r, .cons b' r', t, t', hl, h => by
    simp only [H.len, Nat.add_right_cancel_iff] at hl
    simp only [H.body, List.cons_append, List.append_assoc, List.cons.injEq] at h
    obtain ⟨h1, h2⟩ := h
    obtain ⟨h3, h4⟩ := H.body_inj b b' _ _ (by omega) h2
    obtain ⟨h5, h6⟩ := H.body_inj r r' _ _ hl h4
    exact ⟨by rw [h3, h5], h6⟩
theorem H.row_inj {g h : H} (e : g.row = h.row) : g = h := by
  simp only [H.row, List.cons.injEq] at e
  exact (H.body_inj g h [] [] (by omega) (by rw [e.2])).1

-- part: hTake
/-! ### reading rows: the program's and the reference's -/
def H.terms : H → List S39
  | .nul => []
  | .cons b r => ⟨H.terms b⟩ :: H.terms r
theorem H.terms_len : ∀ h : H, h.terms.length = h.len
  | .nul => rfl
  | .cons b r => by rw [H.terms, H.len, List.length_cons, H.terms_len r]
theorem rd_T39_mid (pre suf : List S39) (x : S39) : rd_T39 (pre ++ x :: suf) ((pre.length : Nat) : Int) = x := by simp [rd_T39]
theorem rd_cons (x : Int) (l : List Int) : rd (x :: l) 0 = x := rfl
theorem takeHydra_in {x : Int} {r : List Int} (h0 : 0 ≤ x) (h1 : x ≤ 60) {q : (List S39) × List Int × Bool} (h : Ev (fun k => impl_takeHydra.l0 k r [] x 0) q) : Ev (fun k => impl_takeHydra.f k (x :: r)) q := by
  refine ev_s ?_
  have g1 : ¬ (((x :: r).length : Int) = 0) := by simp only [List.length_cons]; omega
  have g2 : (0 : Int) < ((x :: r).length : Int) := by simp only [List.length_cons]; omega
  have g3 : (1 : Int) ≤ ((x :: r).length : Int) := by simp only [List.length_cons]; omega
  have g4 : ¬ (rd (x :: r) 0 < 0) := by rw [rd_cons]; omega
  have g5 : ¬ (rd (x :: r) 0 > 60) := by rw [rd_cons]; omega
  simp only [impl_takeHydra.f, if_neg g1, if_pos g2, if_neg g4, decide_eq_false g5]
  refine ev_s ?_
  simp only [impl_takeHydra.j0, Bool.false_eq_true, if_false, if_pos g2, if_pos g3, List.drop_succ_cons, List.drop_zero]
  exact h
theorem takeHydra_out {l : List Int} (h : l = [] ∨ ∃ x r, l = x :: r ∧ (x < 0 ∨ 60 < x)) : Ev (fun k => impl_takeHydra.f k l) ([], [], false) := by
  have hj : Ev (fun k => impl_takeHydra.j0 k l true) ([], [], false) := by
    refine ev_s ?_
    simp only [impl_takeHydra.j0, if_true]
    exact Ev.now _
  refine ev_s ?_
  rcases h with rfl | ⟨x, r, rfl, hx⟩
  · simp only [impl_takeHydra.f, List.length_nil, if_pos (show ((0 : Nat) : Int) = 0 from rfl)]
    exact hj
  · have g1 : ¬ (((x :: r).length : Int) = 0) := by simp only [List.length_cons]; omega
    have g2 : (0 : Int) < ((x :: r).length : Int) := by simp only [List.length_cons]; omega
    by_cases h0 : rd (x :: r) 0 < 0
    · simp only [impl_takeHydra.f, if_neg g1, if_pos g2, if_pos h0]; exact hj
    · have g5 : rd (x :: r) 0 > 60 := by rw [rd_cons] at h0 ⊢; omega
      simp only [impl_takeHydra.f, if_neg g1, if_pos g2, if_neg h0, decide_eq_true g5]; exact hj
theorem takeHydra_l0 : ∀ (s : H) (pre : List S39) (t : List Int), pre.length + s.body.length ≤ 1000 → s.body.length ≤ 60 →
    Ev (fun k => impl_takeHydra.l0 k (s.body ++ t) pre ((pre.length + s.len : Nat) : Int) (pre.length : Int)) (pre ++ s.terms, t, true)
  | .nul, pre, t, _, _ => by
    refine ev_s ?_
    simp only [impl_takeHydra.l0, H.len, H.body, H.terms, Nat.add_zero, List.nil_append, List.append_nil, Int.lt_irrefl, if_false]
    exact Ev.now _
  | .cons b r, pre, t, hp, hs => by
    simp only [H.body, List.length_cons, List.length_append] at hp hs
    have hbl := H.len_le b
    have ihb := takeHydra_l0 b [] (r.body ++ t) (by simp; omega) (by omega)
    simp only [List.length_nil, Nat.zero_add, List.nil_append] at ihb
    have ihr := takeHydra_l0 r (pre ++ [⟨b.terms⟩]) t (by simp; omega) (by omega)
    have hbody : (H.cons b r).body ++ t = (b.len : Int) :: (b.body ++ (r.body ++ t)) := by simp [H.body]
    have hw : wrap64 ((pre.length : Int) + 1) = (((pre ++ [(⟨b.terms⟩ : S39)]).length : Nat) : Int) := by
      rw [List.length_append, List.length_singleton]; exact wrap_nat2 pre.length 1 (by omega)
    have hcnt : ((pre.length + (H.cons b r).len : Nat) : Int) = (((pre ++ [(⟨b.terms⟩ : S39)]).length + r.len : Nat) : Int) := by
      simp only [H.len, List.length_append, List.length_singleton]; omega
    have hres : pre ++ (H.cons b r).terms = pre ++ [(⟨b.terms⟩ : S39)] ++ r.terms := by simp [H.terms]
    rw [hbody, hres]
    refine ev_s ?_
    simp only [impl_takeHydra.l0, if_pos (show (pre.length : Int) < ((pre.length + (H.cons b r).len : Nat) : Int) by simp only [H.len]; omega)]
    refine Ev.bind (takeHydra_in (by omega) (by omega) ihb) ?_
    simp only [if_true, if_pos (show pre.length < 5864062014805 by omega), hw, hcnt]
    exact ihr
theorem takeHydra_row {s : H} (h : s.row.length ≤ 60) (t : List Int) : Ev (fun k => impl_takeHydra.f k (s.row ++ t)) (s.terms, t, true) := by
  rw [H.row_length] at h
  have := H.len_le s
  have h1 := takeHydra_l0 s [] t (by simp; omega) (by omega)
  simp only [List.length_nil, Nat.zero_add, List.nil_append] at h1
  exact takeHydra_in (by omega) (by omega) h1
theorem takeHydra_bad {m : Nat} {l : List Int} (h : BadN m l) : ∀ (pre : List S39), pre.length + m ≤ 1000 → Ev (fun k => impl_takeHydra.l0 k l pre ((pre.length + m : Nat) : Int) (pre.length : Int)) ([], [], false) := by
  have fall : ∀ (l : List Int) (m : Nat) (pre : List S39) {a : List S39} {t : List Int}, Ev (fun k => impl_takeHydra.f k l) (a, t, false) → Ev (fun k => impl_takeHydra.l0 k l pre ((pre.length + (m + 1) : Nat) : Int) (pre.length : Int)) ([], [], false) := by
    intro l m pre a t h
    refine ev_s ?_
    simp only [impl_takeHydra.l0, if_pos (show (pre.length : Int) < ((pre.length + (m + 1) : Nat) : Int) by omega)]
    refine Ev.bind h ?_
    simp only [Bool.false_eq_true, if_false]
    exact Ev.now _
  induction h with
  | nil m => intro pre _; exact fall _ m pre (takeHydra_out (.inl rfl))
  | out m x r h => intro pre _; exact fall _ m pre (takeHydra_out (.inr ⟨x, r, rfl, h⟩))
  | deep m x r h0 h1 h ih =>
    intro pre hp
    have := ih [] (by simp only [List.length_nil]; omega)
    simp only [List.length_nil, Nat.zero_add, Int.toNat_of_nonneg h0] at this
    exact fall _ m pre (takeHydra_in h0 h1 this)
  | next m b t hb h ih =>
    intro pre hp
    have hw : wrap64 ((pre.length : Int) + 1) = (((pre ++ [(⟨b.terms⟩ : S39)]).length : Nat) : Int) := by
      rw [List.length_append, List.length_singleton]; exact wrap_nat2 pre.length 1 (by omega)
    have hcnt : ((pre.length + (m + 1) : Nat) : Int) = (((pre ++ [(⟨b.terms⟩ : S39)]).length + m : Nat) : Int) := by
      simp only [List.length_append, List.length_singleton]; omega
    refine ev_s ?_
    simp only [impl_takeHydra.l0, if_pos (show (pre.length : Int) < ((pre.length + (m + 1) : Nat) : Int) by omega)]
    refine Ev.bind (takeHydra_row hb t) ?_
    simp only [if_true, if_pos (show pre.length < 5864062014805 by omega), hw, hcnt]
    exact ih (pre ++ [⟨b.terms⟩]) (by simp only [List.length_append, List.length_singleton]; omega)
/-! the reference -/
theorem l5End_in {l : List Int} {p : Nat} (hp : p < l.length) (hb : l.length ≤ 1000000) (h0 : 0 ≤ l[p]) (h1 : l[p] ≤ 60) {q : Int} (h : Ev (fun k => spec_l5End.l0 k l ((p + 1 : Nat) : Int) l[p] 0) q) : Ev (fun k => spec_l5End.f k l (p : Int)) q := by
  refine ev_s ?_
  simp only [spec_l5End.f, if_neg (show ¬ ((p : Int) ≥ (l.length : Int)) by omega), if_pos (show (0 : Int) ≤ (p : Int) by omega), if_pos (show (p : Int) < (l.length : Int) by omega), l1In_eq, Option.bind_some, rd_get hp, decide_eq_true (show 0 ≤ l[p] ∧ l[p] ≤ 60 from ⟨h0, h1⟩)]
  refine ev_s ?_
  simp only [spec_l5End.j0, Bool.not_true, Bool.false_eq_true, if_false, if_pos (show (0 : Int) ≤ (p : Int) by omega), if_pos (show (p : Int) < (l.length : Int) by omega), rd_get hp, show wrap64 ((p : Int) + 1) = ((p + 1 : Nat) : Int) from wrap_nat2 p 1 (by omega)]
  exact h
theorem l5End_out {l : List Int} {p : Nat} (h : l.length ≤ p ∨ ∃ hp : p < l.length, l[p] < 0 ∨ 60 < l[p]) : Ev (fun k => spec_l5End.f k l (p : Int)) (-1) := by
  have hj : Ev (fun k => spec_l5End.j0 k l (p : Int) true) (-1) := by
    refine ev_s ?_
    simp only [spec_l5End.j0, if_true]
    exact Ev.now _
  refine ev_s ?_
  rcases h with h | ⟨hp, hx⟩
  · simp only [spec_l5End.f, if_pos (show ((p : Int) ≥ (l.length : Int)) by omega)]
    exact hj
  · simp only [spec_l5End.f, if_neg (show ¬ ((p : Int) ≥ (l.length : Int)) by omega), if_pos (show (0 : Int) ≤ (p : Int) by omega), if_pos (show (p : Int) < (l.length : Int) by omega), l1In_eq, Option.bind_some, rd_get hp, decide_eq_false (show ¬ (0 ≤ l[p] ∧ l[p] ≤ 60) by omega), Bool.not_false]
    exact hj
theorem l5End_l0 : ∀ (s : H) (pre t l : List Int) (i : Nat), l = pre ++ s.body ++ t → l.length ≤ 1000000 → s.body.length ≤ 60 → i + s.body.length ≤ 1000 →
    Ev (fun k => spec_l5End.l0 k l (pre.length : Int) ((i + s.len : Nat) : Int) (i : Int)) ((pre.length + s.body.length : Nat) : Int)
  | .nul, pre, t, l, i, _, _, _, _ => by
    refine ev_s ?_
    simp only [spec_l5End.l0, H.len, H.body, Nat.add_zero, Int.lt_irrefl, if_false, List.length_nil]
    exact Ev.now _
  | .cons b r, pre, t, l, i, hl, hb, hs, hi => by
    simp only [H.body, List.length_cons, List.length_append] at hs hi
    have hbl := H.len_le b
    have hlen : l.length = pre.length + (b.body.length + r.body.length + 1) + t.length := by rw [hl]; simp only [H.body, List.length_append, List.length_cons]
    have hp : pre.length < l.length := by omega
    have hx : l[pre.length] = (b.len : Int) := by
      subst hl
      simp [H.body]
    have ihb := l5End_l0 b (pre ++ [(b.len : Int)]) (r.body ++ t) l 0 (by rw [hl]; simp [H.body]) hb (by omega) (by omega)
    have ihr := l5End_l0 r (pre ++ b.row) t l (i + 1) (by rw [hl]; simp [H.body, H.row]) hb (by omega) (by omega)
    simp only [List.length_append, List.length_singleton, Nat.zero_add] at ihb
    simp only [List.length_append, H.row_length] at ihr
    have hE : Ev (fun k => spec_l5End.f k l (pre.length : Int)) ((pre.length + (b.body.length + 1) : Nat) : Int) := by
      refine l5End_in hp hb (by rw [hx]; omega) (by rw [hx]; omega) ?_
      rw [hx]
      exact ev_eq ihb (by omega)
    refine ev_s ?_
    simp only [spec_l5End.l0, if_pos (show (i : Int) < ((i + (H.cons b r).len : Nat) : Int) by simp only [H.len]; omega), if_pos (show (pre.length : Int) ≥ 0 by omega), show wrap64 ((i : Int) + 1) = ((i + 1 : Nat) : Int) from wrap_nat2 i 1 (by omega)]
    refine Ev.bind hE ?_
    have e1 : ((i + (H.cons b r).len : Nat) : Int) = ((i + 1 + r.len : Nat) : Int) := by simp only [H.len]; omega
    rw [e1]
    exact ev_eq ihr (by simp only [H.body, List.length_cons, List.length_append]; omega)
theorem l5End_row {s : H} (pre t : List Int) (hb : (pre ++ s.row ++ t).length ≤ 1000000) (hs : s.row.length ≤ 60) : Ev (fun k => spec_l5End.f k (pre ++ s.row ++ t) (pre.length : Int)) ((pre.length + s.row.length : Nat) : Int) := by
  rw [H.row_length] at hs
  have hbl := H.len_le s
  have hp : pre.length < (pre ++ s.row ++ t).length := by simp only [H.row, List.length_append, List.length_cons]; omega
  have hx : (pre ++ s.row ++ t)[pre.length] = (s.len : Int) := by simp [H.row]
  have h2 := l5End_l0 s (pre ++ [(s.len : Int)]) t (pre ++ s.row ++ t) 0 (by simp [H.row]) hb (by omega) (by omega)
  simp only [List.length_append, List.length_singleton, Nat.zero_add] at h2
  refine l5End_in hp hb (by rw [hx]; omega) (by rw [hx]; omega) ?_
  rw [hx]
  exact ev_eq h2 (by rw [H.row_length]; omega)
theorem l5End_bad {m : Nat} {l : List Int} (h : BadN m l) : ∀ (pre : List Int) (i : Nat), (pre ++ l).length ≤ 1000000 → i + m ≤ 1000000 → Ev (fun k => spec_l5End.l0 k (pre ++ l) (pre.length : Int) ((i + m : Nat) : Int) (i : Int)) (-1) := by
  have fall : ∀ (l : List Int) (m i p : Nat), i + (m + 1) ≤ 1000000 → Ev (fun k => spec_l5End.f k l (p : Int)) (-1) → Ev (fun k => spec_l5End.l0 k l (p : Int) ((i + (m + 1) : Nat) : Int) (i : Int)) (-1) := by
    intro l m i p him h
    refine ev_s ?_
    simp only [spec_l5End.l0, if_pos (show (i : Int) < ((i + (m + 1) : Nat) : Int) by omega), if_pos (show (p : Int) ≥ 0 by omega), show wrap64 ((i : Int) + 1) = ((i + 1 : Nat) : Int) from wrap_nat2 i 1 (by omega)]
    refine Ev.bind h ?_
    refine ev_s ?_
    by_cases hm : ((i + 1 : Nat) : Int) < ((i + (m + 1) : Nat) : Int)
    · simp only [spec_l5End.l0, if_pos hm, if_neg (show ¬ ((-1 : Int) ≥ 0) by decide)]; exact Ev.now _
    · simp only [spec_l5End.l0, if_neg hm]; exact Ev.now _
  induction h with
  | nil m => intro pre i hl him; exact fall _ m i _ him (l5End_out (.inl (by simp)))
  | out m x r h => intro pre i hl him; exact fall _ m i _ him (l5End_out (.inr ⟨by simp, by simpa using h⟩))
  | deep m x r h0 h1 h ih =>
    intro pre i hl him
    have := ih (pre ++ [x]) 0 (by simpa using hl) (by omega)
    simp only [List.append_assoc, List.singleton_append, List.length_append, List.length_singleton, Nat.zero_add, Int.toNat_of_nonneg h0] at this
    have hx : (pre ++ x :: r)[pre.length]'(by simp) = x := by simp
    refine fall _ m i _ him (l5End_in (by simp) hl (by rw [hx]; exact h0) (by rw [hx]; exact h1) ?_)
    rw [hx]
    exact this
  | next m b t hb h ih =>
    intro pre i hl him
    have := ih (pre ++ b.row) (i + 1) (by simpa using hl) (by omega)
    have hr := l5End_row (s := b) pre t (by simpa using hl) hb
    rw [List.append_assoc] at hr this
    refine ev_s ?_
    simp only [spec_l5End.l0, if_pos (show (i : Int) < ((i + (m + 1) : Nat) : Int) by omega), if_pos (show (pre.length : Int) ≥ 0 by omega), show wrap64 ((i : Int) + 1) = ((i + 1 : Nat) : Int) from wrap_nat2 i 1 (by omega)]
    refine Ev.bind hr ?_
    rw [show i + (m + 1) = i + 1 + m by omega, ← List.length_append]
    exact this
/-! a row is a hydra's, or not -/
theorem hydra_cases (l : List Int) : (∃ h : H, l = h.row ∧ l.length ≤ 60) ∨ (60 < l.length ∨ l = [] ∨ BadN 1 l ∨ ∃ (h : H) (x : Int) (t : List Int), l = h.row ++ x :: t) := by
  by_cases h60 : l.length ≤ 60
  · rcases read_total 60 (Nat.le_refl _) 1 l h60 with ⟨s, t, hs, hl⟩ | hb
    · rcases s with _ | ⟨b, r⟩
      · simp [H.len] at hl
      · rcases r with _ | ⟨b2, r2⟩
        · have e : l = b.row ++ t := by rw [hs, H.body_cons]; simp [H.body]
          rcases t with _ | ⟨x, t⟩
          · exact .inl ⟨b, by rw [e, List.append_nil], h60⟩
          · exact .inr (.inr (.inr (.inr ⟨b, x, t, e⟩)))
        · simp [H.len] at hl
    · exact .inr (.inr (.inr (.inl hb)))
  · exact .inr (.inl (by omega))
theorem impl_hydraOf_good {h : H} (hl : h.row.length ≤ 60) : Ev (fun k => impl_hydraOf.f k h.row) (h.terms, true) := by
  have hr := H.row_length h
  have := takeHydra_row hl []
  rw [List.append_nil] at this
  simp only [impl_hydraOf.f, if_neg (show ¬ ((h.row.length : Int) < 1) by omega), if_neg (show ¬ ((h.row.length : Int) > 60) by omega)]
  refine Ev.bind this ?_
  simp only [if_true]
  exact ev_now (by simp)
theorem spec_HydraValid_good {h : H} (hl : h.row.length ≤ 60) : Ev (fun k => spec_HydraValid.f k h.row) true := by
  have hr := H.row_length h
  have := l5End_row (s := h) [] [] (by simp; omega) hl
  simp only [List.nil_append, List.append_nil, List.length_nil, Nat.zero_add] at this
  simp only [spec_HydraValid.f, l1In_eq, Option.bind_some, decide_eq_true (show 1 ≤ (h.row.length : Int) ∧ (h.row.length : Int) ≤ 60 by omega), if_true]
  refine Ev.bind this ?_
  exact ev_now (by simp)
def NoHydra (l : List Int) : Prop := 60 < l.length ∨ l = [] ∨ BadN 1 l ∨ ∃ (h : H) (x : Int) (t : List Int), l = h.row ++ x :: t
theorem impl_hydraOf_bad {l : List Int} (h : NoHydra l) : ∃ a, Ev (fun k => impl_hydraOf.f k l) (a, false) := by
  by_cases h0 : l = []
  · subst h0
    refine ⟨[], ?_⟩
    simp only [impl_hydraOf.f, List.length_nil, if_pos (show ((0 : Nat) : Int) < 1 by decide)]
    exact Ev.now _
  · have hpos : 0 < l.length := List.length_pos_iff.mpr h0
    by_cases h60 : 60 < l.length
    · refine ⟨[], ?_⟩
      simp only [impl_hydraOf.f, if_neg (show ¬ ((l.length : Int) < 1) by omega), if_pos (show (l.length : Int) > 60 by omega)]
      exact Ev.now _
    · simp only [impl_hydraOf.f, if_neg (show ¬ ((l.length : Int) < 1) by omega), if_neg (show ¬ ((l.length : Int) > 60) by omega)]
      rcases h with h | h | h | ⟨g, x, t, rfl⟩
      · omega
      · exact absurd h h0
      · have hf : ∃ a t, Ev (fun k => impl_takeHydra.f k l) (a, t, false) := by
          cases h with
          | nil => exact absurd rfl h0
          | out m x r h => exact ⟨_, _, takeHydra_out (.inr ⟨x, r, rfl, h⟩)⟩
          | deep m x r hx0 hx1 h =>
            have := takeHydra_bad h [] (by simp only [List.length_nil]; omega)
            simp only [List.length_nil, Nat.zero_add, Int.toNat_of_nonneg hx0] at this
            exact ⟨_, _, takeHydra_in hx0 hx1 this⟩
          | next m b t hb h => cases h
        obtain ⟨a, t, hf⟩ := hf
        refine ⟨a, Ev.bind hf ?_⟩
        simp only [Bool.false_eq_true, if_false]
        exact Ev.now _
      · simp only [List.length_append, List.length_cons] at h60
        refine ⟨g.terms, Ev.bind (takeHydra_row (by omega) (x :: t)) ?_⟩
        simp only [if_true]
        exact ev_now (by simp; omega)
theorem spec_HydraValid_bad {l : List Int} (h : NoHydra l) : Ev (fun k => spec_HydraValid.f k l) false := by
  by_cases h1 : 1 ≤ (l.length : Int) ∧ (l.length : Int) ≤ 60
  · simp only [spec_HydraValid.f, l1In_eq, Option.bind_some, decide_eq_true h1, if_true]
    have hend : ∃ e : Int, e ≠ (l.length : Int) ∧ Ev (fun k => spec_l5End.f k l ((0 : Nat) : Int)) e := by
      rcases h with h | h | h | ⟨g, x, t, rfl⟩
      · omega
      · subst h; simp at h1
      · refine ⟨-1, by omega, ?_⟩
        cases h with
        | nil => simp at h1
        | out m x r h => exact l5End_out (.inr ⟨by simp, by simpa using h⟩)
        | deep m x r h0 h2 h =>
          have := l5End_bad h [x] 0 (by simp only [List.singleton_append]; omega) (by omega)
          simp only [List.singleton_append, List.length_singleton, Nat.zero_add, Int.toNat_of_nonneg h0] at this
          exact l5End_in (by simp) (by omega) (by simpa using h0) (by simpa using h2) this
        | next m b t hb h => cases h
      · simp only [List.length_append, List.length_cons] at h1
        have := l5End_row (s := g) [] (x :: t) (by simp; omega) (by omega)
        simp only [List.nil_append, List.length_nil, Nat.zero_add] at this
        exact ⟨_, by simp only [List.length_append, List.length_cons]; omega, this⟩
    obtain ⟨e, he, hE⟩ := hend
    refine Ev.bind hE ?_
    exact ev_now (by simpa using he)
  · simp only [spec_HydraValid.f, l1In_eq, Option.bind_some, decide_eq_false h1, Bool.false_eq_true, if_false]
    exact Ev.now _
theorem hydra_or (l : List Int) : (∃ h : H, l = h.row ∧ h.row.length ≤ 60) ∨ NoHydra l := by
  rcases hydra_cases l with ⟨h, e, hl⟩ | h
  · exact .inl ⟨h, e, e ▸ hl⟩
  · exact .inr h

-- part: l5Branches
def H.rows : H → List (List Int)
  | .nul => []
  | .cons b r => b.row :: H.rows r
theorem H.rows_len : ∀ h : H, h.rows.length = h.len
  | .nul => rfl
  | .cons b r => by rw [H.rows, H.len, List.length_cons, H.rows_len r]
theorem H.rows_flat : ∀ h : H, h.rows.flatten = h.body
  | .nul => rfl
  | .cons b r => by rw [H.rows, List.flatten_cons, H.rows_flat r, H.body_cons]
theorem rd_L1_mid (pre suf : List (List Int)) (x : List Int) : rd_L1 (pre ++ x :: suf) ((pre.length : Nat) : Int) = x := by simp [rd_L1]
theorem l5Branches_l0 : ∀ (s : H) (pre : List Int) (out : List (List Int)), (pre ++ s.body).length ≤ 1000000 → s.body.length ≤ 60 → out.length + s.len ≤ 1000000 → Ev (fun k => spec_l5Branches.l0 k (pre ++ s.body) out (pre.length : Int)) (out ++ s.rows)
  | .nul, pre, out, _, _, _ => by
    refine ev_s ?_
    simp only [spec_l5Branches.l0, H.body, H.rows, List.append_nil, Int.lt_irrefl, if_false]
    exact Ev.now _
  | .cons b r, pre, out, hb, hs, ho => by
    have hE := l5End_row (s := b) pre r.body (by rw [H.body_cons] at hb; rw [List.append_assoc]; exact hb) (by rw [H.body_cons, List.length_append] at hs; omega)
    have ihr := l5Branches_l0 r (pre ++ b.row) (out ++ [b.row]) (by rw [H.body_cons] at hb; rw [List.append_assoc]; exact hb) (by rw [H.body_cons, List.length_append] at hs; omega) (by simp only [H.len] at ho; simp only [List.length_append, List.length_singleton]; omega)
    have hrl := H.row_length b
    have he : pre ++ (H.cons b r).body = pre ++ b.row ++ r.body := by rw [H.body_cons, List.append_assoc]
    have hcut : ((pre ++ b.row ++ r.body).take (pre.length + b.row.length)).drop pre.length = b.row := by
      rw [show pre.length + b.row.length = (pre ++ b.row).length by rw [List.length_append], List.take_left', List.drop_left']
      · rfl
      · rfl
    have hres : out ++ (H.cons b r).rows = out ++ [b.row] ++ r.rows := by simp [H.rows]
    rw [he] at hb ⊢
    rw [hres]
    have hlen : (pre ++ b.row ++ r.body).length = pre.length + b.row.length + r.body.length := by simp only [List.length_append]
    refine ev_s ?_
    simp only [spec_l5Branches.l0, if_pos (show (pre.length : Int) < ((pre ++ b.row ++ r.body).length : Int) by omega)]
    refine Ev.bind hE ?_
    simp only [if_pos (show (0 : Int) ≤ (pre.length : Int) by omega), if_pos (show (pre.length : Int) ≤ ((pre.length + b.row.length : Nat) : Int) by omega), if_pos (show ((pre.length + b.row.length : Nat) : Int) ≤ ((pre ++ b.row ++ r.body).length : Int) by omega), if_pos (show out.length < 5864062014805 by omega), Int.toNat_natCast, hcut]
    rw [← List.length_append]
    exact ihr
theorem l5Branches_ev {h : H} (hl : h.row.length ≤ 60) : Ev (fun k => spec_l5Branches.f k h.row) h.rows := by
  have hr := H.row_length h
  have hle := H.len_le h
  have := l5Branches_l0 h [(h.len : Int)] [] (by simp; omega) (by omega) (by simp; omega)
  simp only [spec_l5Branches.f]
  exact this

-- part: hText
/-- The texts of a hydra's branches, behind what there is. -/
def H.texts : H → ByteArray → ByteArray
  | .nul, a => a
  | .cons b r, a => H.texts r (a ++ (H.texts b (⟨#[40]⟩ : ByteArray) ++ (⟨#[41]⟩ : ByteArray)))
def H.text (h : H) : ByteArray := H.texts h (⟨#[40]⟩ : ByteArray) ++ (⟨#[41]⟩ : ByteArray)
theorem one_size (x : UInt8) : (⟨#[x]⟩ : ByteArray).size = 1 := rfl
theorem H.texts_size : ∀ (h : H) (a : ByteArray), (H.texts h a).size = a.size + 2 * h.body.length
  | .nul, a => by simp [H.texts, H.body]
  | .cons b r, a => by
    rw [H.texts, H.texts_size r, ByteArray.size_append, ByteArray.size_append, H.texts_size b, one_size, one_size]
    simp only [H.body, List.length_cons, List.length_append]; omega
theorem H.text_size (h : H) : h.text.size = 2 * h.row.length := by
  rw [H.text, ByteArray.size_append, H.texts_size, one_size, one_size, H.row_length]; omega
theorem text_l0 : ∀ (s : H) (pre : List S39) (a : ByteArray), pre.length + s.body.length ≤ 1000 → a.size + 2 * s.body.length ≤ 100000 → Ev (fun k => impl_hydra_text.l0 k a (pre ++ s.terms) (((pre ++ s.terms).length : Nat) : Int) (pre.length : Int)) (s.texts a ++ (⟨#[41]⟩ : ByteArray))
  | .nul, pre, a, _, ha => by
    refine ev_s ?_
    simp only [impl_hydra_text.l0, H.terms, List.append_nil, Int.lt_irrefl, if_false, if_pos (show a.size + 1 ≤ 9223372036854775807 by omega)]
    exact Ev.now _
  | .cons b r, pre, a, hp, ha => by
    simp only [H.body, List.length_cons, List.length_append] at hp ha
    have hts := H.text_size b
    have hrl := H.row_length b
    have hE : Ev (fun k => impl_hydra_text.f k b.terms) b.text := by
      refine ev_s ?_
      simp only [impl_hydra_text.f]
      have := text_l0 b [] (⟨#[40]⟩ : ByteArray) (by simp; omega) (by rw [one_size]; omega)
      rw [List.nil_append] at this
      exact this
    have hlen : (pre ++ (H.cons b r).terms).length = pre.length + (r.terms.length + 1) := by simp [H.terms]
    have hmid : rd_T39 (pre ++ (H.cons b r).terms) (pre.length : Int) = ⟨b.terms⟩ := rd_T39_mid pre r.terms ⟨b.terms⟩
    have happ : pre ++ (H.cons b r).terms = (pre ++ [⟨b.terms⟩]) ++ r.terms := by simp [H.terms]
    have ew : wrap64 ((pre.length : Int) + 1) = (((pre ++ [(⟨b.terms⟩ : S39)]).length : Nat) : Int) := by
      rw [List.length_append, List.length_singleton]; exact wrap_nat2 pre.length 1 (by omega)
    have g1 : (pre.length : Int) < (((pre ++ (H.cons b r).terms).length : Nat) : Int) := by omega
    refine ev_s ?_
    simp only [impl_hydra_text.l0, if_pos g1, if_pos (show (0 : Int) ≤ (pre.length : Int) from Int.natCast_nonneg _), hmid]
    refine Ev.bind hE ?_
    simp only [if_pos (show a.size + b.text.size ≤ 9223372036854775807 by omega), ew]
    rw [happ]
    exact text_l0 r (pre ++ [⟨b.terms⟩]) (a ++ b.text) (by simp only [List.length_append, List.length_singleton]; omega) (by rw [ByteArray.size_append]; omega)
theorem text_ev {h : H} (hl : h.row.length ≤ 60) : Ev (fun k => impl_hydra_text.f k h.terms) h.text := by
  rw [H.row_length] at hl
  refine ev_s ?_
  simp only [impl_hydra_text.f]
  have := text_l0 h [] (⟨#[40]⟩ : ByteArray) (by simp; omega) (by rw [one_size]; omega)
  rw [List.nil_append] at this
  exact this
theorem l5Text_l0 : ∀ (s : H) (pre : List (List Int)) (a : ByteArray), pre.length + s.body.length ≤ 1000 → s.body.length ≤ 60 → a.size + 2 * s.body.length ≤ 100000 → Ev (fun k => spec_l5Text.l0 k a (pre ++ s.rows) (pre.length : Int)) (s.texts a ++ (⟨#[41]⟩ : ByteArray))
  | .nul, pre, a, _, _, ha => by
    refine ev_s ?_
    simp only [spec_l5Text.l0, H.rows, List.append_nil, Int.lt_irrefl, if_false, if_pos (show a.size + 1 ≤ 9223372036854775807 by omega)]
    exact Ev.now _
  | .cons b r, pre, a, hp, hs, ha => by
    simp only [H.body, List.length_cons, List.length_append] at hp ha hs
    have hts := H.text_size b
    have hrl := H.row_length b
    have hE : Ev (fun k => spec_l5Text.f k b.row) b.text := by
      refine ev_s ?_
      simp only [spec_l5Text.f]
      refine Ev.bind (l5Branches_ev (by omega)) ?_
      have := l5Text_l0 b [] (⟨#[40]⟩ : ByteArray) (by simp; omega) (by omega) (by rw [one_size]; omega)
      rw [List.nil_append] at this
      exact this
    have hlen : (pre ++ (H.cons b r).rows).length = pre.length + (r.rows.length + 1) := by simp [H.rows]
    have hmid : rd_L1 (pre ++ (H.cons b r).rows) (pre.length : Int) = b.row := rd_L1_mid pre r.rows b.row
    have happ : pre ++ (H.cons b r).rows = (pre ++ [b.row]) ++ r.rows := by simp [H.rows]
    have ew : wrap64 ((pre.length : Int) + 1) = (((pre ++ [b.row]).length : Nat) : Int) := by
      rw [List.length_append, List.length_singleton]; exact wrap_nat2 pre.length 1 (by omega)
    have g1 : (pre.length : Int) < (((pre ++ (H.cons b r).rows).length : Nat) : Int) := by omega
    refine ev_s ?_
    simp only [spec_l5Text.l0, if_pos g1, if_pos (show (0 : Int) ≤ (pre.length : Int) from Int.natCast_nonneg _), hmid]
    refine Ev.bind hE ?_
    simp only [if_pos (show a.size + b.text.size ≤ 9223372036854775807 by omega), ew]
    rw [happ]
    exact l5Text_l0 r (pre ++ [b.row]) (a ++ b.text) (by simp only [List.length_append, List.length_singleton]; omega) (by omega) (by rw [ByteArray.size_append]; omega)
theorem l5Text_ev {h : H} (hl : h.row.length ≤ 60) : Ev (fun k => spec_l5Text.f k h.row) h.text := by
  have hr := H.row_length h
  refine ev_s ?_
  simp only [spec_l5Text.f]
  refine Ev.bind (l5Branches_ev hl) ?_
  have := l5Text_l0 h [] (⟨#[40]⟩ : ByteArray) (by simp; omega) (by omega) (by rw [one_size]; omega)
  rw [List.nil_append] at this
  exact this
theorem impl_HydraText_good {h : H} (hl : h.row.length ≤ 60) : Ev (fun k => impl_HydraText.f k h.row) h.text := by
  simp only [impl_HydraText.f]
  refine Ev.bind (impl_hydraOf_good hl) ?_
  simp only [if_true]
  exact Ev.bind (text_ev hl) (Ev.now _)
theorem impl_HydraText_bad {l : List Int} (h : NoHydra l) : Ev (fun k => impl_HydraText.f k l) (⟨#[]⟩ : ByteArray) := by
  obtain ⟨a, ha⟩ := impl_hydraOf_bad h
  simp only [impl_HydraText.f]
  refine Ev.bind ha ?_
  simp only [Bool.false_eq_true, if_false]
  exact Ev.now _
theorem spec_HydraText_good {h : H} (hl : h.row.length ≤ 60) : Ev (fun k => spec_HydraText.f k h.row) h.text := by
  simp only [spec_HydraText.f]
  refine Ev.bind (spec_HydraValid_good hl) ?_
  simp only [if_true]
  exact Ev.bind (l5Text_ev hl) (Ev.now _)
theorem spec_HydraText_bad {l : List Int} (h : NoHydra l) : Ev (fun k => spec_HydraText.f k l) (⟨#[]⟩ : ByteArray) := by
  simp only [spec_HydraText.f]
  refine Ev.bind (spec_HydraValid_bad h) ?_
  simp only [Bool.false_eq_true, if_false]
  exact Ev.now _

-- part: law_FnExactHydraText
theorem FnExactHydraText : laws_FnExactHydraText.Pure := by
  intro l0 _ hl _
  refine Ev.rounds ?_
  simp only [laws_FnExactHydraText.f]
  by_cases hb : (l0.length : Int) > 1048576
  · simp only [if_pos hb]; exact Ev.now _
  · simp only [if_neg hb]
    have ht := toIntS_ev l0 (by omega)
    have hv : ∃ b, Ev (fun k => spec_HydraText.f k l0) b ∧ Ev (fun k => impl_HydraText.f k l0) b := by
      rcases hydra_or l0 with ⟨h, rfl, hh⟩ | h
      · exact ⟨_, spec_HydraText_good hh, impl_HydraText_good hh⟩
      · exact ⟨_, spec_HydraText_bad h, impl_HydraText_bad h⟩
    obtain ⟨b, hs, hi⟩ := hv
    refine Ev.bind ht ?_
    refine Ev.bind hs ?_
    refine Ev.bind ht ?_
    refine Ev.bind hi ?_
    simp only [if_true]
    refine Ev.bind ht ?_
    refine Ev.bind (eqIntS_ev l0 l0 (by omega)) ?_
    simp only [decide_true, if_true]
    exact Ev.now _

end Go.Proofs.Ytondfcdpkpgiiaa.Pure

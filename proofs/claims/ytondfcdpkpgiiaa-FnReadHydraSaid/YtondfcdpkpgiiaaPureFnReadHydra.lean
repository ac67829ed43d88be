/- The law FnReadHydra returns true for every input that the statement lets in; no condition of our own. -/
import Derived.Test.YtondfcdpkpgiiaaDx7
namespace Go.Proofs.Ytondfcdpkpgiiaa.Pure
open Go.RowKit Go.Proofs.Ytondfcdpkpgiiaa.D Go.Proofs.YtondfcdpkpgiiaaW.PrintWords Go.Proofs.YtondfcdpkpgiiaaW.PrintLast
set_option linter.unusedVariables false
set_option linter.unusedSimpArgs false

-- part: base
/-! ### words of mine -/
theorem ev_s {α : Type} {g : Nat → Option α} {r : α} (h : Ev (fun k => g (k + 1)) r) : Ev g r := Ev.step (fun _ => rfl) h
theorem ev_eq {α : Type} {g : Nat → Option α} {r q : α} (h : Ev g r) (e : r = q) : Ev g q := e ▸ h
theorem ev_now {α : Type} {r q : α} (e : r = q) : Ev (fun _ => some r) q := e ▸ Ev.now r
theorem wrap_in {x : Int} (h0 : -9223372036854775808 ≤ x) (h1 : x ≤ 9223372036854775807) : wrap64 x = x := by unfold wrap64; omega
theorem rd_eq (xs : List Int) (i : Nat) : rd xs (i : Int) = xs.getD i 0 := by simp [rd]
theorem rd_get {xs : List Int} {i : Nat} (h : i < xs.length) : rd xs (i : Int) = xs[i] := by simp [rd, h]
theorem wrap_nat2 (a b : Nat) (h : a + b < 4611686018427387904) : wrap64 ((a : Int) + (b : Int)) = ((a + b : Nat) : Int) := by rw [wrap_in (by omega) (by omega)]; omega
theorem ev_const {α : Type} {x : Option α} {a : α} (h : x = some a) : Ev (fun _ => x) a := by subst h; exact Ev.now a

-- part: eqLoop
theorem eqIntS_l0 (F : Nat → List Int → List Int → Int → Option Bool)
    (h0 : ∀ k a b i, F (k + 1) a b i = if i < (a.length : Int) then (if 0 ≤ i then (if i < (b.length : Int) then (if (rd a i) = (rd b i) then (F k a b (wrap64 (i + 1))) else (some false)) else none) else none) else some true)
    (a b : List Int) (hl : a.length = b.length) (hb : a.length ≤ 140737488351232) : ∀ (d i : Nat), i + d = a.length → a.take i = b.take i → Ev (fun k => F k a b i) (decide (a = b)) := by
  intro d
  induction d with
  | zero =>
    intro i h ht
    refine ev_s ?_
    simp only [h0]
    simp only [if_neg (show ¬ ((i : Int) < (a.length : Int)) by omega)]
    rw [List.take_of_length_le (by omega), List.take_of_length_le (by omega)] at ht
    simp only [ht, decide_true]; exact Ev.now _
  | succ d ih =>
    intro i h ht
    refine ev_s ?_
    simp only [h0]
    simp only [if_pos (show (i : Int) < (a.length : Int) by omega), if_pos (show (0 : Int) ≤ (i : Int) by omega), if_pos (show (i : Int) < (b.length : Int) by omega), show wrap64 ((i : Int) + 1) = ((i + 1 : Nat) : Int) by rw [wrap_in (by omega) (by omega)]; rfl]
    rw [rd_get (show i < a.length by omega), rd_get (show i < b.length by omega)]
    by_cases he : a[i] = b[i]
    · simp only [if_pos he]
      refine ih (i + 1) (by omega) ?_
      rw [List.take_succ_eq_append_getElem (by omega), List.take_succ_eq_append_getElem (by omega), ht, he]
    · simp only [if_neg he]
      refine ev_now (Eq.symm (decide_eq_false (fun hab => he ?_)))
      subst hab; rfl

-- part: sameInts
theorem sameInts_ev (a b : List Int) (hb : a.length ≤ 140737488351232) : Ev (fun k => laws_sameInts.f k a b) (decide (a = b)) := by
  simp only [laws_sameInts.f]
  by_cases hl : a.length = b.length
  · simp only [if_pos (show (a.length : Int) = (b.length : Int) by omega)]
    exact eqIntS_l0 laws_sameInts.l0 (fun _ _ _ _ => rfl) a b hl hb a.length 0 (by omega) (by simp)
  · simp only [if_neg (show ¬ ((a.length : Int) = (b.length : Int)) by omega)]
    exact ev_now (Eq.symm (decide_eq_false (fun hab => hl (by rw [hab]))))

-- part: l1In
theorem l1In_eq (n lo hi : Int) : spec_l1In.f n lo hi = some (decide (lo ≤ n ∧ n ≤ hi)) := by
  unfold spec_l1In.f
  by_cases h : n ≥ lo
  · rw [if_pos h]; simp [show lo ≤ n from h]
  · rw [if_neg h]; simp [show ¬ lo ≤ n from h]

-- part: H
/-! ### hydras -/
/-- A hydra: its branches. -/
inductive H where
  | nul : H
  | cons (b r : H) : H

-- part: hRow
/-! ### hydras as rows -/
def H.len : H → Nat
  | .nul => 0
  | .cons _ r => H.len r + 1
def H.body : H → List Int
  | .nul => []
  | .cons b r => (H.len b : Int) :: (H.body b ++ H.body r)
def H.row (h : H) : List Int := (h.len : Int) :: h.body
theorem H.body_cons (b r : H) : (H.cons b r).body = b.row ++ r.body := rfl
theorem H.row_length (h : H) : h.row.length = h.body.length + 1 := by simp [H.row]
theorem H.len_le : ∀ h : H, h.len ≤ h.body.length
  | .nul => Nat.le_refl _
  | .cons b r => by have := H.len_le r; simp only [H.len, H.body, List.length_cons, List.length_append]; omega
/-- So many trees can't be read at the beginning of a row. -/
inductive BadN : Nat → List Int → Prop where
  | nil (m : Nat) : BadN (m + 1) []
  | out (m : Nat) (x : Int) (r : List Int) (h : x < 0 ∨ 60 < x) : BadN (m + 1) (x :: r)
  | deep (m : Nat) (x : Int) (r : List Int) (h0 : 0 ≤ x) (h1 : x ≤ 60) (h : BadN x.toNat r) : BadN (m + 1) (x :: r)
  | next (m : Nat) (b : H) (t : List Int) (hb : b.row.length ≤ 60) (h : BadN m t) : BadN (m + 1) (b.row ++ t)
/-- Either so many trees can be read, or not. -/
theorem read_total : ∀ (n : Nat), n ≤ 60 → ∀ (m : Nat) (l : List Int), l.length ≤ n → (∃ s t, l = H.body s ++ t ∧ s.len = m) ∨ BadN m l
  | n, hn, 0, l, _ => .inl ⟨.nul, l, rfl, rfl⟩
  | n, hn, m + 1, [], _ => .inr (.nil m)
  | 0, hn, m + 1, x :: r, h => by simp at h
  | n + 1, hn, m + 1, x :: r, h => by
    simp only [List.length_cons, Nat.add_le_add_iff_right] at h
    by_cases hx : x < 0 ∨ 60 < x
    · exact .inr (.out m x r hx)
    · rcases read_total n (by omega) x.toNat r h with ⟨s, t, hs, hl⟩ | hb
      · have hxl : x = (s.len : Int) := by omega
        have he : x :: r = s.row ++ t := by rw [hs, hxl]; rfl
        have hlr : r.length = s.body.length + t.length := by rw [hs, List.length_append]
        have hlen : t.length ≤ n := by omega
        rcases read_total n (by omega) m t hlen with ⟨s2, t2, hs2, hl2⟩ | hb
        · refine .inl ⟨.cons s s2, t2, ?_, by rw [H.len, hl2]⟩
          rw [he, hs2, H.body_cons, List.append_assoc]
        · rw [he]
          exact .inr (.next m s t (by rw [H.row_length]; omega) hb)
      · exact .inr (.deep m x r (by omega) (by omega) hb)
theorem H.body_inj : ∀ (s s' : H) (t t' : List Int), s.len = s'.len → s.body ++ t = s'.body ++ t' → s = s' ∧ t = t'
  | .nul, .nul, t, t', _, h => ⟨rfl, h⟩
  | .nul, .cons .., _, _, h, _ => by simp [H.len] at h
  | .cons .., .nul, _, _, h, _ => by simp [H.len] at h
  | .cons b r, .cons b' r', t, t', hl, h => by
    simp only [H.len, Nat.add_right_cancel_iff] at hl
    simp only [H.body, List.cons_append, List.append_assoc, List.cons.injEq] at h
    obtain ⟨h1, h2⟩ := h
    obtain ⟨h3, h4⟩ := H.body_inj b b' _ _ (by omega) h2
    obtain ⟨h5, h6⟩ := H.body_inj r r' _ _ hl h4
    exact ⟨by rw [h3, h5], h6⟩
theorem H.row_inj {g h : H} (e : g.row = h.row) : g = h := by
  simp only [H.row, List.cons.injEq] at e
  exact (H.body_inj g h [] [] (by omega) (by rw [e.2])).1

-- part: hTake
/-! ### reading rows: the program's and the reference's -/
def H.terms : H → List S39
  | .nul => []
  | .cons b r => ⟨H.terms b⟩ :: H.terms r
theorem H.terms_len : ∀ h : H, h.terms.length = h.len
  | .nul => rfl
  | .cons b r => by rw [H.terms, H.len, List.length_cons, H.terms_len r]
theorem rd_T39_mid (pre suf : List S39) (x : S39) : rd_T39 (pre ++ x :: suf) ((pre.length : Nat) : Int) = x := by simp [rd_T39]
theorem rd_cons (x : Int) (l : List Int) : rd (x :: l) 0 = x := rfl
theorem takeHydra_in {x : Int} {r : List Int} (h0 : 0 ≤ x) (h1 : x ≤ 60) {q : (List S39) × List Int × Bool} (h : Ev (fun k => impl_takeHydra.l0 k r [] x 0) q) : Ev (fun k => impl_takeHydra.f k (x :: r)) q := by
  refine ev_s ?_
  have g1 : ¬ (((x :: r).length : Int) = 0) := by simp only [List.length_cons]; omega
  have g2 : (0 : Int) < ((x :: r).length : Int) := by simp only [List.length_cons]; omega
  have g3 : (1 : Int) ≤ ((x :: r).length : Int) := by simp only [List.length_cons]; omega
  have g4 : ¬ (rd (x :: r) 0 < 0) := by rw [rd_cons]; omega
  have g5 : ¬ (rd (x :: r) 0 > 60) := by rw [rd_cons]; omega
  simp only [impl_takeHydra.f, if_neg g1, if_pos g2, if_neg g4, decide_eq_false g5]
  refine ev_s ?_
  simp only [impl_takeHydra.j0, Bool.false_eq_true, if_false, if_pos g2, if_pos g3, List.drop_succ_cons, List.drop_zero]
  exact h
theorem takeHydra_out {l : List Int} (h : l = [] ∨ ∃ x r, l = x :: r ∧ (x < 0 ∨ 60 < x)) : Ev (fun k => impl_takeHydra.f k l) ([], [], false) := by
  have hj : Ev (fun k => impl_takeHydra.j0 k l true) ([], [], false) := by
    refine ev_s ?_
    simp only [impl_takeHydra.j0, if_true]
    exact Ev.now _
  refine ev_s ?_
  rcases h with rfl | ⟨x, r, rfl, hx⟩
  · simp only [impl_takeHydra.f, List.length_nil, if_pos (show ((0 : Nat) : Int) = 0 from rfl)]
    exact hj
  · have g1 : ¬ (((x :: r).length : Int) = 0) := by simp only [List.length_cons]; omega
    have g2 : (0 : Int) < ((x :: r).length : Int) := by simp only [List.length_cons]; omega
    by_cases h0 : rd (x :: r) 0 < 0
    · simp only [impl_takeHydra.f, if_neg g1, if_pos g2, if_pos h0]; exact hj
    · have g5 : rd (x :: r) 0 > 60 := by rw [rd_cons] at h0 ⊢; omega
      simp only [impl_takeHydra.f, if_neg g1, if_pos g2, if_neg h0, decide_eq_true g5]; exact hj
theorem takeHydra_l0 : ∀ (s : H) (pre : List S39) (t : List Int), pre.length + s.body.length ≤ 1000 → s.body.length ≤ 60 →
    Ev (fun k => impl_takeHydra.l0 k (s.body ++ t) pre ((pre.length + s.len : Nat) : Int) (pre.length : Int)) (pre ++ s.terms, t, true)
  | .nul, pre, t, _, _ => by
    refine ev_s ?_
    simp only [impl_takeHydra.l0, H.len, H.body, H.terms, Nat.add_zero, List.nil_append, List.append_nil, Int.lt_irrefl, if_false]
    exact Ev.now _
  | .cons b r, pre, t, hp, hs => by
    simp only [H.body, List.length_cons, List.length_append] at hp hs
    have hbl := H.len_le b
    have ihb := takeHydra_l0 b [] (r.body ++ t) (by simp; omega) (by omega)
    simp only [List.length_nil, Nat.zero_add, List.nil_append] at ihb
    have ihr := takeHydra_l0 r (pre ++ [⟨b.terms⟩]) t (by simp; omega) (by omega)
    have hbody : (H.cons b r).body ++ t = (b.len : Int) :: (b.body ++ (r.body ++ t)) := by simp [H.body]
    have hw : wrap64 ((pre.length : Int) + 1) = (((pre ++ [(⟨b.terms⟩ : S39)]).length : Nat) : Int) := by
      rw [List.length_append, List.length_singleton]; exact wrap_nat2 pre.length 1 (by omega)
    have hcnt : ((pre.length + (H.cons b r).len : Nat) : Int) = (((pre ++ [(⟨b.terms⟩ : S39)]).length + r.len : Nat) : Int) := by
      simp only [H.len, List.length_append, List.length_singleton]; omega
    have hres : pre ++ (H.cons b r).terms = pre ++ [(⟨b.terms⟩ : S39)] ++ r.terms := by simp [H.terms]
    rw [hbody, hres]
    refine ev_s ?_
    simp only [impl_takeHydra.l0, if_pos (show (pre.length : Int) < ((pre.length + (H.cons b r).len : Nat) : Int) by simp only [H.len]; omega)]
    refine Ev.bind (takeHydra_in (by omega) (by omega) ihb) ?_
    simp only [if_true, if_pos (show pre.length < 5864062014805 by omega), hw, hcnt]
    exact ihr
theorem takeHydra_row {s : H} (h : s.row.length ≤ 60) (t : List Int) : Ev (fun k => impl_takeHydra.f k (s.row ++ t)) (s.terms, t, true) := by
  rw [H.row_length] at h
  have := H.len_le s
  have h1 := takeHydra_l0 s [] t (by simp; omega) (by omega)
  simp only [List.length_nil, Nat.zero_add, List.nil_append] at h1
  exact takeHydra_in (by omega) (by omega) h1
theorem takeHydra_bad {m : Nat} {l : List Int} (h : BadN m l) : ∀ (pre : List S39), pre.length + m ≤ 1000 → Ev (fun k => impl_takeHydra.l0 k l pre ((pre.length + m : Nat) : Int) (pre.length : Int)) ([], [], false) := by
  have fall : ∀ (l : List Int) (m : Nat) (pre : List S39) {a : List S39} {t : List Int}, Ev (fun k => impl_takeHydra.f k l) (a, t, false) → Ev (fun k => impl_takeHydra.l0 k l pre ((pre.length + (m + 1) : Nat) : Int) (pre.length : Int)) ([], [], false) := by
    intro l m pre a t h
    refine ev_s ?_
    simp only [impl_takeHydra.l0, if_pos (show (pre.length : Int) < ((pre.length + (m + 1) : Nat) : Int) by omega)]
    refine Ev.bind h ?_
    simp only [Bool.false_eq_true, if_false]
    exact Ev.now _
  induction h with
  | nil m => intro pre _; exact fall _ m pre (takeHydra_out (.inl rfl))
  | out m x r h => intro pre _; exact fall _ m pre (takeHydra_out (.inr ⟨x, r, rfl, h⟩))
  | deep m x r h0 h1 h ih =>
    intro pre hp
    have := ih [] (by simp only [List.length_nil]; omega)
    simp only [List.length_nil, Nat.zero_add, Int.toNat_of_nonneg h0] at this
    exact fall _ m pre (takeHydra_in h0 h1 this)
  | next m b t hb h ih =>
    intro pre hp
    have hw : wrap64 ((pre.length : Int) + 1) = (((pre ++ [(⟨b.terms⟩ : S39)]).length : Nat) : Int) := by
      rw [List.length_append, List.length_singleton]; exact wrap_nat2 pre.length 1 (by omega)
    have hcnt : ((pre.length + (m + 1) : Nat) : Int) = (((pre ++ [(⟨b.terms⟩ : S39)]).length + m : Nat) : Int) := by
      simp only [List.length_append, List.length_singleton]; omega
    refine ev_s ?_
    simp only [impl_takeHydra.l0, if_pos (show (pre.length : Int) < ((pre.length + (m + 1) : Nat) : Int) by omega)]
    refine Ev.bind (takeHydra_row hb t) ?_
    simp only [if_true, if_pos (show pre.length < 5864062014805 by omega), hw, hcnt]
    exact ih (pre ++ [⟨b.terms⟩]) (by simp only [List.length_append, List.length_singleton]; omega)
/-! the reference -/
theorem l5End_in {l : List Int} {p : Nat} (hp : p < l.length) (hb : l.length ≤ 1000000) (h0 : 0 ≤ l[p]) (h1 : l[p] ≤ 60) {q : Int} (h : Ev (fun k => spec_l5End.l0 k l ((p + 1 : Nat) : Int) l[p] 0) q) : Ev (fun k => spec_l5End.f k l (p : Int)) q := by
  refine ev_s ?_
  simp only [spec_l5End.f, if_neg (show ¬ ((p : Int) ≥ (l.length : Int)) by omega), if_pos (show (0 : Int) ≤ (p : Int) by omega), if_pos (show (p : Int) < (l.length : Int) by omega), l1In_eq, Option.bind_some, rd_get hp, decide_eq_true (show 0 ≤ l[p] ∧ l[p] ≤ 60 from ⟨h0, h1⟩)]
  refine ev_s ?_
  simp only [spec_l5End.j0, Bool.not_true, Bool.false_eq_true, if_false, if_pos (show (0 : Int) ≤ (p : Int) by omega), if_pos (show (p : Int) < (l.length : Int) by omega), rd_get hp, show wrap64 ((p : Int) + 1) = ((p + 1 : Nat) : Int) from wrap_nat2 p 1 (by omega)]
  exact h
theorem l5End_out {l : List Int} {p : Nat} (h : l.length ≤ p ∨ ∃ hp : p < l.length, l[p] < 0 ∨ 60 < l[p]) : Ev (fun k => spec_l5End.f k l (p : Int)) (-1) := by
  have hj : Ev (fun k => spec_l5End.j0 k l (p : Int) true) (-1) := by
    refine ev_s ?_
    simp only [spec_l5End.j0, if_true]
    exact Ev.now _
  refine ev_s ?_
  rcases h with h | ⟨hp, hx⟩
  · simp only [spec_l5End.f, if_pos (show ((p : Int) ≥ (l.length : Int)) by omega)]
    exact hj
  · simp only [spec_l5End.f, if_neg (show ¬ ((p : Int) ≥ (l.length : Int)) by omega), if_pos (show (0 : Int) ≤ (p : Int) by omega), if_pos (show (p : Int) < (l.length : Int) by omega), l1In_eq, Option.bind_some, rd_get hp, decide_eq_false (show ¬ (0 ≤ l[p] ∧ l[p] ≤ 60) by omega), Bool.not_false]
    exact hj
theorem l5End_l0 : ∀ (s : H) (pre t l : List Int) (i : Nat), l = pre ++ s.body ++ t → l.length ≤ 1000000 → s.body.length ≤ 60 → i + s.body.length ≤ 1000 →
    Ev (fun k => spec_l5End.l0 k l (pre.length : Int) ((i + s.len : Nat) : Int) (i : Int)) ((pre.length + s.body.length : Nat) : Int)
  | .nul, pre, t, l, i, _, _, _, _ => by
    refine ev_s ?_
    simp only [spec_l5End.l0, H.len, H.body, Nat.add_zero, Int.lt_irrefl, if_false, List.length_nil]
    exact Ev.now _
  | .cons b r, pre, t, l, i, hl, hb, hs, hi => by
    simp only [H.body, List.length_cons, List.length_append] at hs hi
    have hbl := H.len_le b
    have hlen : l.length = pre.length + (b.body.length + r.body.length + 1) + t.length := by rw [hl]; simp only [H.body, List.length_append, List.length_cons]
    have hp : pre.length < l.length := by omega
    have hx : l[pre.length] = (b.len : Int) := by
      subst hl
      simp [H.body]
    have ihb := l5End_l0 b (pre ++ [(b.len : Int)]) (r.body ++ t) l 0 (by rw [hl]; simp [H.body]) hb (by omega) (by omega)
    have ihr := l5End_l0 r (pre ++ b.row) t l (i + 1) (by rw [hl]; simp [H.body, H.row]) hb (by omega) (by omega)
    simp only [List.length_append, List.length_singleton, Nat.zero_add] at ihb
    simp only [List.length_append, H.row_length] at ihr
    have hE : Ev (fun k => spec_l5End.f k l (pre.length : Int)) ((pre.length + (b.body.length + 1) : Nat) : Int) := by
      refine l5End_in hp hb (by rw [hx]; omega) (by rw [hx]; omega) ?_
      rw [hx]
      exact ev_eq ihb (by omega)
    refine ev_s ?_
    simp only [spec_l5End.l0, if_pos (show (i : Int) < ((i + (H.cons b r).len : Nat) : Int) by simp only [H.len]; omega), if_pos (show (pre.length : Int) ≥ 0 by omega), show wrap64 ((i : Int) + 1) = ((i + 1 : Nat) : Int) from wrap_nat2 i 1 (by omega)]
    refine Ev.bind hE ?_
    have e1 : ((i + (H.cons b r).len : Nat) : Int) = ((i + 1 + r.len : Nat) : Int) := by simp only [H.len]; omega
    rw [e1]
    exact ev_eq ihr (by simp only [H.body, List.length_cons, List.length_append]; omega)
theorem l5End_row {s : H} (pre t : List Int) (hb : (pre ++ s.row ++ t).length ≤ 1000000) (hs : s.row.length ≤ 60) : Ev (fun k => spec_l5End.f k (pre ++ s.row ++ t) (pre.length : Int)) ((pre.length + s.row.length : Nat) : Int) := by
  rw [H.row_length] at hs
  have hbl := H.len_le s
  have hp : pre.length < (pre ++ s.row ++ t).length := by simp only [H.row, List.length_append, List.length_cons]; omega
  have hx : (pre ++ s.row ++ t)[pre.length] = (s.len : Int) := by simp [H.row]
  have h2 := l5End_l0 s (pre ++ [(s.len : Int)]) t (pre ++ s.row ++ t) 0 (by simp [H.row]) hb (by omega) (by omega)
  simp only [List.length_append, List.length_singleton, Nat.zero_add] at h2
  refine l5End_in hp hb (by rw [hx]; omega) (by rw [hx]; omega) ?_
  rw [hx]
  exact ev_eq h2 (by rw [H.row_length]; omega)
theorem l5End_bad {m : Nat} {l : List Int} (h : BadN m l) : ∀ (pre : List Int) (i : Nat), (pre ++ l).length ≤ 1000000 → i + m ≤ 1000000 → Ev (fun k => spec_l5End.l0 k (pre ++ l) (pre.length : Int) ((i + m : Nat) : Int) (i : Int)) (-1) := by
  have fall : ∀ (l : List Int) (m i p : Nat), i + (m + 1) ≤ 1000000 → Ev (fun k => spec_l5End.f k l (p : Int)) (-1) → Ev (fun k => spec_l5End.l0 k l (p : Int) ((i + (m + 1) : Nat) : Int) (i : Int)) (-1) := by
    intro l m i p him h
    refine ev_s ?_
    simp only [spec_l5End.l0, if_pos (show (i : Int) < ((i + (m + 1) : Nat) : Int) by omega), if_pos (show (p : Int) ≥ 0 by omega), show wrap64 ((i : Int) + 1) = ((i + 1 : Nat) : Int) from wrap_nat2 i 1 (by omega)]
    refine Ev.bind h ?_
    refine ev_s ?_
    by_cases hm : ((i + 1 : Nat) : Int) < ((i + (m + 1) : Nat) : Int)
    · simp only [spec_l5End.l0, if_pos hm, if_neg (show ¬ ((-1 : Int) ≥ 0) by decide)]; exact Ev.now _
    · simp only [spec_l5End.l0, if_neg hm]; exact Ev.now _
  induction h with
  | nil m => intro pre i hl him; exact fall _ m i _ him (l5End_out (.inl (by simp)))
  | out m x r h => intro pre i hl him; exact fall _ m i _ him (l5End_out (.inr ⟨by simp, by simpa using h⟩))
  | deep m x r h0 h1 h ih =>
    intro pre i hl him
    have := ih (pre ++ [x]) 0 (by simpa using hl) (by omega)
    simp only [List.append_assoc, List.singleton_append, List.length_append, List.length_singleton, Nat.zero_add, Int.toNat_of_nonneg h0] at this
    have hx : (pre ++ x :: r)[pre.length]'(by simp) = x := by simp
    refine fall _ m i _ him (l5End_in (by simp) hl (by rw [hx]; exact h0) (by rw [hx]; exact h1) ?_)
    rw [hx]
    exact this
  | next m b t hb h ih =>
    intro pre i hl him
    have := ih (pre ++ b.row) (i + 1) (by simpa using hl) (by omega)
    have hr := l5End_row (s := b) pre t (by simpa using hl) hb
    rw [List.append_assoc] at hr this
    refine ev_s ?_
    simp only [spec_l5End.l0, if_pos (show (i : Int) < ((i + (m + 1) : Nat) : Int) by omega), if_pos (show (pre.length : Int) ≥ 0 by omega), show wrap64 ((i : Int) + 1) = ((i + 1 : Nat) : Int) from wrap_nat2 i 1 (by omega)]
    refine Ev.bind hr ?_
    rw [show i + (m + 1) = i + 1 + m by omega, ← List.length_append]
    exact this
/-! a row is a hydra's, or not -/
theorem hydra_cases (l : List Int) : (∃ h : H, l = h.row ∧ l.length ≤ 60) ∨ (60 < l.length ∨ l = [] ∨ BadN 1 l ∨ ∃ (h : H) (x : Int) (t : List Int), l = h.row ++ x :: t) := by
  by_cases h60 : l.length ≤ 60
  · rcases read_total 60 (Nat.le_refl _) 1 l h60 with ⟨s, t, hs, hl⟩ | hb
    · rcases s with _ | ⟨b, r⟩
      · simp [H.len] at hl
      · rcases r with _ | ⟨b2, r2⟩
        · have e : l = b.row ++ t := by rw [hs, H.body_cons]; simp [H.body]
          rcases t with _ | ⟨x, t⟩
          · exact .inl ⟨b, by rw [e, List.append_nil], h60⟩
          · exact .inr (.inr (.inr (.inr ⟨b, x, t, e⟩)))
        · simp [H.len] at hl
    · exact .inr (.inr (.inr (.inl hb)))
  · exact .inr (.inl (by omega))
theorem impl_hydraOf_good {h : H} (hl : h.row.length ≤ 60) : Ev (fun k => impl_hydraOf.f k h.row) (h.terms, true) := by
  have hr := H.row_length h
  have := takeHydra_row hl []
  rw [List.append_nil] at this
  simp only [impl_hydraOf.f, if_neg (show ¬ ((h.row.length : Int) < 1) by omega), if_neg (show ¬ ((h.row.length : Int) > 60) by omega)]
  refine Ev.bind this ?_
  simp only [if_true]
  exact ev_now (by simp)
theorem spec_HydraValid_good {h : H} (hl : h.row.length ≤ 60) : Ev (fun k => spec_HydraValid.f k h.row) true := by
  have hr := H.row_length h
  have := l5End_row (s := h) [] [] (by simp; omega) hl
  simp only [List.nil_append, List.append_nil, List.length_nil, Nat.zero_add] at this
  simp only [spec_HydraValid.f, l1In_eq, Option.bind_some, decide_eq_true (show 1 ≤ (h.row.length : Int) ∧ (h.row.length : Int) ≤ 60 by omega), if_true]
  refine Ev.bind this ?_
  exact ev_now (by simp)
def NoHydra (l : List Int) : Prop := 60 < l.length ∨ l = [] ∨ BadN 1 l ∨ ∃ (h : H) (x : Int) (t : List Int), l = h.row ++ x :: t
theorem impl_hydraOf_bad {l : List Int} (h : NoHydra l) : ∃ a, Ev (fun k => impl_hydraOf.f k l) (a, false) := by
  by_cases h0 : l = []
  · subst h0
    refine ⟨[], ?_⟩
    simp only [impl_hydraOf.f, List.length_nil, if_pos (show ((0 : Nat) : Int) < 1 by decide)]
    exact Ev.now _
  · have hpos : 0 < l.length := List.length_pos_iff.mpr h0
    by_cases h60 : 60 < l.length
    · refine ⟨[], ?_⟩
      simp only [impl_hydraOf.f, if_neg (show ¬ ((l.length : Int) < 1) by omega), if_pos (show (l.length : Int) > 60 by omega)]
      exact Ev.now _
    · simp only [impl_hydraOf.f, if_neg (show ¬ ((l.length : Int) < 1) by omega), if_neg (show ¬ ((l.length : Int) > 60) by omega)]
      rcases h with h | h | h | ⟨g, x, t, rfl⟩
      · omega
      · exact absurd h h0
      · have hf : ∃ a t, Ev (fun k => impl_takeHydra.f k l) (a, t, false) := by
          cases h with
          | nil => exact absurd rfl h0
          | out m x r h => exact ⟨_, _, takeHydra_out (.inr ⟨x, r, rfl, h⟩)⟩
          | deep m x r hx0 hx1 h =>
            have := takeHydra_bad h [] (by simp only [List.length_nil]; omega)
            simp only [List.length_nil, Nat.zero_add, Int.toNat_of_nonneg hx0] at this
            exact ⟨_, _, takeHydra_in hx0 hx1 this⟩
          | next m b t hb h => cases h
        obtain ⟨a, t, hf⟩ := hf
        refine ⟨a, Ev.bind hf ?_⟩
        simp only [Bool.false_eq_true, if_false]
        exact Ev.now _
      · simp only [List.length_append, List.length_cons] at h60
        refine ⟨g.terms, Ev.bind (takeHydra_row (by omega) (x :: t)) ?_⟩
        simp only [if_true]
        exact ev_now (by simp; omega)
theorem spec_HydraValid_bad {l : List Int} (h : NoHydra l) : Ev (fun k => spec_HydraValid.f k l) false := by
  by_cases h1 : 1 ≤ (l.length : Int) ∧ (l.length : Int) ≤ 60
  · simp only [spec_HydraValid.f, l1In_eq, Option.bind_some, decide_eq_true h1, if_true]
    have hend : ∃ e : Int, e ≠ (l.length : Int) ∧ Ev (fun k => spec_l5End.f k l ((0 : Nat) : Int)) e := by
      rcases h with h | h | h | ⟨g, x, t, rfl⟩
      · omega
      · subst h; simp at h1
      · refine ⟨-1, by omega, ?_⟩
        cases h with
        | nil => simp at h1
        | out m x r h => exact l5End_out (.inr ⟨by simp, by simpa using h⟩)
        | deep m x r h0 h2 h =>
          have := l5End_bad h [x] 0 (by simp only [List.singleton_append]; omega) (by omega)
          simp only [List.singleton_append, List.length_singleton, Nat.zero_add, Int.toNat_of_nonneg h0] at this
          exact l5End_in (by simp) (by omega) (by simpa using h0) (by simpa using h2) this
        | next m b t hb h => cases h
      · simp only [List.length_append, List.length_cons] at h1
        have := l5End_row (s := g) [] (x :: t) (by simp; omega) (by omega)
        simp only [List.nil_append, List.length_nil, Nat.zero_add] at this
        exact ⟨_, by simp only [List.length_append, List.length_cons]; omega, this⟩
    obtain ⟨e, he, hE⟩ := hend
    refine Ev.bind hE ?_
    exact ev_now (by simpa using he)
  · simp only [spec_HydraValid.f, l1In_eq, Option.bind_some, decide_eq_false h1, Bool.false_eq_true, if_false]
    exact Ev.now _
theorem hydra_or (l : List Int) : (∃ h : H, l = h.row ∧ h.row.length ≤ 60) ∨ NoHydra l := by
  rcases hydra_cases l with ⟨h, e, hl⟩ | h
  · exact .inl ⟨h, e, e ▸ hl⟩
  · exact .inr h

-- part: l5Branches
def H.rows : H → List (List Int)
  | .nul => []
  | .cons b r => b.row :: H.rows r
theorem H.rows_len : ∀ h : H, h.rows.length = h.len
  | .nul => rfl
  | .cons b r => by rw [H.rows, H.len, List.length_cons, H.rows_len r]
theorem H.rows_flat : ∀ h : H, h.rows.flatten = h.body
  | .nul => rfl
  | .cons b r => by rw [H.rows, List.flatten_cons, H.rows_flat r, H.body_cons]
theorem rd_L3_mid (pre suf : List (List Int)) (x : List Int) : rd_L3 (pre ++ x :: suf) ((pre.length : Nat) : Int) = x := by simp [rd_L3]
theorem l5Branches_l0 : ∀ (s : H) (pre : List Int) (out : List (List Int)), (pre ++ s.body).length ≤ 1000000 → s.body.length ≤ 60 → out.length + s.len ≤ 1000000 → Ev (fun k => spec_l5Branches.l0 k (pre ++ s.body) out (pre.length : Int)) (out ++ s.rows)
  | .nul, pre, out, _, _, _ => by
    refine ev_s ?_
    simp only [spec_l5Branches.l0, H.body, H.rows, List.append_nil, Int.lt_irrefl, if_false]
    exact Ev.now _
  | .cons b r, pre, out, hb, hs, ho => by
    have hE := l5End_row (s := b) pre r.body (by rw [H.body_cons] at hb; rw [List.append_assoc]; exact hb) (by rw [H.body_cons, List.length_append] at hs; omega)
    have ihr := l5Branches_l0 r (pre ++ b.row) (out ++ [b.row]) (by rw [H.body_cons] at hb; rw [List.append_assoc]; exact hb) (by rw [H.body_cons, List.length_append] at hs; omega) (by simp only [H.len] at ho; simp only [List.length_append, List.length_singleton]; omega)
    have hrl := H.row_length b
    have he : pre ++ (H.cons b r).body = pre ++ b.row ++ r.body := by rw [H.body_cons, List.append_assoc]
    have hcut : ((pre ++ b.row ++ r.body).take (pre.length + b.row.length)).drop pre.length = b.row := by
      rw [show pre.length + b.row.length = (pre ++ b.row).length by rw [List.length_append], List.take_left', List.drop_left']
      · rfl
      · rfl
    have hres : out ++ (H.cons b r).rows = out ++ [b.row] ++ r.rows := by simp [H.rows]
    rw [he] at hb ⊢
    rw [hres]
    have hlen : (pre ++ b.row ++ r.body).length = pre.length + b.row.length + r.body.length := by simp only [List.length_append]
    refine ev_s ?_
    simp only [spec_l5Branches.l0, if_pos (show (pre.length : Int) < ((pre ++ b.row ++ r.body).length : Int) by omega)]
    refine Ev.bind hE ?_
    simp only [if_pos (show (0 : Int) ≤ (pre.length : Int) by omega), if_pos (show (pre.length : Int) ≤ ((pre.length + b.row.length : Nat) : Int) by omega), if_pos (show ((pre.length + b.row.length : Nat) : Int) ≤ ((pre ++ b.row ++ r.body).length : Int) by omega), if_pos (show out.length < 5864062014805 by omega), Int.toNat_natCast, hcut]
    rw [← List.length_append]
    exact ihr
theorem l5Branches_ev {h : H} (hl : h.row.length ≤ 60) : Ev (fun k => spec_l5Branches.f k h.row) h.rows := by
  have hr := H.row_length h
  have hle := H.len_le h
  have := l5Branches_l0 h [(h.len : Int)] [] (by simp; omega) (by omega) (by simp; omega)
  simp only [spec_l5Branches.f]
  exact this

-- part: hText
/-- The texts of a hydra's branches, behind what there is. -/
def H.texts : H → ByteArray → ByteArray
  | .nul, a => a
  | .cons b r, a => H.texts r (a ++ (H.texts b (⟨#[40]⟩ : ByteArray) ++ (⟨#[41]⟩ : ByteArray)))
def H.text (h : H) : ByteArray := H.texts h (⟨#[40]⟩ : ByteArray) ++ (⟨#[41]⟩ : ByteArray)
theorem one_size (x : UInt8) : (⟨#[x]⟩ : ByteArray).size = 1 := rfl
theorem H.texts_size : ∀ (h : H) (a : ByteArray), (H.texts h a).size = a.size + 2 * h.body.length
  | .nul, a => by simp [H.texts, H.body]
  | .cons b r, a => by
    rw [H.texts, H.texts_size r, ByteArray.size_append, ByteArray.size_append, H.texts_size b, one_size, one_size]
    simp only [H.body, List.length_cons, List.length_append]; omega
theorem H.text_size (h : H) : h.text.size = 2 * h.row.length := by
  rw [H.text, ByteArray.size_append, H.texts_size, one_size, one_size, H.row_length]; omega
theorem text_l0 : ∀ (s : H) (pre : List S39) (a : ByteArray), pre.length + s.body.length ≤ 1000 → a.size + 2 * s.body.length ≤ 100000 → Ev (fun k => impl_hydra_text.l0 k a (pre ++ s.terms) (((pre ++ s.terms).length : Nat) : Int) (pre.length : Int)) (s.texts a ++ (⟨#[41]⟩ : ByteArray))
  | .nul, pre, a, _, ha => by
    refine ev_s ?_
    simp only [impl_hydra_text.l0, H.terms, List.append_nil, Int.lt_irrefl, if_false, if_pos (show a.size + 1 ≤ 9223372036854775807 by omega)]
    exact Ev.now _
  | .cons b r, pre, a, hp, ha => by
    simp only [H.body, List.length_cons, List.length_append] at hp ha
    have hts := H.text_size b
    have hrl := H.row_length b
    have hE : Ev (fun k => impl_hydra_text.f k b.terms) b.text := by
      refine ev_s ?_
      simp only [impl_hydra_text.f]
      have := text_l0 b [] (⟨#[40]⟩ : ByteArray) (by simp; omega) (by rw [one_size]; omega)
      rw [List.nil_append] at this
      exact this
    have hlen : (pre ++ (H.cons b r).terms).length = pre.length + (r.terms.length + 1) := by simp [H.terms]
    have hmid : rd_T39 (pre ++ (H.cons b r).terms) (pre.length : Int) = ⟨b.terms⟩ := rd_T39_mid pre r.terms ⟨b.terms⟩
    have happ : pre ++ (H.cons b r).terms = (pre ++ [⟨b.terms⟩]) ++ r.terms := by simp [H.terms]
    have ew : wrap64 ((pre.length : Int) + 1) = (((pre ++ [(⟨b.terms⟩ : S39)]).length : Nat) : Int) := by
      rw [List.length_append, List.length_singleton]; exact wrap_nat2 pre.length 1 (by omega)
    have g1 : (pre.length : Int) < (((pre ++ (H.cons b r).terms).length : Nat) : Int) := by omega
    refine ev_s ?_
    simp only [impl_hydra_text.l0, if_pos g1, if_pos (show (0 : Int) ≤ (pre.length : Int) from Int.natCast_nonneg _), hmid]
    refine Ev.bind hE ?_
    simp only [if_pos (show a.size + b.text.size ≤ 9223372036854775807 by omega), ew]
    rw [happ]
    exact text_l0 r (pre ++ [⟨b.terms⟩]) (a ++ b.text) (by simp only [List.length_append, List.length_singleton]; omega) (by rw [ByteArray.size_append]; omega)
theorem text_ev {h : H} (hl : h.row.length ≤ 60) : Ev (fun k => impl_hydra_text.f k h.terms) h.text := by
  rw [H.row_length] at hl
  refine ev_s ?_
  simp only [impl_hydra_text.f]
  have := text_l0 h [] (⟨#[40]⟩ : ByteArray) (by simp; omega) (by rw [one_size]; omega)
  rw [List.nil_append] at this
  exact this
theorem l5Text_l0 : ∀ (s : H) (pre : List (List Int)) (a : ByteArray), pre.length + s.body.length ≤ 1000 → s.body.length ≤ 60 → a.size + 2 * s.body.length ≤ 100000 → Ev (fun k => spec_l5Text.l0 k a (pre ++ s.rows) (pre.length : Int)) (s.texts a ++ (⟨#[41]⟩ : ByteArray))
  | .nul, pre, a, _, _, ha => by
    refine ev_s ?_
    simp only [spec_l5Text.l0, H.rows, List.append_nil, Int.lt_irrefl, if_false, if_pos (show a.size + 1 ≤ 9223372036854775807 by omega)]
    exact Ev.now _
  | .cons b r, pre, a, hp, hs, ha => by
    simp only [H.body, List.length_cons, List.length_append] at hp ha hs
    have hts := H.text_size b
    have hrl := H.row_length b
    have hE : Ev (fun k => spec_l5Text.f k b.row) b.text := by
      refine ev_s ?_
      simp only [spec_l5Text.f]
      refine Ev.bind (l5Branches_ev (by omega)) ?_
      have := l5Text_l0 b [] (⟨#[40]⟩ : ByteArray) (by simp; omega) (by omega) (by rw [one_size]; omega)
      rw [List.nil_append] at this
      exact this
    have hlen : (pre ++ (H.cons b r).rows).length = pre.length + (r.rows.length + 1) := by simp [H.rows]
    have hmid : rd_L3 (pre ++ (H.cons b r).rows) (pre.length : Int) = b.row := rd_L3_mid pre r.rows b.row
    have happ : pre ++ (H.cons b r).rows = (pre ++ [b.row]) ++ r.rows := by simp [H.rows]
    have ew : wrap64 ((pre.length : Int) + 1) = (((pre ++ [b.row]).length : Nat) : Int) := by
      rw [List.length_append, List.length_singleton]; exact wrap_nat2 pre.length 1 (by omega)
    have g1 : (pre.length : Int) < (((pre ++ (H.cons b r).rows).length : Nat) : Int) := by omega
    refine ev_s ?_
    simp only [spec_l5Text.l0, if_pos g1, if_pos (show (0 : Int) ≤ (pre.length : Int) from Int.natCast_nonneg _), hmid]
    refine Ev.bind hE ?_
    simp only [if_pos (show a.size + b.text.size ≤ 9223372036854775807 by omega), ew]
    rw [happ]
    exact l5Text_l0 r (pre ++ [b.row]) (a ++ b.text) (by simp only [List.length_append, List.length_singleton]; omega) (by omega) (by rw [ByteArray.size_append]; omega)
theorem l5Text_ev {h : H} (hl : h.row.length ≤ 60) : Ev (fun k => spec_l5Text.f k h.row) h.text := by
  have hr := H.row_length h
  refine ev_s ?_
  simp only [spec_l5Text.f]
  refine Ev.bind (l5Branches_ev hl) ?_
  have := l5Text_l0 h [] (⟨#[40]⟩ : ByteArray) (by simp; omega) (by omega) (by rw [one_size]; omega)
  rw [List.nil_append] at this
  exact this
theorem impl_HydraText_good {h : H} (hl : h.row.length ≤ 60) : Ev (fun k => impl_HydraText.f k h.row) h.text := by
  simp only [impl_HydraText.f]
  refine Ev.bind (impl_hydraOf_good hl) ?_
  simp only [if_true]
  exact Ev.bind (text_ev hl) (Ev.now _)
theorem impl_HydraText_bad {l : List Int} (h : NoHydra l) : Ev (fun k => impl_HydraText.f k l) (⟨#[]⟩ : ByteArray) := by
  obtain ⟨a, ha⟩ := impl_hydraOf_bad h
  simp only [impl_HydraText.f]
  refine Ev.bind ha ?_
  simp only [Bool.false_eq_true, if_false]
  exact Ev.now _
theorem spec_HydraText_good {h : H} (hl : h.row.length ≤ 60) : Ev (fun k => spec_HydraText.f k h.row) h.text := by
  simp only [spec_HydraText.f]
  refine Ev.bind (spec_HydraValid_good hl) ?_
  simp only [if_true]
  exact Ev.bind (l5Text_ev hl) (Ev.now _)
theorem spec_HydraText_bad {l : List Int} (h : NoHydra l) : Ev (fun k => spec_HydraText.f k l) (⟨#[]⟩ : ByteArray) := by
  simp only [spec_HydraText.f]
  refine Ev.bind (spec_HydraValid_bad h) ?_
  simp only [Bool.false_eq_true, if_false]
  exact Ev.now _

-- part: bytesT
/-! ### texts as rows of bytes -/
theorem ba_loop (a : ByteArray) : ∀ (d i : Nat) (r : List UInt8), i + d = a.size → ByteArray.toList.loop a i r = r.reverse ++ a.data.toList.drop i
  | 0, i, r, h => by
    have h1 : a.data.toList.length = a.size := by rw [Array.length_toList]; rfl
    rw [ByteArray.toList.loop, if_neg (by omega), List.drop_of_length_le (by omega), List.append_nil]
  | d + 1, i, r, h => by
    have h1 : a.data.toList.length = a.size := by rw [Array.length_toList]; rfl
    have hi : i < a.data.toList.length := by omega
    have hd : i < a.data.size := by rw [← Array.length_toList]; exact hi
    have hg : a.get! i = a.data.toList[i] := by
      show a.data[i]! = _
      rw [getElem!_pos a.data i hd, Array.getElem_toList]
    rw [ByteArray.toList.loop, if_pos (by omega), ba_loop a d (i + 1) _ (by omega), hg, List.drop_eq_getElem_cons hi]
    simp
theorem ba_toList (a : ByteArray) : a.toList = a.data.toList := by
  have := ba_loop a a.size 0 [] (by omega)
  simpa [ByteArray.toList] using this
/-- A text of bytes. -/
def bs (l : List UInt8) : ByteArray := ⟨l.toArray⟩
theorem bs_list (l : List UInt8) : (bs l).toList = l := by rw [ba_toList]; simp [bs]
theorem bs_of (a : ByteArray) : a = bs a.data.toList := by cases a; simp [bs]
theorem bs_size (l : List UInt8) : (bs l).size = l.length := by simp [bs, ByteArray.size]
theorem bs_append (l m : List UInt8) : bs l ++ bs m = bs (l ++ m) := by
  apply ByteArray.ext
  simp [bs, ByteArray.data_append]
theorem bs_inj {l m : List UInt8} (h : bs l = bs m) : l = m := by rw [← bs_list l, h, bs_list]
theorem bs_cut (x : UInt8) (l : List UInt8) : (bs (x :: l)).extract 1 (bs (x :: l)).size = bs l := by
  apply ByteArray.ext
  rw [bs_size]
  simp [bs, ByteArray.data_extract]
theorem bs_bt (x : UInt8) (l : List UInt8) : bt (bs (x :: l)) 0 = (x.toNat : Int) := by
  rw [← bt_at (bs (x :: l)) 0 (by rw [bs_size]; simp)]
  rfl
theorem bs_bt_at (l : List UInt8) (i : Nat) (h : i < l.length) : bt (bs l) (i : Int) = ((l[i]).toNat : Int) := by
  rw [← bt_at (bs l) i (by rw [bs_size]; simpa using h)]
  rfl

-- part: hRead
/-! ### reading texts of hydras -/
def H.tb : H → List UInt8
  | .nul => []
  | .cons b r => 40 :: (H.tb b ++ 41 :: H.tb r)
def H.tl (h : H) : List UInt8 := 40 :: (h.tb ++ [41])
theorem H.tb_len : ∀ h : H, h.tb.length = 2 * h.body.length
  | .nul => rfl
  | .cons b r => by simp only [H.tb, H.body, List.length_cons, List.length_append, H.tb_len b, H.tb_len r]; omega
theorem H.tl_len (h : H) : h.tl.length = 2 * h.row.length := by simp only [H.tl, List.length_cons, List.length_append, H.tb_len, H.row_length, List.length_nil]; omega
theorem H.texts_bs : ∀ (h : H) (l : List UInt8), H.texts h (bs l) = bs (l ++ h.tb)
  | .nul, l => by rw [H.texts, H.tb, List.append_nil]
  | .cons b r, l => by
    have hb := H.texts_bs b [40]
    rw [H.texts, show (⟨#[40]⟩ : ByteArray) = bs [40] from rfl, show (⟨#[41]⟩ : ByteArray) = bs [41] from rfl, hb, bs_append, bs_append, H.texts_bs r]
    simp [H.tb]
theorem H.text_bs (h : H) : h.text = bs h.tl := by
  rw [H.text, show (⟨#[40]⟩ : ByteArray) = bs [40] from rfl, show (⟨#[41]⟩ : ByteArray) = bs [41] from rfl, H.texts_bs, bs_append]; rfl
/-- No branches can be read at the beginning of the text, up to a closing bracket. -/
inductive BadT : List UInt8 → Prop where
  | stop (l : List UInt8) (h : ∀ x r, l = x :: r → x ≠ 40 ∧ x ≠ 41) : BadT l
  | deep (r : List UInt8) (h : BadT r) : BadT (40 :: r)
  | next (b : H) (r : List UInt8) (h : BadT r) : BadT (40 :: (b.tb ++ 41 :: r))
theorem text_total : ∀ (n : Nat) (l : List UInt8), l.length ≤ n → (∃ h t, l = H.tb h ++ 41 :: t) ∨ BadT l
  | _, [], _ => .inr (.stop _ (fun x r h => by cases h))
  | 0, x :: r, h => by simp at h
  | n + 1, x :: r, h => by
    simp only [List.length_cons, Nat.add_le_add_iff_right] at h
    by_cases h1 : x = 41
    · exact .inl ⟨.nul, r, by rw [h1]; rfl⟩
    · by_cases h0 : x = 40
      · subst h0
        rcases text_total n r h with ⟨b, t, rfl⟩ | hb
        · rcases text_total n t (by simp at h; omega) with ⟨g, t', rfl⟩ | hb
          · exact .inl ⟨.cons b g, t', by simp [H.tb]⟩
          · exact .inr (.next b t hb)
        · exact .inr (.deep r hb)
      · exact .inr (.stop _ (fun y t e => by cases e; exact ⟨h0, h1⟩))
theorem H.tb_inj : ∀ (g h : H) (t u : List UInt8), g.tb ++ 41 :: t = h.tb ++ 41 :: u → g = h ∧ t = u
  | .nul, .nul, t, u, e => ⟨rfl, by simpa [H.tb] using e⟩
  | .nul, .cons b r, t, u, e => by simp [H.tb] at e
  | .cons b r, .nul, t, u, e => by simp [H.tb] at e
  | .cons b r, .cons b' r', t, u, e => by
    simp only [H.tb, List.cons_append, List.append_assoc, List.cons.injEq, true_and] at e
    obtain ⟨h1, h2⟩ := H.tb_inj b b' _ _ e
    obtain ⟨h3, h4⟩ := H.tb_inj r r' _ _ h2
    exact ⟨by rw [h1, h3], h4⟩
theorem H.tl_inj {g h : H} (e : g.tl = h.tl) : g = h := (H.tb_inj g h [] [] (by simpa [H.tl] using e)).1
theorem readHydra_in {r : List UInt8} {q : (List S39) × ByteArray × Bool} (h : Ev (fun k => impl_readHydra.l0 k (bs r) []) q) : Ev (fun k => impl_readHydra.f k (bs (40 :: r))) q := by
  refine ev_s ?_
  have g1 : ¬ ((bs (40 :: r)).toList = ([] : List UInt8)) := by rw [bs_list]; simp
  have g2 : (0 : Int) < ((bs (40 :: r)).size : Int) := by rw [bs_size, List.length_cons]; omega
  have g3 : (1 : Int) ≤ ((bs (40 :: r)).size : Int) := by rw [bs_size, List.length_cons]; omega
  have g4 : ((bt (bs (40 :: r)) 0) != 40) = false := by rw [bs_bt]; rfl
  simp only [impl_readHydra.f, if_neg g1, if_pos g2, g4]
  refine ev_s ?_
  simp only [impl_readHydra.j0, Bool.false_eq_true, if_false, if_pos g3, bs_cut]
  exact h
theorem readHydra_out {l : List UInt8} (h : ∀ r, l ≠ 40 :: r) : ∃ x, Ev (fun k => impl_readHydra.f k (bs l)) ([], x, false) := by
  refine ⟨bs l, ?_⟩
  have hj : Ev (fun k => impl_readHydra.j0 k (bs l) true) ([], bs l, false) := by
    refine ev_s ?_
    simp only [impl_readHydra.j0, if_true]
    exact Ev.now _
  refine ev_s ?_
  cases l with
  | nil => simp only [impl_readHydra.f, bs_list, if_true]; exact hj
  | cons x r =>
    have g1 : ¬ ((bs (x :: r)).toList = ([] : List UInt8)) := by rw [bs_list]; simp
    have g2 : (0 : Int) < ((bs (x :: r)).size : Int) := by rw [bs_size, List.length_cons]; omega
    have g4 : ((bt (bs (x :: r)) 0) != 40) = true := by
      rw [bs_bt, bne_iff_ne]
      intro e
      have h2 : x.toNat = 40 := by omega
      exact h r (by rw [show x = 40 from UInt8.toNat_inj.mp h2])
    simp only [impl_readHydra.f, if_neg g1, if_pos g2, g4]
    exact hj
theorem read_l0 : ∀ (h : H) (pre : List S39) (t : List UInt8), pre.length + h.body.length ≤ 1000 → Ev (fun k => impl_readHydra.l0 k (bs (h.tb ++ 41 :: t)) pre) (pre ++ h.terms, bs t, true)
  | .nul, pre, t, _ => by
    refine ev_s ?_
    have g1 : ¬ ((bs (41 :: t)).toList = ([] : List UInt8)) := by rw [bs_list]; simp
    have g2 : (0 : Int) < ((bs (41 :: t)).size : Int) := by rw [bs_size, List.length_cons]; omega
    have g3 : (1 : Int) ≤ ((bs (41 :: t)).size : Int) := by rw [bs_size, List.length_cons]; omega
    have g5 : bt (bs (41 :: t)) 0 = 41 := by rw [bs_bt]; rfl
    simp only [H.tb, H.terms, List.nil_append, List.append_nil]
    simp only [impl_readHydra.l0, if_neg g1, if_pos g2, g5, show ((41 : Int) == 40) = false from rfl]
    refine ev_s ?_
    simp only [impl_readHydra.j2, Bool.false_eq_true, if_false, if_neg g1, if_pos g2, g5, if_true, if_pos g3, bs_cut]
    exact Ev.now _
  | .cons b r, pre, t, hp => by
    simp only [H.body, List.length_cons, List.length_append] at hp
    have ihb := read_l0 b [] (r.tb ++ 41 :: t) (by simp only [List.length_nil]; omega)
    have ihr := read_l0 r (pre ++ [⟨b.terms⟩]) t (by simp only [List.length_append, List.length_singleton]; omega)
    have e1 : (H.cons b r).tb ++ 41 :: t = 40 :: (b.tb ++ 41 :: (r.tb ++ 41 :: t)) := by simp [H.tb]
    have e2 : pre ++ (H.cons b r).terms = pre ++ [(⟨b.terms⟩ : S39)] ++ r.terms := by simp [H.terms]
    rw [e1, e2]
    generalize hr : b.tb ++ 41 :: (r.tb ++ 41 :: t) = rest at ihb
    have g1 : ¬ ((bs (40 :: rest)).toList = ([] : List UInt8)) := by rw [bs_list]; simp
    have g2 : (0 : Int) < ((bs (40 :: rest)).size : Int) := by rw [bs_size, List.length_cons]; omega
    have g5 : bt (bs (40 :: rest)) 0 = 40 := by rw [bs_bt]; rfl
    refine ev_s ?_
    simp only [impl_readHydra.l0, if_neg g1, if_pos g2, g5, show ((40 : Int) == 40) = true from rfl]
    refine ev_s ?_
    simp only [impl_readHydra.j2, if_true]
    rw [List.nil_append] at ihb
    refine Ev.bind (readHydra_in ihb) ?_
    simp only [if_true, if_pos (show pre.length < 5864062014805 by omega)]
    exact ihr
theorem read_good {h : H} (hh : h.body.length ≤ 1000) (t : List UInt8) : Ev (fun k => impl_readHydra.f k (bs (40 :: (h.tb ++ 41 :: t)))) (h.terms, bs t, true) := by
  have := read_l0 h [] t (by simpa using hh)
  rw [List.nil_append] at this
  exact readHydra_in this
theorem read_bad {l : List UInt8} (h : BadT l) : ∀ (pre : List S39), pre.length + l.length ≤ 1000 → ∃ x, Ev (fun k => impl_readHydra.l0 k (bs l) pre) ([], x, false) := by
  have fall : ∀ (r : List UInt8) (pre : List S39) {x : ByteArray}, Ev (fun k => impl_readHydra.f k (bs (40 :: r))) ([], x, false) → ∃ x, Ev (fun k => impl_readHydra.l0 k (bs (40 :: r)) pre) ([], x, false) := by
    intro rest pre x h
    have g1 : ¬ ((bs (40 :: rest)).toList = ([] : List UInt8)) := by rw [bs_list]; simp
    have g2 : (0 : Int) < ((bs (40 :: rest)).size : Int) := by rw [bs_size, List.length_cons]; omega
    have g5 : bt (bs (40 :: rest)) 0 = 40 := by rw [bs_bt]; rfl
    refine ⟨bs (40 :: rest), ?_⟩
    refine ev_s ?_
    simp only [impl_readHydra.l0, if_neg g1, if_pos g2, g5, show ((40 : Int) == 40) = true from rfl]
    refine ev_s ?_
    simp only [impl_readHydra.j2, if_true]
    refine Ev.bind h ?_
    simp only [Bool.false_eq_true, if_false]
    exact Ev.now _
  induction h with
  | stop l h =>
    intro pre _
    refine ⟨bs l, ?_⟩
    cases l with
    | nil =>
      refine ev_s ?_
      simp only [impl_readHydra.l0, bs_list, if_true]
      refine ev_s ?_
      simp only [impl_readHydra.j2, Bool.false_eq_true, if_false, bs_list, if_true]
      exact Ev.now _
    | cons x r =>
      obtain ⟨n0, n1⟩ := h x r rfl
      have g1 : ¬ ((bs (x :: r)).toList = ([] : List UInt8)) := by rw [bs_list]; simp
      have g2 : (0 : Int) < ((bs (x :: r)).size : Int) := by rw [bs_size, List.length_cons]; omega
      have g4 : ((bt (bs (x :: r)) 0) == 40) = false := by
        rw [bs_bt, beq_eq_false_iff_ne]
        intro e
        exact n0 (UInt8.toNat_inj.mp (by omega : x.toNat = 40))
      have g5 : ¬ (bt (bs (x :: r)) 0 = 41) := by
        rw [bs_bt]
        intro e
        exact n1 (UInt8.toNat_inj.mp (by omega : x.toNat = 41))
      refine ev_s ?_
      simp only [impl_readHydra.l0, if_neg g1, if_pos g2, g4]
      refine ev_s ?_
      simp only [impl_readHydra.j2, Bool.false_eq_true, if_false, if_neg g1, if_pos g2, if_neg g5]
      exact Ev.now _
  | deep r h ih =>
    intro pre hp
    simp only [List.length_cons] at hp
    obtain ⟨x, hx⟩ := ih [] (by simp only [List.length_nil]; omega)
    exact fall r pre (readHydra_in hx)
  | next b r h ih =>
    intro pre hp
    simp only [List.length_cons, List.length_append] at hp
    have hb := H.tb_len b
    obtain ⟨x, hx⟩ := ih (pre ++ [⟨b.terms⟩]) (by simp only [List.length_append, List.length_singleton]; omega)
    refine ⟨x, ?_⟩
    have hg := read_good (h := b) (by omega) r
    generalize hr : b.tb ++ 41 :: r = rest at hg
    have g1 : ¬ ((bs (40 :: rest)).toList = ([] : List UInt8)) := by rw [bs_list]; simp
    have g2 : (0 : Int) < ((bs (40 :: rest)).size : Int) := by rw [bs_size, List.length_cons]; omega
    have g5 : bt (bs (40 :: rest)) 0 = 40 := by rw [bs_bt]; rfl
    refine ev_s ?_
    simp only [impl_readHydra.l0, if_neg g1, if_pos g2, g5, show ((40 : Int) == 40) = true from rfl]
    refine ev_s ?_
    simp only [impl_readHydra.j2, if_true]
    refine Ev.bind hg ?_
    simp only [if_true, if_pos (show pre.length < 5864062014805 by omega)]
    exact hx
theorem row_l0 : ∀ (s : H) (pre : List S39) (a : List Int), pre.length + s.body.length ≤ 1000000 → a.length + s.body.length ≤ 1000000 →
    Ev (fun k => impl_hydra_row.l0 k a (pre ++ s.terms) (((pre ++ s.terms).length : Nat) : Int) (pre.length : Int)) (a ++ s.body)
  | .nul, pre, a, _, _ => by
    refine ev_s ?_
    simp only [impl_hydra_row.l0, H.terms, H.body, List.append_nil, Int.lt_irrefl, if_false]
    exact Ev.now _
  | .cons b r, pre, a, hp, ha => by
    have hrl := H.row_length b
    simp only [H.body, List.length_cons, List.length_append] at hp ha
    have hE : Ev (fun k => impl_hydra_row.f k b.terms) b.row := by
      refine ev_s ?_
      simp only [impl_hydra_row.f]
      have := row_l0 b [] [(b.len : Int)] (by simp; omega) (by simp; omega)
      rw [List.nil_append] at this
      simp only [H.terms_len] at this ⊢
      exact this
    have hlen : (pre ++ (H.cons b r).terms).length = pre.length + (r.terms.length + 1) := by simp [H.terms]
    have hmid : rd_T39 (pre ++ (H.cons b r).terms) (pre.length : Int) = ⟨b.terms⟩ := rd_T39_mid pre r.terms ⟨b.terms⟩
    have happ : pre ++ (H.cons b r).terms = (pre ++ [⟨b.terms⟩]) ++ r.terms := by simp [H.terms]
    have ew : wrap64 ((pre.length : Int) + 1) = (((pre ++ [(⟨b.terms⟩ : S39)]).length : Nat) : Int) := by
      rw [List.length_append, List.length_singleton]; exact wrap_nat2 pre.length 1 (by omega)
    have g1 : (pre.length : Int) < (((pre ++ (H.cons b r).terms).length : Nat) : Int) := by omega
    refine ev_s ?_
    simp only [impl_hydra_row.l0, if_pos g1, if_pos (show (0 : Int) ≤ (pre.length : Int) from Int.natCast_nonneg _), hmid]
    refine Ev.bind hE ?_
    simp only [if_pos (show a.length + b.row.length < 17592186044416 by omega), ew]
    rw [happ, H.body_cons, ← List.append_assoc]
    exact row_l0 r (pre ++ [⟨b.terms⟩]) (a ++ b.row) (by simp only [List.length_append, List.length_singleton]; omega) (by rw [List.length_append]; omega)
theorem row_ev {h : H} (hl : h.row.length ≤ 100000) : Ev (fun k => impl_hydra_row.f k h.terms) h.row := by
  rw [H.row_length] at hl
  refine ev_s ?_
  simp only [impl_hydra_row.f]
  have := row_l0 h [] [(h.len : Int)] (by simp; omega) (by simp; omega)
  rw [List.nil_append] at this
  simp only [H.terms_len] at this ⊢
  exact this
theorem grown_ev {h : H} (hl : h.row.length ≤ 100000) : Ev (fun k => impl_grown.f k h.terms) (if h.row.length ≤ 60 then (h.row, true) else ([], false)) := by
  simp only [impl_grown.f]
  refine Ev.bind (row_ev hl) ?_
  by_cases h60 : h.row.length ≤ 60
  · simp only [if_neg (show ¬ ((h.row.length : Int) > 60) by omega), if_pos h60, slices_Clip_int_int.f, Option.bind_some]
    exact Ev.now _
  · simp only [if_pos (show ((h.row.length : Int) > 60) by omega), if_neg h60]
    exact Ev.now _
theorem impl_ReadHydra_good {h : H} (hl : h.row.length ≤ 60) : Ev (fun k => impl_ReadHydra.f k (bs h.tl)) (h.row, true) := by
  have h1 := H.tl_len h
  have h2 := H.row_length h
  simp only [impl_ReadHydra.f, bs_size, if_neg (show ¬ ((h.tl.length : Int) > 120) by omega)]
  refine Ev.bind (read_good (h := h) (by omega) []) ?_
  simp only [if_true, bs_list]
  refine Ev.bind (grown_ev (by omega)) ?_
  simp only [if_pos hl]
  exact Ev.now _
theorem impl_ReadHydra_bad {l : List UInt8} (h : ∀ g : H, g.row.length ≤ 60 → l ≠ g.tl) : Ev (fun k => impl_ReadHydra.f k (bs l)) ([], false) := by
  by_cases hl : (l.length : Int) > 120
  · simp only [impl_ReadHydra.f, bs_size, if_pos hl]; exact Ev.now _
  · simp only [impl_ReadHydra.f, bs_size, if_neg hl]
    have fin : ∀ {a : List S39} {x : ByteArray} {b : Bool}, (b = true → x.toList ≠ []) → Ev (fun k => impl_readHydra.f k (bs l)) (a, x, b) → Ev (fun k => (impl_readHydra.f k (bs l)).bind fun bt193 => (if bt193.2.2 = true then (if bt193.2.1.toList = ([] : List UInt8) then ((impl_grown.f k bt193.1).bind fun bt198 => (some (bt198.1, bt198.2))) else (some (([] : List Int), false))) else (some (([] : List Int), false)))) ([], false) := by
      intro a x b hb he
      refine Ev.bind he ?_
      cases b with
      | false => simp only [Bool.false_eq_true, if_false]; exact Ev.now _
      | true => simp only [if_true, if_neg (hb rfl)]; exact Ev.now _
    cases l with
    | nil => obtain ⟨x, hx⟩ := readHydra_out (l := []) (fun r => by simp); exact fin (fun h => by cases h) hx
    | cons y r =>
      by_cases h0 : y = 40
      · subst h0
        simp only [List.length_cons] at hl
        rcases text_total r.length r (Nat.le_refl _) with ⟨g, t, rfl⟩ | hb
        · have h3 := H.tb_len g
          simp only [List.length_append, List.length_cons] at hl
          refine fin (fun _ => ?_) (read_good (h := g) (by omega) t)
          rw [bs_list]
          intro ht
          subst ht
          exact h g (by rw [H.row_length]; simp only [List.length_nil] at hl; omega) rfl
        · obtain ⟨x, hx⟩ := read_bad hb [] (by simp only [List.length_nil]; omega)
          exact fin (fun h => by cases h) (readHydra_in hx)
      · obtain ⟨x, hx⟩ := readHydra_out (l := y :: r) (fun r' e => h0 (List.cons.inj e).1); exact fin (fun h => by cases h) hx

-- part: hReadSpec
/-! ### the reference's reading -/
/-- What the reference does behind the last byte. -/
def readEnd (a : ByteArray) (out : List Int) (k : Nat) : Option (List Int × Bool) :=
  (spec_HydraText.f k out).bind fun t134 => (if t134.toList = a.toList then (if a.toList = ([] : List UInt8) then (some (([] : List Int), false)) else (some (out, true))) else (some (([] : List Int), false)))
theorem read_end {a : List UInt8} {i : Nat} (hi : a.length ≤ i) (out op : List Int) {r : List Int × Bool} (h : Ev (fun k => readEnd (bs a) out k) r) : Ev (fun k => spec_ReadHydra.l0 k (bs a) out op (i : Int)) r := by
  refine ev_s ?_
  simp only [spec_ReadHydra.l0, bs_size, if_neg (show ¬ ((i : Int) < (a.length : Int)) by omega)]
  exact h
theorem read_open {a : List UInt8} {i : Nat} (hi : i < a.length) (ha : a.length ≤ 10000000) (hx : a[i] = 40) {out op : List Int} {t : Nat} (ht : t < out.length) (ho : out.length ≤ 10000000) (hp : op.length ≤ 10000000) (h0 : 0 ≤ out[t]) (h1 : out[t] ≤ 10000000)
    {r : List Int × Bool} (h : Ev (fun k => spec_ReadHydra.l0 k (bs a) (out.set t (out[t] + 1) ++ [0]) (op ++ [(t : Int), (out.length : Int)]) ((i + 1 : Nat) : Int)) r) : Ev (fun k => spec_ReadHydra.l0 k (bs a) out (op ++ [(t : Int)]) (i : Int)) r := by
  have hb : bt (bs a) (i : Int) = 40 := by rw [bs_bt_at a i hi, hx]; rfl
  have hl : (op ++ [(t : Int)]).length = op.length + 1 := by simp
  have hw : wrap64 (((op ++ [(t : Int)]).length : Int) - 1) = (op.length : Int) := by rw [wrap_in (by omega) (by omega)]; omega
  have hr : rd (op ++ [(t : Int)]) (op.length : Int) = (t : Int) := by rw [rd_eq]; simp
  have hv : rd out (t : Int) = out[t] := rd_get ht
  refine ev_s ?_
  simp only [spec_ReadHydra.l0, bs_size, if_pos (show (i : Int) < (a.length : Int) by omega), if_pos (show (0 : Int) ≤ (i : Int) by omega), hb, if_true, if_pos (show ((op ++ [(t : Int)]).length : Int) > 0 by omega), hw, if_pos (show (0 : Int) ≤ (op.length : Int) by omega), if_pos (show (op.length : Int) < ((op ++ [(t : Int)]).length : Int) by omega), hr, if_pos (show (0 : Int) ≤ (t : Int) by omega), if_pos (show (t : Int) < (out.length : Int) by omega), hv, Option.bind_some, Int.toNat_natCast]
  simp only [if_pos (show (op ++ [(t : Int)]).length < 17592186044416 by omega), show wrap64 (out[t] + 1) = out[t] + 1 from wrap_in (by omega) (by omega), if_pos (show (out.set t (out[t] + 1)).length < 17592186044416 by rw [List.length_set]; omega), show wrap64 ((i : Int) + 1) = ((i + 1 : Nat) : Int) from wrap_nat2 i 1 (by omega), List.append_assoc, List.singleton_append]
  exact h
theorem read_first {a : List UInt8} {i : Nat} (hi : i < a.length) (ha : a.length ≤ 10000000) (hx : a[i] = 40) {out : List Int} (ho : out.length ≤ 10000000)
    {r : List Int × Bool} (h : Ev (fun k => spec_ReadHydra.l0 k (bs a) (out ++ [0]) [(out.length : Int)] ((i + 1 : Nat) : Int)) r) : Ev (fun k => spec_ReadHydra.l0 k (bs a) out [] (i : Int)) r := by
  have hb : bt (bs a) (i : Int) = 40 := by rw [bs_bt_at a i hi, hx]; rfl
  refine ev_s ?_
  simp only [spec_ReadHydra.l0, bs_size, if_pos (show (i : Int) < (a.length : Int) by omega), if_pos (show (0 : Int) ≤ (i : Int) by omega), hb, if_true, List.length_nil, if_neg (show ¬ (((0 : Nat) : Int) > 0) by omega), if_pos (show 0 < 17592186044416 by omega), if_pos (show out.length < 17592186044416 by omega), show wrap64 ((i : Int) + 1) = ((i + 1 : Nat) : Int) from wrap_nat2 i 1 (by omega), List.nil_append]
  exact h
theorem read_shut {a : List UInt8} {i : Nat} (hi : i < a.length) (ha : a.length ≤ 10000000) (hx : a[i] = 41) {out op : List Int} (t : Int) (hp : op.length ≤ 10000000)
    {r : List Int × Bool} (h : Ev (fun k => spec_ReadHydra.l0 k (bs a) out op ((i + 1 : Nat) : Int)) r) : Ev (fun k => spec_ReadHydra.l0 k (bs a) out (op ++ [t]) (i : Int)) r := by
  have hb : bt (bs a) (i : Int) = 41 := by rw [bs_bt_at a i hi, hx]; rfl
  have hl : (op ++ [t]).length = op.length + 1 := by simp
  have hw : wrap64 (((op ++ [t]).length : Int) - 1) = (op.length : Int) := by rw [wrap_in (by omega) (by omega)]; omega
  refine ev_s ?_
  simp only [spec_ReadHydra.l0, bs_size, if_pos (show (i : Int) < (a.length : Int) by omega), if_pos (show (0 : Int) ≤ (i : Int) by omega), hb, show ¬ ((41 : Int) = 40) by decide, if_false, if_true, if_pos (show ((op ++ [t]).length : Int) > 0 by omega), hw, if_pos (show (0 : Int) ≤ (op.length : Int) by omega), if_pos (show (op.length : Int) ≤ ((op ++ [t]).length : Int) by omega), Int.toNat_natCast, List.take_left', show wrap64 ((i : Int) + 1) = ((i + 1 : Nat) : Int) from wrap_nat2 i 1 (by omega)]
  exact h
theorem read_fall {a : List UInt8} {i : Nat} (hi : i < a.length) {out op : List Int} (hx : (a[i] ≠ 40 ∧ a[i] ≠ 41) ∨ (a[i] ≠ 40 ∧ op = [])) : Ev (fun k => spec_ReadHydra.l0 k (bs a) out op (i : Int)) ([], false) := by
  have hb : bt (bs a) (i : Int) = (a[i].toNat : Int) := bs_bt_at a i hi
  have h0 : a[i] ≠ 40 := by rcases hx with h | h <;> exact h.1
  have n0 : ¬ ((a[i].toNat : Int) = 40) := fun e => h0 (UInt8.toNat_inj.mp (by omega : a[i].toNat = 40))
  refine ev_s ?_
  simp only [spec_ReadHydra.l0, bs_size, if_pos (show (i : Int) < (a.length : Int) by omega), if_pos (show (0 : Int) ≤ (i : Int) by omega), hb, if_neg n0]
  rcases hx with h | h
  · have n1 : ¬ ((a[i].toNat : Int) = 41) := fun e => h.2 (UInt8.toNat_inj.mp (by omega : a[i].toNat = 41))
    simp only [if_neg n1]; exact Ev.now _
  · rw [h.2]
    by_cases n1 : (a[i].toNat : Int) = 41
    · simp only [if_pos n1, List.length_nil, if_neg (show ¬ (((0 : Nat) : Int) > 0) by omega)]; exact Ev.now _
    · simp only [if_neg n1]; exact Ev.now _
/-- Branches that are read. -/
theorem read_run : ∀ (h : H) (a pre suf : List UInt8) (out op : List Int) (t : Nat) (ht : t < out.length), a = pre ++ h.tb ++ suf → a.length ≤ 1000000 → out.length + h.body.length ≤ 1000000 → op.length + h.body.length ≤ 1000000 → 0 ≤ out[t] → out[t] + h.body.length ≤ 1000000 →
    ∀ {r : List Int × Bool}, Ev (fun k => spec_ReadHydra.l0 k (bs a) (out.set t (out[t] + h.len) ++ h.body) (op ++ [(t : Int)]) ((pre.length + h.tb.length : Nat) : Int)) r → Ev (fun k => spec_ReadHydra.l0 k (bs a) out (op ++ [(t : Int)]) (pre.length : Int)) r
  | .nul, a, pre, suf, out, op, t, ht, ha, hl, ho, hp, h0, h1, r, h => by
    have e : out.set t (out[t] + (((0 : Nat) : Int))) = out := by rw [show out[t] + ((0 : Nat) : Int) = out[t] by omega, List.set_getElem_self]
    simp only [H.len, H.body, H.tb, List.append_nil, List.length_nil, Nat.add_zero] at h
    rw [e] at h
    exact h
  | .cons b g, a, pre, suf, out, op, t, ht, ha, hl, ho, hp, h0, h1, r, h => by
    have hbl := H.tb_len b
    have hgl := H.tb_len g
    have hrow := H.row_length b
    have hlb := H.len_le b
    simp only [H.body, List.length_cons, List.length_append] at ho hp h1
    have ha' : a.length = pre.length + (b.tb.length + g.tb.length + 2) + suf.length := by rw [ha]; simp [H.tb]; omega
    -- the opening bracket
    refine read_open (by omega) (by omega) ?_ ht (by omega) (by omega) h0 (by omega) ?_
    · subst ha; simp [H.tb]
    -- the branch's own branches
    have e1 : op ++ [(t : Int), (out.length : Int)] = (op ++ [(t : Int)]) ++ [((out.length : Nat) : Int)] := by simp
    have hlen : (out.set t (out[t] + 1) ++ [(0 : Int)]).length = out.length + 1 := by simp
    have hat : (out.set t (out[t] + 1) ++ [(0 : Int)])[out.length]'(by omega) = 0 := by
      rw [List.getElem_append_right (by rw [List.length_set]; omega)]; simp
    rw [e1]
    have hpre : (pre ++ [(40 : UInt8)]).length = pre.length + 1 := by simp
    rw [← hpre]
    refine read_run b a (pre ++ [40]) (41 :: (g.tb ++ suf)) (out.set t (out[t] + 1) ++ [0]) (op ++ [(t : Int)]) out.length (by omega) (by rw [ha]; simp [H.tb]) hl (by omega) (by simp only [List.length_append, List.length_singleton]; omega) (by rw [hat]; omega) (by rw [hat]; omega) ?_
    have e2 : (out.set t (out[t] + 1) ++ [(0 : Int)]).set out.length ((out.set t (out[t] + 1) ++ [(0 : Int)])[out.length]'(by omega) + (b.len : Int)) ++ b.body = out.set t (out[t] + 1) ++ b.row := by
      rw [hat, List.set_append_right _ _ (by rw [List.length_set]; omega), List.length_set, Nat.sub_self, List.set_cons_zero, Int.zero_add, List.append_assoc]; rfl
    rw [e2]
    -- the closing bracket
    refine read_shut (by omega) (by omega) ?_ _ (by simp only [List.length_append, List.length_singleton]; omega) ?_
    · subst ha
      simp only [H.tb, hpre]
      have : pre ++ (40 :: (b.tb ++ 41 :: g.tb)) ++ suf = (pre ++ 40 :: b.tb) ++ 41 :: (g.tb ++ suf) := by simp
      simp only [this]
      rw [List.getElem_append_right (by simp; omega)]
      simp [Nat.add_assoc, Nat.add_comm, Nat.add_left_comm]
    -- the others
    have hlen2 : (out.set t (out[t] + 1) ++ b.row).length = out.length + b.row.length := by simp
    have hat2 : (out.set t (out[t] + 1) ++ b.row)[t]'(by omega) = out[t] + 1 := by
      rw [List.getElem_append_left (by rw [List.length_set]; exact ht), List.getElem_set_self]
    have hpre2 : (pre ++ 40 :: (b.tb ++ [(41 : UInt8)])).length = (pre ++ [(40 : UInt8)]).length + b.tb.length + 1 := by simp; omega
    rw [← hpre2]
    refine read_run g a (pre ++ 40 :: (b.tb ++ [41])) suf (out.set t (out[t] + 1) ++ b.row) op t (by omega) (by rw [ha]; simp [H.tb]) hl (by omega) (by omega) (by rw [hat2]; omega) (by rw [hat2]; omega) ?_
    have e3 : (out.set t (out[t] + 1) ++ b.row).set t ((out.set t (out[t] + 1) ++ b.row)[t]'(by omega) + (g.len : Int)) ++ g.body = out.set t (out[t] + ((H.cons b g).len : Int)) ++ (H.cons b g).body := by
      rw [hat2, List.set_append_left _ _ (by rw [List.length_set]; exact ht), List.set_set, H.body_cons, List.append_assoc]
      congr 2
      simp only [H.len]; omega
    rw [e3, show (pre ++ 40 :: (b.tb ++ [(41 : UInt8)])).length + g.tb.length = pre.length + (H.cons b g).tb.length by simp [H.tb]; omega]
    exact h
theorem read_whole {h : H} (hl : h.tl.length ≤ 1000000) {r : List Int × Bool} (hr : Ev (fun k => readEnd (bs h.tl) h.row k) r) : Ev (fun k => spec_ReadHydra.f k (bs h.tl)) r := by
  have h1 := H.tl_len h
  have h2 := H.row_length h
  have h3 := H.tb_len h
  simp only [spec_ReadHydra.f]
  refine read_first (a := h.tl) (i := 0) (by omega) (by omega) rfl (by simp) ?_
  simp only [List.nil_append, List.length_nil]
  refine read_run h h.tl [40] [41] [0] [] 0 (by simp) rfl hl (by simp; omega) (by simp; omega) (by simp) (by simp; omega) ?_
  have e : ([0] : List Int).set 0 (([0] : List Int)[0] + (h.len : Int)) ++ h.body = h.row := by simp [H.row]
  rw [e]
  refine read_shut (by simp [H.tl]; omega) (by omega) ?_ _ (by simp) ?_
  · have e5 : h.tl[([40] : List UInt8).length + h.tb.length]? = some 41 := by
      unfold H.tl
      rw [show (40 :: (h.tb ++ [(41 : UInt8)])) = (40 :: h.tb) ++ [41] by simp, List.getElem?_append_right (by simp; omega)]
      simp [Nat.add_comm]
    exact (List.getElem?_eq_some_iff.mp e5).2
  · exact read_end (by simp [H.tl]; omega) _ _ hr
/-- Whatever the text is: it is refused, or something stands there in the end. -/
theorem read_any (a : List UInt8) (ha : a.length ≤ 2000000) : ∀ (d i : Nat) (out op : List Int), i + d = a.length → out.length ≤ i → op.length ≤ i → (∀ x ∈ op, 0 ≤ x ∧ x < (out.length : Int)) → (∀ x ∈ out, 0 ≤ x ∧ x ≤ (i : Int)) →
    Ev (fun k => spec_ReadHydra.l0 k (bs a) out op (i : Int)) ([], false) ∨ ∃ out', ∀ r, Ev (fun k => readEnd (bs a) out' k) r → Ev (fun k => spec_ReadHydra.l0 k (bs a) out op (i : Int)) r
  | 0, i, out, op, hi, _, _, _, _ => .inr ⟨out, fun r h => read_end (by omega) out op h⟩
  | d + 1, i, out, op, hi, ho, hp, hop, hout => by
    have hlt : i < a.length := by omega
    by_cases h40 : a[i] = 40
    · rcases List.eq_nil_or_concat op with rfl | ⟨op', y, rfl⟩
      · have ih := read_any a ha d (i + 1) (out ++ [0]) [(out.length : Int)] (by omega) (by simp; omega) (by simp) (by intro x hx; simp at hx; subst hx; simp; omega) (by
          intro x hx
          rcases List.mem_append.mp hx with hx | hx
          · have := hout x hx; omega
          · simp at hx; subst hx; omega)
        rcases ih with ih | ⟨o, ih⟩
        · exact .inl (read_first hlt (by omega) h40 (by omega) ih)
        · exact .inr ⟨o, fun r h => read_first hlt (by omega) h40 (by omega) (ih r h)⟩
      · rw [List.concat_eq_append] at *
        have hy := hop y (by simp)
        obtain ⟨t, rfl⟩ := Int.eq_ofNat_of_zero_le hy.1
        have ht : t < out.length := by omega
        have hot := hout _ (List.getElem_mem ht)
        simp only [List.length_append, List.length_singleton] at hp
        have ih := read_any a ha d (i + 1) (out.set t (out[t] + 1) ++ [0]) (op' ++ [(t : Int), (out.length : Int)]) (by omega) (by simp; omega) (by simp; omega) (by
          intro x hx
          simp only [List.length_append, List.length_set, List.length_singleton]
          rcases List.mem_append.mp hx with hx | hx
          · have := hop x (by simp [hx]); omega
          · simp at hx; rcases hx with rfl | rfl <;> omega) (by
          intro x hx
          rcases List.mem_append.mp hx with hx | hx
          · rcases List.mem_or_eq_of_mem_set hx with hx | rfl
            · have := hout x hx; omega
            · omega
          · simp at hx; subst hx; omega)
        rcases ih with ih | ⟨o, ih⟩
        · exact .inl (read_open hlt (by omega) h40 ht (by omega) (by omega) hot.1 (by omega) ih)
        · exact .inr ⟨o, fun r h => read_open hlt (by omega) h40 ht (by omega) (by omega) hot.1 (by omega) (ih r h)⟩
    · rcases List.eq_nil_or_concat op with rfl | ⟨op', y, rfl⟩
      · exact .inl (read_fall hlt (.inr ⟨h40, rfl⟩))
      · rw [List.concat_eq_append] at *
        by_cases h41 : a[i] = 41
        · simp only [List.length_append, List.length_singleton] at hp
          have ih := read_any a ha d (i + 1) out op' (by omega) (by omega) (by omega) (fun x hx => hop x (by simp [hx])) (fun x hx => by have := hout x hx; omega)
          rcases ih with ih | ⟨o, ih⟩
          · exact .inl (read_shut hlt (by omega) h41 y (by omega) ih)
          · exact .inr ⟨o, fun r h => read_shut hlt (by omega) h41 y (by omega) (ih r h)⟩
        · exact .inl (read_fall hlt (.inl ⟨h40, h41⟩))
theorem readEnd_good {h : H} (hl : h.row.length ≤ 60) : Ev (fun k => readEnd (bs h.tl) h.row k) (h.row, true) := by
  unfold readEnd
  refine Ev.bind (spec_HydraText_good hl) ?_
  rw [H.text_bs]
  simp only [if_true, bs_list, if_neg (show ¬ (h.tl = []) by simp [H.tl])]
  exact Ev.now _
theorem readEnd_bad {a : List UInt8} (h : ∀ g : H, g.row.length ≤ 60 → a ≠ g.tl) (out : List Int) : Ev (fun k => readEnd (bs a) out k) ([], false) := by
  unfold readEnd
  rcases hydra_or out with ⟨g, rfl, hg⟩ | hn
  · refine Ev.bind (spec_HydraText_good hg) ?_
    rw [H.text_bs]
    simp only [bs_list, if_neg (show ¬ (g.tl = a) from fun e => h g hg e.symm)]
    exact Ev.now _
  · refine Ev.bind (spec_HydraText_bad hn) ?_
    rw [show (⟨#[]⟩ : ByteArray) = bs [] from rfl]
    simp only [bs_list]
    by_cases e : ([] : List UInt8) = a
    · simp only [if_pos e, if_pos e.symm]; exact Ev.now _
    · simp only [if_neg e]; exact Ev.now _
theorem spec_ReadHydra_good {h : H} (hl : h.row.length ≤ 60) : Ev (fun k => spec_ReadHydra.f k (bs h.tl)) (h.row, true) := read_whole (by rw [H.tl_len]; omega) (readEnd_good hl)
theorem spec_ReadHydra_bad {a : List UInt8} (ha : a.length ≤ 2000000) (h : ∀ g : H, g.row.length ≤ 60 → a ≠ g.tl) : Ev (fun k => spec_ReadHydra.f k (bs a)) ([], false) := by
  simp only [spec_ReadHydra.f]
  rcases read_any a ha a.length 0 [] [] (by omega) (by simp) (by simp) (by simp) (by simp) with h1 | ⟨o, h1⟩
  · exact h1
  · exact h1 _ (readEnd_bad h o)
/-- A text is that of a hydra, or of none. -/
theorem text_or (a : List UInt8) : (∃ h : H, a = h.tl ∧ h.row.length ≤ 60) ∨ ∀ g : H, g.row.length ≤ 60 → a ≠ g.tl := by
  by_cases h : ∃ h : H, a = h.tl ∧ h.row.length ≤ 60
  · exact .inl h
  · exact .inr (fun g hg e => h ⟨g, e, hg⟩)

-- part: draw
/-! ### the reader of a code -/
def Bytes (b : List Int) : Prop := b.length ≤ 2000 ∧ ∀ x ∈ b, 0 ≤ x ∧ x ≤ 255
theorem u8_of_wf {x : Int} (h : (Lit.int .u8 x).wf = true) : 0 ≤ x ∧ x ≤ 255 := by
  simp [Lit.wf, IntKind.min, IntKind.max, IntKind.bits, IntKind.signed] at h
  omega
theorem open_ev (l : List Int) (h : ∀ x ∈ l, (Lit.int .u8 x).wf = true) : ∃ b, Bytes b ∧ spec_l20Open.f l = some (b, ((0 : Nat) : Int)) := by
  have h' : ∀ x ∈ l, 0 ≤ x ∧ x ≤ 255 := fun x hx => u8_of_wf (h x hx)
  unfold spec_l20Open.f
  by_cases hl : (l.length : Int) > 2000
  · rw [if_pos hl, if_pos (by omega)]
    exact ⟨l.take 2000, ⟨by simp; omega, fun x hx => h' x (List.mem_of_mem_take hx)⟩, rfl⟩
  · rw [if_neg hl]
    exact ⟨l, ⟨by omega, h'⟩, rfl⟩
theorem rd_byte {b : List Int} (hb : Bytes b) {i : Int} (h0 : 0 ≤ i) (h1 : i < (b.length : Int)) : 0 ≤ rd b i ∧ rd b i ≤ 255 := by
  obtain ⟨n, rfl⟩ := Int.eq_ofNat_of_zero_le h0
  rw [rd_get (show n < b.length by omega)]
  exact hb.2 _ (List.getElem_mem _)
theorem wraps_i64 (n : Int) (h0 : 0 ≤ n) (h1 : n < 2 ^ 62) : IntKind.i64.wrap n = n := by rw [IntKind.wrap_i64]; omega
theorem xor_pos (a b : Nat) (ha : a < 2 ^ 62) (hb : b < 2 ^ 62) : Go.bits .xor .i64 (a : Int) (b : Int) = ((a ^^^ b : Nat) : Int) := by
  have ha' : a % 2 ^ IntKind.i64.bits = a := Nat.mod_eq_of_lt (Nat.lt_of_lt_of_le ha (by decide))
  have hb' : b % 2 ^ IntKind.i64.bits = b := Nat.mod_eq_of_lt (Nat.lt_of_lt_of_le hb (by decide))
  simp only [bits, BitVec.ofInt_natCast, BitVec.toNat_xor, BitVec.toNat_ofNat, ha', hb']
  exact wraps_i64 _ (Int.natCast_nonneg _) (by exact_mod_cast Nat.xor_lt_two_pow ha hb)
theorem pick_sum (r1 r2 p t : Int) (h1 : 0 ≤ r1 ∧ r1 ≤ 255) (h2 : 0 ≤ r2 ∧ r2 ≤ 255) (hp : 0 ≤ p ∧ p ≤ 1000000000000) (ht : 0 ≤ t ∧ t ≤ 1000000000000) :
    wrap64 ((wrap64 ((wrap64 ((wrap64 ((wrap64 r1) * 131)) + (wrap64 ((wrap64 r2) * 1117)))) + (wrap64 (p * 29)))) + (wrap64 ((wrap64 t) * 53))) = r1 * 131 + r2 * 1117 + p * 29 + t * 53 := by
  rw [wrap_in (x := r1) (by omega) (by omega), wrap_in (x := r2) (by omega) (by omega), wrap_in (x := t) (by omega) (by omega), wrap_in (x := r1 * 131) (by omega) (by omega), wrap_in (x := r2 * 1117) (by omega) (by omega), wrap_in (x := p * 29) (by omega) (by omega), wrap_in (x := t * 53) (by omega) (by omega), wrap_in (x := r1 * 131 + r2 * 1117) (by omega) (by omega), wrap_in (x := r1 * 131 + r2 * 1117 + p * 29) (by omega) (by omega), wrap_in (by omega) (by omega)]
theorem pick_mod (x n : Int) (hx : 0 ≤ x) (hn : 0 < n) : 0 ≤ Int.tmod x n ∧ Int.tmod x n < n := by
  rw [Int.tmod_eq_emod_of_nonneg hx]
  exact ⟨Int.emod_nonneg _ (by omega), Int.emod_lt_of_pos _ hn⟩
theorem pick_ev (b : List Int) (hb : Bytes b) (p : Nat) (hp : p ≤ 100000000000) (n : Int) : ∃ v : Int, 0 ≤ v ∧ (v < n ∨ v = 0) ∧ Ev (fun k => spec_l20Rd_pick.f k b (p : Int) n) (v, ((p + 1 : Nat) : Int)) := by
  have e1 : wrap64 ((p : Int) + 1) = ((p + 1 : Nat) : Int) := by rw [wrap_in (by omega) (by omega)]; rfl
  have e2 : wrap64 (((p + 1 : Nat) : Int) - 1) = (p : Int) := by rw [wrap_in (by omega) (by omega)]; omega
  by_cases hn : n < 1
  · refine ⟨0, Int.le_refl _, .inr rfl, ?_⟩
    simp only [spec_l20Rd_pick.f, if_pos hn, e1]
    refine ev_s ?_
    simp only [spec_l20Rd_pick.j0, if_true]
    exact Ev.now _
  · by_cases hl : b.length = 0
    · refine ⟨0, Int.le_refl _, .inr rfl, ?_⟩
      simp only [spec_l20Rd_pick.f, if_neg hn, e1, hl]
      refine ev_s ?_
      simp only [spec_l20Rd_pick.j0]
      exact Ev.now _
    · by_cases hlt : (p : Int) < (b.length : Int)
      · have hby := rd_byte hb (show (0 : Int) ≤ (p : Int) by omega) hlt
        have hm := pick_mod (rd b p) n hby.1 (by omega)
        refine ⟨Int.tmod (rd b p) n, hm.1, .inl hm.2, ?_⟩
        simp only [spec_l20Rd_pick.f, if_neg hn, e1, show ((b.length : Int) == 0) = false by simp; exact fun h => hl (by rw [h]; rfl)]
        refine ev_s ?_
        simp only [spec_l20Rd_pick.j0, Bool.false_eq_true, if_false, e2, if_pos hlt, if_pos (show (0 : Int) ≤ (p : Int) by omega), if_neg (show ¬ n = 0 by omega), wrap_in (x := rd b p) (by omega) (by omega)]
        exact Ev.now _
      · have hl0 : ¬ ((b.length : Int) = 0) := by omega
        have m1 := pick_mod (p : Int) (b.length : Int) (by omega) (by omega)
        have m2 := pick_mod ((p : Int) * 7 + 3) (b.length : Int) (by omega) (by omega)
        have b1 := rd_byte hb m1.1 m1.2
        have b2 := rd_byte hb m2.1 m2.2
        have d1 : 0 ≤ Int.tdiv (p : Int) (b.length : Int) := Int.tdiv_nonneg (by omega) (by omega)
        have d2 : Int.tdiv (p : Int) (b.length : Int) ≤ (p : Int) := Int.tdiv_le_self _ (by omega)
        have hs := pick_sum _ _ (p : Int) (Int.tdiv (p : Int) (b.length : Int)) b1 b2 (by omega) (by omega)
        obtain ⟨X, hX⟩ : ∃ X : Int, X = rd b (Int.tmod (p : Int) (b.length : Int)) * 131 + rd b (Int.tmod ((p : Int) * 7 + 3) (b.length : Int)) * 1117 + (p : Int) * 29 + Int.tdiv (p : Int) (b.length : Int) * 53 := ⟨_, rfl⟩
        rw [← hX] at hs
        have x0 : 0 ≤ X ∧ X < 20000000000000 := by omega
        have t0 : 0 ≤ Int.tdiv X 64 := Int.tdiv_nonneg (by omega) (by omega)
        have t1 : Int.tdiv X 64 ≤ X := Int.tdiv_le_self _ (by omega)
        have hbit : 0 ≤ Go.bits .xor .i64 X (Int.tdiv X 64) := by
          obtain ⟨u, hu⟩ := Int.eq_ofNat_of_zero_le x0.1
          obtain ⟨v, hv⟩ := Int.eq_ofNat_of_zero_le t0
          rw [hv, hu]
          rw [xor_pos u v (by omega) (by omega)]
          omega
        have hm := pick_mod _ n hbit (by omega)
        refine ⟨_, hm.1, .inl hm.2, ?_⟩
        simp only [spec_l20Rd_pick.f, if_neg hn, e1, show ((b.length : Int) == 0) = false by simp; exact fun h => hl (by rw [h]; rfl)]
        refine ev_s ?_
        simp only [spec_l20Rd_pick.j0, Bool.false_eq_true, if_false, e2, if_neg hlt, if_neg hl0, wrap_in (x := (p : Int) * 7) (by omega) (by omega), wrap_in (x := (p : Int) * 7 + 3) (by omega) (by omega), if_pos m1.1, if_pos m1.2, if_pos m2.1, if_pos m2.2, if_neg (show ¬ n = 0 by omega), hs, wrap_in (x := Int.tdiv X 64) (by omega) (by omega)]
        exact Ev.now _
theorem odd_ev (b : List Int) (hb : Bytes b) (p : Nat) (hp : p ≤ 100000000000) (n : Int) (hn : n ≤ 1000000) : ∃ (v : Bool) (q : Nat), q ≤ p + 1 ∧ Ev (fun k => spec_l20Rd_odd.f k b (p : Int) n) (v, (q : Int)) := by
  by_cases h : n > 0
  · obtain ⟨v, h0, h1, he⟩ := pick_ev b hb p hp n
    refine ⟨(v == wrap64 (n - 1)), p + 1, Nat.le_refl _, ?_⟩
    simp only [spec_l20Rd_odd.f, if_pos h]
    refine Ev.bind he ?_
    exact Ev.now _
  · refine ⟨false, p, by omega, ?_⟩
    simp only [spec_l20Rd_odd.f, if_neg h]
    exact Ev.now _

-- part: l5Tree
theorem rd_L3_get {x : List (List Int)} {i : Nat} (h : i < x.length) : rd_L3 x (i : Int) = x[i] := by simp [rd_L3, h]
theorem l5Tree_l0 (x : List (List Int)) (hx : x.length ≤ 1000000) : ∀ (d i : Nat) (out : List Int), i + d = x.length → out.length + (x.drop i).flatten.length ≤ 1000000 → Ev (fun k => spec_l5Tree.l0 k x out (i : Int)) (out ++ (x.drop i).flatten)
  | 0, i, out, h, _ => by
    refine ev_s ?_
    simp only [spec_l5Tree.l0, if_neg (show ¬ ((i : Int) < (x.length : Int)) by omega)]
    rw [List.drop_eq_nil_of_le (by omega)]
    exact ev_now (by simp)
  | d + 1, i, out, h, hl => by
    have hi : i < x.length := by omega
    rw [List.drop_eq_getElem_cons hi, List.flatten_cons] at hl ⊢
    simp only [List.length_append] at hl
    refine ev_s ?_
    simp only [spec_l5Tree.l0, if_pos (show (i : Int) < (x.length : Int) by omega), if_pos (show 0 ≤ (i : Int) by omega), rd_L3_get hi, if_pos (show out.length + x[i].length < 17592186044416 by omega), show wrap64 ((i : Int) + 1) = ((i + 1 : Nat) : Int) from wrap_nat2 i 1 (by omega)]
    exact ev_eq (l5Tree_l0 x hx d (i + 1) (out ++ x[i]) (by omega) (by simp only [List.length_append]; omega)) (by simp)
theorem l5Tree_ev (x : List (List Int)) (hx : x.length ≤ 1000000) (hl : x.flatten.length ≤ 999999) : Ev (fun k => spec_l5Tree.f k x) ((x.length : Int) :: x.flatten) := by
  have := l5Tree_l0 x hx x.length 0 [(x.length : Int)] (by omega) (by simp only [List.drop_zero, List.length_singleton]; omega)
  exact ev_eq this (by simp)

-- part: l20Hydra
def treeL : Nat → Nat
  | 0 => 1
  | d + 1 => 3 * treeL d + 1
theorem treeL_le {d : Nat} (h : d ≤ 3) : treeL d ≤ 40 := by
  match d, h with
  | 0, _ => decide
  | 1, _ => decide
  | 2, _ => decide
  | 3, _ => decide
theorem treeL_pos : ∀ d, 1 ≤ treeL d
  | 0 => Nat.le_refl _
  | d + 1 => by simp only [treeL]; omega
theorem l20Tree_ev (b : List Int) (hb : Bytes b) : ∀ (d : Nat), d ≤ 3 → ∀ p : Nat, p + treeL d ≤ 10000000 → ∃ (out : List Int) (q : Nat), out.length ≤ treeL d ∧ q ≤ p + treeL d ∧ Ev (fun k => spec_l20Tree.f k b (p : Int) (d : Int)) (out, (q : Int))
  | 0, _, p, hp => by
    obtain ⟨v, hv0, _, he⟩ := pick_ev b hb p (by omega) 4
    refine ⟨[0], p + 1, by simp [treeL], by simp [treeL], ?_⟩
    have ht := l5Tree_ev [] (by simp) (by simp)
    refine ev_s ?_
    simp only [spec_l20Tree.f]
    refine Ev.bind he ?_
    refine ev_s ?_
    by_cases h : v > 0
    · simp only [spec_l20Tree.l0, if_pos h, if_neg (show ¬ (((0 : Nat) : Int) > 0) by decide)]
      exact Ev.bind ht (Ev.now _)
    · simp only [spec_l20Tree.l0, if_neg h]
      exact Ev.bind ht (Ev.now _)
  | d + 1, hd, p, hp => by
    simp only [treeL] at hp
    have hL := treeL_le (show d ≤ 3 by omega)
    have hP := treeL_pos d
    have loop : ∀ (m : Nat) (x : List (List Int)) (p : Nat), x.length + m ≤ 3 → x.flatten.length ≤ x.length * treeL d → p + m * treeL d ≤ 10000000 → ∃ (out : List Int) (q : Nat), out.length ≤ 3 * treeL d + 1 ∧ q ≤ p + m * treeL d ∧ Ev (fun k => spec_l20Tree.l0 k ((d + 1 : Nat) : Int) x (m : Int) b (p : Int)) (out, (q : Int)) := by
      intro m
      induction m with
      | zero =>
        intro x p hx hf hp
        have h3 : x.length * treeL d ≤ 3 * treeL d := Nat.mul_le_mul_right _ (by omega)
        refine ⟨(x.length : Int) :: x.flatten, p, by simp only [List.length_cons]; omega, by omega, ?_⟩
        refine ev_s ?_
        simp only [spec_l20Tree.l0, if_neg (show ¬ (((0 : Nat) : Int) > 0) by decide)]
        exact Ev.bind (l5Tree_ev x (by omega) (by omega)) (Ev.now _)
      | succ m ih =>
        intro x p hx hf hp
        rw [Nat.succ_mul] at hp
        obtain ⟨o, q, ho, hq, he⟩ := l20Tree_ev b hb d (by omega) p (by omega)
        obtain ⟨out, q2, h1, h2, hE⟩ := ih (x ++ [o]) q (by simp only [List.length_append, List.length_singleton]; omega) (by simp only [List.flatten_append, List.flatten_cons, List.flatten_nil, List.append_nil, List.length_append, List.length_singleton, Nat.add_mul, Nat.one_mul]; omega) (by omega)
        refine ⟨out, q2, h1, by rw [Nat.succ_mul]; omega, ?_⟩
        refine ev_s ?_
        simp only [spec_l20Tree.l0, if_pos (show ((m + 1 : Nat) : Int) > 0 by omega), if_pos (show ((d + 1 : Nat) : Int) > 0 by omega), show wrap64 (((d + 1 : Nat) : Int) - 1) = (d : Int) by rw [wrap_in (by omega) (by omega)]; omega, show wrap64 (((m + 1 : Nat) : Int) - 1) = (m : Int) by rw [wrap_in (by omega) (by omega)]; omega]
        refine Ev.bind he ?_
        simp only [if_pos (show x.length < 5864062014805 by omega)]
        exact hE
    obtain ⟨v, hv0, hv1, he⟩ := pick_ev b hb p (by omega) 4
    obtain ⟨n, rfl⟩ := Int.eq_ofNat_of_zero_le hv0
    have hn3 : n * treeL d ≤ 3 * treeL d := Nat.mul_le_mul_right _ (by omega)
    obtain ⟨out, q, h1, h2, hE⟩ := loop n [] (p + 1) (by simp; omega) (by simp) (by omega)
    refine ⟨out, q, by simp only [treeL]; omega, by simp only [treeL]; omega, ?_⟩
    refine ev_s ?_
    simp only [spec_l20Tree.f]
    exact Ev.bind he hE
theorem l20Hydra_j2 (b : List Int) (hb : Bytes b) (n : Int) (hn : n ≤ 1000000) (x : List Int) (hx : x.length ≤ 60) (p : Nat) (hp : p ≤ 20000000) : ∃ (out : List Int) (q : Nat), out.length ≤ 61 ∧ q ≤ p + 2 ∧ Ev (fun k => spec_l20Hydra.j2 k n x b (p : Int)) (out, (q : Int)) := by
  obtain ⟨o, q, hq, he⟩ := odd_ev b hb p (by omega) n hn
  cases o with
  | false =>
    refine ⟨x, q, by omega, by omega, ?_⟩
    refine ev_s ?_
    simp only [spec_l20Hydra.j2]
    refine Ev.bind he ?_
    simp only [Bool.false_eq_true, if_false]
    exact Ev.now _
  | true =>
    obtain ⟨v, _, _, he2⟩ := pick_ev b hb q (by omega) 4
    have key : ∀ out : List Int, Ev (fun k => (if v = 0 then (some ((([] : List Int)), ((q + 1 : Nat) : Int))) else (if v = 1 then ((some (([] : List Int) : List Int)).bind fun y228 => (if y228.length + x.length < 17592186044416 then ((some (y228 ++ x : List Int)).bind fun y231 => (if y231.length < 17592186044416 then (some ((y231 ++ [0]), ((q + 1 : Nat) : Int))) else (none))) else (none))) else (if v = 2 then (some ((([1] : List Int)), ((q + 1 : Nat) : Int))) else (some ((([(-1)] : List Int)), ((q + 1 : Nat) : Int))))) : Option (List Int × Int))) (out, ((q + 1 : Nat) : Int)) → Ev (fun k => spec_l20Hydra.j2 k n x b (p : Int)) (out, ((q + 1 : Nat) : Int)) := by
      intro out h
      refine ev_s ?_
      simp only [spec_l20Hydra.j2]
      refine Ev.bind he ?_
      simp only [if_true]
      exact Ev.bind he2 h
    by_cases h0 : v = 0
    · exact ⟨[], q + 1, by simp, by omega, key _ (by simp only [if_pos h0]; exact Ev.now _)⟩
    · by_cases h1 : v = 1
      · refine ⟨x ++ [0], q + 1, by simp; omega, by omega, key _ ?_⟩
        simp only [if_neg h0, if_pos h1, Option.bind_some, List.nil_append, List.length_nil, if_pos (show 0 + x.length < 17592186044416 by omega), if_pos (show x.length < 17592186044416 by omega)]
        exact Ev.now _
      · by_cases h2 : v = 2
        · exact ⟨[1], q + 1, by simp, by omega, key _ (by simp only [if_neg h0, if_neg h1, if_pos h2]; exact Ev.now _)⟩
        · exact ⟨[-1], q + 1, by simp, by omega, key _ (by simp only [if_neg h0, if_neg h1, if_neg h2]; exact Ev.now _)⟩
theorem l20Hydra_l0 (b : List Int) (hb : Bytes b) (n : Int) (hn : n ≤ 1000000) : ∀ (d i : Nat) (x : List Int) (p : Nat), i + d = 5 → x.length ≤ 60 → p ≤ 1000000 + i * 41 → ∃ (out : List Int) (q : Nat), out.length ≤ 61 ∧ q ≤ p + d * 41 + 2 ∧ Ev (fun k => spec_l20Hydra.l0 k n x (i : Int) b (p : Int)) (out, (q : Int)) := by
  have fin : ∀ (i : Nat) (x : List Int) (p : Nat), i ≤ 5 → x.length ≤ 60 → p ≤ 1000000 + i * 41 → ∃ (out : List Int) (q : Nat), out.length ≤ 61 ∧ q ≤ p + 2 ∧ Ev (fun k => spec_l20Hydra.j1 k n x (i : Int) false b (p : Int)) (out, (q : Int)) := by
    intro i x p hi hx hp
    obtain ⟨out, q, h1, h2, hE⟩ := l20Hydra_j2 b hb n hn x hx p (by omega)
    refine ⟨out, q, h1, h2, ?_⟩
    refine ev_s ?_
    simp only [spec_l20Hydra.j1, Bool.false_eq_true, if_false, if_neg (show ¬ ((x.length : Int) > 60) by omega)]
    exact hE
  intro d
  induction d with
  | zero =>
    intro i x p hi hx hp
    obtain ⟨out, q, h1, h2, hE⟩ := fin i x p (by omega) hx hp
    refine ⟨out, q, h1, by omega, ?_⟩
    refine ev_s ?_
    simp only [spec_l20Hydra.l0, if_neg (show ¬ ((i : Int) < 5) by omega)]
    exact hE
  | succ d ih =>
    intro i x p hi hx hp
    have more : ∃ (out : List Int) (q : Nat), out.length ≤ 61 ∧ q ≤ p + (d + 1) * 41 + 2 ∧ Ev (fun k => spec_l20Hydra.j1 k n x (i : Int) true b (p : Int)) (out, (q : Int)) := by
      obtain ⟨v, hv0, hv1, he⟩ := pick_ev b hb p (by omega) 3
      obtain ⟨m, rfl⟩ := Int.eq_ofNat_of_zero_le hv0
      have hL := treeL_le (show 1 + m ≤ 3 by omega)
      obtain ⟨x2, q, h1, h2, hE⟩ := l20Tree_ev b hb (1 + m) (by omega) (p + 1) (by omega)
      obtain ⟨out, q2, h3, h4, hE2⟩ := ih (i + 1) x2 q (by omega) (by omega) (by omega)
      refine ⟨out, q2, h3, by omega, ?_⟩
      refine ev_s ?_
      simp only [spec_l20Hydra.j1, if_true]
      refine Ev.bind he ?_
      simp only [show wrap64 (1 + (m : Int)) = ((1 + m : Nat) : Int) by rw [wrap_in (by omega) (by omega)]; omega]
      refine Ev.bind hE ?_
      simp only [show wrap64 ((i : Int) + 1) = ((i + 1 : Nat) : Int) from wrap_nat2 i 1 (by omega)]
      exact hE2
    obtain ⟨out1, q1, a1, a2, aE⟩ := fin i x p (by omega) hx hp
    obtain ⟨out2, q2, b1, b2, bE⟩ := more
    by_cases h20 : (x.length : Int) > 20
    · refine ⟨out2, q2, b1, b2, ev_s ?_⟩
      simp only [spec_l20Hydra.l0, if_pos (show (i : Int) < 5 by omega), if_pos h20]
      exact bE
    · by_cases h3 : (x.length : Int) < 3
      · refine ⟨out2, q2, b1, b2, ev_s ?_⟩
        simp only [spec_l20Hydra.l0, if_pos (show (i : Int) < 5 by omega), if_neg h20, decide_eq_true h3]
        exact bE
      · refine ⟨out1, q1, a1, by omega, ev_s ?_⟩
        simp only [spec_l20Hydra.l0, if_pos (show (i : Int) < 5 by omega), if_neg h20, decide_eq_false h3]
        exact aE
theorem l20Hydra_ev (b : List Int) (hb : Bytes b) (p : Nat) (hp : p ≤ 100000) (n : Int) (hn : n ≤ 1000000) : ∃ (out : List Int) (q : Nat), out.length ≤ 61 ∧ q ≤ p + 300 ∧ Ev (fun k => spec_l20Hydra.f k b (p : Int) n) (out, (q : Int)) := by
  have hL := treeL_le (Nat.le_refl 3)
  obtain ⟨x, q, h1, h2, hE⟩ := l20Tree_ev b hb 3 (Nat.le_refl 3) p (by omega)
  obtain ⟨out, q2, h3, h4, hE2⟩ := l20Hydra_l0 b hb n hn 5 0 x q rfl (by omega) (by omega)
  refine ⟨out, q2, h3, by omega, ?_⟩
  simp only [spec_l20Hydra.f]
  exact Ev.bind hE hE2

-- part: alive
theorem alive_ev : Ev (fun k => laws_alive.f k) true := Ev.of laws_alive.mono (k := 20) (by decide +kernel)

-- part: law_FnReadHydra
theorem HydraText_any (l : List Int) : ∃ t : ByteArray, t.size ≤ 200 ∧ Ev (fun k => spec_HydraText.f k l) t := by
  rcases hydra_or l with ⟨h, rfl, hh⟩ | h
  · exact ⟨h.text, by rw [H.text_size]; omega, spec_HydraText_good hh⟩
  · exact ⟨_, by decide, spec_HydraText_bad h⟩
theorem rdBits : ∀ i : Int, (rdOf ByteArray.empty [(⟨#[]⟩ : ByteArray), (⟨#[40]⟩ : ByteArray), (⟨#[41]⟩ : ByteArray), (⟨#[40, 41]⟩ : ByteArray), (⟨#[120]⟩ : ByteArray)] i).size ≤ 2 := by
  intro i
  unfold rdOf
  match i.toNat with
  | 0 => decide
  | 1 => decide
  | 2 => decide
  | 3 => decide
  | 4 => decide
  | n + 5 => simp
theorem DrawReadHydra_ev (l : List Int) (h : ∀ x ∈ l, (Lit.int .u8 x).wf = true) : ∃ t : ByteArray, t.size ≤ 1000 ∧ Ev (fun k => spec_DrawReadHydra.f k l) t := by
  obtain ⟨b, hb, ho⟩ := open_ev l h
  obtain ⟨out, q, h1, hq, hE⟩ := l20Hydra_ev b hb 0 (by omega) 0 (by omega)
  obtain ⟨t, ht, hT⟩ := HydraText_any out
  obtain ⟨v, v0, v1, hP⟩ := pick_ev b hb q (by omega) 3
  obtain ⟨c, c0, c1, hC⟩ := pick_ev b hb (q + 1) (by omega) (t.size : Int)
  obtain ⟨d, d0, d1, hD⟩ := pick_ev b hb (q + 1 + 1) (by omega) 5
  have hj : ∀ f : Bool, (f = true → 0 < t.size) → ∃ t' : ByteArray, t'.size ≤ 1000 ∧ Ev (fun k => spec_DrawReadHydra.j0 k t f b ((q + 1 : Nat) : Int)) t' := by
    intro f hf
    cases f with
    | false =>
      refine ⟨t, by omega, ?_⟩
      refine ev_s ?_
      simp only [spec_DrawReadHydra.j0, Bool.false_eq_true, if_false]
      exact Ev.now _
    | true =>
      have hpos := hf rfl
      have e1 : (t.extract 0 c.toNat).size ≤ t.size := by rw [ByteArray.size_extract]; omega
      have e2 : (t.extract (wrap64 (c + 1)).toNat t.size).size ≤ t.size := by rw [ByteArray.size_extract]; omega
      have e3 := rdBits d
      have ew : wrap64 (c + 1) = c + 1 := wrap_in (by omega) (by omega)
      have e4 : ((t.extract 0 c.toNat) ++ (rdOf ByteArray.empty [(⟨#[]⟩ : ByteArray), (⟨#[40]⟩ : ByteArray), (⟨#[41]⟩ : ByteArray), (⟨#[40, 41]⟩ : ByteArray), (⟨#[120]⟩ : ByteArray)] d)).size ≤ t.size + 2 := by rw [ByteArray.size_append]; omega
      refine ⟨((t.extract 0 c.toNat) ++ (rdOf ByteArray.empty [(⟨#[]⟩ : ByteArray), (⟨#[40]⟩ : ByteArray), (⟨#[41]⟩ : ByteArray), (⟨#[40, 41]⟩ : ByteArray), (⟨#[120]⟩ : ByteArray)] d)) ++ (t.extract (wrap64 (c + 1)).toNat t.size), by rw [ByteArray.size_append]; omega, ?_⟩
      refine ev_s ?_
      simp only [spec_DrawReadHydra.j0, if_true]
      refine Ev.bind hC ?_
      simp only [if_pos c0, if_pos (show c ≤ (t.size : Int) by omega), Option.bind_some]
      refine Ev.bind hD ?_
      simp only [if_pos d0, if_pos (show d < ((5 : Nat) : Int) by omega), List.length_cons, List.length_nil, if_pos (show d < ((0 + 1 + 1 + 1 + 1 + 1 : Nat) : Int) by omega), if_pos (show (t.extract 0 c.toNat).size + (rdOf ByteArray.empty [(⟨#[]⟩ : ByteArray), (⟨#[40]⟩ : ByteArray), (⟨#[41]⟩ : ByteArray), (⟨#[40, 41]⟩ : ByteArray), (⟨#[120]⟩ : ByteArray)] d).size ≤ 9223372036854775807 by omega), ew, if_pos (show (0 : Int) ≤ c + 1 by omega), if_pos (show c + 1 ≤ (t.size : Int) by omega)]
      rw [ew] at e2
      simp only [if_pos (show ((t.extract 0 c.toNat) ++ (rdOf ByteArray.empty [(⟨#[]⟩ : ByteArray), (⟨#[40]⟩ : ByteArray), (⟨#[41]⟩ : ByteArray), (⟨#[40, 41]⟩ : ByteArray), (⟨#[120]⟩ : ByteArray)] d)).size + (t.extract (c + 1).toNat t.size).size ≤ 9223372036854775807 by omega)]
      exact Ev.now _
  have fin : ∀ t', Ev (fun k => (if v = 0 then (spec_DrawReadHydra.j0 k t (decide ((t.size : Int) > 0)) b ((q + 1 : Nat) : Int)) else (spec_DrawReadHydra.j0 k t false b ((q + 1 : Nat) : Int)))) t' → Ev (fun k => spec_DrawReadHydra.f k l) t' := by
    intro t' hh
    simp only [spec_DrawReadHydra.f, ho, Option.bind_some]
    refine Ev.bind hE ?_
    refine Ev.bind hT ?_
    exact Ev.bind hP hh
  by_cases hv : v = 0
  · by_cases hs : (t.size : Int) > 0
    · obtain ⟨t', h1, h2⟩ := hj true (fun _ => by omega)
      exact ⟨t', h1, fin t' (by simp only [if_pos hv, decide_eq_true hs]; exact h2)⟩
    · obtain ⟨t', h1, h2⟩ := hj false (fun h => by cases h)
      exact ⟨t', h1, fin t' (by simp only [if_pos hv, decide_eq_false hs]; exact h2)⟩
  · obtain ⟨t', h1, h2⟩ := hj false (fun h => by cases h)
    exact ⟨t', h1, fin t' (by simp only [if_neg hv]; exact h2)⟩
theorem FnReadHydra : laws_FnReadHydra.Pure := by
  intro l0 _ _ hw
  refine Ev.rounds ?_
  simp only [laws_FnReadHydra.f]
  by_cases hb : (l0.length : Int) > 1048576
  · simp only [if_pos hb]; exact Ev.now _
  · simp only [if_neg hb]
    obtain ⟨t, ht, he⟩ := DrawReadHydra_ev l0 hw
    refine Ev.bind he ?_
    rw [bs_of t] at ht ⊢
    generalize t.data.toList = a at ht ⊢
    rw [bs_size] at ht
    rcases text_or a with ⟨h, rfl, hh⟩ | h
    · refine Ev.bind (impl_ReadHydra_good hh) ?_
      refine Ev.bind (spec_ReadHydra_good hh) ?_
      refine Ev.bind (sameInts_ev h.row h.row (by omega)) ?_
      simp only [decide_true, if_true, bne_self_eq_false]
      refine ev_s ?_
      have hm : Ev (fun k => impl_ReadHydra.f k (bs (h.tl ++ [40]))) ([], false) := by
        refine impl_ReadHydra_bad (fun g _ e => ?_)
        have e1 := congrArg List.getLast? e
        have e2 : g.tl = (40 :: g.tb) ++ [41] := by simp [H.tl]
        rw [e2, List.getLast?_append, List.getLast?_append] at e1
        simp at e1
      simp only [laws_FnReadHydra.j0, Bool.false_eq_true, if_false, if_true, bs_size, if_pos (show h.tl.length + 1 ≤ 9223372036854775807 by omega), show (⟨#[40]⟩ : ByteArray) = bs [40] from rfl, bs_append]
      refine Ev.bind hm ?_
      have hi := impl_HydraText_good hh
      rw [H.text_bs] at hi
      refine Ev.bind hi ?_
      simp only [if_true, Bool.not_false]
      exact Ev.now _
    · refine Ev.bind (impl_ReadHydra_bad h) ?_
      refine Ev.bind (spec_ReadHydra_bad (by omega) h) ?_
      refine Ev.bind (sameInts_ev [] [] (by simp)) ?_
      simp only [decide_true, if_true, bne_self_eq_false]
      refine ev_s ?_
      simp only [laws_FnReadHydra.j0, Bool.false_eq_true, if_false, List.length_nil, if_pos (show ((0 : Nat) : Int) = 0 from rfl)]
      exact Ev.bind alive_ev (Ev.now _)

end Go.Proofs.Ytondfcdpkpgiiaa.Pure

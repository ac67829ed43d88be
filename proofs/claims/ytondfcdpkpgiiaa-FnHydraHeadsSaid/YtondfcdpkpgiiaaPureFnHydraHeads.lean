/- The law FnHydraHeads returns true for every input that the statement lets in; no condition of our own. -/
import Derived.Test.YtondfcdpkpgiiaaLx4
namespace Go.Proofs.Ytondfcdpkpgiiaa.Pure
open Go.RowKit Go.Proofs.Ytondfcdpkpgiiaa.L Go.Proofs.YtondfcdpkpgiiaaW.PrintWords Go.Proofs.YtondfcdpkpgiiaaW.PrintLast
set_option linter.unusedVariables false
set_option linter.unusedSimpArgs false

-- part: base
/-! ### words of mine -/
theorem ev_s {α : Type} {g : Nat → Option α} {r : α} (h : Ev (fun k => g (k + 1)) r) : Ev g r := Ev.step (fun _ => rfl) h
theorem ev_eq {α : Type} {g : Nat → Option α} {r q : α} (h : Ev g r) (e : r = q) : Ev g q := e ▸ h
theorem ev_now {α : Type} {r q : α} (e : r = q) : Ev (fun _ => some r) q := e ▸ Ev.now r
theorem wrap_in {x : Int} (h0 : -9223372036854775808 ≤ x) (h1 : x ≤ 9223372036854775807) : wrap64 x = x := by unfold wrap64; omega
theorem rd_eq (xs : List Int) (i : Nat) : rd xs (i : Int) = xs.getD i 0 := by simp [rd]
theorem rd_get {xs : List Int} {i : Nat} (h : i < xs.length) : rd xs (i : Int) = xs[i] := by simp [rd, h]
theorem wrap_nat2 (a b : Nat) (h : a + b < 4611686018427387904) : wrap64 ((a : Int) + (b : Int)) = ((a + b : Nat) : Int) := by rw [wrap_in (by omega) (by omega)]; omega
theorem ev_const {α : Type} {x : Option α} {a : α} (h : x = some a) : Ev (fun _ => x) a := by subst h; exact Ev.now a

-- part: l1In
theorem l1In_eq (n lo hi : Int) : spec_l1In.f n lo hi = some (decide (lo ≤ n ∧ n ≤ hi)) := by
  unfold spec_l1In.f
  by_cases h : n ≥ lo
  · rw [if_pos h]; simp [show lo ≤ n from h]
  · rw [if_neg h]; simp [show ¬ lo ≤ n from h]

-- part: H
/-! ### hydras -/
/-- A hydra: its branches. -/
inductive H where
  | nul : H
  | cons (b r : H) : H

-- part: hRow
/-! ### hydras as rows -/
def H.len : H → Nat
  | .nul => 0
  | .cons _ r => H.len r + 1
def H.body : H → List Int
  | .nul => []
  | .cons b r => (H.len b : Int) :: (H.body b ++ H.body r)
def H.row (h : H) : List Int := (h.len : Int) :: h.body
theorem H.body_cons (b r : H) : (H.cons b r).body = b.row ++ r.body := rfl
theorem H.row_length (h : H) : h.row.length = h.body.length + 1 := by simp [H.row]
theorem H.len_le : ∀ h : H, h.len ≤ h.body.length
  | .nul => Nat.le_refl _
  | .cons b r => by have := H.len_le r; simp only [H.len, H.body, List.length_cons, List.length_append]; omega
/-- So many trees can't be read at the beginning of a row. -/
inductive BadN : Nat → List Int → Prop where
  | nil (m : Nat) : BadN (m + 1) []
  | out (m : Nat) (x : Int) (r : List Int) (h : x < 0 ∨ 60 < x) : BadN (m + 1) (x :: r)
  | deep (m : Nat) (x : Int) (r : List Int) (h0 : 0 ≤ x) (h1 : x ≤ 60) (h : BadN x.toNat r) : BadN (m + 1) (x :: r)
  | next (m : Nat) (b : H) (t : List Int) (hb : b.row.length ≤ 60) (h : BadN m t) : BadN (m + 1) (b.row ++ t)
/-- Either so many trees can be read, or not. -/
theorem read_total : ∀ (n : Nat), n ≤ 60 → ∀ (m : Nat) (l : List Int), l.length ≤ n → (∃ s t, l = H.body s ++ t ∧ s.len = m) ∨ BadN m l
  | n, hn, 0, l, _ => .inl ⟨.nul, l, rfl, rfl⟩
  | n, hn, m + 1, [], _ => .inr (.nil m)
  | 0, hn, m + 1, x :: r, h => by simp at h
  | n + 1, hn, m + 1, x :: r, h => by
    simp only [List.length_cons, Nat.add_le_add_iff_right] at h
    by_cases hx : x < 0 ∨ 60 < x
    · exact .inr (.out m x r hx)
    · rcases read_total n (by omega) x.toNat r h with ⟨s, t, hs, hl⟩ | hb
      · have hxl : x = (s.len : Int) := by omega
        have he : x :: r = s.row ++ t := by rw [hs, hxl]; rfl
        have hlr : r.length = s.body.length + t.length := by rw [hs, List.length_append]
        have hlen : t.length ≤ n := by omega
        rcases read_total n (by omega) m t hlen with ⟨s2, t2, hs2, hl2⟩ | hb
        · refine .inl ⟨.cons s s2, t2, ?_, by rw [H.len, hl2]⟩
          rw [he, hs2, H.body_cons, List.append_assoc]
        · rw [he]
          exact .inr (.next m s t (by rw [H.row_length]; omega) hb)
      · exact .inr (.deep m x r (by omega) (by omega) hb)
theorem H.body_inj : ∀ (s s' : H) (t t' : List Int), s.len = s'.len → s.body ++ t = s'.body ++ t' → s = s' ∧ t = t'
  | .nul, .nul, t, t', _, h => ⟨rfl, h⟩
  | .nul, .cons .., _, _, h, _ => by simp [H.len] at h
  | .cons .., .nul, _, _, h, _ => by simp [H.len] at h
  | .cons b r, .cons b' r', t, t', hl, h => by
    simp only [H.len, Nat.add_right_cancel_iff] at hl
    simp only [H.body, List.cons_append, List.append_assoc, List.cons.injEq] at h
    obtain ⟨h1, h2⟩ := h
    obtain ⟨h3, h4⟩ := H.body_inj b b' _ _ (by omega) h2
    obtain ⟨h5, h6⟩ := H.body_inj r r' _ _ hl h4
    exact ⟨by rw [h3, h5], h6⟩
theorem H.row_inj {g h : H} (e : g.row = h.row) : g = h := by
  simp only [H.row, List.cons.injEq] at e
  exact (H.body_inj g h [] [] (by omega) (by rw [e.2])).1

-- part: hTake
/-! ### reading rows: the program's and the reference's -/
def H.terms : H → List S39
  | .nul => []
  | .cons b r => ⟨H.terms b⟩ :: H.terms r
theorem H.terms_len : ∀ h : H, h.terms.length = h.len
  | .nul => rfl
  | .cons b r => by rw [H.terms, H.len, List.length_cons, H.terms_len r]
theorem rd_T39_mid (pre suf : List S39) (x : S39) : rd_T39 (pre ++ x :: suf) ((pre.length : Nat) : Int) = x := by simp [rd_T39]
theorem rd_cons (x : Int) (l : List Int) : rd (x :: l) 0 = x := rfl
theorem takeHydra_in {x : Int} {r : List Int} (h0 : 0 ≤ x) (h1 : x ≤ 60) {q : (List S39) × List Int × Bool} (h : Ev (fun k => impl_takeHydra.l0 k r [] x 0) q) : Ev (fun k => impl_takeHydra.f k (x :: r)) q := by
  refine ev_s ?_
  have g1 : ¬ (((x :: r).length : Int) = 0) := by simp only [List.length_cons]; omega
  have g2 : (0 : Int) < ((x :: r).length : Int) := by simp only [List.length_cons]; omega
  have g3 : (1 : Int) ≤ ((x :: r).length : Int) := by simp only [List.length_cons]; omega
  have g4 : ¬ (rd (x :: r) 0 < 0) := by rw [rd_cons]; omega
  have g5 : ¬ (rd (x :: r) 0 > 60) := by rw [rd_cons]; omega
  simp only [impl_takeHydra.f, if_neg g1, if_pos g2, if_neg g4, decide_eq_false g5]
  refine ev_s ?_
  simp only [impl_takeHydra.j0, Bool.false_eq_true, if_false, if_pos g2, if_pos g3, List.drop_succ_cons, List.drop_zero]
  exact h
theorem takeHydra_out {l : List Int} (h : l = [] ∨ ∃ x r, l = x :: r ∧ (x < 0 ∨ 60 < x)) : Ev (fun k => impl_takeHydra.f k l) ([], [], false) := by
  have hj : Ev (fun k => impl_takeHydra.j0 k l true) ([], [], false) := by
    refine ev_s ?_
    simp only [impl_takeHydra.j0, if_true]
    exact Ev.now _
  refine ev_s ?_
  rcases h with rfl | ⟨x, r, rfl, hx⟩
  · simp only [impl_takeHydra.f, List.length_nil, if_pos (show ((0 : Nat) : Int) = 0 from rfl)]
    exact hj
  · have g1 : ¬ (((x :: r).length : Int) = 0) := by simp only [List.length_cons]; omega
    have g2 : (0 : Int) < ((x :: r).length : Int) := by simp only [List.length_cons]; omega
    by_cases h0 : rd (x :: r) 0 < 0
    · simp only [impl_takeHydra.f, if_neg g1, if_pos g2, if_pos h0]; exact hj
    · have g5 : rd (x :: r) 0 > 60 := by rw [rd_cons] at h0 ⊢; omega
      simp only [impl_takeHydra.f, if_neg g1, if_pos g2, if_neg h0, decide_eq_true g5]; exact hj
theorem takeHydra_l0 : ∀ (s : H) (pre : List S39) (t : List Int), pre.length + s.body.length ≤ 1000 → s.body.length ≤ 60 →
    Ev (fun k => impl_takeHydra.l0 k (s.body ++ t) pre ((pre.length + s.len : Nat) : Int) (pre.length : Int)) (pre ++ s.terms, t, true)
  | .nul, pre, t, _, _ => by
    refine ev_s ?_
    simp only [impl_takeHydra.l0, H.len, H.body, H.terms, Nat.add_zero, List.nil_append, List.append_nil, Int.lt_irrefl, if_false]
    exact Ev.now _
  | .cons b r, pre, t, hp, hs => by
    simp only [H.body, List.length_cons, List.length_append] at hp hs
    have hbl := H.len_le b
    have ihb := takeHydra_l0 b [] (r.body ++ t) (by simp; omega) (by omega)
    simp only [List.length_nil, Nat.zero_add, List.nil_append] at ihb
    have ihr := takeHydra_l0 r (pre ++ [⟨b.terms⟩]) t (by simp; omega) (by omega)
    have hbody : (H.cons b r).body ++ t = (b.len : Int) :: (b.body ++ (r.body ++ t)) := by simp [H.body]
    have hw : wrap64 ((pre.length : Int) + 1) = (((pre ++ [(⟨b.terms⟩ : S39)]).length : Nat) : Int) := by
      rw [List.length_append, List.length_singleton]; exact wrap_nat2 pre.length 1 (by omega)
    have hcnt : ((pre.length + (H.cons b r).len : Nat) : Int) = (((pre ++ [(⟨b.terms⟩ : S39)]).length + r.len : Nat) : Int) := by
      simp only [H.len, List.length_append, List.length_singleton]; omega
    have hres : pre ++ (H.cons b r).terms = pre ++ [(⟨b.terms⟩ : S39)] ++ r.terms := by simp [H.terms]
    rw [hbody, hres]
    refine ev_s ?_
    simp only [impl_takeHydra.l0, if_pos (show (pre.length : Int) < ((pre.length + (H.cons b r).len : Nat) : Int) by simp only [H.len]; omega)]
    refine Ev.bind (takeHydra_in (by omega) (by omega) ihb) ?_
    simp only [if_true, if_pos (show pre.length < 5864062014805 by omega), hw, hcnt]
    exact ihr
theorem takeHydra_row {s : H} (h : s.row.length ≤ 60) (t : List Int) : Ev (fun k => impl_takeHydra.f k (s.row ++ t)) (s.terms, t, true) := by
  rw [H.row_length] at h
  have := H.len_le s
  have h1 := takeHydra_l0 s [] t (by simp; omega) (by omega)
  simp only [List.length_nil, Nat.zero_add, List.nil_append] at h1
  exact takeHydra_in (by omega) (by omega) h1
theorem takeHydra_bad {m : Nat} {l : List Int} (h : BadN m l) : ∀ (pre : List S39), pre.length + m ≤ 1000 → Ev (fun k => impl_takeHydra.l0 k l pre ((pre.length + m : Nat) : Int) (pre.length : Int)) ([], [], false) := by
  have fall : ∀ (l : List Int) (m : Nat) (pre : List S39) {a : List S39} {t : List Int}, Ev (fun k => impl_takeHydra.f k l) (a, t, false) → Ev (fun k => impl_takeHydra.l0 k l pre ((pre.length + (m + 1) : Nat) : Int) (pre.length : Int)) ([], [], false) := by
    intro l m pre a t h
    refine ev_s ?_
    simp only [impl_takeHydra.l0, if_pos (show (pre.length : Int) < ((pre.length + (m + 1) : Nat) : Int) by omega)]
    refine Ev.bind h ?_
    simp only [Bool.false_eq_true, if_false]
    exact Ev.now _
  induction h with
  | nil m => intro pre _; exact fall _ m pre (takeHydra_out (.inl rfl))
  | out m x r h => intro pre _; exact fall _ m pre (takeHydra_out (.inr ⟨x, r, rfl, h⟩))
  | deep m x r h0 h1 h ih =>
    intro pre hp
    have := ih [] (by simp only [List.length_nil]; omega)
    simp only [List.length_nil, Nat.zero_add, Int.toNat_of_nonneg h0] at this
    exact fall _ m pre (takeHydra_in h0 h1 this)
  | next m b t hb h ih =>
    intro pre hp
    have hw : wrap64 ((pre.length : Int) + 1) = (((pre ++ [(⟨b.terms⟩ : S39)]).length : Nat) : Int) := by
      rw [List.length_append, List.length_singleton]; exact wrap_nat2 pre.length 1 (by omega)
    have hcnt : ((pre.length + (m + 1) : Nat) : Int) = (((pre ++ [(⟨b.terms⟩ : S39)]).length + m : Nat) : Int) := by
      simp only [List.length_append, List.length_singleton]; omega
    refine ev_s ?_
    simp only [impl_takeHydra.l0, if_pos (show (pre.length : Int) < ((pre.length + (m + 1) : Nat) : Int) by omega)]
    refine Ev.bind (takeHydra_row hb t) ?_
    simp only [if_true, if_pos (show pre.length < 5864062014805 by omega), hw, hcnt]
    exact ih (pre ++ [⟨b.terms⟩]) (by simp only [List.length_append, List.length_singleton]; omega)
/-! the reference -/
theorem l5End_in {l : List Int} {p : Nat} (hp : p < l.length) (hb : l.length ≤ 1000000) (h0 : 0 ≤ l[p]) (h1 : l[p] ≤ 60) {q : Int} (h : Ev (fun k => spec_l5End.l0 k l ((p + 1 : Nat) : Int) l[p] 0) q) : Ev (fun k => spec_l5End.f k l (p : Int)) q := by
  refine ev_s ?_
  simp only [spec_l5End.f, if_neg (show ¬ ((p : Int) ≥ (l.length : Int)) by omega), if_pos (show (0 : Int) ≤ (p : Int) by omega), if_pos (show (p : Int) < (l.length : Int) by omega), l1In_eq, Option.bind_some, rd_get hp, decide_eq_true (show 0 ≤ l[p] ∧ l[p] ≤ 60 from ⟨h0, h1⟩)]
  refine ev_s ?_
  simp only [spec_l5End.j0, Bool.not_true, Bool.false_eq_true, if_false, if_pos (show (0 : Int) ≤ (p : Int) by omega), if_pos (show (p : Int) < (l.length : Int) by omega), rd_get hp, show wrap64 ((p : Int) + 1) = ((p + 1 : Nat) : Int) from wrap_nat2 p 1 (by omega)]
  exact h
theorem l5End_out {l : List Int} {p : Nat} (h : l.length ≤ p ∨ ∃ hp : p < l.length, l[p] < 0 ∨ 60 < l[p]) : Ev (fun k => spec_l5End.f k l (p : Int)) (-1) := by
  have hj : Ev (fun k => spec_l5End.j0 k l (p : Int) true) (-1) := by
    refine ev_s ?_
    simp only [spec_l5End.j0, if_true]
    exact Ev.now _
  refine ev_s ?_
  rcases h with h | ⟨hp, hx⟩
  · simp only [spec_l5End.f, if_pos (show ((p : Int) ≥ (l.length : Int)) by omega)]
    exact hj
  · simp only [spec_l5End.f, if_neg (show ¬ ((p : Int) ≥ (l.length : Int)) by omega), if_pos (show (0 : Int) ≤ (p : Int) by omega), if_pos (show (p : Int) < (l.length : Int) by omega), l1In_eq, Option.bind_some, rd_get hp, decide_eq_false (show ¬ (0 ≤ l[p] ∧ l[p] ≤ 60) by omega), Bool.not_false]
    exact hj
theorem l5End_l0 : ∀ (s : H) (pre t l : List Int) (i : Nat), l = pre ++ s.body ++ t → l.length ≤ 1000000 → s.body.length ≤ 60 → i + s.body.length ≤ 1000 →
    Ev (fun k => spec_l5End.l0 k l (pre.length : Int) ((i + s.len : Nat) : Int) (i : Int)) ((pre.length + s.body.length : Nat) : Int)
  | .nul, pre, t, l, i, _, _, _, _ => by
    refine ev_s ?_
    simp only [spec_l5End.l0, H.len, H.body, Nat.add_zero, Int.lt_irrefl, if_false, List.length_nil]
    exact Ev.now _
  | .cons b r, pre, t, l, i, hl, hb, hs, hi => by
    simp only [H.body, List.length_cons, List.length_append] at hs hi
    have hbl := H.len_le b
    have hlen : l.length = pre.length + (b.body.length + r.body.length + 1) + t.length := by rw [hl]; simp only [H.body, List.length_append, List.length_cons]
    have hp : pre.length < l.length := by omega
    have hx : l[pre.length] = (b.len : Int) := by
      subst hl
      simp [H.body]
    have ihb := l5End_l0 b (pre ++ [(b.len : Int)]) (r.body ++ t) l 0 (by rw [hl]; simp [H.body]) hb (by omega) (by omega)
    have ihr := l5End_l0 r (pre ++ b.row) t l (i + 1) (by rw [hl]; simp [H.body, H.row]) hb (by omega) (by omega)
    simp only [List.length_append, List.length_singleton, Nat.zero_add] at ihb
    simp only [List.length_append, H.row_length] at ihr
    have hE : Ev (fun k => spec_l5End.f k l (pre.length : Int)) ((pre.length + (b.body.length + 1) : Nat) : Int) := by
      refine l5End_in hp hb (by rw [hx]; omega) (by rw [hx]; omega) ?_
      rw [hx]
      exact ev_eq ihb (by omega)
    refine ev_s ?_
    simp only [spec_l5End.l0, if_pos (show (i : Int) < ((i + (H.cons b r).len : Nat) : Int) by simp only [H.len]; omega), if_pos (show (pre.length : Int) ≥ 0 by omega), show wrap64 ((i : Int) + 1) = ((i + 1 : Nat) : Int) from wrap_nat2 i 1 (by omega)]
    refine Ev.bind hE ?_
    have e1 : ((i + (H.cons b r).len : Nat) : Int) = ((i + 1 + r.len : Nat) : Int) := by simp only [H.len]; omega
    rw [e1]
    exact ev_eq ihr (by simp only [H.body, List.length_cons, List.length_append]; omega)
theorem l5End_row {s : H} (pre t : List Int) (hb : (pre ++ s.row ++ t).length ≤ 1000000) (hs : s.row.length ≤ 60) : Ev (fun k => spec_l5End.f k (pre ++ s.row ++ t) (pre.length : Int)) ((pre.length + s.row.length : Nat) : Int) := by
  rw [H.row_length] at hs
  have hbl := H.len_le s
  have hp : pre.length < (pre ++ s.row ++ t).length := by simp only [H.row, List.length_append, List.length_cons]; omega
  have hx : (pre ++ s.row ++ t)[pre.length] = (s.len : Int) := by simp [H.row]
  have h2 := l5End_l0 s (pre ++ [(s.len : Int)]) t (pre ++ s.row ++ t) 0 (by simp [H.row]) hb (by omega) (by omega)
  simp only [List.length_append, List.length_singleton, Nat.zero_add] at h2
  refine l5End_in hp hb (by rw [hx]; omega) (by rw [hx]; omega) ?_
  rw [hx]
  exact ev_eq h2 (by rw [H.row_length]; omega)
theorem l5End_bad {m : Nat} {l : List Int} (h : BadN m l) : ∀ (pre : List Int) (i : Nat), (pre ++ l).length ≤ 1000000 → i + m ≤ 1000000 → Ev (fun k => spec_l5End.l0 k (pre ++ l) (pre.length : Int) ((i + m : Nat) : Int) (i : Int)) (-1) := by
  have fall : ∀ (l : List Int) (m i p : Nat), i + (m + 1) ≤ 1000000 → Ev (fun k => spec_l5End.f k l (p : Int)) (-1) → Ev (fun k => spec_l5End.l0 k l (p : Int) ((i + (m + 1) : Nat) : Int) (i : Int)) (-1) := by
    intro l m i p him h
    refine ev_s ?_
    simp only [spec_l5End.l0, if_pos (show (i : Int) < ((i + (m + 1) : Nat) : Int) by omega), if_pos (show (p : Int) ≥ 0 by omega), show wrap64 ((i : Int) + 1) = ((i + 1 : Nat) : Int) from wrap_nat2 i 1 (by omega)]
    refine Ev.bind h ?_
    refine ev_s ?_
    by_cases hm : ((i + 1 : Nat) : Int) < ((i + (m + 1) : Nat) : Int)
    · simp only [spec_l5End.l0, if_pos hm, if_neg (show ¬ ((-1 : Int) ≥ 0) by decide)]; exact Ev.now _
    · simp only [spec_l5End.l0, if_neg hm]; exact Ev.now _
  induction h with
  | nil m => intro pre i hl him; exact fall _ m i _ him (l5End_out (.inl (by simp)))
  | out m x r h => intro pre i hl him; exact fall _ m i _ him (l5End_out (.inr ⟨by simp, by simpa using h⟩))
  | deep m x r h0 h1 h ih =>
    intro pre i hl him
    have := ih (pre ++ [x]) 0 (by simpa using hl) (by omega)
    simp only [List.append_assoc, List.singleton_append, List.length_append, List.length_singleton, Nat.zero_add, Int.toNat_of_nonneg h0] at this
    have hx : (pre ++ x :: r)[pre.length]'(by simp) = x := by simp
    refine fall _ m i _ him (l5End_in (by simp) hl (by rw [hx]; exact h0) (by rw [hx]; exact h1) ?_)
    rw [hx]
    exact this
  | next m b t hb h ih =>
    intro pre i hl him
    have := ih (pre ++ b.row) (i + 1) (by simpa using hl) (by omega)
    have hr := l5End_row (s := b) pre t (by simpa using hl) hb
    rw [List.append_assoc] at hr this
    refine ev_s ?_
    simp only [spec_l5End.l0, if_pos (show (i : Int) < ((i + (m + 1) : Nat) : Int) by omega), if_pos (show (pre.length : Int) ≥ 0 by omega), show wrap64 ((i : Int) + 1) = ((i + 1 : Nat) : Int) from wrap_nat2 i 1 (by omega)]
    refine Ev.bind hr ?_
    rw [show i + (m + 1) = i + 1 + m by omega, ← List.length_append]
    exact this
/-! a row is a hydra's, or not -/
theorem hydra_cases (l : List Int) : (∃ h : H, l = h.row ∧ l.length ≤ 60) ∨ (60 < l.length ∨ l = [] ∨ BadN 1 l ∨ ∃ (h : H) (x : Int) (t : List Int), l = h.row ++ x :: t) := by
  by_cases h60 : l.length ≤ 60
  · rcases read_total 60 (Nat.le_refl _) 1 l h60 with ⟨s, t, hs, hl⟩ | hb
    · rcases s with _ | ⟨b, r⟩
      · simp [H.len] at hl
      · rcases r with _ | ⟨b2, r2⟩
        · have e : l = b.row ++ t := by rw [hs, H.body_cons]; simp [H.body]
          rcases t with _ | ⟨x, t⟩
          · exact .inl ⟨b, by rw [e, List.append_nil], h60⟩
          · exact .inr (.inr (.inr (.inr ⟨b, x, t, e⟩)))
        · simp [H.len] at hl
    · exact .inr (.inr (.inr (.inl hb)))
  · exact .inr (.inl (by omega))
theorem impl_hydraOf_good {h : H} (hl : h.row.length ≤ 60) : Ev (fun k => impl_hydraOf.f k h.row) (h.terms, true) := by
  have hr := H.row_length h
  have := takeHydra_row hl []
  rw [List.append_nil] at this
  simp only [impl_hydraOf.f, if_neg (show ¬ ((h.row.length : Int) < 1) by omega), if_neg (show ¬ ((h.row.length : Int) > 60) by omega)]
  refine Ev.bind this ?_
  simp only [if_true]
  exact ev_now (by simp)
theorem spec_HydraValid_good {h : H} (hl : h.row.length ≤ 60) : Ev (fun k => spec_HydraValid.f k h.row) true := by
  have hr := H.row_length h
  have := l5End_row (s := h) [] [] (by simp; omega) hl
  simp only [List.nil_append, List.append_nil, List.length_nil, Nat.zero_add] at this
  simp only [spec_HydraValid.f, l1In_eq, Option.bind_some, decide_eq_true (show 1 ≤ (h.row.length : Int) ∧ (h.row.length : Int) ≤ 60 by omega), if_true]
  refine Ev.bind this ?_
  exact ev_now (by simp)
def NoHydra (l : List Int) : Prop := 60 < l.length ∨ l = [] ∨ BadN 1 l ∨ ∃ (h : H) (x : Int) (t : List Int), l = h.row ++ x :: t
theorem impl_hydraOf_bad {l : List Int} (h : NoHydra l) : ∃ a, Ev (fun k => impl_hydraOf.f k l) (a, false) := by
  by_cases h0 : l = []
  · subst h0
    refine ⟨[], ?_⟩
    simp only [impl_hydraOf.f, List.length_nil, if_pos (show ((0 : Nat) : Int) < 1 by decide)]
    exact Ev.now _
  · have hpos : 0 < l.length := List.length_pos_iff.mpr h0
    by_cases h60 : 60 < l.length
    · refine ⟨[], ?_⟩
      simp only [impl_hydraOf.f, if_neg (show ¬ ((l.length : Int) < 1) by omega), if_pos (show (l.length : Int) > 60 by omega)]
      exact Ev.now _
    · simp only [impl_hydraOf.f, if_neg (show ¬ ((l.length : Int) < 1) by omega), if_neg (show ¬ ((l.length : Int) > 60) by omega)]
      rcases h with h | h | h | ⟨g, x, t, rfl⟩
      · omega
      · exact absurd h h0
      · have hf : ∃ a t, Ev (fun k => impl_takeHydra.f k l) (a, t, false) := by
          cases h with
          | nil => exact absurd rfl h0
          | out m x r h => exact ⟨_, _, takeHydra_out (.inr ⟨x, r, rfl, h⟩)⟩
          | deep m x r hx0 hx1 h =>
            have := takeHydra_bad h [] (by simp only [List.length_nil]; omega)
            simp only [List.length_nil, Nat.zero_add, Int.toNat_of_nonneg hx0] at this
            exact ⟨_, _, takeHydra_in hx0 hx1 this⟩
          | next m b t hb h => cases h
        obtain ⟨a, t, hf⟩ := hf
        refine ⟨a, Ev.bind hf ?_⟩
        simp only [Bool.false_eq_true, if_false]
        exact Ev.now _
      · simp only [List.length_append, List.length_cons] at h60
        refine ⟨g.terms, Ev.bind (takeHydra_row (by omega) (x :: t)) ?_⟩
        simp only [if_true]
        exact ev_now (by simp; omega)
theorem spec_HydraValid_bad {l : List Int} (h : NoHydra l) : Ev (fun k => spec_HydraValid.f k l) false := by
  by_cases h1 : 1 ≤ (l.length : Int) ∧ (l.length : Int) ≤ 60
  · simp only [spec_HydraValid.f, l1In_eq, Option.bind_some, decide_eq_true h1, if_true]
    have hend : ∃ e : Int, e ≠ (l.length : Int) ∧ Ev (fun k => spec_l5End.f k l ((0 : Nat) : Int)) e := by
      rcases h with h | h | h | ⟨g, x, t, rfl⟩
      · omega
      · subst h; simp at h1
      · refine ⟨-1, by omega, ?_⟩
        cases h with
        | nil => simp at h1
        | out m x r h => exact l5End_out (.inr ⟨by simp, by simpa using h⟩)
        | deep m x r h0 h2 h =>
          have := l5End_bad h [x] 0 (by simp only [List.singleton_append]; omega) (by omega)
          simp only [List.singleton_append, List.length_singleton, Nat.zero_add, Int.toNat_of_nonneg h0] at this
          exact l5End_in (by simp) (by omega) (by simpa using h0) (by simpa using h2) this
        | next m b t hb h => cases h
      · simp only [List.length_append, List.length_cons] at h1
        have := l5End_row (s := g) [] (x :: t) (by simp; omega) (by omega)
        simp only [List.nil_append, List.length_nil, Nat.zero_add] at this
        exact ⟨_, by simp only [List.length_append, List.length_cons]; omega, this⟩
    obtain ⟨e, he, hE⟩ := hend
    refine Ev.bind hE ?_
    exact ev_now (by simpa using he)
  · simp only [spec_HydraValid.f, l1In_eq, Option.bind_some, decide_eq_false h1, Bool.false_eq_true, if_false]
    exact Ev.now _
theorem hydra_or (l : List Int) : (∃ h : H, l = h.row ∧ h.row.length ≤ 60) ∨ NoHydra l := by
  rcases hydra_cases l with ⟨h, e, hl⟩ | h
  · exact .inl ⟨h, e, e ▸ hl⟩
  · exact .inr h
theorem impl_HydraValid_good {h : H} (hl : h.row.length ≤ 60) : Ev (fun k => impl_HydraValid.f k h.row) true := by
  simp only [impl_HydraValid.f]
  exact Ev.bind (impl_hydraOf_good hl) (Ev.now _)
theorem impl_HydraValid_bad {l : List Int} (h : NoHydra l) : Ev (fun k => impl_HydraValid.f k l) false := by
  obtain ⟨a, ha⟩ := impl_hydraOf_bad h
  simp only [impl_HydraValid.f]
  exact Ev.bind ha (Ev.now _)

-- part: hHeads
theorem zeroLoop (g : Nat → List Int → Int → Int → Option Int) (hg : ∀ k x0 x3 x4, g (k + 1) x0 x3 x4 = if x4 < (x0.length : Int) then (if 0 ≤ x4 then (if (rd x0 x4) = 0 then (g k x0 (wrap64 (x3 + 1)) (wrap64 (x4 + 1))) else (g k x0 x3 (wrap64 (x4 + 1)))) else (none)) else (some x3)) (l : List Int) (hb : l.length ≤ 140737488351232) :
    ∀ (d i n : Nat), i + d = l.length → n ≤ i → Ev (fun k => g k l (n : Int) (i : Int)) ((n + (l.drop i).count 0 : Nat) : Int)
  | 0, i, n, h, _ => by
    refine Ev.step (fun k => hg k l n i) ?_
    simp only [if_neg (show ¬ ((i : Int) < (l.length : Int)) by omega)]
    rw [List.drop_eq_nil_of_le (by omega)]
    exact ev_now (by simp)
  | d + 1, i, n, h, hn => by
    have hi : i < l.length := by omega
    refine Ev.step (fun k => hg k l n i) ?_
    simp only [if_pos (show (i : Int) < (l.length : Int) by omega), if_pos (show 0 ≤ (i : Int) by omega), rd_get hi, show wrap64 ((i : Int) + 1) = ((i + 1 : Nat) : Int) from wrap_nat2 i 1 (by omega), show wrap64 ((n : Int) + 1) = ((n + 1 : Nat) : Int) from wrap_nat2 n 1 (by omega)]
    rw [List.drop_eq_getElem_cons hi, List.count_cons]
    by_cases hx : l[i] = 0
    · simp only [if_pos hx]
      exact ev_eq (zeroLoop g hg l hb d (i + 1) (n + 1) (by omega) (by omega)) (by simp [hx]; omega)
    · simp only [if_neg hx]
      exact ev_eq (zeroLoop g hg l hb d (i + 1) n (by omega) (by omega)) (by simp [hx])
def H.zs (h : H) : Nat := h.body.count 0
theorem H.zs_cons (b r : H) : (H.cons b r).zs = (if b.len = 0 then 1 else 0) + b.zs + r.zs := by
  simp only [H.zs, H.body, List.count_cons, List.count_append]
  by_cases h : b.len = 0
  · simp [h]; omega
  · have : ¬ ((b.len : Int) = 0) := by omega
    simp [h]
theorem H.zs_le (h : H) : h.zs ≤ h.body.length := List.count_le_length
theorem heads_l0 : ∀ (s : H) (pre : List S39) (n : Nat), pre.length + s.body.length ≤ 1000 → n + s.body.length ≤ 100000 → Ev (fun k => impl_hydra_heads.l0 k (n : Int) (pre ++ s.terms) (((pre ++ s.terms).length : Nat) : Int) (pre.length : Int)) ((n + s.zs : Nat) : Int)
  | .nul, pre, n, _, _ => by
    refine ev_s ?_
    simp only [impl_hydra_heads.l0, H.terms, List.append_nil, Int.lt_irrefl, if_false]
    exact ev_now (by simp [H.zs, H.body])
  | .cons b r, pre, n, hp, hn => by
    simp only [H.body, List.length_cons, List.length_append] at hp hn
    have hbz := H.zs_le b
    have hbt := H.terms_len b
    have hbl := H.len_le b
    have hE : Ev (fun k => impl_hydra_heads.f k b.terms) (b.zs : Int) := by
      refine ev_s ?_
      simp only [impl_hydra_heads.f]
      have := heads_l0 b [] 0 (by simp; omega) (by omega)
      rw [List.nil_append] at this
      exact ev_eq this (by simp)
    have hlen : (pre ++ (H.cons b r).terms).length = pre.length + (r.terms.length + 1) := by simp [H.terms]
    have hmid : rd_T39 (pre ++ (H.cons b r).terms) (pre.length : Int) = ⟨b.terms⟩ := rd_T39_mid pre r.terms ⟨b.terms⟩
    have happ : pre ++ (H.cons b r).terms = (pre ++ [⟨b.terms⟩]) ++ r.terms := by simp [H.terms]
    have ew : wrap64 ((pre.length : Int) + 1) = (((pre ++ [(⟨b.terms⟩ : S39)]).length : Nat) : Int) := by
      rw [List.length_append, List.length_singleton]; exact wrap_nat2 pre.length 1 (by omega)
    have g1 : (pre.length : Int) < (((pre ++ (H.cons b r).terms).length : Nat) : Int) := by omega
    refine ev_s ?_
    simp only [impl_hydra_heads.l0, if_pos g1, if_pos (show (0 : Int) ≤ (pre.length : Int) from Int.natCast_nonneg _), hmid]
    by_cases h0 : b.len = 0
    · simp only [if_pos (show (b.terms.length : Int) = 0 by omega)]
      refine Ev.bind hE ?_
      rw [wrap_in (x := (n : Int) + 1) (by omega) (by omega), wrap_in (x := (n : Int) + 1 + (b.zs : Int)) (by omega) (by omega), ew, show (n : Int) + 1 + (b.zs : Int) = ((n + 1 + b.zs : Nat) : Int) by omega, happ]
      exact ev_eq (heads_l0 r (pre ++ [⟨b.terms⟩]) (n + 1 + b.zs) (by simp only [List.length_append, List.length_singleton]; omega) (by omega)) (by rw [H.zs_cons, if_pos h0]; omega)
    · simp only [if_neg (show ¬ ((b.terms.length : Int) = 0) by omega)]
      refine Ev.bind hE ?_
      rw [wrap_in (x := (n : Int) + (b.zs : Int)) (by omega) (by omega), ew, show (n : Int) + (b.zs : Int) = ((n + b.zs : Nat) : Int) by omega, happ]
      exact ev_eq (heads_l0 r (pre ++ [⟨b.terms⟩]) (n + b.zs) (by simp only [List.length_append, List.length_singleton]; omega) (by omega)) (by rw [H.zs_cons, if_neg h0]; omega)
theorem heads_ev (h : H) (hl : h.row.length ≤ 60) : Ev (fun k => impl_hydra_heads.f k h.terms) (h.zs : Int) := by
  rw [H.row_length] at hl
  refine ev_s ?_
  simp only [impl_hydra_heads.f]
  have := heads_l0 h [] 0 (by simp; omega) (by omega)
  rw [List.nil_append] at this
  exact ev_eq this (by simp)
theorem impl_HydraHeads_good {h : H} (hl : h.row.length ≤ 60) : Ev (fun k => impl_HydraHeads.f k h.row) (h.zs : Int) := by
  simp only [impl_HydraHeads.f]
  refine Ev.bind (impl_hydraOf_good hl) ?_
  simp only [if_true]
  exact Ev.bind (heads_ev h hl) (Ev.now _)
theorem impl_HydraHeads_bad {l : List Int} (h : NoHydra l) : Ev (fun k => impl_HydraHeads.f k l) (-1) := by
  obtain ⟨a, ha⟩ := impl_hydraOf_bad h
  simp only [impl_HydraHeads.f]
  refine Ev.bind ha ?_
  simp only [Bool.false_eq_true, if_false]
  exact Ev.now _
theorem spec_HydraHeads_good {h : H} (hl : h.row.length ≤ 60) : Ev (fun k => spec_HydraHeads.f k h.row) (h.zs : Int) := by
  have hr := H.row_length h
  simp only [spec_HydraHeads.f]
  refine Ev.bind (spec_HydraValid_good hl) ?_
  simp only [if_true]
  have := zeroLoop spec_HydraHeads.l0 (fun _ _ _ _ => rfl) h.row (by omega) h.body.length 1 0 (by omega) (by omega)
  exact ev_eq this (by simp [H.row, H.zs])
theorem spec_HydraHeads_bad {l : List Int} (h : NoHydra l) : Ev (fun k => spec_HydraHeads.f k l) (-1) := by
  simp only [spec_HydraHeads.f]
  refine Ev.bind (spec_HydraValid_bad h) ?_
  simp only [Bool.false_eq_true, if_false]
  exact Ev.now _

-- part: draw
/-! ### the reader of a code -/
def Bytes (b : List Int) : Prop := b.length ≤ 2000 ∧ ∀ x ∈ b, 0 ≤ x ∧ x ≤ 255
theorem u8_of_wf {x : Int} (h : (Lit.int .u8 x).wf = true) : 0 ≤ x ∧ x ≤ 255 := by
  simp [Lit.wf, IntKind.min, IntKind.max, IntKind.bits, IntKind.signed] at h
  omega
theorem open_ev (l : List Int) (h : ∀ x ∈ l, (Lit.int .u8 x).wf = true) : ∃ b, Bytes b ∧ spec_l20Open.f l = some (b, ((0 : Nat) : Int)) := by
  have h' : ∀ x ∈ l, 0 ≤ x ∧ x ≤ 255 := fun x hx => u8_of_wf (h x hx)
  unfold spec_l20Open.f
  by_cases hl : (l.length : Int) > 2000
  · rw [if_pos hl, if_pos (by omega)]
    exact ⟨l.take 2000, ⟨by simp; omega, fun x hx => h' x (List.mem_of_mem_take hx)⟩, rfl⟩
  · rw [if_neg hl]
    exact ⟨l, ⟨by omega, h'⟩, rfl⟩
theorem rd_byte {b : List Int} (hb : Bytes b) {i : Int} (h0 : 0 ≤ i) (h1 : i < (b.length : Int)) : 0 ≤ rd b i ∧ rd b i ≤ 255 := by
  obtain ⟨n, rfl⟩ := Int.eq_ofNat_of_zero_le h0
  rw [rd_get (show n < b.length by omega)]
  exact hb.2 _ (List.getElem_mem _)
theorem wraps_i64 (n : Int) (h0 : 0 ≤ n) (h1 : n < 2 ^ 62) : IntKind.i64.wrap n = n := by rw [IntKind.wrap_i64]; omega
theorem xor_pos (a b : Nat) (ha : a < 2 ^ 62) (hb : b < 2 ^ 62) : Go.bits .xor .i64 (a : Int) (b : Int) = ((a ^^^ b : Nat) : Int) := by
  have ha' : a % 2 ^ IntKind.i64.bits = a := Nat.mod_eq_of_lt (Nat.lt_of_lt_of_le ha (by decide))
  have hb' : b % 2 ^ IntKind.i64.bits = b := Nat.mod_eq_of_lt (Nat.lt_of_lt_of_le hb (by decide))
  simp only [bits, BitVec.ofInt_natCast, BitVec.toNat_xor, BitVec.toNat_ofNat, ha', hb']
  exact wraps_i64 _ (Int.natCast_nonneg _) (by exact_mod_cast Nat.xor_lt_two_pow ha hb)
theorem pick_sum (r1 r2 p t : Int) (h1 : 0 ≤ r1 ∧ r1 ≤ 255) (h2 : 0 ≤ r2 ∧ r2 ≤ 255) (hp : 0 ≤ p ∧ p ≤ 1000000000000) (ht : 0 ≤ t ∧ t ≤ 1000000000000) :
    wrap64 ((wrap64 ((wrap64 ((wrap64 ((wrap64 r1) * 131)) + (wrap64 ((wrap64 r2) * 1117)))) + (wrap64 (p * 29)))) + (wrap64 ((wrap64 t) * 53))) = r1 * 131 + r2 * 1117 + p * 29 + t * 53 := by
  rw [wrap_in (x := r1) (by omega) (by omega), wrap_in (x := r2) (by omega) (by omega), wrap_in (x := t) (by omega) (by omega), wrap_in (x := r1 * 131) (by omega) (by omega), wrap_in (x := r2 * 1117) (by omega) (by omega), wrap_in (x := p * 29) (by omega) (by omega), wrap_in (x := t * 53) (by omega) (by omega), wrap_in (x := r1 * 131 + r2 * 1117) (by omega) (by omega), wrap_in (x := r1 * 131 + r2 * 1117 + p * 29) (by omega) (by omega), wrap_in (by omega) (by omega)]
theorem pick_mod (x n : Int) (hx : 0 ≤ x) (hn : 0 < n) : 0 ≤ Int.tmod x n ∧ Int.tmod x n < n := by
  rw [Int.tmod_eq_emod_of_nonneg hx]
  exact ⟨Int.emod_nonneg _ (by omega), Int.emod_lt_of_pos _ hn⟩
theorem pick_ev (b : List Int) (hb : Bytes b) (p : Nat) (hp : p ≤ 100000000000) (n : Int) : ∃ v : Int, 0 ≤ v ∧ (v < n ∨ v = 0) ∧ Ev (fun k => spec_l20Rd_pick.f k b (p : Int) n) (v, ((p + 1 : Nat) : Int)) := by
  have e1 : wrap64 ((p : Int) + 1) = ((p + 1 : Nat) : Int) := by rw [wrap_in (by omega) (by omega)]; rfl
  have e2 : wrap64 (((p + 1 : Nat) : Int) - 1) = (p : Int) := by rw [wrap_in (by omega) (by omega)]; omega
  by_cases hn : n < 1
  · refine ⟨0, Int.le_refl _, .inr rfl, ?_⟩
    simp only [spec_l20Rd_pick.f, if_pos hn, e1]
    refine ev_s ?_
    simp only [spec_l20Rd_pick.j0, if_true]
    exact Ev.now _
  · by_cases hl : b.length = 0
    · refine ⟨0, Int.le_refl _, .inr rfl, ?_⟩
      simp only [spec_l20Rd_pick.f, if_neg hn, e1, hl]
      refine ev_s ?_
      simp only [spec_l20Rd_pick.j0]
      exact Ev.now _
    · by_cases hlt : (p : Int) < (b.length : Int)
      · have hby := rd_byte hb (show (0 : Int) ≤ (p : Int) by omega) hlt
        have hm := pick_mod (rd b p) n hby.1 (by omega)
        refine ⟨Int.tmod (rd b p) n, hm.1, .inl hm.2, ?_⟩
        simp only [spec_l20Rd_pick.f, if_neg hn, e1, show ((b.length : Int) == 0) = false by simp; exact fun h => hl (by rw [h]; rfl)]
        refine ev_s ?_
        simp only [spec_l20Rd_pick.j0, Bool.false_eq_true, if_false, e2, if_pos hlt, if_pos (show (0 : Int) ≤ (p : Int) by omega), if_neg (show ¬ n = 0 by omega), wrap_in (x := rd b p) (by omega) (by omega)]
        exact Ev.now _
      · have hl0 : ¬ ((b.length : Int) = 0) := by omega
        have m1 := pick_mod (p : Int) (b.length : Int) (by omega) (by omega)
        have m2 := pick_mod ((p : Int) * 7 + 3) (b.length : Int) (by omega) (by omega)
        have b1 := rd_byte hb m1.1 m1.2
        have b2 := rd_byte hb m2.1 m2.2
        have d1 : 0 ≤ Int.tdiv (p : Int) (b.length : Int) := Int.tdiv_nonneg (by omega) (by omega)
        have d2 : Int.tdiv (p : Int) (b.length : Int) ≤ (p : Int) := Int.tdiv_le_self _ (by omega)
        have hs := pick_sum _ _ (p : Int) (Int.tdiv (p : Int) (b.length : Int)) b1 b2 (by omega) (by omega)
        obtain ⟨X, hX⟩ : ∃ X : Int, X = rd b (Int.tmod (p : Int) (b.length : Int)) * 131 + rd b (Int.tmod ((p : Int) * 7 + 3) (b.length : Int)) * 1117 + (p : Int) * 29 + Int.tdiv (p : Int) (b.length : Int) * 53 := ⟨_, rfl⟩
        rw [← hX] at hs
        have x0 : 0 ≤ X ∧ X < 20000000000000 := by omega
        have t0 : 0 ≤ Int.tdiv X 64 := Int.tdiv_nonneg (by omega) (by omega)
        have t1 : Int.tdiv X 64 ≤ X := Int.tdiv_le_self _ (by omega)
        have hbit : 0 ≤ Go.bits .xor .i64 X (Int.tdiv X 64) := by
          obtain ⟨u, hu⟩ := Int.eq_ofNat_of_zero_le x0.1
          obtain ⟨v, hv⟩ := Int.eq_ofNat_of_zero_le t0
          rw [hv, hu]
          rw [xor_pos u v (by omega) (by omega)]
          omega
        have hm := pick_mod _ n hbit (by omega)
        refine ⟨_, hm.1, .inl hm.2, ?_⟩
        simp only [spec_l20Rd_pick.f, if_neg hn, e1, show ((b.length : Int) == 0) = false by simp; exact fun h => hl (by rw [h]; rfl)]
        refine ev_s ?_
        simp only [spec_l20Rd_pick.j0, Bool.false_eq_true, if_false, e2, if_neg hlt, if_neg hl0, wrap_in (x := (p : Int) * 7) (by omega) (by omega), wrap_in (x := (p : Int) * 7 + 3) (by omega) (by omega), if_pos m1.1, if_pos m1.2, if_pos m2.1, if_pos m2.2, if_neg (show ¬ n = 0 by omega), hs, wrap_in (x := Int.tdiv X 64) (by omega) (by omega)]
        exact Ev.now _
theorem odd_ev (b : List Int) (hb : Bytes b) (p : Nat) (hp : p ≤ 100000000000) (n : Int) (hn : n ≤ 1000000) : ∃ (v : Bool) (q : Nat), q ≤ p + 1 ∧ Ev (fun k => spec_l20Rd_odd.f k b (p : Int) n) (v, (q : Int)) := by
  by_cases h : n > 0
  · obtain ⟨v, h0, h1, he⟩ := pick_ev b hb p hp n
    refine ⟨(v == wrap64 (n - 1)), p + 1, Nat.le_refl _, ?_⟩
    simp only [spec_l20Rd_odd.f, if_pos h]
    refine Ev.bind he ?_
    exact Ev.now _
  · refine ⟨false, p, by omega, ?_⟩
    simp only [spec_l20Rd_odd.f, if_neg h]
    exact Ev.now _

-- part: l5Tree
theorem rd_L4_get {x : List (List Int)} {i : Nat} (h : i < x.length) : rd_L4 x (i : Int) = x[i] := by simp [rd_L4, h]
theorem l5Tree_l0 (x : List (List Int)) (hx : x.length ≤ 1000000) : ∀ (d i : Nat) (out : List Int), i + d = x.length → out.length + (x.drop i).flatten.length ≤ 1000000 → Ev (fun k => spec_l5Tree.l0 k x out (i : Int)) (out ++ (x.drop i).flatten)
  | 0, i, out, h, _ => by
    refine ev_s ?_
    simp only [spec_l5Tree.l0, if_neg (show ¬ ((i : Int) < (x.length : Int)) by omega)]
    rw [List.drop_eq_nil_of_le (by omega)]
    exact ev_now (by simp)
  | d + 1, i, out, h, hl => by
    have hi : i < x.length := by omega
    rw [List.drop_eq_getElem_cons hi, List.flatten_cons] at hl ⊢
    simp only [List.length_append] at hl
    refine ev_s ?_
    simp only [spec_l5Tree.l0, if_pos (show (i : Int) < (x.length : Int) by omega), if_pos (show 0 ≤ (i : Int) by omega), rd_L4_get hi, if_pos (show out.length + x[i].length < 17592186044416 by omega), show wrap64 ((i : Int) + 1) = ((i + 1 : Nat) : Int) from wrap_nat2 i 1 (by omega)]
    exact ev_eq (l5Tree_l0 x hx d (i + 1) (out ++ x[i]) (by omega) (by simp only [List.length_append]; omega)) (by simp)
theorem l5Tree_ev (x : List (List Int)) (hx : x.length ≤ 1000000) (hl : x.flatten.length ≤ 999999) : Ev (fun k => spec_l5Tree.f k x) ((x.length : Int) :: x.flatten) := by
  have := l5Tree_l0 x hx x.length 0 [(x.length : Int)] (by omega) (by simp only [List.drop_zero, List.length_singleton]; omega)
  exact ev_eq this (by simp)

-- part: l20Hydra
def treeL : Nat → Nat
  | 0 => 1
  | d + 1 => 3 * treeL d + 1
theorem treeL_le {d : Nat} (h : d ≤ 3) : treeL d ≤ 40 := by
  match d, h with
  | 0, _ => decide
  | 1, _ => decide
  | 2, _ => decide
  | 3, _ => decide
theorem treeL_pos : ∀ d, 1 ≤ treeL d
  | 0 => Nat.le_refl _
  | d + 1 => by simp only [treeL]; omega
theorem l20Tree_ev (b : List Int) (hb : Bytes b) : ∀ (d : Nat), d ≤ 3 → ∀ p : Nat, p + treeL d ≤ 10000000 → ∃ (out : List Int) (q : Nat), out.length ≤ treeL d ∧ q ≤ p + treeL d ∧ Ev (fun k => spec_l20Tree.f k b (p : Int) (d : Int)) (out, (q : Int))
  | 0, _, p, hp => by
    obtain ⟨v, hv0, _, he⟩ := pick_ev b hb p (by omega) 4
    refine ⟨[0], p + 1, by simp [treeL], by simp [treeL], ?_⟩
    have ht := l5Tree_ev [] (by simp) (by simp)
    refine ev_s ?_
    simp only [spec_l20Tree.f]
    refine Ev.bind he ?_
    refine ev_s ?_
    by_cases h : v > 0
    · simp only [spec_l20Tree.l0, if_pos h, if_neg (show ¬ (((0 : Nat) : Int) > 0) by decide)]
      exact Ev.bind ht (Ev.now _)
    · simp only [spec_l20Tree.l0, if_neg h]
      exact Ev.bind ht (Ev.now _)
  | d + 1, hd, p, hp => by
    simp only [treeL] at hp
    have hL := treeL_le (show d ≤ 3 by omega)
    have hP := treeL_pos d
    have loop : ∀ (m : Nat) (x : List (List Int)) (p : Nat), x.length + m ≤ 3 → x.flatten.length ≤ x.length * treeL d → p + m * treeL d ≤ 10000000 → ∃ (out : List Int) (q : Nat), out.length ≤ 3 * treeL d + 1 ∧ q ≤ p + m * treeL d ∧ Ev (fun k => spec_l20Tree.l0 k ((d + 1 : Nat) : Int) x (m : Int) b (p : Int)) (out, (q : Int)) := by
      intro m
      induction m with
      | zero =>
        intro x p hx hf hp
        have h3 : x.length * treeL d ≤ 3 * treeL d := Nat.mul_le_mul_right _ (by omega)
        refine ⟨(x.length : Int) :: x.flatten, p, by simp only [List.length_cons]; omega, by omega, ?_⟩
        refine ev_s ?_
        simp only [spec_l20Tree.l0, if_neg (show ¬ (((0 : Nat) : Int) > 0) by decide)]
        exact Ev.bind (l5Tree_ev x (by omega) (by omega)) (Ev.now _)
      | succ m ih =>
        intro x p hx hf hp
        rw [Nat.succ_mul] at hp
        obtain ⟨o, q, ho, hq, he⟩ := l20Tree_ev b hb d (by omega) p (by omega)
        obtain ⟨out, q2, h1, h2, hE⟩ := ih (x ++ [o]) q (by simp only [List.length_append, List.length_singleton]; omega) (by simp only [List.flatten_append, List.flatten_cons, List.flatten_nil, List.append_nil, List.length_append, List.length_singleton, Nat.add_mul, Nat.one_mul]; omega) (by omega)
        refine ⟨out, q2, h1, by rw [Nat.succ_mul]; omega, ?_⟩
        refine ev_s ?_
        simp only [spec_l20Tree.l0, if_pos (show ((m + 1 : Nat) : Int) > 0 by omega), if_pos (show ((d + 1 : Nat) : Int) > 0 by omega), show wrap64 (((d + 1 : Nat) : Int) - 1) = (d : Int) by rw [wrap_in (by omega) (by omega)]; omega, show wrap64 (((m + 1 : Nat) : Int) - 1) = (m : Int) by rw [wrap_in (by omega) (by omega)]; omega]
        refine Ev.bind he ?_
        simp only [if_pos (show x.length < 5864062014805 by omega)]
        exact hE
    obtain ⟨v, hv0, hv1, he⟩ := pick_ev b hb p (by omega) 4
    obtain ⟨n, rfl⟩ := Int.eq_ofNat_of_zero_le hv0
    have hn3 : n * treeL d ≤ 3 * treeL d := Nat.mul_le_mul_right _ (by omega)
    obtain ⟨out, q, h1, h2, hE⟩ := loop n [] (p + 1) (by simp; omega) (by simp) (by omega)
    refine ⟨out, q, by simp only [treeL]; omega, by simp only [treeL]; omega, ?_⟩
    refine ev_s ?_
    simp only [spec_l20Tree.f]
    exact Ev.bind he hE
theorem l20Hydra_j2 (b : List Int) (hb : Bytes b) (n : Int) (hn : n ≤ 1000000) (x : List Int) (hx : x.length ≤ 60) (p : Nat) (hp : p ≤ 20000000) : ∃ (out : List Int) (q : Nat), out.length ≤ 61 ∧ q ≤ p + 2 ∧ Ev (fun k => spec_l20Hydra.j2 k n x b (p : Int)) (out, (q : Int)) := by
  obtain ⟨o, q, hq, he⟩ := odd_ev b hb p (by omega) n hn
  cases o with
  | false =>
    refine ⟨x, q, by omega, by omega, ?_⟩
    refine ev_s ?_
    simp only [spec_l20Hydra.j2]
    refine Ev.bind he ?_
    simp only [Bool.false_eq_true, if_false]
    exact Ev.now _
  | true =>
    obtain ⟨v, _, _, he2⟩ := pick_ev b hb q (by omega) 4
    have key : ∀ out : List Int, Ev (fun k => (if v = 0 then (some ((([] : List Int)), ((q + 1 : Nat) : Int))) else (if v = 1 then ((some (([] : List Int) : List Int)).bind fun y228 => (if y228.length + x.length < 17592186044416 then ((some (y228 ++ x : List Int)).bind fun y231 => (if y231.length < 17592186044416 then (some ((y231 ++ [0]), ((q + 1 : Nat) : Int))) else (none))) else (none))) else (if v = 2 then (some ((([1] : List Int)), ((q + 1 : Nat) : Int))) else (some ((([(-1)] : List Int)), ((q + 1 : Nat) : Int))))) : Option (List Int × Int))) (out, ((q + 1 : Nat) : Int)) → Ev (fun k => spec_l20Hydra.j2 k n x b (p : Int)) (out, ((q + 1 : Nat) : Int)) := by
      intro out h
      refine ev_s ?_
      simp only [spec_l20Hydra.j2]
      refine Ev.bind he ?_
      simp only [if_true]
      exact Ev.bind he2 h
    by_cases h0 : v = 0
    · exact ⟨[], q + 1, by simp, by omega, key _ (by simp only [if_pos h0]; exact Ev.now _)⟩
    · by_cases h1 : v = 1
      · refine ⟨x ++ [0], q + 1, by simp; omega, by omega, key _ ?_⟩
        simp only [if_neg h0, if_pos h1, Option.bind_some, List.nil_append, List.length_nil, if_pos (show 0 + x.length < 17592186044416 by omega), if_pos (show x.length < 17592186044416 by omega)]
        exact Ev.now _
      · by_cases h2 : v = 2
        · exact ⟨[1], q + 1, by simp, by omega, key _ (by simp only [if_neg h0, if_neg h1, if_pos h2]; exact Ev.now _)⟩
        · exact ⟨[-1], q + 1, by simp, by omega, key _ (by simp only [if_neg h0, if_neg h1, if_neg h2]; exact Ev.now _)⟩
theorem l20Hydra_l0 (b : List Int) (hb : Bytes b) (n : Int) (hn : n ≤ 1000000) : ∀ (d i : Nat) (x : List Int) (p : Nat), i + d = 5 → x.length ≤ 60 → p ≤ 1000000 + i * 41 → ∃ (out : List Int) (q : Nat), out.length ≤ 61 ∧ q ≤ p + d * 41 + 2 ∧ Ev (fun k => spec_l20Hydra.l0 k n x (i : Int) b (p : Int)) (out, (q : Int)) := by
  have fin : ∀ (i : Nat) (x : List Int) (p : Nat), i ≤ 5 → x.length ≤ 60 → p ≤ 1000000 + i * 41 → ∃ (out : List Int) (q : Nat), out.length ≤ 61 ∧ q ≤ p + 2 ∧ Ev (fun k => spec_l20Hydra.j1 k n x (i : Int) false b (p : Int)) (out, (q : Int)) := by
    intro i x p hi hx hp
    obtain ⟨out, q, h1, h2, hE⟩ := l20Hydra_j2 b hb n hn x hx p (by omega)
    refine ⟨out, q, h1, h2, ?_⟩
    refine ev_s ?_
    simp only [spec_l20Hydra.j1, Bool.false_eq_true, if_false, if_neg (show ¬ ((x.length : Int) > 60) by omega)]
    exact hE
  intro d
  induction d with
  | zero =>
    intro i x p hi hx hp
    obtain ⟨out, q, h1, h2, hE⟩ := fin i x p (by omega) hx hp
    refine ⟨out, q, h1, by omega, ?_⟩
    refine ev_s ?_
    simp only [spec_l20Hydra.l0, if_neg (show ¬ ((i : Int) < 5) by omega)]
    exact hE
  | succ d ih =>
    intro i x p hi hx hp
    have more : ∃ (out : List Int) (q : Nat), out.length ≤ 61 ∧ q ≤ p + (d + 1) * 41 + 2 ∧ Ev (fun k => spec_l20Hydra.j1 k n x (i : Int) true b (p : Int)) (out, (q : Int)) := by
      obtain ⟨v, hv0, hv1, he⟩ := pick_ev b hb p (by omega) 3
      obtain ⟨m, rfl⟩ := Int.eq_ofNat_of_zero_le hv0
      have hL := treeL_le (show 1 + m ≤ 3 by omega)
      obtain ⟨x2, q, h1, h2, hE⟩ := l20Tree_ev b hb (1 + m) (by omega) (p + 1) (by omega)
      obtain ⟨out, q2, h3, h4, hE2⟩ := ih (i + 1) x2 q (by omega) (by omega) (by omega)
      refine ⟨out, q2, h3, by omega, ?_⟩
      refine ev_s ?_
      simp only [spec_l20Hydra.j1, if_true]
      refine Ev.bind he ?_
      simp only [show wrap64 (1 + (m : Int)) = ((1 + m : Nat) : Int) by rw [wrap_in (by omega) (by omega)]; omega]
      refine Ev.bind hE ?_
      simp only [show wrap64 ((i : Int) + 1) = ((i + 1 : Nat) : Int) from wrap_nat2 i 1 (by omega)]
      exact hE2
    obtain ⟨out1, q1, a1, a2, aE⟩ := fin i x p (by omega) hx hp
    obtain ⟨out2, q2, b1, b2, bE⟩ := more
    by_cases h20 : (x.length : Int) > 20
    · refine ⟨out2, q2, b1, b2, ev_s ?_⟩
      simp only [spec_l20Hydra.l0, if_pos (show (i : Int) < 5 by omega), if_pos h20]
      exact bE
    · by_cases h3 : (x.length : Int) < 3
      · refine ⟨out2, q2, b1, b2, ev_s ?_⟩
        simp only [spec_l20Hydra.l0, if_pos (show (i : Int) < 5 by omega), if_neg h20, decide_eq_true h3]
        exact bE
      · refine ⟨out1, q1, a1, by omega, ev_s ?_⟩
        simp only [spec_l20Hydra.l0, if_pos (show (i : Int) < 5 by omega), if_neg h20, decide_eq_false h3]
        exact aE
theorem l20Hydra_ev (b : List Int) (hb : Bytes b) (p : Nat) (hp : p ≤ 100000) (n : Int) (hn : n ≤ 1000000) : ∃ (out : List Int) (q : Nat), out.length ≤ 61 ∧ q ≤ p + 300 ∧ Ev (fun k => spec_l20Hydra.f k b (p : Int) n) (out, (q : Int)) := by
  have hL := treeL_le (Nat.le_refl 3)
  obtain ⟨x, q, h1, h2, hE⟩ := l20Tree_ev b hb 3 (Nat.le_refl 3) p (by omega)
  obtain ⟨out, q2, h3, h4, hE2⟩ := l20Hydra_l0 b hb n hn 5 0 x q rfl (by omega) (by omega)
  refine ⟨out, q2, h3, by omega, ?_⟩
  simp only [spec_l20Hydra.f]
  exact Ev.bind hE hE2

-- part: alive
theorem alive_ev : Ev (fun k => laws_alive.f k) true := Ev.of laws_alive.mono (k := 20) (by decide +kernel)

-- part: law_FnHydraHeads
theorem DrawHydraHeads_ev (l : List Int) (h : ∀ x ∈ l, (Lit.int .u8 x).wf = true) : ∃ out : List Int, out.length ≤ 61 ∧ Ev (fun k => spec_DrawHydraHeads.f k l) out := by
  obtain ⟨b, hb, ho⟩ := open_ev l h
  obtain ⟨out, q, h1, _, hE⟩ := l20Hydra_ev b hb 0 (by omega) 9 (by omega)
  refine ⟨out, h1, ?_⟩
  simp only [spec_DrawHydraHeads.f, ho, Option.bind_some]
  exact Ev.bind hE (Ev.now _)
theorem zs_zero : ∀ h : H, h.zs = 0 ↔ h.body = []
  | .nul => by simp [H.zs, H.body]
  | .cons b r => by
    rw [H.zs_cons]
    constructor
    · intro h
      by_cases h0 : b.len = 0
      · rw [if_pos h0] at h; omega
      · have h2 : b.zs = 0 := by omega
        have h3 := (zs_zero b).mp h2
        have := H.len_le b
        rw [h3] at this
        simp at this
        omega
    · intro h; simp [H.body] at h
theorem FnHydraHeads : laws_FnHydraHeads.Pure := by
  intro l0 _ _ hw
  refine Ev.rounds ?_
  simp only [laws_FnHydraHeads.f]
  by_cases hb : (l0.length : Int) > 1048576
  · simp only [if_pos hb]; exact Ev.now _
  · simp only [if_neg hb]
    obtain ⟨l, ho, he⟩ := DrawHydraHeads_ev l0 hw
    refine Ev.bind he ?_
    rcases hydra_or l with ⟨h, rfl, hh⟩ | h
    · refine Ev.bind (impl_HydraHeads_good hh) ?_
      refine Ev.bind (spec_HydraHeads_good hh) ?_
      have hr := H.row_length h
      have hz := zs_zero h
      have hle := H.zs_le h
      have e : (((h.zs : Int) == 0) == ((h.row.length : Int) == 1)) = true := by
        by_cases h0 : h.zs = 0
        · have h1 := hz.mp h0
          have h2 : h.row.length = 1 := by rw [hr, h1]; rfl
          rw [h0, h2]; rfl
        · have h1 : h.body ≠ [] := fun e => h0 (hz.mpr e)
          have h2 : 0 < h.body.length := List.length_pos_iff.mpr h1
          rw [beq_eq_false_iff_ne.mpr (show (h.zs : Int) ≠ 0 by omega), beq_eq_false_iff_ne.mpr (show (h.row.length : Int) ≠ 1 by omega)]; rfl
      simp only [if_true, if_neg (show ¬ ((h.zs : Int) < 0) by omega), e]
      exact ev_now (decide_eq_true (by unfold mx; split <;> omega))
    · refine Ev.bind (impl_HydraHeads_bad h) ?_
      refine Ev.bind (spec_HydraHeads_bad h) ?_
      simp only [if_true, if_pos (show (-1 : Int) < 0 by decide)]
      refine Ev.bind (impl_HydraValid_bad h) ?_
      simp only [Bool.false_eq_true, if_false]
      exact Ev.bind alive_ev (Ev.now _)

end Go.Proofs.Ytondfcdpkpgiiaa.Pure

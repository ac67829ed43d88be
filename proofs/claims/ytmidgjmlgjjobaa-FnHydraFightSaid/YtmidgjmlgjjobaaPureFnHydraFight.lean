-- half
/- The law FnHydraFight returns true for every input that the statement lets in; no condition of our own. -/
import Derived.Test.YtmidgjmlgjjobaaIgx13
namespace Go.Proofs.Ytmidgjmlgjjobaa.Pure
open Go.RowKit Go.Proofs.Ytmidgjmlgjjobaa.Ig Go.Proofs.YtmidgjmlgjjobaaW.PrintWords Go.Proofs.YtmidgjmlgjjobaaW.PrintLast
set_option linter.unusedVariables false
set_option linter.unusedSimpArgs false

-- part: base
theorem ev_s {α : Type} {g : Nat → Option α} {r : α} (h : Ev (fun k => g (k + 1)) r) : Ev g r := Ev.step (fun _ => rfl) h
theorem ev_eq {α : Type} {g : Nat → Option α} {r q : α} (h : Ev g r) (e : r = q) : Ev g q := e ▸ h
theorem ev_now {α : Type} {r q : α} (e : r = q) : Ev (fun _ => some r) q := e ▸ Ev.now r
theorem wrap_in {x : Int} (h0 : -9223372036854775808 ≤ x) (h1 : x ≤ 9223372036854775807) : wrap64 x = x := by unfold wrap64; omega
theorem rd_get {xs : List Int} {i : Nat} (h : i < xs.length) : rd xs (i : Int) = xs[i] := by simp [rd, h]
theorem wrap_nat2 (a b : Nat) (h : a + b < 4611686018427387904) : wrap64 ((a : Int) + (b : Int)) = ((a + b : Nat) : Int) := by rw [wrap_in (by omega) (by omega)]; omega
theorem l1In_eq (n lo hi : Int) : spec_l1In.f n lo hi = some (decide (lo ≤ n ∧ n ≤ hi)) := by
 unfold spec_l1In.f
 by_cases h : n ≥ lo
 ·
  rw [if_pos h]; simp [show lo ≤ n from h]
 ·
  rw [if_neg h]; simp [show ¬ lo ≤ n from h]

-- part: O
inductive O where
 | z : O
 | c (n : Nat) (e r : O) : O

-- part: oAppDef
def O.app : O → O → O
 | .z, y => y
 | .c n e r, y => .c n e (O.app r y)
theorem O.app_z : ∀ x : O, O.app x .z = x
 | .z => rfl
 | .c n e r => by rw [O.app, O.app_z r]

-- part: coreO
def O.cmp : O → O → Ordering
 | .z, .z => .eq
 | .z, .c .. => .lt
 | .c .., .z => .gt
 | .c n e r, .c m f s => ((O.cmp e f).then (compare n m)).then (O.cmp r s)

theorem O.cmp_self : ∀ a : O, O.cmp a a = .eq
 | .z => rfl
 | .c n e r => by
  have h1 := O.cmp_self e
  have h2 := O.cmp_self r
  simp [O.cmp, h1, h2]

theorem O.eq_of_cmp : ∀ a b : O, O.cmp a b = .eq → a = b
 | .z, .z => fun _ => rfl
 | .z, .c .. => fun h => by simp [O.cmp] at h
 | .c .., .z => fun h => by simp [O.cmp] at h
 | .c n e r, .c m f s => fun h => by
  simp only [O.cmp, Ordering.then_eq_eq] at h
  obtain ⟨⟨h1, h2⟩, h3⟩ := h
  rw [O.eq_of_cmp e f h1, O.eq_of_cmp r s h3, Nat.compare_eq_eq.mp h2]

theorem O.cmp_swap : ∀ a b : O, (O.cmp a b).swap = O.cmp b a
 | .z, .z => rfl
 | .z, .c .. => rfl
 | .c .., .z => rfl
 | .c n e r, .c m f s => by
  have h1 := O.cmp_swap e f
  have h2 := O.cmp_swap r s
  simp only [O.cmp, Ordering.swap_then, h1, h2, Nat.compare_swap]

theorem O.cmp_gt_iff (a b : O) : O.cmp a b = .gt ↔ O.cmp b a = .lt := by
 rw [← O.cmp_swap a b]
 cases O.cmp a b <;> simp [Ordering.swap]

theorem O.lt_trans : ∀ a b c : O, O.cmp a b = .lt → O.cmp b c = .lt → O.cmp a c = .lt
 | .z, .z, _ => fun h => by simp [O.cmp] at h
 | .c .., .z, _ => fun h => by simp [O.cmp] at h
 | .z, .c .., .z => fun _ h => by simp [O.cmp] at h
 | .z, .c .., .c .. => fun _ _ => rfl
 | .c .., .c .., .z => fun _ h => by simp [O.cmp] at h
 | .c n e r, .c m f s, .c k g t => fun h1 h2 => by
  simp only [O.cmp, Ordering.then_eq_lt] at h1 h2 ⊢
  rcases h1 with (h1 | ⟨h1, h1'⟩) | ⟨h1, h1'⟩
  ·
   rcases h2 with (h2 | ⟨h2, h2'⟩) | ⟨h2, h2'⟩
   ·
    exact .inl (.inl (O.lt_trans _ _ _ h1 h2))
   ·
    rw [← O.eq_of_cmp _ _ h2]; exact .inl (.inl h1)
   ·
    rw [Ordering.then_eq_eq] at h2; rw [← O.eq_of_cmp _ _ h2.1]; exact .inl (.inl h1)
  ·
   have := O.eq_of_cmp _ _ h1; subst this
   rcases h2 with (h2 | ⟨h2, h2'⟩) | ⟨h2, h2'⟩
   ·
    exact .inl (.inl h2)
   ·
    have h3 := O.eq_of_cmp _ _ h2; subst h3
    rw [Nat.compare_eq_lt] at h1' h2'
    exact .inl (.inr ⟨h2, Nat.compare_eq_lt.mpr (by omega)⟩)
   ·
    rw [Ordering.then_eq_eq] at h2; rw [← Nat.compare_eq_eq.mp h2.2]; exact .inl (.inr ⟨h2.1, h1'⟩)
  ·
   rw [Ordering.then_eq_eq] at h1
   have := O.eq_of_cmp _ _ h1.1; subst this
   have := Nat.compare_eq_eq.mp h1.2; subst this
   rcases h2 with (h2 | ⟨h2, h2'⟩) | ⟨h2, h2'⟩
   ·
    exact .inl (.inl h2)
   ·
    exact .inl (.inr ⟨h2, h2'⟩)
   ·
    exact .inr ⟨h2, O.lt_trans _ _ _ h1' h2'⟩

theorem O.cmp_tri (a b : O) : O.cmp a b = .lt ∨ a = b ∨ O.cmp b a = .lt := by
 cases h : O.cmp a b with
 | lt => exact .inl rfl
 | eq => exact .inr (.inl (O.eq_of_cmp _ _ h))
 | gt => exact .inr (.inr ((O.cmp_gt_iff _ _).mp h))

theorem O.lt_irrefl (a : O) : O.cmp a a ≠ .lt := by rw [O.cmp_self]; simp
def O.hd (e : O) : O → Prop
 | .z => True
 | .c _ f _ => O.cmp f e = .lt

def O.NF : O → Prop
 | .z => True
 | .c n e r => 1 ≤ n ∧ O.NF e ∧ O.NF r ∧ O.hd e r

-- part: coreIns
def O.ins (e : O) : O → O
 | .z => .c 1 e .z
 | .c n f r => match O.cmp f e with
  | .gt => .c n f (O.ins e r)
  | .eq => .c (n + 1) f r
  | .lt => .c 1 e (.c n f r)

theorem O.ins_hd {e g : O} (h : O.cmp e g = .lt) : ∀ {x : O}, O.hd g x → O.hd g (O.ins e x)
 | .z, _ => h
 | .c n f r, h' => by
  unfold O.ins
  cases hc : O.cmp f e with
  | gt => exact h'
  | eq => exact h'
  | lt => exact h

theorem O.ins_NF {e : O} (he : O.NF e) : ∀ {x : O}, O.NF x → O.NF (O.ins e x)
 | .z, _ => ⟨Nat.le_refl _, he, trivial, trivial⟩
 | .c n f r, h => by
  obtain ⟨h1, h2, h3, h4⟩ := h
  unfold O.ins
  cases hc : O.cmp f e with
  | gt => exact ⟨h1, h2, O.ins_NF he h3, O.ins_hd ((O.cmp_gt_iff _ _).mp hc) h4⟩
  | eq => exact ⟨by omega, h2, h3, h4⟩
  | lt => exact ⟨Nat.le_refl _, he, ⟨h1, h2, h3, h4⟩, hc⟩

theorem O.ins_big {e : O} : ∀ {x : O}, O.hd e x → O.ins e x = .c 1 e x
 | .z, _ => rfl
 | .c n f r, h => by unfold O.ins; rw [show O.cmp f e = .lt from h]

theorem O.ins_comm (e f : O) : ∀ x : O, O.NF x → O.ins e (O.ins f x) = O.ins f (O.ins e x)
 | .z, _ => by
  rcases O.cmp_tri e f with h | h | h
  ·
   have h' := (O.cmp_gt_iff f e).mpr h
   simp [O.ins, h, h']
  ·
   subst h; rfl
  ·
   have h' := (O.cmp_gt_iff e f).mpr h
   simp [O.ins, h, h']
 | .c n g r, hx => by
  have ih := O.ins_comm e f r hx.2.2.1
  have hg : O.hd g r := hx.2.2.2
  rcases O.cmp_tri e g with he | he | he
  ·
   have he' := (O.cmp_gt_iff g e).mpr he
   rcases O.cmp_tri f g with hf | hf | hf
   ·
    have hf' := (O.cmp_gt_iff g f).mpr hf
    simp [O.ins, he', hf', ih]
   ·
    subst hf; simp [O.ins, he', O.cmp_self]
   ·
    simp only [O.ins, he', hf]
    rw [(O.cmp_gt_iff f e).mpr (O.lt_trans _ _ _ he hf)]
    try simp [O.ins, he']
  ·
   subst he
   rcases O.cmp_tri f e with hf | hf | hf
   ·
    have hf' := (O.cmp_gt_iff e f).mpr hf
    simp [O.ins, hf', O.cmp_self]
   ·
    subst hf; rfl
   ·
    have hf' := (O.cmp_gt_iff f e).mpr hf
    simp [O.ins, hf, hf', O.cmp_self]
  ·
   rcases O.cmp_tri f g with hf | hf | hf
   ·
    have hf' := (O.cmp_gt_iff g f).mpr hf
    simp only [O.ins, he, hf']
    rw [(O.cmp_gt_iff e f).mpr (O.lt_trans _ _ _ hf he)]
    try simp [O.ins, hf']
   ·
    subst hf
    have he' := (O.cmp_gt_iff e f).mpr he
    simp [O.ins, he, he', O.cmp_self]
   ·
    rcases O.cmp_tri e f with h | h | h
    ·
     have h' := (O.cmp_gt_iff f e).mpr h
     simp [O.ins, he, hf, h, h']
    ·
     subst h; rfl
    ·
     have h' := (O.cmp_gt_iff e f).mpr h
     simp [O.ins, he, hf, h, h']

theorem O.lt_ins (e : O) : ∀ x : O, O.cmp x (O.ins e x) = .lt
 | .z => rfl
 | .c n f r => by
  unfold O.ins
  cases hc : O.cmp f e with
  | gt => simp [O.cmp, O.cmp_self, O.lt_ins e r]
  | eq => simp [O.cmp, O.cmp_self, Nat.compare_eq_lt.mpr (Nat.lt_succ_self n)]
  | lt => simp [O.cmp, hc]

def O.insk (e : O) : Nat → O → O
 | 0, x => x
 | k + 1, x => O.ins e (O.insk e k x)

theorem O.hd_lt {e : O} : ∀ {x : O}, O.hd e x → ∀ n r, O.cmp x (.c n e r) = .lt
 | .z, _, _, _ => rfl
 | .c _ _ _, h, _, _ => by simp [O.cmp, show O.cmp _ _ = _ from h]

inductive H where
 | nul : H
 | cons (b r : H) : H

-- part: hRow
def H.len : H → Nat
 | .nul => 0
 | .cons _ r => H.len r + 1
def H.body : H → List Int
 | .nul => []
 | .cons b r => (H.len b : Int) :: (H.body b ++ H.body r)
def H.row (h : H) : List Int := (h.len : Int) :: h.body
theorem H.body_cons (b r : H) : (H.cons b r).body = b.row ++ r.body := rfl
theorem H.row_length (h : H) : h.row.length = h.body.length + 1 := by simp [H.row]
theorem H.len_le : ∀ h : H, h.len ≤ h.body.length
 | .nul => Nat.le_refl _
 | .cons b r => by have := H.len_le r; simp only [H.len, H.body, List.length_cons, List.length_append]; omega
inductive BadN : Nat → List Int → Prop where
 | nil (m : Nat) : BadN (m + 1) []
 | out (m : Nat) (x : Int) (r : List Int) (h : x < 0 ∨ 60 < x) : BadN (m + 1) (x :: r)
 | deep (m : Nat) (x : Int) (r : List Int) (h0 : 0 ≤ x) (h1 : x ≤ 60) (h : BadN x.toNat r) : BadN (m + 1) (x :: r)
 | next (m : Nat) (b : H) (t : List Int) (hb : b.row.length ≤ 60) (h : BadN m t) : BadN (m + 1) (b.row ++ t)
theorem read_total : ∀ (n : Nat), n ≤ 60 → ∀ (m : Nat) (l : List Int), l.length ≤ n → (∃ s t, l = H.body s ++ t ∧ s.len = m) ∨ BadN m l
 | n, hn, 0, l, _ => .inl ⟨.nul, l, rfl, rfl⟩
 | n, hn, m + 1, [], _ => .inr (.nil m)
 | 0, hn, m + 1, x :: r, h => by simp at h
 | n + 1, hn, m + 1, x :: r, h => by
  simp only [List.length_cons, Nat.add_le_add_iff_right] at h
  by_cases hx : x < 0 ∨ 60 < x
  ·
   exact .inr (.out m x r hx)
  ·
   rcases read_total n (by omega) x.toNat r h with ⟨s, t, hs, hl⟩ | hb
   ·
    have hxl : x = (s.len : Int) := by omega
    have he : x :: r = s.row ++ t := by rw [hs, hxl]; rfl
    have hlr : r.length = s.body.length + t.length := by rw [hs, List.length_append]
    have hlen : t.length ≤ n := by omega
    rcases read_total n (by omega) m t hlen with ⟨s2, t2, hs2, hl2⟩ | hb
    ·
     refine .inl ⟨.cons s s2, t2, ?_, by rw [H.len, hl2]⟩
     rw [he, hs2, H.body_cons, List.append_assoc]
    ·
     rw [he]
     exact .inr (.next m s t (by rw [H.row_length]; omega) hb)
   ·
    exact .inr (.deep m x r (by omega) (by omega) hb)
theorem H.body_inj : ∀ (s s' : H) (t t' : List Int), s.len = s'.len → s.body ++ t = s'.body ++ t' → s = s' ∧ t = t'
 | .nul, .nul, t, t', _, h => ⟨rfl, h⟩
 | .nul, .cons .., _, _, h, _ => by simp [H.len] at h
 | .cons .., .nul, _, _, h, _ => by simp [H.len] at h
 | .cons b r, .cons b' r', t, t', hl, h => by
  simp only [H.len, Nat.add_right_cancel_iff] at hl
  simp only [H.body, List.cons_append, List.append_assoc, List.cons.injEq] at h
  obtain ⟨h1, h2⟩ := h
  obtain ⟨h3, h4⟩ := H.body_inj b b' _ _ (by omega) h2
  obtain ⟨h5, h6⟩ := H.body_inj r r' _ _ hl h4
  exact ⟨by rw [h3, h5], h6⟩
theorem H.row_inj {g h : H} (e : g.row = h.row) : g = h := by
 simp only [H.row, List.cons.injEq] at e
 exact (H.body_inj g h [] [] (by omega) (by rw [e.2])).1

-- part: hTake
def H.terms : H → List S49
 | .nul => []
 | .cons b r => ⟨H.terms b⟩ :: H.terms r
theorem H.terms_len : ∀ h : H, h.terms.length = h.len
 | .nul => rfl
 | .cons b r => by rw [H.terms, H.len, List.length_cons, H.terms_len r]
theorem rd_T49_mid (pre suf : List S49) (x : S49) : rd_T49 (pre ++ x :: suf) ((pre.length : Nat) : Int) = x := by simp [rd_T49]
theorem rd_cons (x : Int) (l : List Int) : rd (x :: l) 0 = x := rfl
theorem takeHydra_in {x : Int} {r : List Int} (h0 : 0 ≤ x) (h1 : x ≤ 60) {q : (List S49) × List Int × Bool} (h : Ev (fun k => impl_takeHydra.l0 k r [] x 0) q) : Ev (fun k => impl_takeHydra.f k (x :: r)) q := by
 refine ev_s ?_
 have g1 : ¬ (((x :: r).length : Int) = 0) := by simp only [List.length_cons]; omega
 have g2 : (0 : Int) < ((x :: r).length : Int) := by simp only [List.length_cons]; omega
 have g3 : (1 : Int) ≤ ((x :: r).length : Int) := by simp only [List.length_cons]; omega
 have g4 : ¬ (rd (x :: r) 0 < 0) := by rw [rd_cons]; omega
 have g5 : ¬ (rd (x :: r) 0 > 60) := by rw [rd_cons]; omega
 simp only [impl_takeHydra.f, if_neg g1, if_pos g2, if_neg g4, decide_eq_false g5]
 refine ev_s ?_
 simp only [impl_takeHydra.j0, Bool.false_eq_true, if_false, if_pos g2, if_pos g3, List.drop_succ_cons, List.drop_zero]
 exact h
theorem takeHydra_out {l : List Int} (h : l = [] ∨ ∃ x r, l = x :: r ∧ (x < 0 ∨ 60 < x)) : Ev (fun k => impl_takeHydra.f k l) ([], [], false) := by
 have hj : Ev (fun k => impl_takeHydra.j0 k l true) ([], [], false) := by
  refine ev_s ?_
  simp only [impl_takeHydra.j0, if_true]
  exact Ev.now _
 refine ev_s ?_
 rcases h with rfl | ⟨x, r, rfl, hx⟩
 ·
  simp only [impl_takeHydra.f, List.length_nil, if_pos (show ((0 : Nat) : Int) = 0 from rfl)]
  exact hj
 ·
  have g1 : ¬ (((x :: r).length : Int) = 0) := by simp only [List.length_cons]; omega
  have g2 : (0 : Int) < ((x :: r).length : Int) := by simp only [List.length_cons]; omega
  by_cases h0 : rd (x :: r) 0 < 0
  ·
   simp only [impl_takeHydra.f, if_neg g1, if_pos g2, if_pos h0]; exact hj
  ·
   have g5 : rd (x :: r) 0 > 60 := by rw [rd_cons] at h0 ⊢; omega
   simp only [impl_takeHydra.f, if_neg g1, if_pos g2, if_neg h0, decide_eq_true g5]; exact hj
theorem takeHydra_l0 : ∀ (s : H) (pre : List S49) (t : List Int), pre.length + s.body.length ≤ 1000 → s.body.length ≤ 60 →
  Ev (fun k => impl_takeHydra.l0 k (s.body ++ t) pre ((pre.length + s.len : Nat) : Int) (pre.length : Int)) (pre ++ s.terms, t, true)
 | .nul, pre, t, _, _ => by
  refine ev_s ?_
  simp only [impl_takeHydra.l0, H.len, H.body, H.terms, Nat.add_zero, List.nil_append, List.append_nil, Int.lt_irrefl, if_false]
  exact Ev.now _
 | .cons b r, pre, t, hp, hs => by
  simp only [H.body, List.length_cons, List.length_append] at hp hs
  have hbl := H.len_le b
  have ihb := takeHydra_l0 b [] (r.body ++ t) (by simp; omega) (by omega)
  simp only [List.length_nil, Nat.zero_add, List.nil_append] at ihb
  have ihr := takeHydra_l0 r (pre ++ [⟨b.terms⟩]) t (by simp; omega) (by omega)
  have hbody : (H.cons b r).body ++ t = (b.len : Int) :: (b.body ++ (r.body ++ t)) := by simp [H.body]
  have hw : wrap64 ((pre.length : Int) + 1) = (((pre ++ [(⟨b.terms⟩ : S49)]).length : Nat) : Int) := by
   rw [List.length_append, List.length_singleton]; exact wrap_nat2 pre.length 1 (by omega)
  have hcnt : ((pre.length + (H.cons b r).len : Nat) : Int) = (((pre ++ [(⟨b.terms⟩ : S49)]).length + r.len : Nat) : Int) := by
   simp only [H.len, List.length_append, List.length_singleton]; omega
  have hres : pre ++ (H.cons b r).terms = pre ++ [(⟨b.terms⟩ : S49)] ++ r.terms := by simp [H.terms]
  rw [hbody, hres]
  refine ev_s ?_
  simp only [impl_takeHydra.l0, if_pos (show (pre.length : Int) < ((pre.length + (H.cons b r).len : Nat) : Int) by simp only [H.len]; omega)]
  refine Ev.bind (takeHydra_in (by omega) (by omega) ihb) ?_
  simp only [if_true, if_pos (show pre.length < 5864062014805 by omega), hw, hcnt]
  exact ihr
theorem takeHydra_row {s : H} (h : s.row.length ≤ 60) (t : List Int) : Ev (fun k => impl_takeHydra.f k (s.row ++ t)) (s.terms, t, true) := by
 rw [H.row_length] at h
 have := H.len_le s
 have h1 := takeHydra_l0 s [] t (by simp; omega) (by omega)
 simp only [List.length_nil, Nat.zero_add, List.nil_append] at h1
 exact takeHydra_in (by omega) (by omega) h1
theorem takeHydra_bad {m : Nat} {l : List Int} (h : BadN m l) : ∀ (pre : List S49), pre.length + m ≤ 1000 → Ev (fun k => impl_takeHydra.l0 k l pre ((pre.length + m : Nat) : Int) (pre.length : Int)) ([], [], false) := by
 have fall : ∀ (l : List Int) (m : Nat) (pre : List S49) {a : List S49} {t : List Int}, Ev (fun k => impl_takeHydra.f k l) (a, t, false) → Ev (fun k => impl_takeHydra.l0 k l pre ((pre.length + (m + 1) : Nat) : Int) (pre.length : Int)) ([], [], false) := by
  intro l m pre a t h
  refine ev_s ?_
  simp only [impl_takeHydra.l0, if_pos (show (pre.length : Int) < ((pre.length + (m + 1) : Nat) : Int) by omega)]
  refine Ev.bind h ?_
  simp only [Bool.false_eq_true, if_false]
  exact Ev.now _
 induction h with
 | nil m => intro pre _; exact fall _ m pre (takeHydra_out (.inl rfl))
 | out m x r h => intro pre _; exact fall _ m pre (takeHydra_out (.inr ⟨x, r, rfl, h⟩))
 | deep m x r h0 h1 h ih =>
  intro pre hp
  have := ih [] (by simp only [List.length_nil]; omega)
  simp only [List.length_nil, Nat.zero_add, Int.toNat_of_nonneg h0] at this
  exact fall _ m pre (takeHydra_in h0 h1 this)
 | next m b t hb h ih =>
  intro pre hp
  have hw : wrap64 ((pre.length : Int) + 1) = (((pre ++ [(⟨b.terms⟩ : S49)]).length : Nat) : Int) := by
   rw [List.length_append, List.length_singleton]; exact wrap_nat2 pre.length 1 (by omega)
  have hcnt : ((pre.length + (m + 1) : Nat) : Int) = (((pre ++ [(⟨b.terms⟩ : S49)]).length + m : Nat) : Int) := by
   simp only [List.length_append, List.length_singleton]; omega
  refine ev_s ?_
  simp only [impl_takeHydra.l0, if_pos (show (pre.length : Int) < ((pre.length + (m + 1) : Nat) : Int) by omega)]
  refine Ev.bind (takeHydra_row hb t) ?_
  simp only [if_true, if_pos (show pre.length < 5864062014805 by omega), hw, hcnt]
  exact ih (pre ++ [⟨b.terms⟩]) (by simp only [List.length_append, List.length_singleton]; omega)
theorem l5End_in {l : List Int} {p : Nat} (hp : p < l.length) (hb : l.length ≤ 1000000) (h0 : 0 ≤ l[p]) (h1 : l[p] ≤ 60) {q : Int} (h : Ev (fun k => spec_l5End.l0 k l ((p + 1 : Nat) : Int) l[p] 0) q) : Ev (fun k => spec_l5End.f k l (p : Int)) q := by
 refine ev_s ?_
 simp only [spec_l5End.f, if_neg (show ¬ ((p : Int) ≥ (l.length : Int)) by omega), if_pos (show (0 : Int) ≤ (p : Int) by omega), if_pos (show (p : Int) < (l.length : Int) by omega), l1In_eq, Option.bind_some, rd_get hp, decide_eq_true (show 0 ≤ l[p] ∧ l[p] ≤ 60 from ⟨h0, h1⟩)]
 refine ev_s ?_
 simp only [spec_l5End.j0, Bool.not_true, Bool.false_eq_true, if_false, if_pos (show (0 : Int) ≤ (p : Int) by omega), if_pos (show (p : Int) < (l.length : Int) by omega), rd_get hp, show wrap64 ((p : Int) + 1) = ((p + 1 : Nat) : Int) from wrap_nat2 p 1 (by omega)]
 exact h
theorem l5End_out {l : List Int} {p : Nat} (h : l.length ≤ p ∨ ∃ hp : p < l.length, l[p] < 0 ∨ 60 < l[p]) : Ev (fun k => spec_l5End.f k l (p : Int)) (-1) := by
 have hj : Ev (fun k => spec_l5End.j0 k l (p : Int) true) (-1) := by
  refine ev_s ?_
  simp only [spec_l5End.j0, if_true]
  exact Ev.now _
 refine ev_s ?_
 rcases h with h | ⟨hp, hx⟩
 ·
  simp only [spec_l5End.f, if_pos (show ((p : Int) ≥ (l.length : Int)) by omega)]
  exact hj
 ·
  simp only [spec_l5End.f, if_neg (show ¬ ((p : Int) ≥ (l.length : Int)) by omega), if_pos (show (0 : Int) ≤ (p : Int) by omega), if_pos (show (p : Int) < (l.length : Int) by omega), l1In_eq, Option.bind_some, rd_get hp, decide_eq_false (show ¬ (0 ≤ l[p] ∧ l[p] ≤ 60) by omega), Bool.not_false]
  exact hj
theorem l5End_l0 : ∀ (s : H) (pre t l : List Int) (i : Nat), l = pre ++ s.body ++ t → l.length ≤ 1000000 → s.body.length ≤ 60 → i + s.body.length ≤ 1000 →
  Ev (fun k => spec_l5End.l0 k l (pre.length : Int) ((i + s.len : Nat) : Int) (i : Int)) ((pre.length + s.body.length : Nat) : Int)
 | .nul, pre, t, l, i, _, _, _, _ => by
  refine ev_s ?_
  simp only [spec_l5End.l0, H.len, H.body, Nat.add_zero, Int.lt_irrefl, if_false, List.length_nil]
  exact Ev.now _
 | .cons b r, pre, t, l, i, hl, hb, hs, hi => by
  simp only [H.body, List.length_cons, List.length_append] at hs hi
  have hbl := H.len_le b
  have hlen : l.length = pre.length + (b.body.length + r.body.length + 1) + t.length := by rw [hl]; simp only [H.body, List.length_append, List.length_cons]
  have hp : pre.length < l.length := by omega
  have hx : l[pre.length] = (b.len : Int) := by
   subst hl
   simp [H.body]
  have ihb := l5End_l0 b (pre ++ [(b.len : Int)]) (r.body ++ t) l 0 (by rw [hl]; simp [H.body]) hb (by omega) (by omega)
  have ihr := l5End_l0 r (pre ++ b.row) t l (i + 1) (by rw [hl]; simp [H.body, H.row]) hb (by omega) (by omega)
  simp only [List.length_append, List.length_singleton, Nat.zero_add] at ihb
  simp only [List.length_append, H.row_length] at ihr
  have hE : Ev (fun k => spec_l5End.f k l (pre.length : Int)) ((pre.length + (b.body.length + 1) : Nat) : Int) := by
   refine l5End_in hp hb (by rw [hx]; omega) (by rw [hx]; omega) ?_
   rw [hx]
   exact ev_eq ihb (by omega)
  refine ev_s ?_
  simp only [spec_l5End.l0, if_pos (show (i : Int) < ((i + (H.cons b r).len : Nat) : Int) by simp only [H.len]; omega), if_pos (show (pre.length : Int) ≥ 0 by omega), show wrap64 ((i : Int) + 1) = ((i + 1 : Nat) : Int) from wrap_nat2 i 1 (by omega)]
  refine Ev.bind hE ?_
  have e1 : ((i + (H.cons b r).len : Nat) : Int) = ((i + 1 + r.len : Nat) : Int) := by simp only [H.len]; omega
  rw [e1]
  exact ev_eq ihr (by simp only [H.body, List.length_cons, List.length_append]; omega)
theorem l5End_row {s : H} (pre t : List Int) (hb : (pre ++ s.row ++ t).length ≤ 1000000) (hs : s.row.length ≤ 60) : Ev (fun k => spec_l5End.f k (pre ++ s.row ++ t) (pre.length : Int)) ((pre.length + s.row.length : Nat) : Int) := by
 rw [H.row_length] at hs
 have hbl := H.len_le s
 have hp : pre.length < (pre ++ s.row ++ t).length := by simp only [H.row, List.length_append, List.length_cons]; omega
 have hx : (pre ++ s.row ++ t)[pre.length] = (s.len : Int) := by simp [H.row]
 have h2 := l5End_l0 s (pre ++ [(s.len : Int)]) t (pre ++ s.row ++ t) 0 (by simp [H.row]) hb (by omega) (by omega)
 simp only [List.length_append, List.length_singleton, Nat.zero_add] at h2
 refine l5End_in hp hb (by rw [hx]; omega) (by rw [hx]; omega) ?_
 rw [hx]
 exact ev_eq h2 (by rw [H.row_length]; omega)
theorem l5End_bad {m : Nat} {l : List Int} (h : BadN m l) : ∀ (pre : List Int) (i : Nat), (pre ++ l).length ≤ 1000000 → i + m ≤ 1000000 → Ev (fun k => spec_l5End.l0 k (pre ++ l) (pre.length : Int) ((i + m : Nat) : Int) (i : Int)) (-1) := by
 have fall : ∀ (l : List Int) (m i p : Nat), i + (m + 1) ≤ 1000000 → Ev (fun k => spec_l5End.f k l (p : Int)) (-1) → Ev (fun k => spec_l5End.l0 k l (p : Int) ((i + (m + 1) : Nat) : Int) (i : Int)) (-1) := by
  intro l m i p him h
  refine ev_s ?_
  simp only [spec_l5End.l0, if_pos (show (i : Int) < ((i + (m + 1) : Nat) : Int) by omega), if_pos (show (p : Int) ≥ 0 by omega), show wrap64 ((i : Int) + 1) = ((i + 1 : Nat) : Int) from wrap_nat2 i 1 (by omega)]
  refine Ev.bind h ?_
  refine ev_s ?_
  by_cases hm : ((i + 1 : Nat) : Int) < ((i + (m + 1) : Nat) : Int)
  ·
   simp only [spec_l5End.l0, if_pos hm, if_neg (show ¬ ((-1 : Int) ≥ 0) by decide)]; exact Ev.now _
  ·
   simp only [spec_l5End.l0, if_neg hm]; exact Ev.now _
 induction h with
 | nil m => intro pre i hl him; exact fall _ m i _ him (l5End_out (.inl (by simp)))
 | out m x r h => intro pre i hl him; exact fall _ m i _ him (l5End_out (.inr ⟨by simp, by simpa using h⟩))
 | deep m x r h0 h1 h ih =>
  intro pre i hl him
  have := ih (pre ++ [x]) 0 (by simpa using hl) (by omega)
  simp only [List.append_assoc, List.singleton_append, List.length_append, List.length_singleton, Nat.zero_add, Int.toNat_of_nonneg h0] at this
  have hx : (pre ++ x :: r)[pre.length]'(by simp) = x := by simp
  refine fall _ m i _ him (l5End_in (by simp) hl (by rw [hx]; exact h0) (by rw [hx]; exact h1) ?_)
  rw [hx]
  exact this
 | next m b t hb h ih =>
  intro pre i hl him
  have := ih (pre ++ b.row) (i + 1) (by simpa using hl) (by omega)
  have hr := l5End_row (s := b) pre t (by simpa using hl) hb
  rw [List.append_assoc] at hr this
  refine ev_s ?_
  simp only [spec_l5End.l0, if_pos (show (i : Int) < ((i + (m + 1) : Nat) : Int) by omega), if_pos (show (pre.length : Int) ≥ 0 by omega), show wrap64 ((i : Int) + 1) = ((i + 1 : Nat) : Int) from wrap_nat2 i 1 (by omega)]
  refine Ev.bind hr ?_
  rw [show i + (m + 1) = i + 1 + m by omega, ← List.length_append]
  exact this
theorem hydra_cases (l : List Int) : (∃ h : H, l = h.row ∧ l.length ≤ 60) ∨ (60 < l.length ∨ l = [] ∨ BadN 1 l ∨ ∃ (h : H) (x : Int) (t : List Int), l = h.row ++ x :: t) := by
 by_cases h60 : l.length ≤ 60
 ·
  rcases read_total 60 (Nat.le_refl _) 1 l h60 with ⟨s, t, hs, hl⟩ | hb
  ·
   rcases s with _ | ⟨b, r⟩
   ·
    simp [H.len] at hl
   ·
    rcases r with _ | ⟨b2, r2⟩
    ·
     have e : l = b.row ++ t := by rw [hs, H.body_cons]; simp [H.body]
     rcases t with _ | ⟨x, t⟩
     ·
      exact .inl ⟨b, by rw [e, List.append_nil], h60⟩
     ·
      exact .inr (.inr (.inr (.inr ⟨b, x, t, e⟩)))
    ·
     simp [H.len] at hl
  ·
   exact .inr (.inr (.inr (.inl hb)))
 ·
  exact .inr (.inl (by omega))
theorem impl_hydraOf_good {h : H} (hl : h.row.length ≤ 60) : Ev (fun k => impl_hydraOf.f k h.row) (h.terms, true) := by
 have hr := H.row_length h
 have := takeHydra_row hl []
 rw [List.append_nil] at this
 simp only [impl_hydraOf.f, if_neg (show ¬ ((h.row.length : Int) < 1) by omega), if_neg (show ¬ ((h.row.length : Int) > 60) by omega)]
 refine Ev.bind this ?_
 simp only [if_true]
 exact ev_now (by simp)
theorem spec_HydraValid_good {h : H} (hl : h.row.length ≤ 60) : Ev (fun k => spec_HydraValid.f k h.row) true := by
 have hr := H.row_length h
 have := l5End_row (s := h) [] [] (by simp; omega) hl
 simp only [List.nil_append, List.append_nil, List.length_nil, Nat.zero_add] at this
 simp only [spec_HydraValid.f, l1In_eq, Option.bind_some, decide_eq_true (show 1 ≤ (h.row.length : Int) ∧ (h.row.length : Int) ≤ 60 by omega), if_true]
 refine Ev.bind this ?_
 exact ev_now (by simp)
def NoHydra (l : List Int) : Prop := 60 < l.length ∨ l = [] ∨ BadN 1 l ∨ ∃ (h : H) (x : Int) (t : List Int), l = h.row ++ x :: t
theorem impl_hydraOf_bad {l : List Int} (h : NoHydra l) : ∃ a, Ev (fun k => impl_hydraOf.f k l) (a, false) := by
 by_cases h0 : l = []
 ·
  subst h0
  refine ⟨[], ?_⟩
  simp only [impl_hydraOf.f, List.length_nil, if_pos (show ((0 : Nat) : Int) < 1 by decide)]
  exact Ev.now _
 ·
  have hpos : 0 < l.length := List.length_pos_iff.mpr h0
  by_cases h60 : 60 < l.length
  ·
   refine ⟨[], ?_⟩
   simp only [impl_hydraOf.f, if_neg (show ¬ ((l.length : Int) < 1) by omega), if_pos (show (l.length : Int) > 60 by omega)]
   exact Ev.now _
  ·
   simp only [impl_hydraOf.f, if_neg (show ¬ ((l.length : Int) < 1) by omega), if_neg (show ¬ ((l.length : Int) > 60) by omega)]
   rcases h with h | h | h | ⟨g, x, t, rfl⟩
   ·
    omega
   ·
    exact absurd h h0
   ·
    have hf : ∃ a t, Ev (fun k => impl_takeHydra.f k l) (a, t, false) := by
     cases h with
     | nil => exact absurd rfl h0
     | out m x r h => exact ⟨_, _, takeHydra_out (.inr ⟨x, r, rfl, h⟩)⟩
     | deep m x r hx0 hx1 h =>
      have := takeHydra_bad h [] (by simp only [List.length_nil]; omega)
      simp only [List.length_nil, Nat.zero_add, Int.toNat_of_nonneg hx0] at this
      exact ⟨_, _, takeHydra_in hx0 hx1 this⟩
     | next m b t hb h => cases h
    obtain ⟨a, t, hf⟩ := hf
    refine ⟨a, Ev.bind hf ?_⟩
    simp only [Bool.false_eq_true, if_false]
    exact Ev.now _
   ·
    simp only [List.length_append, List.length_cons] at h60
    refine ⟨g.terms, Ev.bind (takeHydra_row (by omega) (x :: t)) ?_⟩
    simp only [if_true]
    exact ev_now (by simp; omega)
theorem spec_HydraValid_bad {l : List Int} (h : NoHydra l) : Ev (fun k => spec_HydraValid.f k l) false := by
 by_cases h1 : 1 ≤ (l.length : Int) ∧ (l.length : Int) ≤ 60
 ·
  simp only [spec_HydraValid.f, l1In_eq, Option.bind_some, decide_eq_true h1, if_true]
  have hend : ∃ e : Int, e ≠ (l.length : Int) ∧ Ev (fun k => spec_l5End.f k l ((0 : Nat) : Int)) e := by
   rcases h with h | h | h | ⟨g, x, t, rfl⟩
   ·
    omega
   ·
    subst h; simp at h1
   ·
    refine ⟨-1, by omega, ?_⟩
    cases h with
    | nil => simp at h1
    | out m x r h => exact l5End_out (.inr ⟨by simp, by simpa using h⟩)
    | deep m x r h0 h2 h =>
     have := l5End_bad h [x] 0 (by simp only [List.singleton_append]; omega) (by omega)
     simp only [List.singleton_append, List.length_singleton, Nat.zero_add, Int.toNat_of_nonneg h0] at this
     exact l5End_in (by simp) (by omega) (by simpa using h0) (by simpa using h2) this
    | next m b t hb h => cases h
   ·
    simp only [List.length_append, List.length_cons] at h1
    have := l5End_row (s := g) [] (x :: t) (by simp; omega) (by omega)
    simp only [List.nil_append, List.length_nil, Nat.zero_add] at this
    exact ⟨_, by simp only [List.length_append, List.length_cons]; omega, this⟩
  obtain ⟨e, he, hE⟩ := hend
  refine Ev.bind hE ?_
  exact ev_now (by simpa using he)
 ·
  simp only [spec_HydraValid.f, l1In_eq, Option.bind_some, decide_eq_false h1, Bool.false_eq_true, if_false]
  exact Ev.now _
theorem hydra_or (l : List Int) : (∃ h : H, l = h.row ∧ h.row.length ≤ 60) ∨ NoHydra l := by
 rcases hydra_cases l with ⟨h, e, hl⟩ | h
 ·
  exact .inl ⟨h, e, e ▸ hl⟩
 ·
  exact .inr h
theorem impl_HydraValid_good {h : H} (hl : h.row.length ≤ 60) : Ev (fun k => impl_HydraValid.f k h.row) true := by
 simp only [impl_HydraValid.f]
 exact Ev.bind (impl_hydraOf_good hl) (Ev.now _)
theorem impl_HydraValid_bad {l : List Int} (h : NoHydra l) : Ev (fun k => impl_HydraValid.f k l) false := by
 obtain ⟨a, ha⟩ := impl_hydraOf_bad h
 simp only [impl_HydraValid.f]
 exact Ev.bind ha (Ev.now _)

-- part: hHeads
theorem zeroLoop (g : Nat → List Int → Int → Int → Option Int) (hg : ∀ k x0 x3 x4, g (k + 1) x0 x3 x4 = if x4 < (x0.length : Int) then (if 0 ≤ x4 then (if (rd x0 x4) = 0 then (g k x0 (wrap64 (x3 + 1)) (wrap64 (x4 + 1))) else (g k x0 x3 (wrap64 (x4 + 1)))) else (none)) else (some x3)) (l : List Int) (hb : l.length ≤ 140737488351232) :
  ∀ (d i n : Nat), i + d = l.length → n ≤ i → Ev (fun k => g k l (n : Int) (i : Int)) ((n + (l.drop i).count 0 : Nat) : Int)
 | 0, i, n, h, _ => by
  refine Ev.step (fun k => hg k l n i) ?_
  simp only [if_neg (show ¬ ((i : Int) < (l.length : Int)) by omega)]
  rw [List.drop_eq_nil_of_le (by omega)]
  exact ev_now (by simp)
 | d + 1, i, n, h, hn => by
  have hi : i < l.length := by omega
  refine Ev.step (fun k => hg k l n i) ?_
  simp only [if_pos (show (i : Int) < (l.length : Int) by omega), if_pos (show 0 ≤ (i : Int) by omega), rd_get hi, show wrap64 ((i : Int) + 1) = ((i + 1 : Nat) : Int) from wrap_nat2 i 1 (by omega), show wrap64 ((n : Int) + 1) = ((n + 1 : Nat) : Int) from wrap_nat2 n 1 (by omega)]
  rw [List.drop_eq_getElem_cons hi, List.count_cons]
  by_cases hx : l[i] = 0
  ·
   simp only [if_pos hx]
   exact ev_eq (zeroLoop g hg l hb d (i + 1) (n + 1) (by omega) (by omega)) (by simp [hx]; omega)
  ·
   simp only [if_neg hx]
   exact ev_eq (zeroLoop g hg l hb d (i + 1) n (by omega) (by omega)) (by simp [hx])
def H.zs (h : H) : Nat := h.body.count 0
theorem H.zs_cons (b r : H) : (H.cons b r).zs = (if b.len = 0 then 1 else 0) + b.zs + r.zs := by
 simp only [H.zs, H.body, List.count_cons, List.count_append]
 by_cases h : b.len = 0
 ·
  simp [h]; omega
 ·
  have : ¬ ((b.len : Int) = 0) := by omega
  simp [h]
theorem H.zs_le (h : H) : h.zs ≤ h.body.length := List.count_le_length
theorem heads_l0 : ∀ (s : H) (pre : List S49) (n : Nat), pre.length + s.body.length ≤ 1000 → n + s.body.length ≤ 100000 → Ev (fun k => impl_hydra_heads.l0 k (n : Int) (pre ++ s.terms) (((pre ++ s.terms).length : Nat) : Int) (pre.length : Int)) ((n + s.zs : Nat) : Int)
 | .nul, pre, n, _, _ => by
  refine ev_s ?_
  simp only [impl_hydra_heads.l0, H.terms, List.append_nil, Int.lt_irrefl, if_false]
  exact ev_now (by simp [H.zs, H.body])
 | .cons b r, pre, n, hp, hn => by
  simp only [H.body, List.length_cons, List.length_append] at hp hn
  have hbz := H.zs_le b
  have hbt := H.terms_len b
  have hbl := H.len_le b
  have hE : Ev (fun k => impl_hydra_heads.f k b.terms) (b.zs : Int) := by
   refine ev_s ?_
   simp only [impl_hydra_heads.f]
   have := heads_l0 b [] 0 (by simp; omega) (by omega)
   rw [List.nil_append] at this
   exact ev_eq this (by simp)
  have hlen : (pre ++ (H.cons b r).terms).length = pre.length + (r.terms.length + 1) := by simp [H.terms]
  have hmid : rd_T49 (pre ++ (H.cons b r).terms) (pre.length : Int) = ⟨b.terms⟩ := rd_T49_mid pre r.terms ⟨b.terms⟩
  have happ : pre ++ (H.cons b r).terms = (pre ++ [⟨b.terms⟩]) ++ r.terms := by simp [H.terms]
  have ew : wrap64 ((pre.length : Int) + 1) = (((pre ++ [(⟨b.terms⟩ : S49)]).length : Nat) : Int) := by
   rw [List.length_append, List.length_singleton]; exact wrap_nat2 pre.length 1 (by omega)
  have g1 : (pre.length : Int) < (((pre ++ (H.cons b r).terms).length : Nat) : Int) := by omega
  refine ev_s ?_
  simp only [impl_hydra_heads.l0, if_pos g1, if_pos (show (0 : Int) ≤ (pre.length : Int) from Int.natCast_nonneg _), hmid]
  by_cases h0 : b.len = 0
  ·
   simp only [if_pos (show (b.terms.length : Int) = 0 by omega)]
   refine Ev.bind hE ?_
   rw [wrap_in (x := (n : Int) + 1) (by omega) (by omega), wrap_in (x := (n : Int) + 1 + (b.zs : Int)) (by omega) (by omega), ew, show (n : Int) + 1 + (b.zs : Int) = ((n + 1 + b.zs : Nat) : Int) by omega, happ]
   exact ev_eq (heads_l0 r (pre ++ [⟨b.terms⟩]) (n + 1 + b.zs) (by simp only [List.length_append, List.length_singleton]; omega) (by omega)) (by rw [H.zs_cons, if_pos h0]; omega)
  ·
   simp only [if_neg (show ¬ ((b.terms.length : Int) = 0) by omega)]
   refine Ev.bind hE ?_
   rw [wrap_in (x := (n : Int) + (b.zs : Int)) (by omega) (by omega), ew, show (n : Int) + (b.zs : Int) = ((n + b.zs : Nat) : Int) by omega, happ]
   exact ev_eq (heads_l0 r (pre ++ [⟨b.terms⟩]) (n + b.zs) (by simp only [List.length_append, List.length_singleton]; omega) (by omega)) (by rw [H.zs_cons, if_neg h0]; omega)
theorem heads_ev (h : H) (hl : h.row.length ≤ 60) : Ev (fun k => impl_hydra_heads.f k h.terms) (h.zs : Int) := by
 rw [H.row_length] at hl
 refine ev_s ?_
 simp only [impl_hydra_heads.f]
 have := heads_l0 h [] 0 (by simp; omega) (by omega)
 rw [List.nil_append] at this
 exact ev_eq this (by simp)
theorem impl_HydraHeads_good {h : H} (hl : h.row.length ≤ 60) : Ev (fun k => impl_HydraHeads.f k h.row) (h.zs : Int) := by
 simp only [impl_HydraHeads.f]
 refine Ev.bind (impl_hydraOf_good hl) ?_
 simp only [if_true]
 exact Ev.bind (heads_ev h hl) (Ev.now _)
theorem spec_HydraHeads_good {h : H} (hl : h.row.length ≤ 60) : Ev (fun k => spec_HydraHeads.f k h.row) (h.zs : Int) := by
 have hr := H.row_length h
 simp only [spec_HydraHeads.f]
 refine Ev.bind (spec_HydraValid_good hl) ?_
 simp only [if_true]
 have := zeroLoop spec_HydraHeads.l0 (fun _ _ _ _ => rfl) h.row (by omega) h.body.length 1 0 (by omega) (by omega)
 exact ev_eq this (by simp [H.row, H.zs])
def H.rows : H → List (List Int)
 | .nul => []
 | .cons b r => b.row :: H.rows r
theorem H.rows_len : ∀ h : H, h.rows.length = h.len
 | .nul => rfl
 | .cons b r => by rw [H.rows, H.len, List.length_cons, H.rows_len r]
theorem H.rows_flat : ∀ h : H, h.rows.flatten = h.body
 | .nul => rfl
 | .cons b r => by rw [H.rows, List.flatten_cons, H.rows_flat r, H.body_cons]
theorem rd_L1_mid (pre suf : List (List Int)) (x : List Int) : rd_L1 (pre ++ x :: suf) ((pre.length : Nat) : Int) = x := by simp [rd_L1]
theorem l5Branches_l0 : ∀ (s : H) (pre : List Int) (out : List (List Int)), (pre ++ s.body).length ≤ 1000000 → s.body.length ≤ 60 → out.length + s.len ≤ 1000000 → Ev (fun k => spec_l5Branches.l0 k (pre ++ s.body) out (pre.length : Int)) (out ++ s.rows)
 | .nul, pre, out, _, _, _ => by
  refine ev_s ?_
  simp only [spec_l5Branches.l0, H.body, H.rows, List.append_nil, Int.lt_irrefl, if_false]
  exact Ev.now _
 | .cons b r, pre, out, hb, hs, ho => by
  have hE := l5End_row (s := b) pre r.body (by rw [H.body_cons] at hb; rw [List.append_assoc]; exact hb) (by rw [H.body_cons, List.length_append] at hs; omega)
  have ihr := l5Branches_l0 r (pre ++ b.row) (out ++ [b.row]) (by rw [H.body_cons] at hb; rw [List.append_assoc]; exact hb) (by rw [H.body_cons, List.length_append] at hs; omega) (by simp only [H.len] at ho; simp only [List.length_append, List.length_singleton]; omega)
  have hrl := H.row_length b
  have he : pre ++ (H.cons b r).body = pre ++ b.row ++ r.body := by rw [H.body_cons, List.append_assoc]
  have hcut : ((pre ++ b.row ++ r.body).take (pre.length + b.row.length)).drop pre.length = b.row := by
   rw [show pre.length + b.row.length = (pre ++ b.row).length by rw [List.length_append], List.take_left', List.drop_left']
   ·
    rfl
   ·
    rfl
  have hres : out ++ (H.cons b r).rows = out ++ [b.row] ++ r.rows := by simp [H.rows]
  rw [he] at hb ⊢
  rw [hres]
  have hlen : (pre ++ b.row ++ r.body).length = pre.length + b.row.length + r.body.length := by simp only [List.length_append]
  refine ev_s ?_
  simp only [spec_l5Branches.l0, if_pos (show (pre.length : Int) < ((pre ++ b.row ++ r.body).length : Int) by omega)]
  refine Ev.bind hE ?_
  simp only [if_pos (show (0 : Int) ≤ (pre.length : Int) by omega), if_pos (show (pre.length : Int) ≤ ((pre.length + b.row.length : Nat) : Int) by omega), if_pos (show ((pre.length + b.row.length : Nat) : Int) ≤ ((pre ++ b.row ++ r.body).length : Int) by omega), if_pos (show out.length < 5864062014805 by omega), Int.toNat_natCast, hcut]
  rw [← List.length_append]
  exact ihr
theorem l5Branches_ev {h : H} (hl : h.row.length ≤ 60) : Ev (fun k => spec_l5Branches.f k h.row) h.rows := by
 have hr := H.row_length h
 have hle := H.len_le h
 have := l5Branches_l0 h [(h.len : Int)] [] (by simp; omega) (by omega) (by simp; omega)
 simp only [spec_l5Branches.f]
 exact this

-- part: hGrown
theorem row_l0 : ∀ (s : H) (pre : List S49) (a : List Int), pre.length + s.body.length ≤ 1000000 → a.length + s.body.length ≤ 1000000 →
  Ev (fun k => impl_hydra_row.l0 k a (pre ++ s.terms) (((pre ++ s.terms).length : Nat) : Int) (pre.length : Int)) (a ++ s.body)
 | .nul, pre, a, _, _ => by
  refine ev_s ?_
  simp only [impl_hydra_row.l0, H.terms, H.body, List.append_nil, Int.lt_irrefl, if_false]
  exact Ev.now _
 | .cons b r, pre, a, hp, ha => by
  have hrl := H.row_length b
  simp only [H.body, List.length_cons, List.length_append] at hp ha
  have hE : Ev (fun k => impl_hydra_row.f k b.terms) b.row := by
   refine ev_s ?_
   simp only [impl_hydra_row.f]
   have := row_l0 b [] [(b.len : Int)] (by simp; omega) (by simp; omega)
   rw [List.nil_append] at this
   simp only [H.terms_len] at this ⊢
   exact this
  have hlen : (pre ++ (H.cons b r).terms).length = pre.length + (r.terms.length + 1) := by simp [H.terms]
  have hmid : rd_T49 (pre ++ (H.cons b r).terms) (pre.length : Int) = ⟨b.terms⟩ := rd_T49_mid pre r.terms ⟨b.terms⟩
  have happ : pre ++ (H.cons b r).terms = (pre ++ [⟨b.terms⟩]) ++ r.terms := by simp [H.terms]
  have ew : wrap64 ((pre.length : Int) + 1) = (((pre ++ [(⟨b.terms⟩ : S49)]).length : Nat) : Int) := by
   rw [List.length_append, List.length_singleton]; exact wrap_nat2 pre.length 1 (by omega)
  have g1 : (pre.length : Int) < (((pre ++ (H.cons b r).terms).length : Nat) : Int) := by omega
  refine ev_s ?_
  simp only [impl_hydra_row.l0, if_pos g1, if_pos (show (0 : Int) ≤ (pre.length : Int) from Int.natCast_nonneg _), hmid]
  refine Ev.bind hE ?_
  simp only [if_pos (show a.length + b.row.length < 17592186044416 by omega), ew]
  rw [happ, H.body_cons, ← List.append_assoc]
  exact row_l0 r (pre ++ [⟨b.terms⟩]) (a ++ b.row) (by simp only [List.length_append, List.length_singleton]; omega) (by rw [List.length_append]; omega)
theorem row_ev {h : H} (hl : h.row.length ≤ 100000) : Ev (fun k => impl_hydra_row.f k h.terms) h.row := by
 rw [H.row_length] at hl
 refine ev_s ?_
 simp only [impl_hydra_row.f]
 have := row_l0 h [] [(h.len : Int)] (by simp; omega) (by simp; omega)
 rw [List.nil_append] at this
 simp only [H.terms_len] at this ⊢
 exact this
theorem grown_ev {h : H} (hl : h.row.length ≤ 100000) : Ev (fun k => impl_grown.f k h.terms) (if h.row.length ≤ 60 then (h.row, true) else ([], false)) := by
 simp only [impl_grown.f]
 refine Ev.bind (row_ev hl) ?_
 by_cases h60 : h.row.length ≤ 60
 ·
  simp only [if_neg (show ¬ ((h.row.length : Int) > 60) by omega), if_pos h60, slices_Clip_int_int.f, Option.bind_some]
  exact Ev.now _
 ·
  simp only [if_pos (show ((h.row.length : Int) > 60) by omega), if_neg h60]
  exact Ev.now _

-- part: oRow
def O.len : O → Nat
 | .z => 0
 | .c _ _ r => O.len r + 1
def O.body : O → List Int
 | .z => []
 | .c n e r => (n : Int) :: (O.len e : Int) :: (O.body e ++ O.body r)
def O.row (o : O) : List Int := (O.len o : Int) :: O.body o
theorem O.len_le : ∀ o : O, o.len ≤ o.body.length
 | .z => Nat.le_refl _
 | .c n e r => by have := O.len_le r; simp only [O.len, O.body, List.length_cons, List.length_append]; omega
inductive IsO : List S89 → O → Prop where
 | nil : IsO [] .z
 | cons {n : Nat} {e r : List S89} {oe or_ : O} (he : IsO e oe) (hr : IsO r or_) : IsO (⟨(n : Int), e⟩ :: r) (.c n oe or_)
theorem IsO.len {l : List S89} {o : O} (h : IsO l o) : l.length = o.len := by
 induction h with
 | nil => rfl
 | cons he hr ihe ihr => simp [O.len, ihr]
theorem rd_T89_mid (pre suf : List S89) (x : S89) : rd_T89 (pre ++ x :: suf) ((pre.length : Nat) : Int) = x := by simp [rd_T89]
def O.num (n : Nat) : O := if n = 0 then .z else .c n .z .z
theorem rowOf_l0 {suf : List S89} {o : O} (h : IsO suf o) : ∀ (pre : List S89) (out : List Int), pre.length + suf.length ≤ 1000000 → out.length + o.body.length ≤ 1000000 → Ev (fun k => impl_rowOf.l0 k out (pre ++ suf) (((pre ++ suf).length : Nat) : Int) (pre.length : Int)) (out ++ o.body) := by
 induction h with
 | nil =>
  intro pre out _ _
  refine ev_s ?_
  simp only [impl_rowOf.l0, List.append_nil, if_neg (show ¬ ((pre.length : Int) < (pre.length : Int)) by omega), O.body]
  exact Ev.now _
 | @cons n e r oe or_ he hr ihe ihr =>
  intro pre out hp ho
  simp only [List.length_cons] at hp
  simp only [O.body, List.length_cons, List.length_append] at ho
  have hlen : ((pre ++ (⟨(n : Int), e⟩ : S89) :: r).length : Nat) = pre.length + (r.length + 1) := by simp
  have he1 := IsO.len he
  have hel := O.len_le oe
  have hE : Ev (fun k => impl_rowOf.f k e) oe.row := by
   refine ev_s ?_
   simp only [impl_rowOf.f]
   have := ihe [] [(e.length : Int)] (by simp; omega) (by simp; omega)
   rw [List.nil_append] at this
   refine ev_eq this ?_
   rw [O.row, ← he1]; rfl
  refine ev_s ?_
  simp only [impl_rowOf.l0, rd_T89_mid, hlen, if_pos (show (pre.length : Int) < ((pre.length + (r.length + 1) : Nat) : Int) by omega), if_pos (show (0 : Int) ≤ (pre.length : Int) by omega), if_pos (show out.length < 17592186044416 by omega), Option.bind_some]
  refine Ev.bind hE ?_
  have hrow : oe.row.length = oe.body.length + 1 := by simp [O.row]
  simp only [List.length_append, List.length_singleton, hrow, if_pos (show out.length + 1 + (oe.body.length + 1) < 17592186044416 by omega), show wrap64 ((pre.length : Int) + 1) = ((pre.length + 1 : Nat) : Int) by rw [wrap_in (by omega) (by omega)]; rfl]
  have := ihr (pre ++ [⟨(n : Int), e⟩]) (out ++ [(n : Int)] ++ oe.row) (by simp; omega) (by simp [hrow]; omega)
  simp only [List.append_assoc, List.singleton_append, List.length_append, List.length_cons, List.length_nil] at this
  refine ev_eq ?_ (show out ++ ((n : Int) :: (oe.row ++ or_.body)) = out ++ (O.c n oe or_).body by simp [O.body, O.row])
  simp only [List.append_assoc, List.singleton_append]
  exact this
theorem rowOf_ev {l : List S89} {o : O} (h : IsO l o) (ho : o.body.length ≤ 100000) : Ev (fun k => impl_rowOf.f k l) o.row := by
 have hl := IsO.len h
 have := O.len_le o
 refine ev_s ?_
 simp only [impl_rowOf.f]
 have := rowOf_l0 h [] [(l.length : Int)] (by simp; omega) (by simp; omega)
 rw [List.nil_append] at this
 refine ev_eq this ?_
 rw [O.row, ← hl]; rfl

-- part: oBody
theorem O.row_length (o : O) : o.row.length = o.body.length + 1 := by simp [O.row]
theorem O.body_c (n : Nat) (e r : O) : (O.c n e r).body = (n : Int) :: (e.row ++ r.body) := by simp [O.body, O.row]

-- part: oTerms
def O.terms : O → List S89
 | .z => []
 | .c n e r => ⟨(n : Int), O.terms e⟩ :: O.terms r
theorem O.terms_is : ∀ o : O, IsO o.terms o
 | .z => .nil
 | .c n e r => .cons (O.terms_is e) (O.terms_is r)
theorem IsO.terms {l : List S89} {o : O} (h : IsO l o) : l = o.terms := by
 induction h with
 | nil => rfl
 | cons _ _ h1 h2 => rw [O.terms, h1, h2]
theorem O.terms_len (o : O) : o.terms.length = o.len := IsO.len o.terms_is
def ordI : Ordering → Int
 | .lt => -1
 | .eq => 0
 | .gt => 1
theorem ordI_neg {o : Ordering} : ordI o < 0 ↔ o = .lt := by cases o <;> decide
theorem cmpInt_nat (x y : Nat) : cmp_Compare_int.f (x : Int) (y : Int) = some (ordI (compare x y)) := by
 simp only [cmp_Compare_int.f, cmp_isNaN_int.f, Option.bind_some, bne_self_eq_false, Bool.false_eq_true, if_false]
 by_cases h1 : x < y
 ·
  rw [if_pos (show (x : Int) < (y : Int) by omega), Nat.compare_eq_lt.mpr h1]; rfl
 ·
  by_cases h2 : y < x
  ·
   rw [if_neg (show ¬ ((x : Int) < (y : Int)) by omega), if_pos (show (x : Int) > (y : Int) by omega), Nat.compare_eq_gt.mpr h2]; rfl
  ·
   rw [if_neg (show ¬ ((x : Int) < (y : Int)) by omega), if_neg (show ¬ ((x : Int) > (y : Int)) by omega), Nat.compare_eq_eq.mpr (by omega)]; rfl
theorem ordI_then (a b : Ordering) : ordI (a.then b) = if ordI a = 0 then ordI b else ordI a := by cases a <;> rfl
theorem compare_step (n m : Nat) (e r f s : O) (pa pb : List S89) (hp : pa.length = pb.length) (hb : pa.length ≤ 1000000) (h1 : Ev (fun k => impl_compare.f k e.terms f.terms) (ordI (O.cmp e f)))
  (h2 : Ev (fun k => impl_compare.l0 k (pa ++ ((⟨(n : Int), O.terms e⟩ : S89) :: O.terms r)) (pb ++ ((⟨(m : Int), O.terms f⟩ : S89) :: O.terms s)) ((pa.length + 1 : Nat) : Int)) (ordI (O.cmp r s))) :
  Ev (fun k => impl_compare.l0 k (pa ++ ((⟨(n : Int), O.terms e⟩ : S89) :: O.terms r)) (pb ++ ((⟨(m : Int), O.terms f⟩ : S89) :: O.terms s)) (pa.length : Int)) (ordI (O.cmp (.c n e r) (.c m f s))) := by
 have hla : (pa ++ ((⟨(n : Int), O.terms e⟩ : S89) :: O.terms r)).length = pa.length + (r.terms.length + 1) := by simp
 have hlb : (pb ++ ((⟨(m : Int), O.terms f⟩ : S89) :: O.terms s)).length = pb.length + (s.terms.length + 1) := by simp
 have ea : rd_T89 (pa ++ ((⟨(n : Int), O.terms e⟩ : S89) :: O.terms r)) (pa.length : Int) = ⟨(n : Int), O.terms e⟩ := rd_T89_mid pa r.terms ⟨(n : Int), O.terms e⟩
 have eb : rd_T89 (pb ++ ((⟨(m : Int), O.terms f⟩ : S89) :: O.terms s)) (pa.length : Int) = ⟨(m : Int), O.terms f⟩ := by rw [hp]; exact rd_T89_mid pb s.terms ⟨(m : Int), O.terms f⟩
 generalize pa ++ ((⟨(n : Int), O.terms e⟩ : S89) :: O.terms r) = A at *
 generalize pb ++ ((⟨(m : Int), O.terms f⟩ : S89) :: O.terms s) = B at *
 have ew : wrap64 ((pa.length : Int) + 1) = ((pa.length + 1 : Nat) : Int) := wrap_nat2 pa.length 1 (by omega)
 have g1 : (pa.length : Int) < (A.length : Int) := by omega
 have g2 : (pa.length : Int) < (B.length : Int) := by omega
 refine ev_s ?_
 simp only [impl_compare.l0, if_pos g1, decide_eq_true g2]
 refine ev_s ?_
 simp only [impl_compare.j1, if_true, if_pos (show (0 : Int) ≤ (pa.length : Int) from Int.natCast_nonneg _), if_pos g1, if_pos g2, ea, eb, ew]
 refine Ev.bind h1 ?_
 rw [O.cmp, ordI_then, ordI_then]
 by_cases q1 : ordI (O.cmp e f) = 0
 ·
  simp only [if_pos q1, cmpInt_nat, Option.bind_some]
  by_cases q2 : ordI (compare n m) = 0
  ·
   simp only [if_pos q2]
   exact h2
  ·
   simp only [if_neg q2]
   exact Ev.now _
 ·
  simp only [if_neg q1]
  exact Ev.now _
theorem compare_l0 : ∀ (x y : O) (pa pb : List S89), pa.length = pb.length → pa.length + x.body.length ≤ 1000000 → pb.length + y.body.length ≤ 1000000 →
  Ev (fun k => impl_compare.l0 k (pa ++ x.terms) (pb ++ y.terms) (pa.length : Int)) (ordI (O.cmp x y))
 | .z, .z, pa, pb, hp, _, _ => by
  refine ev_s ?_
  simp only [impl_compare.l0, O.terms, List.append_nil, if_neg (show ¬ ((pa.length : Int) < (pa.length : Int)) by omega)]
  refine ev_s ?_
  simp only [impl_compare.j1, Bool.false_eq_true, if_false, cmpInt_nat, Option.bind_some, hp, Nat.compare_eq_eq.mpr]
  exact Ev.now _
 | .z, .c m f s, pa, pb, hp, _, _ => by
  refine ev_s ?_
  simp only [impl_compare.l0, O.terms, List.append_nil, if_neg (show ¬ ((pa.length : Int) < (pa.length : Int)) by omega)]
  refine ev_s ?_
  have hl : (pb ++ (⟨(m : Int), O.terms f⟩ :: O.terms s : List S89)).length = pb.length + (s.terms.length + 1) := by simp
  simp only [impl_compare.j1, Bool.false_eq_true, if_false, cmpInt_nat, Option.bind_some, hl, Nat.compare_eq_lt.mpr (show pa.length < pb.length + (s.terms.length + 1) by omega)]
  exact Ev.now _
 | .c n e r, .z, pa, pb, hp, _, _ => by
  refine ev_s ?_
  have hl : (pa ++ (⟨(n : Int), O.terms e⟩ :: O.terms r : List S89)).length = pa.length + (r.terms.length + 1) := by simp
  simp only [impl_compare.l0, O.terms, List.append_nil, hl, if_pos (show (pa.length : Int) < ((pa.length + (r.terms.length + 1) : Nat) : Int) by omega), decide_eq_false (show ¬ ((pa.length : Int) < (pb.length : Int)) by omega)]
  refine ev_s ?_
  simp only [impl_compare.j1, Bool.false_eq_true, if_false, hl, cmpInt_nat, Option.bind_some, Nat.compare_eq_gt.mpr (show pb.length < pa.length + (r.terms.length + 1) by omega)]
  exact Ev.now _
 | .c n e r, .c m f s, pa, pb, hp, ha, hb => by
  simp only [O.body, List.length_cons, List.length_append] at ha hb
  have ih1 : Ev (fun k => impl_compare.f k e.terms f.terms) (ordI (O.cmp e f)) := by
   have := compare_l0 e f [] [] rfl (by simp only [List.length_nil]; omega) (by simp only [List.length_nil]; omega)
   rw [List.nil_append, List.nil_append] at this
   refine ev_s ?_
   simp only [impl_compare.f]
   exact this
  have ih2 := compare_l0 r s (pa ++ [⟨(n : Int), e.terms⟩]) (pb ++ [⟨(m : Int), f.terms⟩]) (by simp only [List.length_append, List.length_singleton, hp]) (by simp only [List.length_append, List.length_singleton]; omega) (by simp only [List.length_append, List.length_singleton]; omega)
  simp only [List.append_assoc, List.singleton_append, List.length_append, List.length_singleton] at ih2
  exact compare_step n m e r f s pa pb hp (by omega) ih1 ih2
theorem compare_ev (x y : O) (hx : x.body.length ≤ 100000) (hy : y.body.length ≤ 100000) : Ev (fun k => impl_compare.f k x.terms y.terms) (ordI (O.cmp x y)) := by
 have := compare_l0 x y [] [] rfl (by simp; omega) (by simp; omega)
 rw [List.nil_append, List.nil_append] at this
 refine ev_s ?_
 simp only [impl_compare.f]
 exact this
def O.Sm : O → Prop
 | .z => True
 | .c n e r => (1 ≤ n ∧ n ≤ 9999) ∧ (O.Sm e ∧ e.len ≤ 60) ∧ O.Sm r ∧ O.hd e r
theorem O.Sm.nf : ∀ {o : O}, o.Sm → o.NF
 | .z, _ => trivial
 | .c n e r, h => ⟨h.1.1, O.Sm.nf h.2.1.1, O.Sm.nf h.2.2.1, h.2.2.2⟩
def LastE (pa : List S89) (r : O) : Prop := pa = [] ∨ ∃ pb m f, pa = pb ++ [⟨m, O.terms f⟩] ∧ f.body.length ≤ 100000 ∧ O.hd f r
theorem takeOrd_l0 : ∀ (r : O), r.Sm → ∀ (pa : List S89) (t : List Int), pa.length + r.len ≤ 60 → r.body.length ≤ 100000 → LastE pa r →
  Ev (fun k => impl_takeOrd.l0 k (r.body ++ t) pa ((pa.length + r.len : Nat) : Int) (pa.length : Int)) (pa ++ r.terms, t, true)
 | .z, _, pa, t, _, _, _ => by
  refine ev_s ?_
  simp only [impl_takeOrd.l0, O.len, O.body, O.terms, Nat.add_zero, List.nil_append, List.append_nil, Int.lt_irrefl, if_false]
  exact Ev.now _
 | .c n e r, hs, pa, t, hl, hb, hlast => by
  obtain ⟨hn, ⟨hse, hle⟩, hsr, hhd⟩ := hs
  simp only [O.len] at hl
  simp only [O.body, List.length_cons, List.length_append] at hb
  have ihr := takeOrd_l0 r hsr (pa ++ [⟨(n : Int), e.terms⟩]) t (by simp; omega) (by omega) (.inr ⟨pa, n, e, rfl, by omega, hhd⟩)
  have ihe : Ev (fun k => impl_takeOrd.f k ((e.len : Int) :: (e.body ++ (r.body ++ t)))) (e.terms, r.body ++ t, true) := by
   have := takeOrd_l0 e hse [] (r.body ++ t) (by simpa using hle) (by omega) (.inl rfl)
   simp only [List.length_nil, Nat.zero_add, List.nil_append] at this
   refine ev_s ?_
   have hc : rd ((e.len : Int) :: (e.body ++ (r.body ++ t))) 0 = (e.len : Int) := rfl
   simp only [impl_takeOrd.f, List.length_cons, if_neg (show ¬ (((e.body ++ (r.body ++ t)).length + 1 : Nat) : Int) = 0 by omega), if_pos (show (0 : Int) < (((e.body ++ (r.body ++ t)).length + 1 : Nat) : Int) by omega), if_pos (show (1 : Int) ≤ (((e.body ++ (r.body ++ t)).length + 1 : Nat) : Int) by omega), Option.bind_some, hc, List.drop_succ_cons, List.drop_zero, if_neg (show ¬ ((e.len : Int) < 0) by omega), decide_eq_false (show ¬ ((e.len : Int) > 60) by omega)]
   refine ev_s ?_
   simp only [impl_takeOrd.j0, Bool.false_eq_true, if_false]
   exact this
  have hbody : (O.c n e r).body ++ t = (n : Int) :: ((e.len : Int) :: (e.body ++ (r.body ++ t))) := by simp [O.body]
  have hc : rd ((n : Int) :: ((e.len : Int) :: (e.body ++ (r.body ++ t)))) 0 = (n : Int) := rfl
  have hw : wrap64 ((pa.length : Int) + 1) = (((pa ++ [(⟨(n : Int), e.terms⟩ : S89)]).length : Nat) : Int) := by
   rw [List.length_append, List.length_singleton]; exact wrap_nat2 pa.length 1 (by omega)
  have hcnt : ((pa.length + (O.c n e r).len : Nat) : Int) = (((pa ++ [(⟨(n : Int), e.terms⟩ : S89)]).length + r.len : Nat) : Int) := by
   simp only [O.len, List.length_append, List.length_singleton]; omega
  have hres : pa ++ (O.c n e r).terms = pa ++ [(⟨(n : Int), e.terms⟩ : S89)] ++ r.terms := by simp [O.terms]
  rw [hbody, hres]
  refine ev_s ?_
  simp only [impl_takeOrd.l0, List.length_cons, if_pos (show (pa.length : Int) < ((pa.length + (O.c n e r).len : Nat) : Int) by simp only [O.len]; omega), hc]
  have hlen : (((e.len : Int) :: (e.body ++ (r.body ++ t))).length : Nat) = (e.body ++ (r.body ++ t)).length + 1 := by simp
  simp only [if_neg (show ¬ ((((e.body ++ (r.body ++ t)).length + 1 + 1 : Nat) : Int) = 0) by omega), if_pos (show (0 : Int) < (((e.body ++ (r.body ++ t)).length + 1 + 1 : Nat) : Int) by omega), if_neg (show ¬ ((n : Int) < 1) by omega), decide_eq_false (show ¬ ((n : Int) > 9999) by omega)]
  refine ev_s ?_
  simp only [impl_takeOrd.j2, Bool.false_eq_true, if_false, List.length_cons, if_pos (show (1 : Int) ≤ (((e.body ++ (r.body ++ t)).length + 1 + 1 : Nat) : Int) by omega), List.drop_succ_cons, List.drop_zero]
  refine Ev.bind ihe ?_
  simp only [if_true, if_pos (show (0 : Int) < (((e.body ++ (r.body ++ t)).length + 1 + 1 : Nat) : Int) by omega), hc, if_pos (show pa.length < 4398046511104 by omega), hw, hcnt]
  rcases hlast with h0 | ⟨pb, m, f, hpa, hfb, hfd⟩
  ·
   simp only [if_neg (show ¬ ((pa.length : Int) > 0) by rw [h0]; simp)]
   exact ihr
  ·
   have hpl : pa.length = pb.length + 1 := by rw [hpa]; simp
   have hw1 : wrap64 ((pa.length : Int) - 1) = (pb.length : Int) := by rw [wrap_in (by omega) (by omega)]; omega
   have hrd : rd_T89 pa (pb.length : Int) = ⟨m, O.terms f⟩ := by rw [hpa]; exact rd_T89_mid pb [] ⟨m, O.terms f⟩
   simp only [if_pos (show (pa.length : Int) > 0 by omega), hw1, if_pos (show (0 : Int) ≤ (pb.length : Int) by omega), if_pos (show (pb.length : Int) < (pa.length : Int) by omega), hrd]
   refine Ev.bind (compare_ev e f (by omega) hfb) ?_
   have : ordI (O.cmp e f) = -1 := by rw [show O.cmp e f = .lt from hfd]; rfl
   simp only [this, if_neg (show ¬ ((-1 : Int) ≥ 0) by decide)]
   exact ihr
theorem takeOrd_ev {o : O} (hs : o.Sm) (hl : o.len ≤ 60) (hb : o.body.length ≤ 100000) (t : List Int) : Ev (fun k => impl_takeOrd.f k (o.row ++ t)) (o.terms, t, true) := by
 have := takeOrd_l0 o hs [] t (by simpa using hl) hb (.inl rfl)
 simp only [List.length_nil, Nat.zero_add, List.nil_append] at this
 refine ev_s ?_
 have hc : rd ((o.len : Int) :: (o.body ++ t)) 0 = (o.len : Int) := rfl
 simp only [O.row, List.cons_append, impl_takeOrd.f, List.length_cons, if_neg (show ¬ (((o.body ++ t).length + 1 : Nat) : Int) = 0 by omega), if_pos (show (0 : Int) < (((o.body ++ t).length + 1 : Nat) : Int) by omega), if_pos (show (1 : Int) ≤ (((o.body ++ t).length + 1 : Nat) : Int) by omega), Option.bind_some, hc, List.drop_succ_cons, List.drop_zero, if_neg (show ¬ ((o.len : Int) < 0) by omega), decide_eq_false (show ¬ ((o.len : Int) > 60) by omega)]
 refine ev_s ?_
 simp only [impl_takeOrd.j0, Bool.false_eq_true, if_false]
 exact this
theorem ordOf_ev {o : O} (hs : o.Sm) (hb : o.row.length ≤ 60) : Ev (fun k => impl_ordOf.f k o.row) (o.terms, true) := by
 have hlb := O.len_le o
 have hr : o.row.length = o.body.length + 1 := by simp [O.row]
 have h := takeOrd_ev hs (by omega) (by omega) []
 rw [List.append_nil] at h
 simp only [impl_ordOf.f, if_neg (show ¬ ((o.row.length : Int) < 1) by omega), if_neg (show ¬ ((o.row.length : Int) > 60) by omega)]
 refine Ev.bind h ?_
 simp only [if_true]
 exact ev_now (by simp)

-- part: l1Make
def zipB : List Int → List (List Int) → List Int
 | t :: ts, e :: es => t :: e ++ zipB ts es
 | _, _ => []
theorem O.app_assoc : ∀ x y t : O, O.app (O.app x y) t = O.app x (O.app y t)
 | .z, _, _ => rfl
 | .c n e r, y, t => by simp only [O.app, O.app_assoc r y t]
theorem O.app_body : ∀ x y : O, (O.app x y).body = x.body ++ y.body
 | .z, _ => rfl
 | .c n e r, y => by simp only [O.app, O.body, O.app_body r y, List.cons_append, List.append_assoc]
theorem IsO.app {a b : List S89} {x y : O} (ha : IsO a x) (hb : IsO b y) : IsO (a ++ b) (O.app x y) := by
 induction ha with
 | nil => exact hb
 | cons he _ _ ih => exact .cons he ih

-- part: oValid
def O.fol : Option O → O → Prop
 | none, _ => True
 | some f, e => O.cmp e f = .lt
def O.folr (L : Option O) : O → Prop
 | .z => True
 | .c _ e _ => O.fol L e
theorem O.folr_hd {e : O} : ∀ {r : O}, O.folr (some e) r → O.hd e r
 | .z, _ => trivial
 | .c _ _ _, h => h
inductive BadO : Nat → Option O → List Int → Prop where
 | nil (m : Nat) (L : Option O) : BadO (m + 1) L []
 | out (m : Nat) (L : Option O) (x : Int) (r : List Int) (h : x < 1 ∨ 9999 < x) : BadO (m + 1) L (x :: r)
 | head (m : Nat) (L : Option O) (x : Int) (r : List Int) (h1 : 1 ≤ x) (h2 : x ≤ 9999) (h : r = [] ∨ ∃ y t, r = y :: t ∧ (y < 0 ∨ 60 < y)) : BadO (m + 1) L (x :: r)
 | deep (m : Nat) (L : Option O) (x y : Int) (r : List Int) (h1 : 1 ≤ x) (h2 : x ≤ 9999) (h3 : 0 ≤ y) (h4 : y ≤ 60) (h : BadO y.toNat none r) : BadO (m + 1) L (x :: y :: r)
 | order (m : Nat) (f e : O) (x : Int) (t : List Int) (h1 : 1 ≤ x) (h2 : x ≤ 9999) (he : e.Sm) (hl : e.len ≤ 60) (hb : e.row.length ≤ 60) (h : O.cmp e f ≠ .lt) : BadO (m + 1) (some f) (x :: (e.row ++ t))
 | next (m : Nat) (L : Option O) (e : O) (x : Int) (t : List Int) (h1 : 1 ≤ x) (h2 : x ≤ 9999) (he : e.Sm) (hl : e.len ≤ 60) (hb : e.row.length ≤ 60) (hf : O.fol L e) (h : BadO m (some e) t) : BadO (m + 1) L (x :: (e.row ++ t))
theorem ord_total : ∀ (n : Nat), n ≤ 60 → ∀ (m : Nat) (L : Option O) (l : List Int), l.length ≤ n → (∃ r t, l = O.body r ++ t ∧ r.len = m ∧ r.Sm ∧ O.folr L r) ∨ BadO m L l
 | n, hn, 0, L, l, _ => .inl ⟨.z, l, rfl, rfl, trivial, trivial⟩
 | n, hn, m + 1, L, [], _ => .inr (.nil m L)
 | 0, hn, m + 1, L, x :: r, h => by simp at h
 | n + 1, hn, m + 1, L, x :: r, h => by
  simp only [List.length_cons, Nat.add_le_add_iff_right] at h
  by_cases hx : x < 1 ∨ 9999 < x
  ·
   exact .inr (.out m L x r hx)
  ·
   match r, h with
   | [], _ => exact .inr (.head m L x [] (by omega) (by omega) (.inl rfl))
   | y :: r, h =>
    simp only [List.length_cons] at h
    by_cases hy : y < 0 ∨ 60 < y
    ·
     exact .inr (.head m L x _ (by omega) (by omega) (.inr ⟨y, r, rfl, hy⟩))
    ·
     rcases ord_total n (by omega) y.toNat none r (by omega) with ⟨s, t, hs, hl, hsm, _⟩ | hb
     ·
      have hyl : y = (s.len : Int) := by omega
      have he : y :: r = s.row ++ t := by rw [hs, hyl]; rfl
      have hsl := O.row_length s
      have hlr : r.length = s.body.length + t.length := by rw [hs, List.length_append]
      rw [he]
      by_cases hf : O.fol L s
      ·
       rcases ord_total n (by omega) m (some s) t (by omega) with ⟨r2, t2, hs2, hl2, hsm2, hf2⟩ | hb
       ·
        refine .inl ⟨.c x.toNat s r2, t2, ?_, by rw [O.len, hl2], ⟨⟨by omega, by omega⟩, ⟨hsm, by omega⟩, hsm2, O.folr_hd hf2⟩, hf⟩
        rw [O.body_c, hs2, show ((x.toNat : Nat) : Int) = x by omega]; simp
       ·
        exact .inr (.next m L s x t (by omega) (by omega) hsm (by omega) (by omega) hf hb)
      ·
       cases L with
       | none => exact absurd trivial hf
       | some f => exact .inr (.order m f s x t (by omega) (by omega) hsm (by omega) (by omega) hf)
     ·
      exact .inr (.deep m L x y r (by omega) (by omega) (by omega) (by omega) hb)
theorem O.body_inj : ∀ (s s' : O) (t t' : List Int), s.len = s'.len → s.body ++ t = s'.body ++ t' → s = s' ∧ t = t'
 | .z, .z, t, t', _, h => ⟨rfl, h⟩
 | .z, .c .., _, _, h, _ => by simp [O.len] at h
 | .c .., .z, _, _, h, _ => by simp [O.len] at h
 | .c n e r, .c m f s, t, t', hl, h => by
  simp only [O.len, Nat.add_right_cancel_iff] at hl
  simp only [O.body, List.cons_append, List.append_assoc, List.cons.injEq] at h
  obtain ⟨h0, h1, h2⟩ := h
  obtain ⟨h3, h4⟩ := O.body_inj e f _ _ (by omega) h2
  obtain ⟨h5, h6⟩ := O.body_inj r s _ _ hl h4
  exact ⟨by rw [h3, h5, show n = m by omega], h6⟩
theorem O.row_inj {a b : O} (e : a.row = b.row) : a = b := by
 simp only [O.row, List.cons.injEq] at e
 exact (O.body_inj a b [] [] (by omega) (by rw [e.2])).1
def NoOrd (l : List Int) : Prop := 60 < l.length ∨ l = [] ∨ (∃ y r, l = y :: r ∧ (y < 0 ∨ 60 < y)) ∨ (∃ y r, l = y :: r ∧ 0 ≤ y ∧ y ≤ 60 ∧ BadO y.toNat none r) ∨ ∃ (o : O) (x : Int) (t : List Int), l = o.row ++ x :: t ∧ o.Sm ∧ o.len ≤ 60
theorem ord_or (l : List Int) : (∃ o : O, l = o.row ∧ o.Sm ∧ o.row.length ≤ 60) ∨ NoOrd l := by
 by_cases h60 : 60 < l.length
 ·
  exact .inr (.inl h60)
 ·
  match l, h60 with
  | [], _ => exact .inr (.inr (.inl rfl))
  | y :: r, h60 =>
   simp only [List.length_cons] at h60
   by_cases hy : y < 0 ∨ 60 < y
   ·
    exact .inr (.inr (.inr (.inl ⟨y, r, rfl, hy⟩)))
   ·
    rcases ord_total 60 (Nat.le_refl _) y.toNat none r (by omega) with ⟨s, t, hs, hl, hsm, _⟩ | hb
    ·
     have hyl : y = (s.len : Int) := by omega
     have he : y :: r = s.row ++ t := by rw [hs, hyl]; rfl
     cases t with
     | nil =>
      rw [List.append_nil] at he
      exact .inl ⟨s, he, hsm, by rw [← he, List.length_cons]; omega⟩
     | cons x t => exact .inr (.inr (.inr (.inr (.inr ⟨s, x, t, he, hsm, by omega⟩))))
    ·
     exact .inr (.inr (.inr (.inr (.inl ⟨y, r, rfl, by omega, by omega, hb⟩))))
theorem takeOrd_in {y : Int} {r : List Int} (h0 : 0 ≤ y) (h1 : y ≤ 60) {q : (List S89) × List Int × Bool} (h : Ev (fun k => impl_takeOrd.l0 k r [] y 0) q) : Ev (fun k => impl_takeOrd.f k (y :: r)) q := by
 have hc : rd (y :: r) 0 = y := rfl
 refine ev_s ?_
 simp only [impl_takeOrd.f, hc, if_neg (show ¬ (((y :: r).length : Int) = 0) by simp only [List.length_cons]; omega), if_pos (show (0 : Int) < ((y :: r).length : Int) by simp only [List.length_cons]; omega), if_pos (show (1 : Int) ≤ ((y :: r).length : Int) by simp only [List.length_cons]; omega), Option.bind_some, List.drop_succ_cons, List.drop_zero, if_neg (show ¬ (y < 0) by omega), decide_eq_false (show ¬ (y > 60) by omega)]
 refine ev_s ?_
 simp only [impl_takeOrd.j0, Bool.false_eq_true, if_false]
 exact h
theorem takeOrd_out {l : List Int} (h : l = [] ∨ ∃ y r, l = y :: r ∧ (y < 0 ∨ 60 < y)) : Ev (fun k => impl_takeOrd.f k l) ([], [], false) := by
 refine ev_s ?_
 rcases h with rfl | ⟨y, r, rfl, hy⟩
 ·
  simp only [impl_takeOrd.f, List.length_nil, if_pos (show ((0 : Nat) : Int) = 0 from rfl)]
  exact Ev.now _
 ·
  have hc : rd (y :: r) 0 = y := rfl
  have hj : Ev (fun k => impl_takeOrd.j0 k r y [] true) ([], [], false) := by
   refine ev_s ?_
   simp only [impl_takeOrd.j0, if_true]
   exact Ev.now _
  simp only [impl_takeOrd.f, hc, if_neg (show ¬ (((y :: r).length : Int) = 0) by simp only [List.length_cons]; omega), if_pos (show (0 : Int) < ((y :: r).length : Int) by simp only [List.length_cons]; omega), if_pos (show (1 : Int) ≤ ((y :: r).length : Int) by simp only [List.length_cons]; omega), Option.bind_some, List.drop_succ_cons, List.drop_zero]
  by_cases h0 : y < 0
  ·
   simp only [if_pos h0]; exact hj
  ·
   simp only [if_neg h0, decide_eq_true (show y > 60 by omega)]; exact hj
def LastO (pa : List S89) : Option O → Prop
 | none => pa = []
 | some f => ∃ pb n, pa = pb ++ [⟨n, O.terms f⟩] ∧ f.row.length ≤ 60
theorem takeOrd_bad {m : Nat} {L : Option O} {l : List Int} (h : BadO m L l) : ∀ (pa : List S89), LastO pa L → pa.length + m ≤ 1000 → Ev (fun k => impl_takeOrd.l0 k l pa ((pa.length + m : Nat) : Int) (pa.length : Int)) ([], [], false) := by
 -- a term whose number is out of bounds, or that is not there
 have j2 : ∀ (l : List Int) (pa : List S89) (i n j : Int), Ev (fun k => impl_takeOrd.j2 k l pa i n j true) ([], [], false) := by
  intro l pa i n j
  refine ev_s ?_
  simp only [impl_takeOrd.j2, if_true]
  exact Ev.now _
 -- a term whose exponent is read, or not
 have term : ∀ (m : Nat) (x : Int) (r : List Int) (pa : List S89) (q : (List S89) × List Int × Bool), 1 ≤ x → x ≤ 9999 → Ev (fun k => impl_takeOrd.j2 k (x :: r) pa (pa.length : Int) ((pa.length + (m + 1) : Nat) : Int) (pa.length : Int) false) q → Ev (fun k => impl_takeOrd.l0 k (x :: r) pa ((pa.length + (m + 1) : Nat) : Int) (pa.length : Int)) q := by
  intro m x r pa q h1 h2 hj
  have hc : rd (x :: r) 0 = x := rfl
  refine ev_s ?_
  simp only [impl_takeOrd.l0, if_pos (show (pa.length : Int) < ((pa.length + (m + 1) : Nat) : Int) by omega), if_neg (show ¬ (((x :: r).length : Int) = 0) by simp only [List.length_cons]; omega), if_pos (show (0 : Int) < ((x :: r).length : Int) by simp only [List.length_cons]; omega), hc, if_neg (show ¬ (x < 1) by omega), decide_eq_false (show ¬ (x > 9999) by omega)]
  exact hj
 have fall : ∀ (m : Nat) (x : Int) (r : List Int) (pa : List S89) {a : List S89} {t : List Int}, 1 ≤ x → x ≤ 9999 → Ev (fun k => impl_takeOrd.f k r) (a, t, false) → Ev (fun k => impl_takeOrd.l0 k (x :: r) pa ((pa.length + (m + 1) : Nat) : Int) (pa.length : Int)) ([], [], false) := by
  intro m x r pa a t h1 h2 hf
  refine term m x r pa _ h1 h2 ?_
  refine ev_s ?_
  simp only [impl_takeOrd.j2, Bool.false_eq_true, if_false, if_pos (show (1 : Int) ≤ ((x :: r).length : Int) by simp only [List.length_cons]; omega), List.drop_succ_cons, List.drop_zero]
  refine Ev.bind hf ?_
  simp only [Bool.false_eq_true, if_false]
  exact Ev.now _
 induction h with
 | nil m L =>
  intro pa _ _
  refine ev_s ?_
  simp only [impl_takeOrd.l0, if_pos (show (pa.length : Int) < ((pa.length + (m + 1) : Nat) : Int) by omega), List.length_nil, if_pos (show ((0 : Nat) : Int) = 0 from rfl)]
  exact j2 _ _ _ _ _
 | out m L x r h =>
  intro pa _ _
  have hc : rd (x :: r) 0 = x := rfl
  refine ev_s ?_
  simp only [impl_takeOrd.l0, if_pos (show (pa.length : Int) < ((pa.length + (m + 1) : Nat) : Int) by omega), if_neg (show ¬ (((x :: r).length : Int) = 0) by simp only [List.length_cons]; omega), if_pos (show (0 : Int) < ((x :: r).length : Int) by simp only [List.length_cons]; omega), hc]
  by_cases h0 : x < 1
  ·
   simp only [if_pos h0]; exact j2 _ _ _ _ _
  ·
   simp only [if_neg h0, decide_eq_true (show x > 9999 by omega)]; exact j2 _ _ _ _ _
 | head m L x r h1 h2 h => intro pa _ _; exact fall m x r pa h1 h2 (takeOrd_out h)
 | deep m L x y r h1 h2 h3 h4 h ih =>
  intro pa _ _
  have := ih [] rfl (by simp only [List.length_nil]; omega)
  simp only [List.length_nil, Nat.zero_add, Int.toNat_of_nonneg h3] at this
  exact fall m x _ pa h1 h2 (takeOrd_in h3 h4 this)
 | order m f e x t h1 h2 he hl hb h =>
  intro pa hL _
  obtain ⟨pb, n, hpa, hfb⟩ := hL
  have hrl := O.row_length e
  have hfl := O.row_length f
  refine term m x _ pa _ h1 h2 ?_
  refine ev_s ?_
  simp only [impl_takeOrd.j2, Bool.false_eq_true, if_false, if_pos (show (1 : Int) ≤ ((x :: (e.row ++ t)).length : Int) by simp only [List.length_cons]; omega), List.drop_succ_cons, List.drop_zero]
  refine Ev.bind (takeOrd_ev he hl (by omega) t) ?_
  have hpl : pa.length = pb.length + 1 := by rw [hpa]; simp
  have hw1 : wrap64 ((pa.length : Int) - 1) = (pb.length : Int) := by rw [wrap_in (by omega) (by omega)]; omega
  have hrd : rd_T89 pa (pb.length : Int) = ⟨n, O.terms f⟩ := by rw [hpa]; exact rd_T89_mid pb [] ⟨n, O.terms f⟩
  simp only [if_true, if_pos (show (pa.length : Int) > 0 by omega), hw1, if_pos (show (0 : Int) ≤ (pb.length : Int) by omega), if_pos (show (pb.length : Int) < (pa.length : Int) by omega), hrd]
  refine Ev.bind (compare_ev e f (by omega) (by omega)) ?_
  have hge : ordI (O.cmp e f) ≥ 0 := by
   have : ¬ ordI (O.cmp e f) < 0 := fun h' => h (ordI_neg.mp h')
   omega
  simp only [if_pos hge]
  exact Ev.now _
 | next m L e x t h1 h2 he hl hb hf h ih =>
  intro pa hL hp
  have hrl := O.row_length e
  have hw : wrap64 ((pa.length : Int) + 1) = (((pa ++ [(⟨x, e.terms⟩ : S89)]).length : Nat) : Int) := by
   rw [List.length_append, List.length_singleton]; exact wrap_nat2 pa.length 1 (by omega)
  have hcnt : ((pa.length + (m + 1) : Nat) : Int) = (((pa ++ [(⟨x, e.terms⟩ : S89)]).length + m : Nat) : Int) := by
   simp only [List.length_append, List.length_singleton]; omega
  have hc : rd (x :: (e.row ++ t)) 0 = x := rfl
  have ih := ih (pa ++ [⟨x, e.terms⟩]) ⟨pa, x, rfl, hb⟩ (by simp only [List.length_append, List.length_singleton]; omega)
  refine term m x _ pa _ h1 h2 ?_
  refine ev_s ?_
  simp only [impl_takeOrd.j2, Bool.false_eq_true, if_false, if_pos (show (1 : Int) ≤ ((x :: (e.row ++ t)).length : Int) by simp only [List.length_cons]; omega), List.drop_succ_cons, List.drop_zero]
  refine Ev.bind (takeOrd_ev he hl (by omega) t) ?_
  simp only [if_true, if_pos (show (0 : Int) < ((x :: (e.row ++ t)).length : Int) by simp only [List.length_cons]; omega), hc, if_pos (show pa.length < 4398046511104 by omega), hw, hcnt]
  cases L with
  | none =>
   have hpa : pa = [] := hL
   simp only [if_neg (show ¬ ((pa.length : Int) > 0) by rw [hpa]; simp)]
   exact ih
  | some f =>
   obtain ⟨pb, n, hpa, hfb⟩ := hL
   have hfl := O.row_length f
   have hpl : pa.length = pb.length + 1 := by rw [hpa]; simp
   have hw1 : wrap64 ((pa.length : Int) - 1) = (pb.length : Int) := by rw [wrap_in (by omega) (by omega)]; omega
   have hrd : rd_T89 pa (pb.length : Int) = ⟨n, O.terms f⟩ := by rw [hpa]; exact rd_T89_mid pb [] ⟨n, O.terms f⟩
   simp only [if_pos (show (pa.length : Int) > 0 by omega), hw1, if_pos (show (0 : Int) ≤ (pb.length : Int) by omega), if_pos (show (pb.length : Int) < (pa.length : Int) by omega), hrd]
   refine Ev.bind (compare_ev e f (by omega) (by omega)) ?_
   have hlt : ordI (O.cmp e f) = -1 := by rw [show O.cmp e f = .lt from hf]; rfl
   simp only [hlt, if_neg (show ¬ ((-1 : Int) ≥ 0) by decide)]
   exact ih
theorem impl_ordOf_bad {l : List Int} (h : NoOrd l) : ∃ a, Ev (fun k => impl_ordOf.f k l) (a, false) := by
 by_cases h0 : (l.length : Int) < 1
 ·
  exact ⟨[], by simp only [impl_ordOf.f, if_pos h0]; exact Ev.now _⟩
 by_cases h60 : (l.length : Int) > 60
 ·
  exact ⟨[], by simp only [impl_ordOf.f, if_neg h0, if_pos h60]; exact Ev.now _⟩
 have fin : ∀ {a : List S89} {t : List Int} {b : Bool}, (b = true → t ≠ []) → Ev (fun k => impl_takeOrd.f k l) (a, t, b) → ∃ a, Ev (fun k => impl_ordOf.f k l) (a, false) := by
  intro a t b hb ht
  refine ⟨a, ?_⟩
  simp only [impl_ordOf.f, if_neg h0, if_neg h60]
  refine Ev.bind ht ?_
  cases b with
  | false => simp only [Bool.false_eq_true, if_false]; exact Ev.now _
  | true =>
   simp only [if_true]
   refine ev_now ?_
   have := List.length_pos_iff.mpr (hb rfl)
   rw [beq_eq_false_iff_ne.mpr (show (t.length : Int) ≠ 0 by omega)]
 rcases h with h | rfl | ⟨y, r, rfl, hy⟩ | ⟨y, r, rfl, h1, h2, hb⟩ | ⟨o, x, t, rfl, hs, hl⟩
 ·
  exact absurd h (by omega)
 ·
  simp at h0
 ·
  exact fin (fun h => by cases h) (takeOrd_out (.inr ⟨y, r, rfl, hy⟩))
 ·
  have := takeOrd_bad hb [] rfl (by simp only [List.length_nil]; omega)
  simp only [List.length_nil, Nat.zero_add, Int.toNat_of_nonneg h1] at this
  exact fin (fun h => by cases h) (takeOrd_in h1 h2 this)
 ·
  have hrl := O.row_length o
  simp only [List.length_append, List.length_cons] at h60
  exact fin (fun _ => by simp) (takeOrd_ev hs hl (by omega) (x :: t))

-- part: coreStep
def O.kind : O → Nat
 | .z => 0
 | .c _ .z .z => 1
 | .c _ (.c ..) .z => 2
 | .c _ _ (.c n e r) => O.kind (.c n e r)
def O.before : O → O
 | .z => .z
 | .c n e .z => if n = 1 then .z else .c (n - 1) e .z
 | .c n e (.c m f r) => .c n e (O.before (.c m f r))
def O.step (k : Nat) : O → O
 | .z => .z
 | .c n .z .z => O.before (.c n .z .z)
 | .c n (.c m f r) .z =>
  if O.kind (.c m f r) = 2 then O.app (O.before (.c n (.c m f r) .z)) (.c 1 (O.step k (.c m f r)) .z)
  else if k = 0 then O.before (.c n (.c m f r) .z)
  else O.app (O.before (.c n (.c m f r) .z)) (.c k (O.before (.c m f r)) .z)
 | .c n e (.c m f r) => .c n e (O.step k (.c m f r))

-- part: coreH
def H.ord : H → O
 | .nul => .z
 | .cons b r => O.ins (H.ord b) (H.ord r)
def H.size : H → Nat
 | .nul => 1
 | .cons b r => H.size b + H.size r
theorem H.size_pos : ∀ h : H, 1 ≤ h.size
 | .nul => Nat.le_refl _
 | .cons b r => by have := H.size_pos r; simp only [H.size]; omega
theorem H.ord_NF : ∀ h : H, O.NF h.ord
 | .nul => trivial
 | .cons b r => O.ins_NF (H.ord_NF b) (H.ord_NF r)
theorem H.ord_z : ∀ h : H, h.ord = .z ↔ h = .nul
 | .nul => by simp [H.ord]
 | .cons b r => by
  simp only [H.ord, reduceCtorEq, iff_false]
  intro h
  have := O.lt_ins b.ord r.ord
  rw [h] at this
  cases h' : r.ord <;> rw [h'] at this <;> simp [O.cmp] at this

def H.le (e : O) : H → Prop
 | .nul => True
 | .cons b _ => O.cmp b.ord e ≠ .gt
def H.sorted : H → Prop
 | .nul => True
 | .cons b r => H.sorted b ∧ H.sorted r ∧ H.le b.ord r
def H.rep : Nat → H → H → H
 | 0, _, r => r
 | k + 1, b, r => .cons b (H.rep k b r)
def H.of : O → H
 | .z => .nul
 | .c n e r => H.rep n (H.of e) (H.of r)
def O.size : O → Nat
 | .z => 1
 | .c n e r => n * O.size e + O.size r

theorem H.rep_size (b r : H) : ∀ k, (H.rep k b r).size = k * b.size + r.size
 | 0 => by simp [H.rep]
 | k + 1 => by simp only [H.rep, H.size, H.rep_size b r k, Nat.add_mul]; omega
theorem H.of_size : ∀ o : O, (H.of o).size = o.size
 | .z => rfl
 | .c n e r => by rw [H.of, H.rep_size, H.of_size e, H.of_size r]; rfl
theorem O.ins_size (e : O) : ∀ x : O, (O.ins e x).size = e.size + x.size
 | .z => by simp [O.ins, O.size]
 | .c n f r => by
  unfold O.ins
  cases hc : O.cmp f e with
  | gt => simp only [O.size, O.ins_size e r]; omega
  | eq => rw [← O.eq_of_cmp _ _ hc]; simp only [O.size, Nat.add_mul]; omega
  | lt => simp only [O.size]; omega
theorem H.ord_size : ∀ h : H, h.ord.size = h.size
 | .nul => rfl
 | .cons b r => by rw [H.ord, O.ins_size, H.ord_size b, H.ord_size r]; rfl

theorem H.rep_ord (b r : H) : ∀ k, (H.rep k b r).ord = O.insk b.ord k r.ord
 | 0 => rfl
 | k + 1 => by simp only [H.rep, H.ord, H.rep_ord b r k, O.insk]
theorem O.insk_big {e x : O} (h : O.hd e x) : ∀ k, 1 ≤ k → O.insk e k x = .c k e x
 | 1, _ => O.ins_big h
 | k + 2, _ => by rw [O.insk, O.insk_big h (k + 1) (by omega)]; simp [O.ins, O.cmp_self]
theorem H.ord_of : ∀ o : O, O.NF o → (H.of o).ord = o
 | .z, _ => rfl
 | .c n e r, h => by
  rw [H.of, H.rep_ord, H.ord_of e h.2.1, H.ord_of r h.2.2.1, O.insk_big h.2.2.2 n h.1]
theorem H.le_of_hd {e : O} : ∀ {o : O}, O.NF o → O.hd e o → H.le e (H.of o)
 | .z, _, _ => trivial
 | .c n f r, hn, h => by
  obtain ⟨m, rfl⟩ : ∃ m, n = m + 1 := ⟨n - 1, by have := hn.1; omega⟩
  simp only [H.of, H.rep, H.le]
  rw [H.ord_of f hn.2.1, show O.cmp f e = .lt from h]; simp
theorem H.rep_sorted {b r : H} (hb : b.sorted) (hr : r.sorted) (h : H.le b.ord r) : ∀ k, (H.rep k b r).sorted
 | 0 => hr
 | k + 1 => ⟨hb, H.rep_sorted hb hr h k, by
  cases k with
  | zero => exact h
  | succ k => simp [H.rep, H.le, O.cmp_self]⟩
theorem H.of_sorted : ∀ o : O, O.NF o → (H.of o).sorted
 | .z, _ => trivial
 | .c n e r, h => H.rep_sorted (H.of_sorted e h.2.1) (H.of_sorted r h.2.2.1) (by rw [H.ord_of e h.2.1]; exact H.le_of_hd h.2.2.1 h.2.2.2) n


theorem H.ord_head : ∀ {b r : H}, (H.cons b r).sorted → ∃ n s, (H.cons b r).ord = .c n b.ord s
 | b, .nul, _ => ⟨1, .z, rfl⟩
 | b, .cons b' r', h => by
  obtain ⟨n, s, hs⟩ := H.ord_head h.2.1
  have hle : O.cmp b'.ord b.ord ≠ .gt := h.2.2
  rw [H.ord, hs]
  cases hc : O.cmp b'.ord b.ord with
  | gt => exact absurd hc hle
  | eq => exact ⟨n + 1, s, by rw [O.ins, hc, O.eq_of_cmp _ _ hc]⟩
  | lt => exact ⟨1, _, by rw [O.ins, hc]⟩
theorem H.ord_le {b r : H} (h : (H.cons b r).sorted) : O.hd b.ord r.ord ∨ ∃ n s, r.ord = .c n b.ord s := by
 cases r with
 | nul => exact .inl trivial
 | cons b' r' =>
  obtain ⟨n, s, hs⟩ := H.ord_head h.2.1
  have hle : O.cmp b'.ord b.ord ≠ .gt := h.2.2
  rw [hs]
  cases hc : O.cmp b'.ord b.ord with
  | gt => exact absurd hc hle
  | eq => exact .inr ⟨n, s, by rw [O.eq_of_cmp _ _ hc]⟩
  | lt => exact .inl hc
theorem H.of_ins {e x : O} (h : O.hd e x ∨ ∃ n s, x = .c n e s) : H.of (O.ins e x) = .cons (H.of e) (H.of x) := by
 rcases h with h | ⟨n, s, rfl⟩
 ·
  rw [O.ins_big h]; rfl
 ·
  simp [O.ins, O.cmp_self, H.of, H.rep]
theorem H.of_ord : ∀ h : H, h.sorted → H.of h.ord = h
 | .nul, _ => rfl
 | .cons b r, h => by rw [H.ord, H.of_ins (H.ord_le h), H.of_ord b h.1, H.of_ord r h.2.1]

def H.isort (h : H) : H := H.of h.ord
theorem H.isort_sorted (h : H) : h.isort.sorted := H.of_sorted _ h.ord_NF
theorem H.isort_ord (h : H) : h.isort.ord = h.ord := H.ord_of _ h.ord_NF
theorem H.isort_size (h : H) : h.isort.size = h.size := by rw [H.isort, H.of_size, H.ord_size]
theorem O.kind_step (k : Nat) : ∀ x : O, O.kind x = 1 → O.step k x = O.before x
 | .z, h => by simp [O.kind] at h
 | .c n .z .z, _ => by simp [O.step]
 | .c n (.c ..) .z, h => by simp [O.kind] at h
 | .c n .z (.c m f r), h => by
  have := O.kind_step k (.c m f r) (by simpa [O.kind] using h)
  simp only [O.step, O.before, this]
 | .c n (.c a b d) (.c m f r), h => by
  have := O.kind_step k (.c m f r) (by simpa [O.kind] using h)
  simp only [O.step, O.before, this]
theorem O.kind_cons (n : Nat) (e : O) {r : O} (h : r ≠ .z) : O.kind (.c n e r) = O.kind r := by
 cases r with
 | z => exact absurd rfl h
 | c m f s => cases e <;> rfl
theorem O.step_cons (k n : Nat) (e : O) {r : O} (h : r ≠ .z) : O.step k (.c n e r) = .c n e (O.step k r) := by
 cases r with
 | z => exact absurd rfl h
 | c m f s => cases e <;> rfl
theorem O.before_cons (n : Nat) (e : O) {r : O} (h : r ≠ .z) : O.before (.c n e r) = .c n e (O.before r) := by
 cases r with
 | z => exact absurd rfl h
 | c m f s => rfl
theorem O.kind_pos : ∀ x : O, x ≠ .z → O.kind x = 1 ∨ O.kind x = 2
 | .z, h => absurd rfl h
 | .c n e r, _ => by
  by_cases hr : r = .z
  ·
   subst hr; cases e <;> simp [O.kind]
  ·
   rw [O.kind_cons n e hr]; exact O.kind_pos r hr

def O.tail (k : Nat) (e : O) : O := if O.kind e = 2 then .c 1 (O.step k e) .z else if k = 0 then .z else .c k (O.before e) .z
theorem O.step_last (k n : Nat) {e : O} (he : e ≠ .z) : O.step k (.c n e .z) = O.app (O.before (.c n e .z)) (O.tail k e) := by
 cases e with
 | z => exact absurd rfl he
 | c m f r =>
  simp only [O.step, O.tail]
  split
  ·
   rfl
  ·
   split
   ·
    rw [O.app_z]
   ·
    rfl

theorem O.tail_hd_of (k : Nat) (e : O) (hz : e ≠ .z) (h : O.cmp (O.step k e) e = .lt) : O.hd e (O.tail k e) := by
 unfold O.tail
 split
 ·
  exact h
 ·
  split
  ·
   trivial
  ·
   rename_i h1 _
   have h2 : O.kind e = 1 := by rcases O.kind_pos e hz with h | h; exact h; exact absurd h h1
   show O.cmp (O.before e) e = .lt
   rw [← O.kind_step k e h2]
   exact h
theorem O.step_lt (k : Nat) : ∀ x : O, O.NF x → x ≠ .z → O.cmp (O.step k x) x = .lt
 | .z, _, h => absurd rfl h
 | .c n e r, hx, _ => by
  have h1 : 1 ≤ n := hx.1
  have hr' := O.step_lt k r hx.2.2.1
  have he' := O.step_lt k e hx.2.1
  by_cases hr : r = .z
  ·
   subst hr
   by_cases he : e = .z
   ·
    subst he
    simp only [O.step, O.before]
    split
    ·
     rfl
    ·
     simp [O.cmp, Nat.compare_eq_lt.mpr (show n - 1 < n by omega)]
   ·
    rw [O.step_last k n he]
    have ht := O.tail_hd_of k e he (he' he)
    simp only [O.before]
    split
    ·
     simp only [O.app]; exact O.hd_lt ht _ _
    ·
     simp [O.app, O.cmp, O.cmp_self, Nat.compare_eq_lt.mpr (show n - 1 < n by omega)]
  ·
   rw [O.step_cons k n e hr]
   simp [O.cmp, O.cmp_self, hr' hr]
theorem O.tail_hd (k : Nat) (e : O) (he : O.NF e) (hz : e ≠ .z) : O.hd e (O.tail k e) := O.tail_hd_of k e hz (O.step_lt k e he hz)
theorem O.step_hd (k : Nat) {e R : O} (hR : O.NF R) (h : O.hd e R) : O.hd e (O.step k R) := by
 by_cases hz : R = .z
 ·
  subst hz; exact trivial
 ·
  have hlt := O.step_lt k R hR hz
  cases R with
  | z => exact absurd rfl hz
  | c n f r =>
   cases hs : O.step k (.c n f r) with
   | z => trivial
   | c m g s =>
    rw [hs] at hlt
    simp only [O.cmp, Ordering.then_eq_lt] at hlt
    rcases hlt with (hlt | ⟨hlt, _⟩) | ⟨hlt, _⟩
    ·
     exact O.lt_trans _ _ _ hlt h
    ·
     show O.cmp g e = .lt; rw [O.eq_of_cmp _ _ hlt]; exact h
    ·
     rw [Ordering.then_eq_eq] at hlt; show O.cmp g e = .lt; rw [O.eq_of_cmp _ _ hlt.1]; exact h
theorem O.step_one (k : Nat) {e : O} (he : e ≠ .z) : O.step k (.c 1 e .z) = O.tail k e := by
 rw [O.step_last k 1 he]; simp [O.before, O.app]
theorem O.ins_step (k : Nat) {e R : O} (hR : O.NF R) (hz : R ≠ .z) (h : O.hd e R ∨ ∃ n s, R = .c n e s) : O.step k (O.ins e R) = O.ins e (O.step k R) := by
 rcases h with h | ⟨n, s, rfl⟩
 ·
  rw [O.ins_big h, O.step_cons k 1 e hz, O.ins_big (O.step_hd k hR h)]
 ·
  have hi : O.ins e (.c n e s) = .c (n + 1) e s := by simp [O.ins, O.cmp_self]
  rw [hi]
  have h1 : 1 ≤ n := hR.1
  by_cases hs : s = .z
  ·
   subst hs
   by_cases he : e = .z
   ·
    subst he
    simp only [O.step, O.before]
    by_cases hn : n = 1
    ·
     subst hn; rfl
    ·
     rw [if_neg (by omega), if_neg hn]; simp only [O.ins, O.cmp]; rw [show n - 1 + 1 = n + 1 - 1 by omega]
   ·
    rw [O.step_last k _ he, O.step_last k _ he]
    have ht := O.tail_hd k e hR.2.1 he
    simp only [O.before]
    rw [if_neg (by omega)]
    by_cases hn : n = 1
    ·
     subst hn; simp only [if_true, O.app, O.ins_big ht]
    ·
     rw [if_neg hn]; simp only [O.app, O.ins, O.cmp_self]; rw [show n - 1 + 1 = n + 1 - 1 by omega]
  ·
   rw [O.step_cons k _ e hs, O.step_cons k _ e hs]
   simp [O.ins, O.cmp_self]

def H.cutLast (k : Nat) : H → H × Bool
 | .nul => (.nul, false)
 | .cons .nul .nul => (.nul, true)
 | .cons (.cons b s) .nul => (H.rep (if (H.cutLast k (.cons b s)).2 = true then k else 1) (H.cutLast k (.cons b s)).1 .nul, false)
 | .cons b (.cons b' r) => (.cons b (H.cutLast k (.cons b' r)).1, (H.cutLast k (.cons b' r)).2)

theorem H.le_trans' {e f : O} (h : O.cmp e f = .lt) : ∀ {r : H}, H.le e r → H.le f r
 | .nul, _ => trivial
 | .cons b r, h' => by
  have h'' : O.cmp b.ord e ≠ .gt := h'
  show O.cmp b.ord f ≠ .gt
  cases hc : O.cmp b.ord e with
  | gt => exact absurd hc h''
  | eq => rw [O.eq_of_cmp _ _ hc, h]; simp
  | lt => rw [O.lt_trans _ _ _ hc h]; simp
theorem H.le_of_ord {e : O} : ∀ {r : H}, r.sorted → (O.hd e r.ord ∨ ∃ n s, r.ord = .c n e s) → H.le e r
 | .nul, _, _ => trivial
 | .cons b r, hs, h => by
  obtain ⟨n, s, ho⟩ := H.ord_head hs
  show O.cmp b.ord e ≠ .gt
  rw [ho] at h
  rcases h with h | ⟨m, t, h⟩
  ·
   rw [show O.cmp b.ord e = .lt from h]; simp
  ·
   injection h with _ h _; rw [h, O.cmp_self]; simp
theorem O.step_hd' (k : Nat) {e R : O} (hR : O.NF R) (h : O.hd e R ∨ ∃ n s, R = .c n e s) : O.hd e (O.step k R) ∨ ∃ n s, O.step k R = .c n e s := by
 rcases h with h | ⟨n, s, rfl⟩
 ·
  exact .inl (O.step_hd k hR h)
 ·
  have hlt := O.step_lt k _ hR (by simp)
  cases hs : O.step k (.c n e s) with
  | z => exact .inl trivial
  | c m g t =>
   rw [hs] at hlt
   simp only [O.cmp, Ordering.then_eq_lt] at hlt
   rcases hlt with (hlt | ⟨hlt, _⟩) | ⟨hlt, _⟩
   ·
    exact .inl hlt
   ·
    rw [O.eq_of_cmp _ _ hlt]; exact .inr ⟨m, t, rfl⟩
   ·
    rw [Ordering.then_eq_eq] at hlt; rw [O.eq_of_cmp _ _ hlt.1]; exact .inr ⟨m, t, rfl⟩

theorem H.cutLast_step (k : Nat) (hk : 1 ≤ k) : ∀ h : H, h.sorted → h ≠ .nul → (H.cutLast k h).1.ord = O.step k h.ord ∧ (H.cutLast k h).1.sorted ∧ ((H.cutLast k h).2 = true ↔ O.kind h.ord = 1)
 | .nul, _, hz => absurd rfl hz
 | .cons .nul .nul, _, _ => by simp [H.cutLast, H.ord, O.ins, O.step, O.before, H.sorted, O.kind]
 | .cons (.cons b s) .nul, hs, _ => by
  obtain ⟨h1, h2, h3⟩ := H.cutLast_step k hk (.cons b s) hs.1 (by simp)
  have hz : (H.cons b s).ord ≠ .z := by rw [Ne, H.ord_z]; simp
  generalize hc : H.cutLast k (.cons b s) = c at *
  obtain ⟨b', own⟩ := c
  simp only [H.cutLast, hc]
  refine ⟨?_, H.rep_sorted (r := .nul) h2 trivial trivial _, ?_⟩
  ·
   rw [H.rep_ord]
   show _ = O.step k (O.ins (H.cons b s).ord .z)
   rw [show O.ins (H.cons b s).ord .z = .c 1 (H.cons b s).ord .z from rfl, O.step_one k hz]
   simp only at h1 h3
   unfold O.tail
   rcases O.kind_pos _ hz with h4 | h4
   ·
    rw [if_pos (h3.mpr h4), if_neg (by omega), if_neg (by omega), show (H.nul).ord = .z from rfl, O.insk_big (x := .z) trivial k hk, h1, O.kind_step k _ h4]
   ·
    rw [if_neg (by rw [h3]; omega), if_pos h4, h1]; rfl
  ·
   simp only [Bool.false_eq_true, false_iff]
   show O.kind (O.c 1 (H.cons b s).ord .z) ≠ 1
   cases ho : (H.cons b s).ord with
   | z => exact absurd ho hz
   | c n e r => simp [O.kind]
 | .cons b (.cons b' r), hs, _ => by
  obtain ⟨h1, h2, h3⟩ := H.cutLast_step k hk (.cons b' r) hs.2.1 (by simp)
  have hz : (H.cons b' r).ord ≠ .z := by rw [Ne, H.ord_z]; simp
  have hle := H.ord_le hs
  have hst := O.ins_step k (H.ord_NF (.cons b' r)) hz hle
  simp only [H.cutLast]
  refine ⟨?_, ⟨hs.1, h2, H.le_of_ord h2 ?_⟩, ?_⟩
  ·
   show O.ins b.ord _ = O.step k (O.ins b.ord (H.cons b' r).ord)
   rw [hst, h1]
  ·
   rw [h1]; exact O.step_hd' k (H.ord_NF _) hle
  ·
   rw [h3]
   show _ ↔ O.kind (O.ins b.ord (H.cons b' r).ord) = 1
   generalize (H.cons b' r).ord = R at *
   rcases hle with hle | ⟨n, t, rfl⟩
   ·
    rw [O.ins_big hle, O.kind_cons _ _ hz]
   ·
    have hi : O.ins b.ord (.c n b.ord t) = .c (n + 1) b.ord t := by simp [O.ins, O.cmp_self]
    rw [hi]
    by_cases ht : t = .z
    ·
     subst ht; cases b.ord <;> simp [O.kind]
    ·
     rw [O.kind_cons _ _ ht, O.kind_cons _ _ ht]

def H.heads : H → Nat
 | .nul => 0
 | .cons .nul r => 1 + H.heads r
 | .cons (.cons b s) r => H.heads (.cons b s) + H.heads r
def H.cutAt (k : Nat) : H → Nat → H × Bool
 | .nul, _ => (.nul, false)
 | .cons .nul r, 0 => (r, true)
 | .cons .nul r, j + 1 => (.cons .nul (H.cutAt k r j).1, (H.cutAt k r j).2)
 | .cons (.cons b s) r, j =>
  if j < H.heads (.cons b s) then (H.rep (if (H.cutAt k (.cons b s) j).2 = true then k else 1) (H.cutAt k (.cons b s) j).1 r, false)
  else (.cons (.cons b s) (H.cutAt k r (j - H.heads (.cons b s))).1, (H.cutAt k r (j - H.heads (.cons b s))).2)
theorem H.heads_pos : ∀ {h : H}, h ≠ .nul → 1 ≤ h.heads
 | .nul, hz => absurd rfl hz
 | .cons .nul r, _ => by simp only [H.heads]; omega
 | .cons (.cons b s) r, _ => by have := H.heads_pos (h := .cons b s) (by simp); simp only [H.heads]; omega
theorem H.cutAt_size : ∀ (h : H) (j : Nat), j < h.heads → (H.cutAt 1 h j).1.size + 1 = h.size
 | .nul, _, hj => by simp [H.heads] at hj
 | .cons .nul r, 0, _ => by simp only [H.cutAt, H.size]; omega
 | .cons .nul r, j + 1, hj => by
  have := H.cutAt_size r j (by simp only [H.heads] at hj; omega)
  simp only [H.cutAt, H.size]; omega
 | .cons (.cons b s) r, j, hj => by
  rw [H.cutAt]
  split
  ·
   rename_i h1
   have := H.cutAt_size (.cons b s) j h1
   rw [H.rep_size]
   simp only [H.size] at *
   rw [show (if (H.cutAt 1 (H.cons b s) j).2 = true then 1 else 1) = 1 by split <;> rfl]; omega
  ·
   rename_i h1
   have := H.cutAt_size r (j - H.heads (.cons b s)) (by simp only [H.heads] at hj; omega)
   simp only [H.size] at *; omega
theorem H.cutAt_last (k : Nat) : ∀ h : H, h ≠ .nul → H.cutAt k h (h.heads - 1) = H.cutLast k h
 | .nul, hz => absurd rfl hz
 | .cons .nul .nul, _ => rfl
 | .cons .nul (.cons b r), _ => by
  have ih := H.cutAt_last k (.cons b r) (by simp)
  have hp := H.heads_pos (h := .cons b r) (by simp)
  rw [show (H.cons .nul (.cons b r)).heads - 1 = ((H.cons b r).heads - 1) + 1 by simp only [H.heads]; omega]
  simp only [H.cutAt, H.cutLast, ih]
 | .cons (.cons b s) .nul, _ => by
  have ih := H.cutAt_last k (.cons b s) (by simp)
  have hp := H.heads_pos (h := .cons b s) (by simp)
  have he : (H.cons (.cons b s) .nul).heads - 1 = (H.cons b s).heads - 1 := by simp [H.heads]
  rw [he]
  simp only [H.cutAt, H.cutLast]
  rw [if_pos (by omega), ih]
 | .cons (.cons b s) (.cons b' r), _ => by
  have ih := H.cutAt_last k (.cons b' r) (by simp)
  have hp := H.heads_pos (h := .cons b' r) (by simp)
  have he : (H.cons (.cons b s) (.cons b' r)).heads - 1 = (H.cons b s).heads + ((H.cons b' r).heads - 1) := by simp only [H.heads]; omega
  rw [he]
  simp only [H.cutAt, H.cutLast]
  rw [if_neg (by omega), show (H.cons b s).heads + ((H.cons b' r).heads - 1) - (H.cons b s).heads = (H.cons b' r).heads - 1 by omega, ih]

-- part: coreCut
theorem H.cutAt_own (k : Nat) : ∀ (h : H) (j : Nat), j < h.heads → (H.cutAt k h j).2 = true → (H.cutAt k h j).1.size < h.size
 | .nul, _, hj, _ => by simp [H.heads] at hj
 | .cons .nul r, 0, _, _ => by simp only [H.cutAt, H.size]; omega
 | .cons .nul r, j + 1, hj, ho => by
  have := H.cutAt_own k r j (by simp only [H.heads] at hj; omega) ho
  simp only [H.cutAt, H.size]; omega
 | .cons (.cons b s) r, j, hj, ho => by
  rw [H.cutAt] at ho ⊢
  by_cases h1 : j < H.heads (.cons b s)
  ·
   rw [if_pos h1] at ho; cases ho
  ·
   rw [if_neg h1] at ho ⊢
   have := H.cutAt_own k r (j - H.heads (.cons b s)) (by simp only [H.heads] at hj; omega) ho
   simp only [H.size] at *; omega
theorem H.cutAt_bound (k : Nat) (hk : 1 ≤ k) : ∀ (h : H) (j : Nat), (H.cutAt k h j).1.size ≤ k * h.size
 | .nul, _ => by simp only [H.cutAt, H.size]; omega
 | .cons .nul r, 0 => by
  simp only [H.cutAt, H.size, Nat.mul_add]
  have := Nat.le_mul_of_pos_left r.size hk; omega
 | .cons .nul r, j + 1 => by
  have := H.cutAt_bound k hk r j
  simp only [H.cutAt, H.size, Nat.mul_add]; omega
 | .cons (.cons b s) r, j => by
  rw [H.cutAt]
  have h0 := H.cutAt_bound k hk (.cons b s) j
  have hr := Nat.le_mul_of_pos_left r.size hk
  have h2 := H.cutAt_bound k hk r (j - H.heads (.cons b s))
  by_cases h1 : j < H.heads (.cons b s)
  ·
   rw [if_pos h1]
   have h3 := H.cutAt_own k (.cons b s) j h1
   generalize H.cutAt k (.cons b s) j = c at *
   obtain ⟨c, o⟩ := c
   rw [show (H.cons (H.cons b s) r).size = (H.cons b s).size + r.size from rfl, Nat.mul_add]
   simp only at h0 h3 ⊢
   rw [H.rep_size]
   cases o with
   | true =>
    have := Nat.mul_le_mul_left k (Nat.le_of_lt (h3 rfl))
    simp only [if_true]; omega
   | false => simp only [Bool.false_eq_true, if_false]; omega
  ·
   rw [if_neg h1, show (H.cons (H.cons b s) r).size = (H.cons b s).size + r.size from rfl, Nat.mul_add]
   have h4 := Nat.le_mul_of_pos_left (H.cons b s).size hk
   simp only [show ∀ g, (H.cons (H.cons b s) g).size = (H.cons b s).size + g.size from fun g => rfl]
   omega

-- part: l5Tree
theorem rd_L1_get {x : List (List Int)} {i : Nat} (h : i < x.length) : rd_L1 x (i : Int) = x[i] := by simp [rd_L1, h]
theorem l5Tree_l0 (x : List (List Int)) (hx : x.length ≤ 1000000) : ∀ (d i : Nat) (out : List Int), i + d = x.length → out.length + (x.drop i).flatten.length ≤ 1000000 → Ev (fun k => spec_l5Tree.l0 k x out (i : Int)) (out ++ (x.drop i).flatten)
 | 0, i, out, h, _ => by
  refine ev_s ?_
  simp only [spec_l5Tree.l0, if_neg (show ¬ ((i : Int) < (x.length : Int)) by omega)]
  rw [List.drop_eq_nil_of_le (by omega)]
  exact ev_now (by simp)
 | d + 1, i, out, h, hl => by
  have hi : i < x.length := by omega
  rw [List.drop_eq_getElem_cons hi, List.flatten_cons] at hl ⊢
  simp only [List.length_append] at hl
  refine ev_s ?_
  simp only [spec_l5Tree.l0, if_pos (show (i : Int) < (x.length : Int) by omega), if_pos (show 0 ≤ (i : Int) by omega), rd_L1_get hi, if_pos (show out.length + x[i].length < 17592186044416 by omega), show wrap64 ((i : Int) + 1) = ((i + 1 : Nat) : Int) from wrap_nat2 i 1 (by omega)]
  exact ev_eq (l5Tree_l0 x hx d (i + 1) (out ++ x[i]) (by omega) (by simp only [List.length_append]; omega)) (by simp)
theorem l5Tree_ev (x : List (List Int)) (hx : x.length ≤ 1000000) (hl : x.flatten.length ≤ 999999) : Ev (fun k => spec_l5Tree.f k x) ((x.length : Int) :: x.flatten) := by
 have := l5Tree_l0 x hx x.length 0 [(x.length : Int)] (by omega) (by simp only [List.drop_zero, List.length_singleton]; omega)
 exact ev_eq this (by simp)

-- part: hApp
theorem H.row_size : ∀ h : H, h.row.length = h.size
 | .nul => rfl
 | .cons b r => by
  have h1 := H.row_size b
  have h2 := H.row_size r
  rw [H.row_length] at h2 ⊢
  rw [H.body_cons, List.length_append, H.size]; omega
def H.app : H → H → H
 | .nul, h => h
 | .cons b r, h => .cons b (H.app r h)
theorem H.app_nul : ∀ g : H, H.app g .nul = g
 | .nul => rfl
 | .cons b r => by rw [H.app, H.app_nul r]
theorem H.app_assoc : ∀ a b c : H, H.app (H.app a b) c = H.app a (H.app b c)
 | .nul, _, _ => rfl
 | .cons x r, b, c => by simp only [H.app, H.app_assoc r b c]
theorem H.app_size : ∀ g h : H, (H.app g h).size + 1 = g.size + h.size
 | .nul, h => by simp only [H.app, H.size]; omega
 | .cons b r, h => by have := H.app_size r h; simp only [H.app, H.size]; omega
theorem H.app_rows : ∀ g h : H, (H.app g h).rows = g.rows ++ h.rows
 | .nul, _ => rfl
 | .cons b r, h => by simp only [H.app, H.rows, H.app_rows r h, List.cons_append]
theorem H.app_terms : ∀ g h : H, (H.app g h).terms = g.terms ++ h.terms
 | .nul, _ => rfl
 | .cons b r, h => by simp only [H.app, H.terms, H.app_terms r h, List.cons_append]
theorem H.rep_app (b r : H) : ∀ k, H.rep k b r = H.app (H.rep k b .nul) r
 | 0 => rfl
 | k + 1 => by simp only [H.rep, H.app, ← H.rep_app b r k]
theorem H.rep_terms_len (b : H) : ∀ n, (H.rep n b .nul).terms.length = n
 | 0 => rfl
 | n + 1 => by simp only [H.rep, H.terms, List.length_cons, H.rep_terms_len b n]
theorem H.len_size (h : H) : h.len + 1 ≤ h.size := by have := H.len_le h; have := H.row_size h; have := H.row_length h; omega
theorem O.size_pos : ∀ o : O, 1 ≤ o.size
 | .z => Nat.le_refl _
 | .c n e r => by have := O.size_pos r; simp only [O.size]; omega
theorem H.rows_flat' (h : H) : ((h.rows.length : Nat) : Int) :: h.rows.flatten = h.row := by rw [H.rows_len, H.rows_flat]; rfl
theorem l5Tree_rows {h : H} (hs : h.size ≤ 1000) : Ev (fun k => spec_l5Tree.f k h.rows) h.row := by
 have h1 := H.row_size h
 have h2 := H.row_length h
 have h3 := H.len_le h
 have h4 := H.rows_len h
 have h5 := H.rows_flat h
 refine ev_eq (l5Tree_ev h.rows (by omega) (by rw [h5]; omega)) (H.rows_flat' h)
theorem H.snoc_rows (g b : H) : g.rows ++ [b.row] = (H.app g (.cons b .nul)).rows := by rw [H.app_rows]; rfl
theorem H.snoc_size (g b : H) : (H.app g (.cons b .nul)).size = g.size + b.size := by have := H.app_size g (.cons b .nul); simp only [H.size] at this; omega
theorem H.rep_nul_size (b : H) (k : Nat) : (H.rep k b .nul).size = k * b.size + 1 := by rw [H.rep_size]; rfl

-- part: hCut
theorem H.zs_heads : ∀ h : H, h.zs = h.heads
 | .nul => rfl
 | .cons .nul r => by rw [H.zs_cons, H.zs_heads r]; simp [H.heads, H.len, H.zs, H.body]
 | .cons (.cons b s) r => by rw [H.zs_cons, H.zs_heads (.cons b s), H.zs_heads r]; simp [H.heads, H.len]
theorem H.rep_terms (b r : H) : ∀ n, (H.rep n b r).terms = List.replicate n (⟨b.terms⟩ : S49) ++ r.terms
 | 0 => by simp [H.rep]
 | n + 1 => by rw [H.rep, H.terms, H.rep_terms b r n, List.replicate_succ]; rfl
theorem cut_l1 {x0 : List S49} {i n : Nat} {c : List S49} {z : Int} (hn : n ≤ 9) (hi : i + 1 ≤ x0.length) (hx : x0.length ≤ 1000) : ∀ (d j : Nat) (out : List S49), j + d = n → out.length + d ≤ 1100 →
  Ev (fun k => impl_hydra_cut.l1 k x0 (i : Int) c out (n : Int) (j : Int) z) (out ++ List.replicate d (⟨c⟩ : S49) ++ x0.drop (i + 1), false, z)
 | 0, j, out, h, ho => by
  have hw : wrap64 ((i : Int) + 1) = ((i + 1 : Nat) : Int) := wrap_nat2 i 1 (by omega)
  refine ev_s ?_
  simp only [impl_hydra_cut.l1, if_neg (show ¬ ((j : Int) < (n : Int)) by omega), hw, if_pos (show (0 : Int) ≤ ((i + 1 : Nat) : Int) by omega), if_pos (show ((i + 1 : Nat) : Int) ≤ (x0.length : Int) by omega), Option.bind_some, Int.toNat_natCast, if_pos (show out.length + (x0.drop (i + 1)).length < 5864062014805 by simp only [List.length_drop]; omega)]
  exact ev_now (by simp)
 | d + 1, j, out, h, ho => by
  refine ev_s ?_
  simp only [impl_hydra_cut.l1, if_pos (show (j : Int) < (n : Int) by omega), if_pos (show out.length < 5864062014805 by omega), show wrap64 ((j : Int) + 1) = ((j + 1 : Nat) : Int) from wrap_nat2 j 1 (by omega)]
  refine ev_eq (cut_l1 hn hi hx d (j + 1) (out ++ [⟨c⟩]) (by omega) (by simp only [List.length_append, List.length_singleton]; omega)) ?_
  rw [List.replicate_succ]; simp
theorem cut_l0 (k0 : Nat) (hk1 : 1 ≤ k0) (hk9 : k0 ≤ 9) : ∀ (s : H) (pre : List S49) (j : Nat), pre.length + s.size ≤ 1000 → j ≤ 1000000 →
  Ev (fun k => impl_hydra_cut.l0 k (pre ++ s.terms) (k0 : Int) (pre ++ s.terms) (((pre ++ s.terms).length : Nat) : Int) (pre.length : Int) (j : Int)) (if j < s.heads then (pre ++ (H.cutAt k0 s j).1.terms, (H.cutAt k0 s j).2, -1) else (pre ++ s.terms, false, ((j - s.heads : Nat) : Int)))
 | .nul, pre, j, hp, hj => by
  refine ev_s ?_
  simp only [impl_hydra_cut.l0, H.terms, List.append_nil, Int.lt_irrefl, if_false]
  exact ev_now (by simp [H.heads])
 | .cons .nul r, pre, j, hp, hj => by
  simp only [H.size] at hp
  have hrs := H.len_size r
  have hrt := H.terms_len r
  have hlen : (pre ++ (H.cons .nul r).terms).length = pre.length + (r.terms.length + 1) := by simp [H.terms]
  have hmid : rd_T49 (pre ++ (H.cons .nul r).terms) (pre.length : Int) = ⟨[]⟩ := rd_T49_mid pre r.terms ⟨[]⟩
  have happ : pre ++ (H.cons .nul r).terms = (pre ++ [⟨[]⟩]) ++ r.terms := by simp [H.terms]
  have ew : wrap64 ((pre.length : Int) + 1) = (((pre ++ [(⟨[]⟩ : S49)]).length : Nat) : Int) := by
   rw [List.length_append, List.length_singleton]; exact wrap_nat2 pre.length 1 (by omega)
  have ew2 : wrap64 ((pre.length : Int) + 1) = (pre.length : Int) + 1 := by rw [wrap_in (by omega) (by omega)]
  have g1 : (pre.length : Int) < (((pre ++ (H.cons .nul r).terms).length : Nat) : Int) := by omega
  refine ev_s ?_
  simp only [impl_hydra_cut.l0, if_pos g1, if_pos (show (0 : Int) ≤ (pre.length : Int) from Int.natCast_nonneg _), hmid, List.length_nil, if_pos (show ((0 : Nat) : Int) = 0 from rfl)]
  cases j with
  | zero =>
   have hdel : impl_hydra_56.f (pre ++ (H.cons .nul r).terms) (pre.length : Int) ((pre.length : Int) + 1) = some (pre ++ r.terms) := by
    unfold impl_hydra_56.f
    rw [if_pos ⟨by omega, by omega, rfl, by omega⟩, Int.toNat_natCast]
    simp [H.terms, List.eraseIdx_append_of_length_le]
   simp only [if_pos (show ((0 : Nat) : Int) = 0 from rfl), ew2, hdel, Option.bind_some]
   exact ev_now (by rw [if_pos (by simp only [H.heads]; omega)]; rfl)
  | succ j =>
   simp only [if_neg (show ¬ (((j + 1 : Nat) : Int) = 0) by omega), ew, show wrap64 (((j + 1 : Nat) : Int) - 1) = (j : Int) by rw [wrap_in (by omega) (by omega)]; omega]
   rw [happ]
   refine ev_eq (cut_l0 k0 hk1 hk9 r (pre ++ [⟨[]⟩]) j (by simp only [List.length_append, List.length_singleton]; omega) (by omega)) ?_
   by_cases h : j < r.heads
   ·
    rw [if_pos h, if_pos (by simp only [H.heads]; omega)]
    simp [H.cutAt, H.terms]
   ·
    rw [if_neg h, if_neg (by simp only [H.heads]; omega)]
    simp only [H.heads, Prod.mk.injEq, true_and]; omega
 | .cons (.cons b t) r, pre, j, hp, hj => by
  simp only [show (H.cons (H.cons b t) r).size = (H.cons b t).size + r.size from rfl] at hp
  have hrs := H.len_size r
  have hrt := H.terms_len r
  have hb1 := H.size_pos (.cons b t)
  have hlen : (pre ++ (H.cons (.cons b t) r).terms).length = pre.length + (r.terms.length + 1) := by simp [H.terms]
  have hmid : rd_T49 (pre ++ (H.cons (.cons b t) r).terms) (pre.length : Int) = ⟨(H.cons b t).terms⟩ := rd_T49_mid pre r.terms ⟨(H.cons b t).terms⟩
  have happ : pre ++ (H.cons (.cons b t) r).terms = (pre ++ [⟨(H.cons b t).terms⟩]) ++ r.terms := by simp [H.terms]
  have ew : wrap64 ((pre.length : Int) + 1) = (((pre ++ [(⟨(H.cons b t).terms⟩ : S49)]).length : Nat) : Int) := by
   rw [List.length_append, List.length_singleton]; exact wrap_nat2 pre.length 1 (by omega)
  have g1 : (pre.length : Int) < (((pre ++ (H.cons (.cons b t) r).terms).length : Nat) : Int) := by omega
  have hE : Ev (fun k => impl_hydra_cut.f k (H.cons b t).terms (j : Int) (k0 : Int) false) (if j < (H.cons b t).heads then ((H.cutAt k0 (.cons b t) j).1.terms, (H.cutAt k0 (.cons b t) j).2, -1) else ((H.cons b t).terms, false, ((j - (H.cons b t).heads : Nat) : Int))) := by
   refine ev_s ?_
   simp only [impl_hydra_cut.f]
   have := cut_l0 k0 hk1 hk9 (.cons b t) [] j (by simp only [List.length_nil]; omega) hj
   simp only [List.nil_append, List.length_nil] at this
   exact this
  have hz : ¬ ((((H.cons b t).terms).length : Int) = 0) := by rw [H.terms_len]; simp only [H.len]; omega
  have ihr := cut_l0 k0 hk1 hk9 r (pre ++ [⟨(H.cons b t).terms⟩]) (j - (H.cons b t).heads) (by simp only [List.length_append, List.length_singleton]; omega) (by omega)
  refine ev_s ?_
  simp only [impl_hydra_cut.l0, if_pos g1, if_pos (show (0 : Int) ≤ (pre.length : Int) from Int.natCast_nonneg _), hmid, if_neg hz]
  refine Ev.bind hE ?_
  by_cases h : j < (H.cons b t).heads
  ·
   simp only [if_pos h, if_neg (show ¬ ((-1 : Int) ≥ 0) by decide), if_pos (show (pre.length : Int) ≤ (((pre ++ (H.cons (.cons b t) r).terms).length : Nat) : Int) by omega), Int.toNat_natCast, List.take_left]
   have hcl : impl_hydra_57.f pre = some pre := impl_hydra_57.ok (by omega)
   have hdrop : (pre ++ (H.cons (.cons b t) r).terms).drop (pre.length + 1) = r.terms := by
    rw [happ]; exact List.drop_left' (by simp)
   have hfin : ∀ n : Nat, n ≤ 9 → Ev (fun k => impl_hydra_cut.j1 k (pre ++ (H.cons (.cons b t) r).terms) (n : Int) (pre.length : Int) (H.cutAt k0 (.cons b t) j).1.terms pre (-1)) (pre ++ (H.rep n (H.cutAt k0 (.cons b t) j).1 r).terms, false, -1) := by
    intro n hn
    refine ev_s ?_
    simp only [impl_hydra_cut.j1]
    refine ev_eq (cut_l1 hn (by omega) (by omega) n 0 pre (by omega) (by omega)) ?_
    rw [hdrop, H.rep_terms, List.append_assoc]
   rw [if_pos (show j < (H.cons (H.cons b t) r).heads by simp only [H.heads] at h ⊢; omega)]
   have hcut : H.cutAt k0 (.cons (.cons b t) r) j = (H.rep (if (H.cutAt k0 (.cons b t) j).2 = true then k0 else 1) (H.cutAt k0 (.cons b t) j).1 r, false) := by rw [H.cutAt, if_pos h]
   simp only [hcut, hcl, Option.bind_some]
   by_cases ho : (H.cutAt k0 (.cons b t) j).2 = true
   ·
    simp only [ho, if_true]
    exact hfin k0 hk9
   ·
    simp only [ho, Bool.false_eq_true, if_false]
    exact hfin 1 (by omega)
  ·
   simp only [if_neg h, if_pos (show ((j - (H.cons b t).heads : Nat) : Int) ≥ 0 by omega), ew]
   rw [happ]
   refine ev_eq ihr ?_
   by_cases h2 : j - (H.cons b t).heads < r.heads
   ·
    rw [if_pos h2, if_pos (show j < (H.cons (H.cons b t) r).heads by simp only [H.heads] at h h2 ⊢; omega)]
    have hcut : H.cutAt k0 (.cons (.cons b t) r) j = (.cons (.cons b t) (H.cutAt k0 r (j - H.heads (.cons b t))).1, (H.cutAt k0 r (j - H.heads (.cons b t))).2) := by rw [H.cutAt, if_neg h]
    rw [hcut]
    simp [H.terms]
   ·
    rw [if_neg h2, if_neg (show ¬ (j < (H.cons (H.cons b t) r).heads) by simp only [H.heads] at h h2 ⊢; omega)]
    simp only [show (H.cons (H.cons b t) r).heads = (H.cons b t).heads + r.heads from rfl, Prod.mk.injEq, true_and]; omega
theorem cut_ev {h : H} {k0 j : Nat} (hk1 : 1 ≤ k0) (hk9 : k0 ≤ 9) (hl : h.size ≤ 60) (hj : j < h.heads) (root : Bool) : Ev (fun k => impl_hydra_cut.f k h.terms (j : Int) (k0 : Int) root) ((H.cutAt k0 h j).1.terms, (H.cutAt k0 h j).2, -1) := by
 have hz := H.zs_le h
 have hb := H.row_length h
 have hr := H.row_size h
 rw [← H.zs_heads] at hj
 have := cut_l0 k0 hk1 hk9 h [] j (by simp only [List.length_nil]; omega) (by omega)
 simp only [List.nil_append, List.length_nil] at this
 rw [H.zs_heads] at hj
 rw [if_pos hj] at this
 refine ev_s ?_
 simp only [impl_hydra_cut.f]
 exact this
def H.fit (h : H) : List Int × Bool := if h.row.length ≤ 60 then (h.row, true) else ([], false)
def H.cutFit (h : H) (j k : Int) : List Int × Bool := if 1 ≤ k ∧ k ≤ 9 ∧ 0 ≤ j ∧ j < (h.heads : Int) then (H.cutAt k.toNat h j.toNat).1.fit else ([], false)
theorem impl_HydraCut_good {h : H} (hl : h.row.length ≤ 60) (j c : Int) : Ev (fun k => impl_HydraCut.f k h.row j c) (h.cutFit j c) := by
 have hz := H.row_size h
 simp only [impl_HydraCut.f]
 refine Ev.bind (impl_hydraOf_good hl) ?_
 simp only [if_true]
 by_cases h1 : c < 1
 ·
  simp only [if_pos h1]; exact ev_now (by rw [H.cutFit, if_neg (by omega)])
 by_cases h2 : c > 9
 ·
  simp only [if_neg h1, if_pos h2]; exact ev_now (by rw [H.cutFit, if_neg (by omega)])
 by_cases h3 : j < 0
 ·
  simp only [if_neg h1, if_neg h2, if_pos h3]; exact ev_now (by rw [H.cutFit, if_neg (by omega)])
 simp only [if_neg h1, if_neg h2, if_neg h3]
 refine Ev.bind (heads_ev h hl) ?_
 rw [H.zs_heads]
 by_cases h4 : j ≥ (h.heads : Int)
 ·
  simp only [if_pos h4]; exact ev_now (by rw [H.cutFit, if_neg (by omega)])
 simp only [if_neg h4]
 obtain ⟨n, rfl⟩ := Int.eq_ofNat_of_zero_le (show 0 ≤ j by omega)
 obtain ⟨m, rfl⟩ := Int.eq_ofNat_of_zero_le (show 0 ≤ c by omega)
 refine Ev.bind (cut_ev (by omega) (by omega) (by omega) (by omega) true) ?_
 have hb := H.cutAt_bound m (by omega) h n
 have hb2 : m * h.size ≤ 9 * 60 := Nat.mul_le_mul (by omega) (by omega)
 have hs := H.row_size (H.cutAt m h n).1
 have e : h.cutFit (n : Int) (m : Int) = (H.cutAt m h n).1.fit := by rw [H.cutFit, if_pos (show 1 ≤ (m : Int) ∧ (m : Int) ≤ 9 ∧ 0 ≤ (n : Int) ∧ (n : Int) < (h.heads : Int) by omega)]; rfl
 refine ev_eq (grown_ev (by omega)) ?_
 rw [e]
 rfl
def H.hc (b : H) : Nat := if b.len = 0 then 1 else b.heads
theorem H.heads_nul_len {b : H} (h : b.len = 0) : b = .nul := by
 cases b with
 | nul => rfl
 | cons x y => simp [H.len] at h
theorem H.heads_cons (b r : H) : (H.cons b r).heads = b.hc + r.heads := by
 cases b with
 | nul => simp [H.heads, H.hc, H.len]
 | cons x y => simp [H.heads, H.hc, H.len]
theorem H.hc_le (b : H) : b.hc ≤ b.size := by
 have h1 := H.zs_le b
 have h2 := H.row_length b
 have h3 := H.row_size b
 rw [H.zs_heads] at h1
 unfold H.hc
 split <;> omega
theorem l5Heads_ev {b : H} (hl : b.size ≤ 1000) : Ev (fun k => spec_l5Heads.f k b.row) (b.hc : Int) := by
 have h2 := H.row_length b
 have h3 := H.row_size b
 simp only [spec_l5Heads.f]
 have := zeroLoop spec_l5Heads.l0 (fun _ _ _ _ => rfl) b.row (by omega) b.row.length 0 0 (by omega) (by omega)
 refine ev_eq this ?_
 rw [List.drop_zero, H.row, List.count_cons]
 have hz := H.zs_heads b
 unfold H.zs at hz
 rw [hz]
 unfold H.hc
 by_cases h : b.len = 0
 ·
  have := H.heads_nul_len h
  subst this
  simp [H.len, H.heads]
 ·
  have : ¬ ((b.len : Int) = 0) := by omega
  simp [h]
theorem l5Cut_dead (c : Int) : ∀ (s : H) (pe : List (List Int)) (g : H) (own : Bool) (a1 : Int), a1 < 0 → -1000000 + (s.size : Int) ≤ a1 → pe.length + s.size ≤ 100000 → g.size + s.size ≤ 1000 →
  Ev (fun k => spec_l5Cut.l0 k a1 c (pe ++ s.rows) g.rows own (pe.length : Int)) ((H.app g s).row, own)
 | .nul, pe, g, own, a1, ha, hb, hp, hs => by
  refine ev_s ?_
  simp only [spec_l5Cut.l0, H.rows, List.append_nil, Int.lt_irrefl, if_false]
  have := H.app_size g .nul
  rw [H.app_nul] at this ⊢
  exact Ev.bind (l5Tree_rows (by omega)) (Ev.now _)
 | .cons b r, pe, g, own, a1, ha, hb, hp, hs => by
  simp only [H.size] at hb hp hs
  have hb1 := H.size_pos b
  have hr1 := H.size_pos r
  have hbr := H.row_size b
  have hhc := H.hc_le b
  have hgl := H.len_size g
  have hgr := H.rows_len g
  have hmid : rd_L1 (pe ++ b.row :: r.rows) (pe.length : Int) = b.row := rd_L1_mid pe r.rows b.row
  have happ : pe ++ b.row :: r.rows = (pe ++ [b.row]) ++ r.rows := by simp
  have ew : wrap64 ((pe.length : Int) + 1) = (((pe ++ [b.row]).length : Nat) : Int) := by
   rw [List.length_append, List.length_singleton]; exact wrap_nat2 pe.length 1 (by omega)
  have hlen : (pe ++ b.row :: r.rows).length = pe.length + (r.rows.length + 1) := by simp
  have hsn := H.snoc_size g b
  have ih := l5Cut_dead c r (pe ++ [b.row]) (H.app g (.cons b .nul)) own (a1 - (b.hc : Int)) (by omega) (by omega) (by simp only [List.length_append, List.length_singleton]; omega) (by omega)
  rw [show (H.cons b r).rows = b.row :: r.rows from rfl]
  refine ev_s ?_
  simp only [spec_l5Cut.l0, if_pos (show (pe.length : Int) < ((pe ++ b.row :: r.rows).length : Int) by omega), if_pos (show (0 : Int) ≤ (pe.length : Int) from Int.natCast_nonneg _), hmid]
  refine Ev.bind (l5Heads_ev (by omega)) ?_
  simp only [if_pos ha]
  refine ev_s ?_
  simp only [spec_l5Cut.j1, if_true, if_pos (show (pe.length : Int) < ((pe ++ b.row :: r.rows).length : Int) by omega), if_pos (show (0 : Int) ≤ (pe.length : Int) from Int.natCast_nonneg _), if_pos (show g.rows.length < 5864062014805 by omega), hmid, H.snoc_rows, ew, wrap_in (x := a1 - (b.hc : Int)) (by omega) (by omega)]
  rw [happ]
  refine ev_eq ih ?_
  rw [H.app_assoc]; rfl
theorem l5Cut_l1 {k0 : Nat} (hk9 : k0 ≤ 9) {x8 : List (List Int)} {g x : H} {own : Bool} {at_ : Int} {q : List Int × Bool} (hg : g.size ≤ 1000)
  (h : Ev (fun k => spec_l5Cut.l0 k (-1) (k0 : Int) x8 (H.app g (H.rep k0 x .nul)).rows own (wrap64 (at_ + 1))) q) :
  ∀ (d i : Nat), i + d = k0 → Ev (fun k => spec_l5Cut.l1 k (k0 : Int) x8 (H.app g (H.rep i x .nul)).rows own at_ x.row true (i : Int)) q
 | 0, i, hi => by
  have : i = k0 := by omega
  subst this
  refine ev_s ?_
  simp only [spec_l5Cut.l1, Int.lt_irrefl, if_false]
  exact h
 | d + 1, i, hi => by
  have hgl := H.len_size g
  have hgr := H.rows_len g
  have hrr : (H.rep i x .nul).rows.length = i := by
   have h1 := H.rep_terms_len x i
   rw [H.terms_len] at h1
   rw [H.rows_len, h1]
  have hrows : (H.app g (H.rep i x .nul)).rows ++ [x.row] = (H.app g (H.rep (i + 1) x .nul)).rows := by
   have hr : ∀ n, (H.rep n x .nul).rows ++ [x.row] = (H.rep (n + 1) x .nul).rows := by
    intro n
    induction n with
    | zero => rfl
    | succ n ih => rw [H.rep, H.rows, List.cons_append, ih]; rfl
   rw [H.app_rows, H.app_rows, List.append_assoc, hr]
  refine ev_s ?_
  simp only [spec_l5Cut.l1, if_pos (show (i : Int) < (k0 : Int) by omega), if_true, if_pos (show (H.app g (H.rep i x .nul)).rows.length < 5864062014805 by rw [H.app_rows, List.length_append]; omega), hrows, show wrap64 ((i : Int) + 1) = ((i + 1 : Nat) : Int) from wrap_nat2 i 1 (by omega)]
  exact l5Cut_l1 hk9 hg h d (i + 1) (by omega)
theorem l5Cut_l0 (k0 : Nat) (hk1 : 1 ≤ k0) (hk9 : k0 ≤ 9) : ∀ (s : H) (pe : List (List Int)) (g : H) (j : Nat), j < s.heads → s.size ≤ 60 → pe.length + s.size ≤ 100000 → g.size + k0 * s.size ≤ 1000 →
  Ev (fun k => spec_l5Cut.l0 k (j : Int) (k0 : Int) (pe ++ s.rows) g.rows false (pe.length : Int)) ((H.app g (H.cutAt k0 s j).1).row, (H.cutAt k0 s j).2)
 | .nul, pe, g, j, hj, _, _, _ => by simp [H.heads] at hj
 | .cons b r, pe, g, j, hj, h60, hp, hs => by
  have hj2 : j ≤ 1000 := by
   have h1 := H.zs_le (.cons b r)
   have h2 := H.row_length (.cons b r)
   have h3 := H.row_size (.cons b r)
   rw [H.zs_heads] at h1
   omega
  rw [show (H.cons b r).size = b.size + r.size from rfl] at h60 hp hs
  rw [Nat.mul_add] at hs
  have hb1 := H.size_pos b
  have hr1 := H.size_pos r
  have hkb := Nat.le_mul_of_pos_left b.size hk1
  have hkr := Nat.le_mul_of_pos_left r.size hk1
  have hbr := H.row_size b
  have hhc := H.hc_le b
  have hgl := H.len_size g
  have hgr := H.rows_len g
  have hmid : rd_L1 (pe ++ b.row :: r.rows) (pe.length : Int) = b.row := rd_L1_mid pe r.rows b.row
  have happ : pe ++ b.row :: r.rows = (pe ++ [b.row]) ++ r.rows := by simp
  have ew : wrap64 ((pe.length : Int) + 1) = (((pe ++ [b.row]).length : Nat) : Int) := by
   rw [List.length_append, List.length_singleton]; exact wrap_nat2 pe.length 1 (by omega)
  have hlen : (pe ++ b.row :: r.rows).length = pe.length + (r.rows.length + 1) := by simp
  have hsn := H.snoc_size g b
  rw [show (H.cons b r).rows = b.row :: r.rows from rfl]
  refine ev_s ?_
  simp only [spec_l5Cut.l0, if_pos (show (pe.length : Int) < ((pe ++ b.row :: r.rows).length : Int) by omega), if_pos (show (0 : Int) ≤ (pe.length : Int) from Int.natCast_nonneg _), hmid]
  refine Ev.bind (l5Heads_ev (by omega)) ?_
  simp only [if_neg (show ¬ ((j : Int) < 0) by omega)]
  refine ev_s ?_
  by_cases hjb : j < b.hc
  ·
   simp only [spec_l5Cut.j1, decide_eq_false (show ¬ ((j : Int) ≥ (b.hc : Int)) by omega), Bool.false_eq_true, if_false, if_pos (show (pe.length : Int) < ((pe ++ b.row :: r.rows).length : Int) by omega), if_pos (show (0 : Int) ≤ (pe.length : Int) from Int.natCast_nonneg _), hmid]
   cases b with
   | nul =>
    have hj0 : j = 0 := by simp [H.hc, H.len] at hjb; exact hjb
    subst hj0
    simp only [show ((H.nul.row.length : Nat) : Int) = 1 from rfl, if_true, ew]
    rw [happ]
    exact l5Cut_dead (k0 : Int) r (pe ++ [H.nul.row]) g true (-1) (by omega) (by omega) (by simp only [List.length_append, List.length_singleton]; omega) (by omega)
   | cons x y =>
    have hx1 := H.size_pos x
    have hy1 := H.size_pos y
    have hsz : (H.cons x y).size = x.size + y.size := rfl
    have hrl := H.row_length (.cons x y)
    have hbl : ¬ ((((H.cons x y).row.length : Nat) : Int) = 1) := by rw [hbr]; omega
    have hjb' : j < (H.cons x y).heads := by simpa [H.hc, H.len] using hjb
    have hE : Ev (fun k => spec_l5Cut.f k (H.cons x y).row (j : Int) (k0 : Int)) ((H.cutAt k0 (.cons x y) j).1.row, (H.cutAt k0 (.cons x y) j).2) := by
     refine ev_s ?_
     simp only [spec_l5Cut.f]
     refine Ev.bind (l5Branches_ev (h := .cons x y) (by omega)) ?_
     exact l5Cut_l0 k0 hk1 hk9 (.cons x y) [] .nul j hjb' (by omega) (by simp only [List.length_nil]; omega) (by simp only [H.size] at hs ⊢; omega)
    have hcut : H.cutAt k0 (.cons (.cons x y) r) j = (H.rep (if (H.cutAt k0 (.cons x y) j).2 = true then k0 else 1) (H.cutAt k0 (.cons x y) j).1 r, false) := by rw [H.cutAt, if_pos hjb']
    have hb0 := H.cutAt_bound k0 hk1 (.cons x y) j
    have ho := H.cutAt_own k0 (.cons x y) j hjb'
    simp only [if_neg hbl]
    refine Ev.bind hE ?_
    rw [hcut]
    generalize H.cutAt k0 (.cons x y) j = cc at *
    obtain ⟨cx, co⟩ := cc
    simp only at hb0 ho ⊢
    simp only [if_pos (show g.rows.length < 5864062014805 by omega), H.snoc_rows]
    have hdead : ∀ n : Nat, n * cx.size ≤ k0 * (H.cons x y).size → Ev (fun k => spec_l5Cut.l0 k (-1) (k0 : Int) (pe ++ (H.cons x y).row :: r.rows) (H.app g (H.rep n cx .nul)).rows false (wrap64 ((pe.length : Int) + 1))) ((H.app g (H.rep n cx r)).row, false) := by
     intro n hn
     have hz1 := H.app_size g (H.rep n cx .nul)
     have hz2 := H.rep_nul_size cx n
     have := l5Cut_dead (k0 : Int) r (pe ++ [(H.cons x y).row]) (H.app g (H.rep n cx .nul)) false (-1) (by omega) (by omega) (by simp only [List.length_append, List.length_singleton]; omega) (by omega)
     rw [ew, happ]
     refine ev_eq this ?_
     rw [H.app_assoc, ← H.rep_app]
    cases co with
    | true =>
     have h9 := Nat.mul_le_mul_left k0 (Nat.le_of_lt (ho rfl))
     refine ev_eq (l5Cut_l1 hk9 (x := cx) (by omega) (hdead k0 h9) (k0 - 1) 1 (by omega)) ?_
     simp
    | false =>
     have hd1 := hdead 1 (by omega)
     refine ev_s ?_
     simp only [spec_l5Cut.l1, Bool.false_eq_true, if_false, ite_self]
     refine ev_eq hd1 ?_
     simp
  ·
   simp only [spec_l5Cut.j1, decide_eq_true (show ((j : Int) ≥ (b.hc : Int)) by omega), if_true, if_pos (show (pe.length : Int) < ((pe ++ b.row :: r.rows).length : Int) by omega), if_pos (show (0 : Int) ≤ (pe.length : Int) from Int.natCast_nonneg _), hmid, if_pos (show g.rows.length < 5864062014805 by omega), H.snoc_rows, ew, show wrap64 ((j : Int) - (b.hc : Int)) = ((j - b.hc : Nat) : Int) by rw [wrap_in (by omega) (by omega)]; omega]
   rw [happ]
   rw [H.heads_cons] at hj
   refine ev_eq (l5Cut_l0 k0 hk1 hk9 r (pe ++ [b.row]) (H.app g (.cons b .nul)) (j - b.hc) (by omega) (by omega) (by simp only [List.length_append, List.length_singleton]; omega) (by omega)) ?_
   have hcut : H.cutAt k0 (.cons b r) j = (.cons b (H.cutAt k0 r (j - b.hc)).1, (H.cutAt k0 r (j - b.hc)).2) := by
    cases b with
    | nul =>
     obtain ⟨j, rfl⟩ : ∃ i, j = i + 1 := ⟨j - 1, by simp [H.hc, H.len] at hjb; omega⟩
     simp [H.cutAt, H.hc, H.len]
    | cons x y =>
     have hh : (H.cons x y).hc = (H.cons x y).heads := by simp [H.hc, H.len]
     rw [hh] at hjb ⊢
     rw [H.cutAt, if_neg hjb]
   rw [hcut, H.app_assoc]; rfl
theorem l5Cut_ev {h : H} {k0 j : Nat} (hk1 : 1 ≤ k0) (hk9 : k0 ≤ 9) (hl : h.size ≤ 60) (hj : j < h.heads) : Ev (fun k => spec_l5Cut.f k h.row (j : Int) (k0 : Int)) ((H.cutAt k0 h j).1.row, (H.cutAt k0 h j).2) := by
 have hr := H.row_size h
 have hm : k0 * h.size ≤ 9 * 60 := Nat.mul_le_mul hk9 hl
 refine ev_s ?_
 simp only [spec_l5Cut.f]
 refine Ev.bind (l5Branches_ev (h := h) (by omega)) ?_
 exact l5Cut_l0 k0 hk1 hk9 h [] .nul j hj hl (by simp only [List.length_nil]; omega) (by simp only [H.size]; omega)
theorem spec_HydraCut_j0_no (l : List Int) (j c : Int) : Ev (fun k => spec_HydraCut.j0 k l j c true) ([], false) := by
 refine ev_s ?_
 simp only [spec_HydraCut.j0, if_true]
 exact Ev.now _
theorem spec_HydraCut_good {h : H} (hl : h.row.length ≤ 60) (j c : Int) : Ev (fun k => spec_HydraCut.f k h.row j c) (h.cutFit j c) := by
 have hz := H.row_size h
 have hzl := H.zs_le h
 have hrl := H.row_length h
 simp only [spec_HydraCut.f]
 refine Ev.bind (spec_HydraValid_good hl) ?_
 simp only [if_true, l1In_eq, Option.bind_some]
 by_cases hc : 1 ≤ c ∧ c ≤ 9
 ·
  simp only [decide_eq_true hc, if_true]
  refine Ev.bind (spec_HydraHeads_good hl) ?_
  rw [wrap_in (x := (h.zs : Int) - 1) (by omega) (by omega), H.zs_heads] at *
  by_cases hj : 0 ≤ j ∧ j ≤ (h.heads : Int) - 1
  ·
   simp only [decide_eq_true hj, Bool.not_true]
   obtain ⟨n, rfl⟩ := Int.eq_ofNat_of_zero_le (show 0 ≤ j by omega)
   obtain ⟨m, rfl⟩ := Int.eq_ofNat_of_zero_le (show 0 ≤ c by omega)
   have hb := H.cutAt_bound m (by omega) h n
   have hs := H.row_size (H.cutAt m h n).1
   rw [H.cutFit, if_pos (by omega), H.fit]
   refine ev_s ?_
   simp only [spec_HydraCut.j0, Bool.false_eq_true, if_false]
   refine Ev.bind (l5Cut_ev (by omega) (by omega) (by omega) (by omega)) ?_
   simp only [Int.toNat_natCast]
   by_cases h6 : (H.cutAt m h n).1.row.length ≤ 60
   ·
    refine Ev.bind (spec_HydraValid_good h6) ?_
    simp only [if_true, if_pos h6]
    exact Ev.now _
   ·
    refine Ev.bind (spec_HydraValid_bad (.inl (by omega))) ?_
    simp only [Bool.false_eq_true, if_false, if_neg h6]
    exact Ev.now _
  ·
   simp only [decide_eq_false hj, Bool.not_false]
   rw [H.cutFit, if_neg (by omega)]
   exact spec_HydraCut_j0_no _ _ _
 ·
  simp only [decide_eq_false hc, Bool.false_eq_true, if_false]
  rw [H.cutFit, if_neg (by omega)]
  exact spec_HydraCut_j0_no _ _ _
def H.cutO (h : H) (j c : Int) : Option H := if 1 ≤ c ∧ c ≤ 9 ∧ 0 ≤ j ∧ j < (h.heads : Int) then (if (H.cutAt c.toNat h j.toNat).1.row.length ≤ 60 then some (H.cutAt c.toNat h j.toNat).1 else none) else none
def H.out : Option H → List Int × Bool
 | some g => (g.row, true)
 | none => ([], false)
theorem H.cutFit_out (h : H) (j c : Int) : h.cutFit j c = H.out (h.cutO j c) := by
 unfold H.cutFit H.cutO
 split
 ·
  unfold H.fit; split <;> rfl
 ·
  rfl
theorem H.cutO_row {h g : H} {j c : Int} (e : h.cutO j c = some g) : g.row.length ≤ 60 := by
 unfold H.cutO at e
 split at e
 ·
  split at e
  ·
   injection e with e; subst e; assumption
  ·
   cases e
 ·
  cases e
theorem impl_cutO {h : H} (hl : h.row.length ≤ 60) (j c : Int) : Ev (fun k => impl_HydraCut.f k h.row j c) (H.out (h.cutO j c)) := ev_eq (impl_HydraCut_good hl j c) (H.cutFit_out h j c)
theorem spec_cutO {h : H} (hl : h.row.length ≤ 60) (j c : Int) : Ev (fun k => spec_HydraCut.f k h.row j c) (H.out (h.cutO j c)) := ev_eq (spec_HydraCut_good hl j c) (H.cutFit_out h j c)
def H.runO (c : Int) : H → List Int → Option H
 | h, [] => some h
 | h, j :: js => match h.cutO j c with | some g => H.runO c g js | none => none
def H.runFit (h : H) (l : List Int) (c : Int) : List Int × Bool := if l.length ≤ 400 ∧ 1 ≤ c ∧ c ≤ 9 then H.out (H.runO c h l) else ([], false)

-- part: hFight
def H.fightO (c : Int) : Nat → H → Nat → Int
 | 0, _, _ => -1
 | f + 1, h, n => if h.len = 0 then (n : Int) else match h.cutO ((h.heads : Int) - 1) c with | some g => H.fightO c f g (n + 1) | none => -1
theorem impl_Fight_l0 (c : Int) : ∀ (f n : Nat) (h : H), n + f = 401 → h.row.length ≤ 60 → Ev (fun k => impl_HydraFight.l0 k h.row c (n : Int)) (H.fightO c f h n)
 | 0, n, h, hn, hr => by
  refine ev_s ?_
  simp only [impl_HydraFight.l0, if_neg (show ¬ ((n : Int) ≤ 400) by omega)]
  exact Ev.now _
 | f + 1, n, h, hn, hr => by
  have hrl := H.row_length h
  have hzl := H.zs_le h
  refine ev_s ?_
  simp only [impl_HydraFight.l0, if_pos (show (n : Int) ≤ 400 by omega), if_pos (show (0 : Int) < (h.row.length : Int) by omega), show rd h.row 0 = (h.len : Int) from rfl, H.fightO]
  by_cases h0 : h.len = 0
  ·
   simp only [if_pos (show (h.len : Int) = 0 by omega), if_pos h0]; exact Ev.now _
  ·
   simp only [if_neg (show ¬ ((h.len : Int) = 0) by omega), if_neg h0]
   refine Ev.bind (impl_HydraHeads_good hr) ?_
   rw [wrap_in (x := (h.zs : Int) - 1) (by omega) (by omega), H.zs_heads]
   refine Ev.bind (impl_cutO hr _ _) ?_
   cases hc : h.cutO ((h.heads : Int) - 1) c with
   | none =>
    simp only [H.out, Bool.false_eq_true, if_false]
    exact Ev.now _
   | some g =>
    simp only [H.out, if_true, show wrap64 ((n : Int) + 1) = ((n + 1 : Nat) : Int) from wrap_nat2 n 1 (by omega)]
    exact impl_Fight_l0 c f (n + 1) g (by omega) (H.cutO_row hc)
theorem spec_Fight_l0 (c : Int) : ∀ (f n : Nat) (h : H), n + f = 401 → h.row.length ≤ 60 → Ev (fun k => spec_HydraFight.l0 k h.row c (n : Int)) (H.fightO c f h n)
 | 0, n, h, hn, hr => by
  refine ev_s ?_
  simp only [spec_HydraFight.l0, if_neg (show ¬ ((n : Int) ≤ 400) by omega)]
  exact Ev.now _
 | f + 1, n, h, hn, hr => by
  have hrl := H.row_length h
  have hzl := H.zs_le h
  have hll := H.len_le h
  refine ev_s ?_
  simp only [spec_HydraFight.l0, if_pos (show (n : Int) ≤ 400 by omega), H.fightO]
  by_cases h0 : h.len = 0
  ·
   have hnul := H.heads_nul_len h0
   subst hnul
   simp only [if_pos h0, show ((H.nul.row.length : Nat) : Int) = 1 from rfl, if_true]; exact Ev.now _
  ·
   simp only [if_neg (show ¬ ((h.row.length : Int) = 1) by omega), if_neg h0]
   refine Ev.bind (spec_HydraHeads_good hr) ?_
   rw [wrap_in (x := (h.zs : Int) - 1) (by omega) (by omega), H.zs_heads]
   refine Ev.bind (spec_cutO hr _ _) ?_
   cases hc : h.cutO ((h.heads : Int) - 1) c with
   | none =>
    simp only [H.out, Bool.false_eq_true, if_false]
    exact Ev.now _
   | some g =>
    simp only [H.out, if_true, show wrap64 ((n : Int) + 1) = ((n + 1 : Nat) : Int) from wrap_nat2 n 1 (by omega)]
    exact spec_Fight_l0 c f (n + 1) g (by omega) (H.cutO_row hc)
def H.fight (h : H) (c : Int) : Int := if 1 ≤ c ∧ c ≤ 9 then H.fightO c 401 h 0 else -1
theorem impl_Fight_no (l : List Int) (c : Int) : Ev (fun k => impl_HydraFight.j0 k l c true) (-1) := by
 refine ev_s ?_
 simp only [impl_HydraFight.j0, if_true]
 exact Ev.now _
theorem spec_Fight_no (l : List Int) (c : Int) : Ev (fun k => spec_HydraFight.j0 k l c true) (-1) := by
 refine ev_s ?_
 simp only [spec_HydraFight.j0, if_true]
 exact Ev.now _
theorem impl_HydraFight_good {h : H} (hr : h.row.length ≤ 60) (c : Int) : Ev (fun k => impl_HydraFight.f k h.row c) (h.fight c) := by
 simp only [impl_HydraFight.f]
 refine Ev.bind (impl_HydraValid_good hr) ?_
 simp only [if_true]
 by_cases h1 : c < 1
 ·
  simp only [if_pos h1]
  rw [H.fight, if_neg (by omega)]
  exact impl_Fight_no _ _
 ·
  simp only [if_neg h1]
  by_cases h9 : c > 9
  ·
   simp only [decide_eq_true h9]
   rw [H.fight, if_neg (by omega)]
   exact impl_Fight_no _ _
  ·
   simp only [decide_eq_false h9]
   rw [H.fight, if_pos (by omega)]
   refine ev_s ?_
   simp only [impl_HydraFight.j0, Bool.false_eq_true, if_false]
   exact impl_Fight_l0 c 401 0 h (by omega) hr
theorem spec_HydraFight_good {h : H} (hr : h.row.length ≤ 60) (c : Int) : Ev (fun k => spec_HydraFight.f k h.row c) (h.fight c) := by
 simp only [spec_HydraFight.f]
 refine Ev.bind (spec_HydraValid_good hr) ?_
 simp only [if_true, l1In_eq, Option.bind_some]
 by_cases hc : 1 ≤ c ∧ c ≤ 9
 ·
  simp only [decide_eq_true hc, Bool.not_true]
  rw [H.fight, if_pos hc]
  refine ev_s ?_
  simp only [spec_HydraFight.j0, Bool.false_eq_true, if_false]
  exact spec_Fight_l0 c 401 0 h (by omega) hr
 ·
  simp only [decide_eq_false hc, Bool.not_false]
  rw [H.fight, if_neg hc]
  exact spec_Fight_no _ _
theorem impl_HydraFight_bad {m : List Int} (h : NoHydra m) (c : Int) : Ev (fun k => impl_HydraFight.f k m c) (-1) := by
 simp only [impl_HydraFight.f]
 refine Ev.bind (impl_HydraValid_bad h) ?_
 simp only [Bool.false_eq_true, if_false]
 exact impl_Fight_no _ _
theorem spec_HydraFight_bad {m : List Int} (h : NoHydra m) (c : Int) : Ev (fun k => spec_HydraFight.f k m c) (-1) := by
 simp only [spec_HydraFight.f]
 refine Ev.bind (spec_HydraValid_bad h) ?_
 simp only [Bool.false_eq_true, if_false]
 exact spec_Fight_no _ _
section
variable {α : Type}
def Srt (lt : α → α → Bool) (l : List α) : Prop := l.Pairwise (fun x y => lt y x = false)
structure LtOk (lt : α → α → Bool) : Prop where
 asym : ∀ x y, lt x y = true → lt y x = false
 trans : ∀ x y z, lt y x = false → lt z y = false → lt z x = false
theorem srt_unique {lt : α → α → Bool} : ∀ {x y : List α}, (∀ a ∈ x, ∀ b ∈ x, lt a b = false → lt b a = false → a = b) → Srt lt x → Srt lt y → x.Perm y → x = y
 | [], y, _, _, _, h => (List.Perm.nil_eq h)
 | a :: x, [], _, _, _, h => absurd h.length_eq (by simp)
 | a :: x, b :: y, he, hx, hy, h => by
  have hab : a = b := by
   have h1 : b ∈ a :: x := h.mem_iff.mpr List.mem_cons_self
   have h2 : a ∈ b :: y := h.mem_iff.mp List.mem_cons_self
   rcases List.mem_cons.mp h1 with rfl | h1'
   ·
    rfl
   ·
    rcases List.mem_cons.mp h2 with rfl | h2'
    ·
     rfl
    ·
     exact he a List.mem_cons_self b h1 ((List.pairwise_cons.mp hy).1 a h2') ((List.pairwise_cons.mp hx).1 b h1')
  subst hab
  rw [srt_unique (fun u hu v hv => he u (List.mem_cons_of_mem _ hu) v (List.mem_cons_of_mem _ hv)) (List.pairwise_cons.mp hx).2 (List.pairwise_cons.mp hy).2 (List.perm_cons a |>.mp h)]
end

-- part: coreSort
def H.list : H → List H
 | .nul => []
 | .cons b r => b :: H.list r
theorem H.list_terms : ∀ h : H, h.terms = h.list.map (fun b => (⟨b.terms⟩ : S49))
 | .nul => rfl
 | .cons b r => by rw [H.terms, H.list, List.map_cons, H.list_terms r]
def H.mapS : H → H
 | .nul => .nul
 | .cons b r => .cons b.isort (H.mapS r)
theorem H.mapS_ord : ∀ h : H, (H.mapS h).ord = h.ord
 | .nul => rfl
 | .cons b r => by simp only [H.mapS, H.ord, H.isort_ord, H.mapS_ord r]
theorem H.list_size : ∀ (h b : H), b ∈ h.list → b.size < h.size
 | .nul, b, hb => by simp [H.list] at hb
 | .cons c r, b, hb => by
  have h1 := H.size_pos r
  have h2 := H.size_pos c
  simp only [H.list, List.mem_cons] at hb
  simp only [H.size]
  rcases hb with rfl | hb
  ·
   omega
  ·
   have := H.list_size r b hb; omega
theorem H.list_app : ∀ g h : H, (H.app g h).list = g.list ++ h.list
 | .nul, _ => rfl
 | .cons b r, h => by simp only [H.app, H.list, H.list_app r h, List.cons_append]
theorem H.rep_list (b r : H) : ∀ n, (H.rep n b r).list = List.replicate n b ++ r.list
 | 0 => by simp [H.rep]
 | n + 1 => by rw [H.rep, H.list, H.rep_list b r n, List.replicate_succ]; rfl
theorem H.of_ins_perm (e : O) : ∀ x : O, (H.of (O.ins e x)).list.Perm (H.of e :: (H.of x).list)
 | .z => by simp [O.ins, H.of, H.rep, H.list]
 | .c n f r => by
  have ih := H.of_ins_perm e r
  unfold O.ins
  cases hc : O.cmp f e with
  | gt =>
   simp only [H.of, H.rep_list]
   refine (List.Perm.append_left _ ih).trans ?_
   exact List.perm_middle
  | eq =>
   rw [← O.eq_of_cmp _ _ hc]
   simp only [H.of, H.rep_list, List.replicate_succ, List.cons_append]
   exact List.Perm.refl _
  | lt =>
   simp only [H.of, H.rep_list, H.rep, H.list]
   exact List.Perm.refl _
theorem H.of_perm : ∀ (g : H), (∀ b ∈ g.list, b.sorted) → (H.of g.ord).list.Perm g.list
 | .nul, _ => List.Perm.refl _
 | .cons b r, h => by
  have ih := H.of_perm r (fun c hc => h c (List.mem_cons_of_mem _ hc))
  have hb := H.of_ord b (h b List.mem_cons_self)
  rw [H.ord]
  refine (H.of_ins_perm b.ord r.ord).trans ?_
  rw [hb]
  exact List.Perm.cons b ih
theorem O.le_trans' {a b c : O} (h1 : O.cmp a b ≠ .gt) (h2 : O.cmp b c ≠ .gt) : O.cmp a c ≠ .gt := by
 cases h : O.cmp a b with
 | gt => exact absurd h h1
 | eq => rw [O.eq_of_cmp _ _ h]; exact h2
 | lt =>
  cases h' : O.cmp b c with
  | gt => exact absurd h' h2
  | eq => rw [← O.eq_of_cmp _ _ h', h]; simp
  | lt => rw [O.lt_trans _ _ _ h h']; simp
theorem H.sorted_pair : ∀ {g : H}, g.sorted → g.list.Pairwise (fun a b => O.cmp b.ord a.ord ≠ .gt)
 | .nul, _ => List.Pairwise.nil
 | .cons b .nul, _ => List.pairwise_singleton _ _
 | .cons b (.cons c r), h => by
  have ih := H.sorted_pair h.2.1
  refine List.pairwise_cons.mpr ⟨fun x hx => ?_, ih⟩
  have hbc : O.cmp c.ord b.ord ≠ .gt := h.2.2
  simp only [H.list, List.mem_cons] at hx
  rcases hx with rfl | hx
  ·
   exact hbc
  ·
   exact O.le_trans' ((List.pairwise_cons.mp ih).1 x hx) hbc
def H.gt (a b : H) : Bool := decide (O.cmp b.ord a.ord = .lt)
theorem H.gt_false {a b : H} : H.gt a b = false ↔ O.cmp b.ord a.ord ≠ .lt := by simp [H.gt]
theorem H.gt_true {a b : H} : H.gt a b = true ↔ O.cmp b.ord a.ord = .lt := by simp [H.gt]
theorem O.not_lt {a b : O} : O.cmp a b ≠ .lt ↔ O.cmp b a ≠ .gt := by rw [Ne, Ne, O.cmp_gt_iff]
theorem H.gt_trans {a b c : H} (h1 : H.gt a b = true) (h2 : H.gt b c = true) : H.gt a c = true := by
 rw [H.gt_true] at *; exact O.lt_trans _ _ _ h2 h1
theorem H.gt_ntrans {a b c : H} (h1 : H.gt a b = false) (h2 : H.gt b c = false) : H.gt a c = false := by
 rw [H.gt_false, O.not_lt] at *; exact O.le_trans' h1 h2
theorem H.gt_irr (a : H) : H.gt a a = false := by rw [H.gt_false, O.cmp_self]; simp
theorem H.gt_same {a b : H} (h1 : H.gt a b = false) (h2 : H.gt b a = false) : a.ord = b.ord := by
 rw [H.gt_false] at *
 rcases O.cmp_tri a.ord b.ord with h | h | h
 ·
  exact absurd h h2
 ·
  exact h
 ·
  exact absurd h h1
theorem H.sort_list {g : H} (hg : ∀ b ∈ g.list, b.sorted) : g.list.mergeSort (fun x y => !H.gt y x) = (H.of g.ord).list := by
 have hp := H.of_perm g hg
 have s2 := H.sorted_pair (H.of_sorted g.ord g.ord_NF)
 have s1 := List.pairwise_mergeSort (le := fun x y : H => !H.gt y x) (fun a b c h1 h2 => by
   simp only [Bool.not_eq_true'] at h1 h2 ⊢
   exact H.gt_ntrans h2 h1) (fun a b => by
   cases e1 : H.gt b a with
   | false => rfl
   | true =>
    cases e2 : H.gt a b with
    | false => rfl
    | true => have := H.gt_trans e2 e1; rw [H.gt_irr] at this; cases this) g.list
 refine srt_unique (lt := H.gt) ?_ ?_ ?_ ?_
 ·
  intro a ha b hb h1 h2
  have ha' : a ∈ g.list := (List.mergeSort_perm _ _).mem_iff.mp ha
  have hb' : b ∈ g.list := (List.mergeSort_perm _ _).mem_iff.mp hb
  have := H.gt_same h1 h2
  rw [← H.of_ord a (hg a ha'), ← H.of_ord b (hg b hb'), this]
 ·
  exact s1.imp (fun h => by simpa using h)
 ·
  exact s2.imp (fun h => by rw [H.gt_false, O.not_lt]; rw [Ne, O.cmp_gt_iff] at h ⊢; exact h)
 ·
  exact (List.mergeSort_perm _ _).trans hp.symm

-- part: told
def O.most : O → Nat
 | .z => 0
 | .c n e r => max (max n (O.most e)) (O.most r)
theorem O.Sm_of : ∀ {x : O}, x.NF → x.most ≤ 9999 → x.row.length ≤ 60 → x.Sm
 | .z, _, _, _ => trivial
 | .c n e r, h, hm, hl => by
  have h1 := O.row_length e
  have h2 := O.row_length r
  have h3 := O.len_le e
  rw [O.row_length, O.body_c] at hl
  simp only [List.length_cons, List.length_append] at hl
  simp only [O.most] at hm
  exact ⟨⟨h.1, by omega⟩, ⟨O.Sm_of h.2.1 (by omega) (by omega), by omega⟩, O.Sm_of h.2.2.1 (by omega) (by omega), h.2.2.2⟩
theorem sizeOf_l0 : ∀ (r : O) (pre : List S89) (a : Nat), pre.length + r.body.length ≤ 1000000 → a + r.body.length ≤ 1000000 →
  Ev (fun k => impl_sizeOf.l0 k (a : Int) (pre ++ r.terms) (((pre ++ r.terms).length : Nat) : Int) (pre.length : Int)) ((a + r.body.length : Nat) : Int)
 | .z, pre, a, _, _ => by
  refine ev_s ?_
  simp only [impl_sizeOf.l0, O.terms, List.append_nil, Int.lt_irrefl, if_false]
  exact Ev.now _
 | .c n e r, pre, a, hp, ha => by
  rw [O.body_c] at hp ha
  simp only [List.length_cons, List.length_append] at hp ha
  have hre := O.row_length e
  have hE : Ev (fun k => impl_sizeOf.f k e.terms) (e.row.length : Int) := by
   refine ev_s ?_
   simp only [impl_sizeOf.f]
   have := sizeOf_l0 e [] 1 (by simp only [List.length_nil]; omega) (by omega)
   simp only [List.nil_append] at this
   exact ev_eq this (by omega)
  have hlen : (pre ++ (O.c n e r).terms).length = pre.length + (r.terms.length + 1) := by simp [O.terms]
  have hmid : rd_T89 (pre ++ (O.c n e r).terms) (pre.length : Int) = ⟨(n : Int), e.terms⟩ := rd_T89_mid pre r.terms ⟨(n : Int), e.terms⟩
  have happ : pre ++ (O.c n e r).terms = (pre ++ [⟨(n : Int), e.terms⟩]) ++ r.terms := by simp [O.terms]
  have ew : wrap64 ((pre.length : Int) + 1) = (((pre ++ [(⟨(n : Int), e.terms⟩ : S89)]).length : Nat) : Int) := by
   rw [List.length_append, List.length_singleton]; exact wrap_nat2 pre.length 1 (by omega)
  have g1 : (pre.length : Int) < (((pre ++ (O.c n e r).terms).length : Nat) : Int) := by omega
  have ih := sizeOf_l0 r (pre ++ [⟨(n : Int), e.terms⟩]) (a + (1 + e.row.length)) (by simp only [List.length_append, List.length_singleton]; omega) (by omega)
  refine ev_s ?_
  simp only [impl_sizeOf.l0, if_pos g1, if_pos (show (0 : Int) ≤ (pre.length : Int) from Int.natCast_nonneg _), hmid]
  refine Ev.bind hE ?_
  have hacc : wrap64 ((a : Int) + wrap64 (1 + (e.row.length : Int))) = ((a + (1 + e.row.length) : Nat) : Int) := by
   rw [wrap_in (x := 1 + (e.row.length : Int)) (by omega) (by omega), wrap_in (by omega) (by omega)]; omega
  rw [hacc, ew]
  rw [happ] at *
  exact ev_eq ih (by rw [O.body_c]; simp only [List.length_cons, List.length_append]; omega)
theorem sizeOf_ev {o : O} (hb : o.row.length ≤ 100000) : Ev (fun k => impl_sizeOf.f k o.terms) (o.row.length : Int) := by
 have hr := O.row_length o
 refine ev_s ?_
 simp only [impl_sizeOf.f]
 have := sizeOf_l0 o [] 1 (by simp only [List.length_nil]; omega) (by omega)
 simp only [List.nil_append] at this
 exact ev_eq this (by omega)
theorem most_l0 : ∀ (r : O) (pre : List S89) (a : Nat), pre.length + r.body.length ≤ 1000000 →
  Ev (fun k => impl_most.l0 k (a : Int) (pre ++ r.terms) (((pre ++ r.terms).length : Nat) : Int) (pre.length : Int)) ((max a r.most : Nat) : Int)
 | .z, pre, a, _ => by
  refine ev_s ?_
  simp only [impl_most.l0, O.terms, List.append_nil, Int.lt_irrefl, if_false, O.most]
  exact ev_now (by omega)
 | .c n e r, pre, a, hp => by
  rw [O.body_c] at hp
  simp only [List.length_cons, List.length_append] at hp
  have hre := O.row_length e
  have hE : Ev (fun k => impl_most.f k e.terms) (e.most : Int) := by
   refine ev_s ?_
   simp only [impl_most.f]
   have := most_l0 e [] 0 (by simp only [List.length_nil]; omega)
   simp only [List.nil_append] at this
   exact ev_eq this (by omega)
  have hlen : (pre ++ (O.c n e r).terms).length = pre.length + (r.terms.length + 1) := by simp [O.terms]
  have hmid : rd_T89 (pre ++ (O.c n e r).terms) (pre.length : Int) = ⟨(n : Int), e.terms⟩ := rd_T89_mid pre r.terms ⟨(n : Int), e.terms⟩
  have happ : pre ++ (O.c n e r).terms = (pre ++ [⟨(n : Int), e.terms⟩]) ++ r.terms := by simp [O.terms]
  have ew : wrap64 ((pre.length : Int) + 1) = (((pre ++ [(⟨(n : Int), e.terms⟩ : S89)]).length : Nat) : Int) := by
   rw [List.length_append, List.length_singleton]; exact wrap_nat2 pre.length 1 (by omega)
  have g1 : (pre.length : Int) < (((pre ++ (O.c n e r).terms).length : Nat) : Int) := by omega
  have ih := most_l0 r (pre ++ [⟨(n : Int), e.terms⟩]) (max (max a n) e.most) (by simp only [List.length_append, List.length_singleton]; omega)
  refine ev_s ?_
  simp only [impl_most.l0, if_pos g1, if_pos (show (0 : Int) ≤ (pre.length : Int) from Int.natCast_nonneg _), hmid]
  refine Ev.bind hE ?_
  have hacc : mx (mx (a : Int) (n : Int)) (e.most : Int) = ((max (max a n) e.most : Nat) : Int) := by
   unfold mx
   split <;> split <;> omega
  rw [hacc, ew]
  rw [happ] at *
  exact ev_eq ih (by simp only [O.most]; omega)
theorem most_ev {o : O} (hb : o.row.length ≤ 100000) : Ev (fun k => impl_most.f k o.terms) (o.most : Int) := by
 have hr := O.row_length o
 refine ev_s ?_
 simp only [impl_most.f]
 have := most_l0 o [] 0 (by simp only [List.length_nil]; omega)
 simp only [List.nil_append] at this
 exact ev_eq this (by omega)
def O.fit (x : O) : List Int × Bool := if x.row.length ≤ 60 ∧ x.most ≤ 9999 then (x.row, true) else ([], false)
theorem told_ev {x : O} (hb : x.row.length ≤ 100000) : Ev (fun k => impl_told.f k x.terms) x.fit := by
 have hr := O.row_length x
 have bad : Ev (fun k => impl_told.j0 k x.terms true) ([], false) := by
  refine ev_s ?_
  simp only [impl_told.j0, if_true]
  exact Ev.now _
 simp only [impl_told.f]
 refine Ev.bind (sizeOf_ev hb) ?_
 unfold O.fit
 by_cases h1 : x.row.length ≤ 60
 ·
  simp only [if_neg (show ¬ ((x.row.length : Int) > 60) by omega)]
  refine Ev.bind (most_ev hb) ?_
  by_cases h2 : x.most ≤ 9999
  ·
   rw [if_pos ⟨h1, h2⟩]
   simp only [decide_eq_false (show ¬ ((x.most : Int) > 9999) by omega)]
   refine ev_s ?_
   simp only [impl_told.j0, Bool.false_eq_true, if_false, slices_Clip_int_int.f, Option.bind_some]
   exact Ev.bind (rowOf_ev x.terms_is (by omega)) (Ev.now _)
  ·
   rw [if_neg (fun h => h2 h.2)]
   simp only [decide_eq_true (show (x.most : Int) > 9999 by omega)]
   exact bad
 ·
  rw [if_neg (fun h => h1 h.1)]
  simp only [if_pos (show (x.row.length : Int) > 60 by omega)]
  exact bad

-- part: hOrd
theorem O.row_le_size : ∀ {x : O}, x.NF → x.row.length + 1 ≤ 2 * x.size
 | .z, _ => by simp [O.row, O.body, O.size]
 | .c n e r, h => by
  have h1 := O.row_le_size h.2.1
  have h2 := O.row_le_size h.2.2.1
  have h3 : e.size ≤ n * e.size := Nat.le_mul_of_pos_left _ h.1
  rw [O.row_length] at h2 ⊢
  rw [O.body_c]
  simp only [List.length_cons, List.length_append, O.size]
  omega
theorem O.num_le_size (n : Nat) (e r : O) : n + 1 ≤ (O.c n e r).size := by
 have h1 := O.size_pos e
 have h2 := O.size_pos r
 have h3 : n ≤ n * e.size := Nat.le_mul_of_pos_right _ h1
 simp only [O.size]; omega
def H.ordA : H → O → O
 | .nul, x => x
 | .cons b r, x => O.ins b.ord (H.ordA r x)
theorem H.ordA_NF : ∀ (h : H) {x : O}, x.NF → (H.ordA h x).NF
 | .nul, _, hx => hx
 | .cons b r, _, hx => O.ins_NF (H.ord_NF b) (H.ordA_NF r hx)
theorem H.ordA_ins (e : O) : ∀ (h : H) {x : O}, x.NF → H.ordA h (O.ins e x) = O.ins e (H.ordA h x)
 | .nul, _, _ => rfl
 | .cons b r, x, hx => by rw [H.ordA, H.ordA_ins e r hx, O.ins_comm _ _ _ (H.ordA_NF r hx)]; rfl
theorem H.ordA_z : ∀ h : H, H.ordA h .z = h.ord
 | .nul => rfl
 | .cons b r => by rw [H.ordA, H.ordA_z r]; rfl
theorem natural_l0 (e : O) (he : e.body.length ≤ 100000) : ∀ (x : O) (out : List S89), x.NF → x.size ≤ 10000 → x.body.length ≤ 100000 → out.length + x.size ≤ 100000 →
  Ev (fun k => impl_natural.l0 k x.terms [⟨1, e.terms⟩] out) (out ++ (O.ins e x).terms) := by
 have none_ : ∀ (x : List S89) (out : List S89), out.length + x.length ≤ 1000000 → Ev (fun k => impl_natural.l0 k x [] out) (out ++ x) := by
  intro x out h
  refine ev_s ?_
  have hj : Ev (fun k => impl_natural.j1 k x [] out false) (out ++ x) := by
   refine ev_s ?_
   simp only [impl_natural.j1, Bool.false_eq_true, if_false, if_pos (show out.length + x.length < 4398046511104 by omega), Option.bind_some, List.length_append, List.length_nil, if_pos (show out.length + x.length + 0 < 4398046511104 by omega), List.append_nil]
   exact Ev.now _
  by_cases hx : (x.length : Int) > 0
  ·
   simp only [impl_natural.l0, if_pos hx, List.length_nil, decide_eq_false (show ¬ (((0 : Nat) : Int) > 0) by omega)]; exact hj
  ·
   simp only [impl_natural.l0, if_neg hx]; exact hj
 intro x
 induction x with
 | z =>
  intro out _ _ _ ho
  refine ev_s ?_
  simp only [impl_natural.l0, O.terms, List.length_nil, if_neg (show ¬ (((0 : Nat) : Int) > 0) by omega)]
  refine ev_s ?_
  simp only [impl_natural.j1, Bool.false_eq_true, if_false, List.length_nil, Nat.add_zero, if_pos (show out.length < 4398046511104 by omega), List.append_nil, Option.bind_some, List.length_singleton, if_pos (show out.length + 1 < 4398046511104 by omega), O.ins, O.terms]
  exact Ev.now _
 | c n f r _ ihr =>
  intro out hx hz hb ho
  have hnl := O.num_le_size n f r
  have hrow := O.row_length f
  rw [O.body_c] at hb
  simp only [List.length_cons, List.length_append] at hb
  have hsz : (O.c n f r).size = n * f.size + r.size := rfl
  have hnf : n ≤ n * f.size := Nat.le_mul_of_pos_right _ (O.size_pos f)
  have hr1 := O.size_pos r
  have hrl : r.terms.length ≤ r.body.length := by rw [O.terms_len]; exact O.len_le r
  have g1 : ((O.c n f r).terms.length : Int) > 0 := by simp [O.terms]
  have e0 : rd_T89 (O.c n f r).terms 0 = ⟨(n : Int), f.terms⟩ := by simp [O.terms, rd_T89]
  have e1 : rd_T89 [(⟨1, e.terms⟩ : S89)] 0 = ⟨1, e.terms⟩ := by simp [rd_T89]
  have ed : (O.c n f r).terms.drop 1 = r.terms := rfl
  have ed1 : [(⟨1, e.terms⟩ : S89)].drop 1 = [] := rfl
  refine ev_s ?_
  simp only [impl_natural.l0, if_pos g1, List.length_singleton, decide_eq_true (show ((1 : Nat) : Int) > 0 by omega)]
  refine ev_s ?_
  simp only [impl_natural.j1, if_true, if_pos (show (0 : Int) < ((O.c n f r).terms.length : Int) from g1), List.length_singleton, if_pos (show (0 : Int) < ((1 : Nat) : Int) by omega), e0, e1]
  refine Ev.bind (compare_ev f e (by omega) he) ?_
  have hord : O.ins e (.c n f r) = match O.cmp f e with | .gt => .c n f (O.ins e r) | .eq => .c (n + 1) f r | .lt => .c 1 e (.c n f r) := rfl
  rw [hord]
  cases hc : O.cmp f e with
  | gt =>
   simp only [ordI, if_pos (show (1 : Int) > 0 by decide), if_pos (show out.length < 4398046511104 by omega), if_pos (show (1 : Int) ≤ ((O.c n f r).terms.length : Int) by omega), ed]
   refine ev_eq (ihr (out ++ [⟨(n : Int), f.terms⟩]) hx.2.2.1 (by omega) (by omega) (by simp only [List.length_append, List.length_singleton]; have := hx.1; omega)) ?_
   simp [O.terms]
  | lt =>
   simp only [ordI, if_neg (show ¬ ((-1 : Int) > 0) by decide), if_pos (show (-1 : Int) < 0 by decide), if_pos (show out.length < 4398046511104 by omega), if_pos (show (1 : Int) ≤ ((1 : Nat) : Int) by omega), ed1]
   refine ev_eq (none_ (O.c n f r).terms (out ++ [⟨1, e.terms⟩]) (by simp [O.terms]; omega)) ?_
   simp [O.terms]
  | eq =>
   simp only [ordI, if_neg (show ¬ ((0 : Int) > 0) by decide), if_neg (show ¬ ((0 : Int) < 0) by decide), if_pos (show out.length < 4398046511104 by omega), if_pos (show (1 : Int) ≤ ((O.c n f r).terms.length : Int) by omega), if_pos (show (1 : Int) ≤ ((1 : Nat) : Int) by omega), ed, ed1, show wrap64 ((n : Int) + 1) = ((n + 1 : Nat) : Int) from wrap_nat2 n 1 (by omega)]
   refine ev_eq (none_ r.terms (out ++ [⟨((n + 1 : Nat) : Int), f.terms⟩]) (by simp; omega)) ?_
   simp [O.terms]
theorem natural_ev {e x : O} (he : e.body.length ≤ 100000) (hx : x.NF) (hz : x.size ≤ 10000) : Ev (fun k => impl_natural.f k x.terms [⟨1, e.terms⟩]) (O.ins e x).terms := by
 have h1 := O.row_le_size hx
 have h2 := O.row_length x
 simp only [impl_natural.f]
 have := natural_l0 e he x [] hx hz (by omega) (by simp only [List.length_nil]; omega)
 rw [List.nil_append] at this
 exact this
theorem hydraOrd_l0 : ∀ (s : H) (pre : List S49) (x : O), x.NF → x.size + s.size ≤ 5000 → pre.length + s.size ≤ 100000 →
  Ev (fun k => impl_hydra_ord.l0 k x.terms (pre ++ s.terms) (((pre ++ s.terms).length : Nat) : Int) (pre.length : Int)) (H.ordA s x).terms
 | .nul, pre, x, _, _, _ => by
  refine ev_s ?_
  simp only [impl_hydra_ord.l0, H.terms, List.append_nil, Int.lt_irrefl, if_false, H.ordA]
  exact Ev.now _
 | .cons b r, pre, x, hx, hz, hp => by
  simp only [H.size] at hz hp
  have hb1 := H.size_pos b
  have hE : Ev (fun k => impl_hydra_ord.f k b.terms) b.ord.terms := by
   refine ev_s ?_
   simp only [impl_hydra_ord.f]
   have := hydraOrd_l0 b [] .z trivial (by simp only [O.size]; have := H.size_pos r; omega) (by simp only [List.length_nil]; omega)
   rw [List.nil_append, H.ordA_z] at this
   exact this
  have hlen : (pre ++ (H.cons b r).terms).length = pre.length + (r.terms.length + 1) := by simp [H.terms]
  have hmid : rd_T49 (pre ++ (H.cons b r).terms) (pre.length : Int) = ⟨b.terms⟩ := rd_T49_mid pre r.terms ⟨b.terms⟩
  have happ : pre ++ (H.cons b r).terms = (pre ++ [⟨b.terms⟩]) ++ r.terms := by simp [H.terms]
  have ew : wrap64 ((pre.length : Int) + 1) = (((pre ++ [(⟨b.terms⟩ : S49)]).length : Nat) : Int) := by
   rw [List.length_append, List.length_singleton]; exact wrap_nat2 pre.length 1 (by omega)
  have g1 : (pre.length : Int) < (((pre ++ (H.cons b r).terms).length : Nat) : Int) := by omega
  have hrow := O.row_le_size (H.ord_NF b)
  have hrl := O.row_length b.ord
  have hos := H.ord_size b
  refine ev_s ?_
  simp only [impl_hydra_ord.l0, if_pos g1, if_pos (show (0 : Int) ≤ (pre.length : Int) from Int.natCast_nonneg _), hmid]
  refine Ev.bind hE ?_
  simp only [impl_power.f, Option.bind_some]
  refine Ev.bind (natural_ev (by omega) hx (by omega)) ?_
  rw [ew, happ]
  refine ev_eq (hydraOrd_l0 r (pre ++ [⟨b.terms⟩]) (O.ins b.ord x) (O.ins_NF (H.ord_NF b) hx) (by rw [O.ins_size]; omega) (by simp only [List.length_append, List.length_singleton]; omega)) ?_
  rw [H.ordA_ins _ _ hx]; rfl
theorem hydraOrd_ev {h : H} (hs : h.size ≤ 1000) : Ev (fun k => impl_hydra_ord.f k h.terms) h.ord.terms := by
 refine ev_s ?_
 simp only [impl_hydra_ord.f]
 have := hydraOrd_l0 h [] .z trivial (by simp only [O.size]; omega) (by simp only [List.length_nil]; omega)
 rw [List.nil_append, H.ordA_z] at this
 exact this
theorem impl_HydraOrd_good {h : H} (hl : h.row.length ≤ 60) : Ev (fun k => impl_HydraOrd.f k h.row) h.ord.fit := by
 have hz := H.row_size h
 have hrow := O.row_le_size (H.ord_NF h)
 have hos := H.ord_size h
 simp only [impl_HydraOrd.f]
 refine Ev.bind (impl_hydraOf_good hl) ?_
 simp only [if_true]
 refine Ev.bind (hydraOrd_ev (by omega)) ?_
 exact Ev.bind (told_ev (by omega)) (Ev.now _)
theorem lit_ev {a b : H} (ha : a.size ≤ 100) (hb : b.size ≤ 100) : Ev (fun k => impl_hydra_sortedLit1.f k a.terms b.terms) (ordI (O.cmp b.ord a.ord)) := by
 have h1 := O.row_le_size (H.ord_NF a)
 have h2 := O.row_le_size (H.ord_NF b)
 have h3 := H.ord_size a
 have h4 := H.ord_size b
 have h5 := O.row_length a.ord
 have h6 := O.row_length b.ord
 simp only [impl_hydra_sortedLit1.f]
 refine Ev.bind (hydraOrd_ev (by omega)) ?_
 refine Ev.bind (hydraOrd_ev (by omega)) ?_
 refine Ev.bind (compare_ev b.ord a.ord (by omega) (by omega)) ?_
 exact Ev.now _
theorem ev_all {α β : Type} {P : α → β → Prop} (g : α → Nat → Option β) (v : α → β) : ∀ (l : List α), (∀ a ∈ l, Ev (g a) (v a)) → ∃ K, ∀ k, K ≤ k → ∀ a ∈ l, g a k = some (v a)
 | [], _ => ⟨0, fun _ _ a ha => by simp at ha⟩
 | a :: l, h => by
  obtain ⟨K1, h1⟩ := h a List.mem_cons_self
  obtain ⟨K2, h2⟩ := ev_all (P := P) g v l (fun b hb => h b (List.mem_cons_of_mem _ hb))
  refine ⟨max K1 K2, fun k hk b hb => ?_⟩
  rcases List.mem_cons.mp hb with rfl | hb
  ·
   exact h1 k (by omega)
  ·
   exact h2 k (by omega) b hb
theorem sortBranches_ev {g : H} (hg : ∀ b ∈ g.list, b.sorted) (hs : g.size ≤ 100) : Ev (fun k => impl_hydra_69.f k g.terms) (H.of g.ord).terms := by
 have hsz : ∀ b ∈ g.list, b.size ≤ 100 := fun b hb => by have := H.list_size g b hb; omega
 have hev : ∀ p ∈ (g.list.flatMap fun a => g.list.map fun b => (a, b)), Ev (fun k => impl_hydra_sortedLit1.f k p.1.terms p.2.terms) (ordI (O.cmp p.2.ord p.1.ord)) := by
  intro p hp
  obtain ⟨a, ha, hp⟩ := List.mem_flatMap.mp hp
  obtain ⟨b, hb, rfl⟩ := List.mem_map.mp hp
  exact lit_ev (hsz a ha) (hsz b hb)
 obtain ⟨K, hK⟩ := ev_all (P := fun _ _ => True) (fun (p : H × H) k => impl_hydra_sortedLit1.f k p.1.terms p.2.terms) (fun p => ordI (O.cmp p.2.ord p.1.ord)) _ hev
 refine ⟨K, fun k hk => ?_⟩
 have hcmp : ∀ a ∈ g.list, ∀ b ∈ g.list, impl_hydra_sortedLit1.f k a.terms b.terms = some (ordI (O.cmp b.ord a.ord)) := fun a ha b hb => hK k hk (a, b) (List.mem_flatMap.mpr ⟨a, ha, List.mem_map.mpr ⟨b, hb, rfl⟩⟩)
 have hlt : ∀ a ∈ g.list, ∀ b ∈ g.list, impl_hydra_69.lt k ⟨a.terms⟩ ⟨b.terms⟩ = H.gt a b := fun a ha b hb => by
  simp only [impl_hydra_69.lt, hcmp a ha b hb, H.gt]
  have := ordI_neg (o := O.cmp b.ord a.ord)
  by_cases h : O.cmp b.ord a.ord = .lt
  ·
   rw [decide_eq_true h, decide_eq_true (this.mpr h)]
  ·
   rw [decide_eq_false h, decide_eq_false (fun h' => h (this.mp h'))]
 have hm : ∀ x ∈ g.terms, ∃ a ∈ g.list, x = ⟨a.terms⟩ := fun x hx => by
  rw [H.list_terms] at hx
  obtain ⟨a, ha, rfl⟩ := List.mem_map.mp hx
  exact ⟨a, ha, rfl⟩
 have G : impl_hydra_69.Good k g.terms := by
  refine ⟨?_, ?_, ?_, ?_, ?_, ?_⟩
  ·
   have := H.terms_len g; have := H.len_size g; omega
  ·
   intro x hx y hy
   obtain ⟨a, ha, rfl⟩ := hm x hx
   obtain ⟨b, hb, rfl⟩ := hm y hy
   exact ⟨_, hcmp a ha b hb⟩
  ·
   intro x hx y hy
   obtain ⟨a, ha, rfl⟩ := hm x hx
   obtain ⟨b, hb, rfl⟩ := hm y hy
   rw [hlt a ha b hb, hlt b hb a ha]
   intro h1 h2
   have := H.gt_same h1 h2
   rw [← H.of_ord a (hg a ha), ← H.of_ord b (hg b hb), this]
  ·
   intro x hx
   obtain ⟨a, ha, rfl⟩ := hm x hx
   rw [hlt a ha a ha]; exact H.gt_irr a
  ·
   intro x hx y hy z hz
   obtain ⟨a, ha, rfl⟩ := hm x hx
   obtain ⟨b, hb, rfl⟩ := hm y hy
   obtain ⟨c, hc, rfl⟩ := hm z hz
   rw [hlt a ha b hb, hlt b hb c hc, hlt a ha c hc]
   exact H.gt_trans
  ·
   intro x hx y hy z hz
   obtain ⟨a, ha, rfl⟩ := hm x hx
   obtain ⟨b, hb, rfl⟩ := hm y hy
   obtain ⟨c, hc, rfl⟩ := hm z hz
   rw [hlt a ha b hb, hlt b hb c hc, hlt a ha c hc]
   exact H.gt_ntrans
 show impl_hydra_69.f k g.terms = _
 unfold impl_hydra_69.f
 rw [if_pos (impl_hydra_69.good_iff.mpr G), H.list_terms, H.list_terms (H.of g.ord), ← H.sort_list hg]
 have := List.map_mergeSort (f := fun b : H => (⟨b.terms⟩ : S49)) (r := fun x y => !H.gt y x) (s := fun x y => !impl_hydra_69.lt k y x) (l := g.list) (fun a ha b hb => by rw [hlt b hb a ha])
 rw [this]
theorem H.mapS_app (g b : H) : (H.app g (.cons b.isort .nul)).terms = g.terms ++ [⟨b.isort.terms⟩] := by rw [H.app_terms]; rfl
theorem sorted_l0 : ∀ (N : Nat) (s : H), s.size ≤ N → ∀ (pre : List S49) (g : H) (d : H), pre.length + s.size ≤ 1000 → g.size + s.size ≤ 101 → (∀ b ∈ g.list, b.sorted) → s.size ≤ 60 → d = H.app g (H.mapS s) →
  Ev (fun k => impl_hydra_sorted.l0 k g.terms (pre ++ s.terms) (((pre ++ s.terms).length : Nat) : Int) (pre.length : Int)) (H.of d.ord).terms := by
 intro N
 induction N with
 | zero => intro s hN; have := H.size_pos s; omega
 | succ N IH =>
  intro s hN pre g d hp hz hg hs hd
  cases s with
  | nul =>
   refine ev_s ?_
   simp only [impl_hydra_sorted.l0, H.terms, List.append_nil, Int.lt_irrefl, if_false]
   have hd' : d = g := by rw [hd]; exact H.app_nul g
   subst hd'
   simp only [H.size] at hz
   exact Ev.bind (sortBranches_ev hg (by omega)) (Ev.now _)
  | cons b r =>
   simp only [H.size] at hp hN hs hz
   have hb1 := H.size_pos b
   have hr1 := H.size_pos r
   have hgt := H.terms_len g
   have hgl := H.len_size g
   have hE : Ev (fun k => impl_hydra_sorted.f k b.terms) b.isort.terms := by
    refine ev_s ?_
    simp only [impl_hydra_sorted.f]
    have := IH b (by omega) [] .nul (H.mapS b) (by simp only [List.length_nil]; omega) (by simp only [H.size]; omega) (fun c hc => by simp [H.list] at hc) (by omega) rfl
    rw [H.mapS_ord] at this
    simp only [List.nil_append, List.length_nil] at this
    exact this
   have hmid : rd_T49 (pre ++ (H.cons b r).terms) (pre.length : Int) = ⟨b.terms⟩ := rd_T49_mid pre r.terms ⟨b.terms⟩
   have happ : pre ++ (H.cons b r).terms = (pre ++ [⟨b.terms⟩]) ++ r.terms := by simp [H.terms]
   have hlen : (pre ++ (H.cons b r).terms).length = pre.length + (r.terms.length + 1) := by simp [H.terms]
   have ew : wrap64 ((pre.length : Int) + 1) = (((pre ++ [(⟨b.terms⟩ : S49)]).length : Nat) : Int) := by
    rw [List.length_append, List.length_singleton]; exact wrap_nat2 pre.length 1 (by omega)
   have hsn : (H.app g (.cons b.isort .nul)).size = g.size + b.size := by have := H.app_size g (.cons b.isort .nul); simp only [H.size, H.isort_size] at this; omega
   have ih := IH r (by omega) (pre ++ [⟨b.terms⟩]) (H.app g (.cons b.isort .nul)) d (by simp only [List.length_append, List.length_singleton]; omega) (by omega)
    (fun c hc => by
     rw [H.list_app, List.mem_append] at hc
     rcases hc with hc | hc
     ·
      exact hg c hc
     ·
      simp only [H.list, List.mem_singleton] at hc; subst hc; exact H.isort_sorted b) (by omega) (by rw [hd, H.app_assoc]; rfl)
   refine ev_s ?_
   simp only [impl_hydra_sorted.l0, if_pos (show (pre.length : Int) < (((pre ++ (H.cons b r).terms).length : Nat) : Int) by omega), if_pos (show (0 : Int) ≤ (pre.length : Int) from Int.natCast_nonneg _), hmid]
   refine Ev.bind hE ?_
   simp only [if_pos (show g.terms.length < 5864062014805 by omega), ew, ← H.mapS_app]
   rw [happ]
   exact ih
theorem sorted_ev {h : H} (hs : h.size ≤ 60) : Ev (fun k => impl_hydra_sorted.f k h.terms) h.isort.terms := by
 refine ev_s ?_
 simp only [impl_hydra_sorted.f]
 have := sorted_l0 60 h hs [] .nul (H.mapS h) (by simp only [List.length_nil]; omega) (by simp only [H.size]; omega) (fun c hc => by simp [H.list] at hc) hs rfl
 rw [H.mapS_ord] at this
 simp only [List.nil_append, List.length_nil] at this
 exact this
theorem impl_HydraSort_good {h : H} (hl : h.row.length ≤ 60) : Ev (fun k => impl_HydraSort.f k h.row) h.isort.row := by
 have hz := H.row_size h
 have hz2 := H.row_size h.isort
 have hz3 := H.isort_size h
 simp only [impl_HydraSort.f]
 refine Ev.bind (impl_hydraOf_good hl) ?_
 simp only [if_true]
 refine Ev.bind (sorted_ev (by omega)) ?_
 exact Ev.bind (row_ev (by omega)) (Ev.now _)
def Bytes (b : List Int) : Prop := b.length ≤ 2000 ∧ ∀ x ∈ b, 0 ≤ x ∧ x ≤ 255
theorem u8_of_wf {x : Int} (h : (Lit.int .u8 x).wf = true) : 0 ≤ x ∧ x ≤ 255 := by
 simp [Lit.wf, IntKind.min, IntKind.max, IntKind.bits, IntKind.signed] at h
 omega
theorem open_ev (l : List Int) (h : ∀ x ∈ l, (Lit.int .u8 x).wf = true) : ∃ b, Bytes b ∧ spec_l20Open.f l = some (b, ((0 : Nat) : Int)) := by
 have h' : ∀ x ∈ l, 0 ≤ x ∧ x ≤ 255 := fun x hx => u8_of_wf (h x hx)
 unfold spec_l20Open.f
 by_cases hl : (l.length : Int) > 2000
 ·
  rw [if_pos hl, if_pos (by omega)]
  exact ⟨l.take 2000, ⟨by simp; omega, fun x hx => h' x (List.mem_of_mem_take hx)⟩, rfl⟩
 ·
  rw [if_neg hl]
  exact ⟨l, ⟨by omega, h'⟩, rfl⟩
theorem rd_byte {b : List Int} (hb : Bytes b) {i : Int} (h0 : 0 ≤ i) (h1 : i < (b.length : Int)) : 0 ≤ rd b i ∧ rd b i ≤ 255 := by
 obtain ⟨n, rfl⟩ := Int.eq_ofNat_of_zero_le h0
 rw [rd_get (show n < b.length by omega)]
 exact hb.2 _ (List.getElem_mem _)
theorem wraps_i64 (n : Int) (h0 : 0 ≤ n) (h1 : n < 2 ^ 62) : IntKind.i64.wrap n = n := by rw [IntKind.wrap_i64]; omega
theorem xor_pos (a b : Nat) (ha : a < 2 ^ 62) (hb : b < 2 ^ 62) : Go.bits .xor .i64 (a : Int) (b : Int) = ((a ^^^ b : Nat) : Int) := by
 have ha' : a % 2 ^ IntKind.i64.bits = a := Nat.mod_eq_of_lt (Nat.lt_of_lt_of_le ha (by decide))
 have hb' : b % 2 ^ IntKind.i64.bits = b := Nat.mod_eq_of_lt (Nat.lt_of_lt_of_le hb (by decide))
 simp only [bits, BitVec.ofInt_natCast, BitVec.toNat_xor, BitVec.toNat_ofNat, ha', hb']
 exact wraps_i64 _ (Int.natCast_nonneg _) (by exact_mod_cast Nat.xor_lt_two_pow ha hb)
theorem pick_sum (r1 r2 p t : Int) (h1 : 0 ≤ r1 ∧ r1 ≤ 255) (h2 : 0 ≤ r2 ∧ r2 ≤ 255) (hp : 0 ≤ p ∧ p ≤ 1000000000000) (ht : 0 ≤ t ∧ t ≤ 1000000000000) :
  wrap64 ((wrap64 ((wrap64 ((wrap64 ((wrap64 r1) * 131)) + (wrap64 ((wrap64 r2) * 1117)))) + (wrap64 (p * 29)))) + (wrap64 ((wrap64 t) * 53))) = r1 * 131 + r2 * 1117 + p * 29 + t * 53 := by
 rw [wrap_in (x := r1) (by omega) (by omega), wrap_in (x := r2) (by omega) (by omega), wrap_in (x := t) (by omega) (by omega), wrap_in (x := r1 * 131) (by omega) (by omega), wrap_in (x := r2 * 1117) (by omega) (by omega), wrap_in (x := p * 29) (by omega) (by omega), wrap_in (x := t * 53) (by omega) (by omega), wrap_in (x := r1 * 131 + r2 * 1117) (by omega) (by omega), wrap_in (x := r1 * 131 + r2 * 1117 + p * 29) (by omega) (by omega), wrap_in (by omega) (by omega)]
theorem pick_mod (x n : Int) (hx : 0 ≤ x) (hn : 0 < n) : 0 ≤ Int.tmod x n ∧ Int.tmod x n < n := by
 rw [Int.tmod_eq_emod_of_nonneg hx]
 exact ⟨Int.emod_nonneg _ (by omega), Int.emod_lt_of_pos _ hn⟩
theorem pick_ev (b : List Int) (hb : Bytes b) (p : Nat) (hp : p ≤ 100000000000) (n : Int) : ∃ v : Int, 0 ≤ v ∧ (v < n ∨ v = 0) ∧ Ev (fun k => spec_l20Rd_pick.f k b (p : Int) n) (v, ((p + 1 : Nat) : Int)) := by
 have e1 : wrap64 ((p : Int) + 1) = ((p + 1 : Nat) : Int) := by rw [wrap_in (by omega) (by omega)]; rfl
 have e2 : wrap64 (((p + 1 : Nat) : Int) - 1) = (p : Int) := by rw [wrap_in (by omega) (by omega)]; omega
 by_cases hn : n < 1
 ·
  refine ⟨0, Int.le_refl _, .inr rfl, ?_⟩
  simp only [spec_l20Rd_pick.f, if_pos hn, e1]
  refine ev_s ?_
  simp only [spec_l20Rd_pick.j0, if_true]
  exact Ev.now _
 ·
  by_cases hl : b.length = 0
  ·
   refine ⟨0, Int.le_refl _, .inr rfl, ?_⟩
   simp only [spec_l20Rd_pick.f, if_neg hn, e1, hl]
   refine ev_s ?_
   simp only [spec_l20Rd_pick.j0]
   exact Ev.now _
  ·
   by_cases hlt : (p : Int) < (b.length : Int)
   ·
    have hby := rd_byte hb (show (0 : Int) ≤ (p : Int) by omega) hlt
    have hm := pick_mod (rd b p) n hby.1 (by omega)
    refine ⟨Int.tmod (rd b p) n, hm.1, .inl hm.2, ?_⟩
    simp only [spec_l20Rd_pick.f, if_neg hn, e1, show ((b.length : Int) == 0) = false by simp; exact fun h => hl (by rw [h]; rfl)]
    refine ev_s ?_
    simp only [spec_l20Rd_pick.j0, Bool.false_eq_true, if_false, e2, if_pos hlt, if_pos (show (0 : Int) ≤ (p : Int) by omega), if_neg (show ¬ n = 0 by omega), wrap_in (x := rd b p) (by omega) (by omega)]
    exact Ev.now _
   ·
    have hl0 : ¬ ((b.length : Int) = 0) := by omega
    have m1 := pick_mod (p : Int) (b.length : Int) (by omega) (by omega)
    have m2 := pick_mod ((p : Int) * 7 + 3) (b.length : Int) (by omega) (by omega)
    have b1 := rd_byte hb m1.1 m1.2
    have b2 := rd_byte hb m2.1 m2.2
    have d1 : 0 ≤ Int.tdiv (p : Int) (b.length : Int) := Int.tdiv_nonneg (by omega) (by omega)
    have d2 : Int.tdiv (p : Int) (b.length : Int) ≤ (p : Int) := Int.tdiv_le_self _ (by omega)
    have hs := pick_sum _ _ (p : Int) (Int.tdiv (p : Int) (b.length : Int)) b1 b2 (by omega) (by omega)
    obtain ⟨X, hX⟩ : ∃ X : Int, X = rd b (Int.tmod (p : Int) (b.length : Int)) * 131 + rd b (Int.tmod ((p : Int) * 7 + 3) (b.length : Int)) * 1117 + (p : Int) * 29 + Int.tdiv (p : Int) (b.length : Int) * 53 := ⟨_, rfl⟩
    rw [← hX] at hs
    have x0 : 0 ≤ X ∧ X < 20000000000000 := by omega
    have t0 : 0 ≤ Int.tdiv X 64 := Int.tdiv_nonneg (by omega) (by omega)
    have t1 : Int.tdiv X 64 ≤ X := Int.tdiv_le_self _ (by omega)
    have hbit : 0 ≤ Go.bits .xor .i64 X (Int.tdiv X 64) := by
     obtain ⟨u, hu⟩ := Int.eq_ofNat_of_zero_le x0.1
     obtain ⟨v, hv⟩ := Int.eq_ofNat_of_zero_le t0
     rw [hv, hu]
     rw [xor_pos u v (by omega) (by omega)]
     omega
    have hm := pick_mod _ n hbit (by omega)
    refine ⟨_, hm.1, .inl hm.2, ?_⟩
    simp only [spec_l20Rd_pick.f, if_neg hn, e1, show ((b.length : Int) == 0) = false by simp; exact fun h => hl (by rw [h]; rfl)]
    refine ev_s ?_
    simp only [spec_l20Rd_pick.j0, Bool.false_eq_true, if_false, e2, if_neg hlt, if_neg hl0, wrap_in (x := (p : Int) * 7) (by omega) (by omega), wrap_in (x := (p : Int) * 7 + 3) (by omega) (by omega), if_pos m1.1, if_pos m1.2, if_pos m2.1, if_pos m2.2, if_neg (show ¬ n = 0 by omega), hs, wrap_in (x := Int.tdiv X 64) (by omega) (by omega)]
    exact Ev.now _
theorem odd_ev (b : List Int) (hb : Bytes b) (p : Nat) (hp : p ≤ 100000000000) (n : Int) (hn : n ≤ 1000000) : ∃ (v : Bool) (q : Nat), q ≤ p + 1 ∧ Ev (fun k => spec_l20Rd_odd.f k b (p : Int) n) (v, (q : Int)) := by
 by_cases h : n > 0
 ·
  obtain ⟨v, h0, h1, he⟩ := pick_ev b hb p hp n
  refine ⟨(v == wrap64 (n - 1)), p + 1, Nat.le_refl _, ?_⟩
  simp only [spec_l20Rd_odd.f, if_pos h]
  refine Ev.bind he ?_
  exact Ev.now _
 ·
  refine ⟨false, p, by omega, ?_⟩
  simp only [spec_l20Rd_odd.f, if_neg h]
  exact Ev.now _

-- part: l20Hydra
def treeL : Nat → Nat
 | 0 => 1
 | d + 1 => 3 * treeL d + 1
theorem treeL_le {d : Nat} (h : d ≤ 3) : treeL d ≤ 40 := by
 match d, h with
 | 0, _ => decide
 | 1, _ => decide
 | 2, _ => decide
 | 3, _ => decide
theorem treeL_pos : ∀ d, 1 ≤ treeL d
 | 0 => Nat.le_refl _
 | d + 1 => by simp only [treeL]; omega
theorem l20Tree_ev (b : List Int) (hb : Bytes b) : ∀ (d : Nat), d ≤ 3 → ∀ p : Nat, p + treeL d ≤ 10000000 → ∃ (out : List Int) (q : Nat), out.length ≤ treeL d ∧ q ≤ p + treeL d ∧ Ev (fun k => spec_l20Tree.f k b (p : Int) (d : Int)) (out, (q : Int))
 | 0, _, p, hp => by
  obtain ⟨v, hv0, _, he⟩ := pick_ev b hb p (by omega) 4
  refine ⟨[0], p + 1, by simp [treeL], by simp [treeL], ?_⟩
  have ht := l5Tree_ev [] (by simp) (by simp)
  refine ev_s ?_
  simp only [spec_l20Tree.f]
  refine Ev.bind he ?_
  refine ev_s ?_
  by_cases h : v > 0
  ·
   simp only [spec_l20Tree.l0, if_pos h, if_neg (show ¬ (((0 : Nat) : Int) > 0) by decide)]
   exact Ev.bind ht (Ev.now _)
  ·
   simp only [spec_l20Tree.l0, if_neg h]
   exact Ev.bind ht (Ev.now _)
 | d + 1, hd, p, hp => by
  simp only [treeL] at hp
  have hL := treeL_le (show d ≤ 3 by omega)
  have hP := treeL_pos d
  have loop : ∀ (m : Nat) (x : List (List Int)) (p : Nat), x.length + m ≤ 3 → x.flatten.length ≤ x.length * treeL d → p + m * treeL d ≤ 10000000 → ∃ (out : List Int) (q : Nat), out.length ≤ 3 * treeL d + 1 ∧ q ≤ p + m * treeL d ∧ Ev (fun k => spec_l20Tree.l0 k ((d + 1 : Nat) : Int) x (m : Int) b (p : Int)) (out, (q : Int)) := by
   intro m
   induction m with
   | zero =>
    intro x p hx hf hp
    have h3 : x.length * treeL d ≤ 3 * treeL d := Nat.mul_le_mul_right _ (by omega)
    refine ⟨(x.length : Int) :: x.flatten, p, by simp only [List.length_cons]; omega, by omega, ?_⟩
    refine ev_s ?_
    simp only [spec_l20Tree.l0, if_neg (show ¬ (((0 : Nat) : Int) > 0) by decide)]
    exact Ev.bind (l5Tree_ev x (by omega) (by omega)) (Ev.now _)
   | succ m ih =>
    intro x p hx hf hp
    rw [Nat.succ_mul] at hp
    obtain ⟨o, q, ho, hq, he⟩ := l20Tree_ev b hb d (by omega) p (by omega)
    obtain ⟨out, q2, h1, h2, hE⟩ := ih (x ++ [o]) q (by simp only [List.length_append, List.length_singleton]; omega) (by simp only [List.flatten_append, List.flatten_cons, List.flatten_nil, List.append_nil, List.length_append, List.length_singleton, Nat.add_mul, Nat.one_mul]; omega) (by omega)
    refine ⟨out, q2, h1, by rw [Nat.succ_mul]; omega, ?_⟩
    refine ev_s ?_
    simp only [spec_l20Tree.l0, if_pos (show ((m + 1 : Nat) : Int) > 0 by omega), if_pos (show ((d + 1 : Nat) : Int) > 0 by omega), show wrap64 (((d + 1 : Nat) : Int) - 1) = (d : Int) by rw [wrap_in (by omega) (by omega)]; omega, show wrap64 (((m + 1 : Nat) : Int) - 1) = (m : Int) by rw [wrap_in (by omega) (by omega)]; omega]
    refine Ev.bind he ?_
    simp only [if_pos (show x.length < 5864062014805 by omega)]
    exact hE
  obtain ⟨v, hv0, hv1, he⟩ := pick_ev b hb p (by omega) 4
  obtain ⟨n, rfl⟩ := Int.eq_ofNat_of_zero_le hv0
  have hn3 : n * treeL d ≤ 3 * treeL d := Nat.mul_le_mul_right _ (by omega)
  obtain ⟨out, q, h1, h2, hE⟩ := loop n [] (p + 1) (by simp; omega) (by simp) (by omega)
  refine ⟨out, q, by simp only [treeL]; omega, by simp only [treeL]; omega, ?_⟩
  refine ev_s ?_
  simp only [spec_l20Tree.f]
  exact Ev.bind he hE
theorem l20Hydra_j2 (b : List Int) (hb : Bytes b) (n : Int) (hn : n ≤ 1000000) (x : List Int) (hx : x.length ≤ 60) (p : Nat) (hp : p ≤ 20000000) : ∃ (out : List Int) (q : Nat), out.length ≤ 61 ∧ q ≤ p + 2 ∧ Ev (fun k => spec_l20Hydra.j2 k n x b (p : Int)) (out, (q : Int)) := by
 obtain ⟨o, q, hq, he⟩ := odd_ev b hb p (by omega) n hn
 cases o with
 | false =>
  refine ⟨x, q, by omega, by omega, ?_⟩
  refine ev_s ?_
  simp only [spec_l20Hydra.j2]
  refine Ev.bind he ?_
  simp only [Bool.false_eq_true, if_false]
  exact Ev.now _
 | true =>
  obtain ⟨v, _, _, he2⟩ := pick_ev b hb q (by omega) 4
  have key : ∀ out : List Int, Ev (fun k => (if v = 0 then (some ((([] : List Int)), ((q + 1 : Nat) : Int))) else (if v = 1 then ((some (([] : List Int) : List Int)).bind fun y228 => (if y228.length + x.length < 17592186044416 then ((some (y228 ++ x : List Int)).bind fun y231 => (if y231.length < 17592186044416 then (some ((y231 ++ [0]), ((q + 1 : Nat) : Int))) else (none))) else (none))) else (if v = 2 then (some ((([1] : List Int)), ((q + 1 : Nat) : Int))) else (some ((([(-1)] : List Int)), ((q + 1 : Nat) : Int))))) : Option (List Int × Int))) (out, ((q + 1 : Nat) : Int)) → Ev (fun k => spec_l20Hydra.j2 k n x b (p : Int)) (out, ((q + 1 : Nat) : Int)) := by
   intro out h
   refine ev_s ?_
   simp only [spec_l20Hydra.j2]
   refine Ev.bind he ?_
   simp only [if_true]
   exact Ev.bind he2 h
  by_cases h0 : v = 0
  ·
   exact ⟨[], q + 1, by simp, by omega, key _ (by simp only [if_pos h0]; exact Ev.now _)⟩
  ·
   by_cases h1 : v = 1
   ·
    refine ⟨x ++ [0], q + 1, by simp; omega, by omega, key _ ?_⟩
    simp only [if_neg h0, if_pos h1, Option.bind_some, List.nil_append, List.length_nil, if_pos (show 0 + x.length < 17592186044416 by omega), if_pos (show x.length < 17592186044416 by omega)]
    exact Ev.now _
   ·
    by_cases h2 : v = 2
    ·
     exact ⟨[1], q + 1, by simp, by omega, key _ (by simp only [if_neg h0, if_neg h1, if_pos h2]; exact Ev.now _)⟩
    ·
     exact ⟨[-1], q + 1, by simp, by omega, key _ (by simp only [if_neg h0, if_neg h1, if_neg h2]; exact Ev.now _)⟩
theorem l20Hydra_l0 (b : List Int) (hb : Bytes b) (n : Int) (hn : n ≤ 1000000) : ∀ (d i : Nat) (x : List Int) (p : Nat), i + d = 5 → x.length ≤ 60 → p ≤ 1000000 + i * 41 → ∃ (out : List Int) (q : Nat), out.length ≤ 61 ∧ q ≤ p + d * 41 + 2 ∧ Ev (fun k => spec_l20Hydra.l0 k n x (i : Int) b (p : Int)) (out, (q : Int)) := by
 have fin : ∀ (i : Nat) (x : List Int) (p : Nat), i ≤ 5 → x.length ≤ 60 → p ≤ 1000000 + i * 41 → ∃ (out : List Int) (q : Nat), out.length ≤ 61 ∧ q ≤ p + 2 ∧ Ev (fun k => spec_l20Hydra.j1 k n x (i : Int) false b (p : Int)) (out, (q : Int)) := by
  intro i x p hi hx hp
  obtain ⟨out, q, h1, h2, hE⟩ := l20Hydra_j2 b hb n hn x hx p (by omega)
  refine ⟨out, q, h1, h2, ?_⟩
  refine ev_s ?_
  simp only [spec_l20Hydra.j1, Bool.false_eq_true, if_false, if_neg (show ¬ ((x.length : Int) > 60) by omega)]
  exact hE
 intro d
 induction d with
 | zero =>
  intro i x p hi hx hp
  obtain ⟨out, q, h1, h2, hE⟩ := fin i x p (by omega) hx hp
  refine ⟨out, q, h1, by omega, ?_⟩
  refine ev_s ?_
  simp only [spec_l20Hydra.l0, if_neg (show ¬ ((i : Int) < 5) by omega)]
  exact hE
 | succ d ih =>
  intro i x p hi hx hp
  have more : ∃ (out : List Int) (q : Nat), out.length ≤ 61 ∧ q ≤ p + (d + 1) * 41 + 2 ∧ Ev (fun k => spec_l20Hydra.j1 k n x (i : Int) true b (p : Int)) (out, (q : Int)) := by
   obtain ⟨v, hv0, hv1, he⟩ := pick_ev b hb p (by omega) 3
   obtain ⟨m, rfl⟩ := Int.eq_ofNat_of_zero_le hv0
   have hL := treeL_le (show 1 + m ≤ 3 by omega)
   obtain ⟨x2, q, h1, h2, hE⟩ := l20Tree_ev b hb (1 + m) (by omega) (p + 1) (by omega)
   obtain ⟨out, q2, h3, h4, hE2⟩ := ih (i + 1) x2 q (by omega) (by omega) (by omega)
   refine ⟨out, q2, h3, by omega, ?_⟩
   refine ev_s ?_
   simp only [spec_l20Hydra.j1, if_true]
   refine Ev.bind he ?_
   simp only [show wrap64 (1 + (m : Int)) = ((1 + m : Nat) : Int) by rw [wrap_in (by omega) (by omega)]; omega]
   refine Ev.bind hE ?_
   simp only [show wrap64 ((i : Int) + 1) = ((i + 1 : Nat) : Int) from wrap_nat2 i 1 (by omega)]
   exact hE2
  obtain ⟨out1, q1, a1, a2, aE⟩ := fin i x p (by omega) hx hp
  obtain ⟨out2, q2, b1, b2, bE⟩ := more
  by_cases h20 : (x.length : Int) > 20
  ·
   refine ⟨out2, q2, b1, b2, ev_s ?_⟩
   simp only [spec_l20Hydra.l0, if_pos (show (i : Int) < 5 by omega), if_pos h20]
   exact bE
  ·
   by_cases h3 : (x.length : Int) < 3
   ·
    refine ⟨out2, q2, b1, b2, ev_s ?_⟩
    simp only [spec_l20Hydra.l0, if_pos (show (i : Int) < 5 by omega), if_neg h20, decide_eq_true h3]
    exact bE
   ·
    refine ⟨out1, q1, a1, by omega, ev_s ?_⟩
    simp only [spec_l20Hydra.l0, if_pos (show (i : Int) < 5 by omega), if_neg h20, decide_eq_false h3]
    exact aE
theorem l20Hydra_ev (b : List Int) (hb : Bytes b) (p : Nat) (hp : p ≤ 100000) (n : Int) (hn : n ≤ 1000000) : ∃ (out : List Int) (q : Nat), out.length ≤ 61 ∧ q ≤ p + 300 ∧ Ev (fun k => spec_l20Hydra.f k b (p : Int) n) (out, (q : Int)) := by
 have hL := treeL_le (Nat.le_refl 3)
 obtain ⟨x, q, h1, h2, hE⟩ := l20Tree_ev b hb 3 (Nat.le_refl 3) p (by omega)
 obtain ⟨out, q2, h3, h4, hE2⟩ := l20Hydra_l0 b hb n hn 5 0 x q rfl (by omega) (by omega)
 refine ⟨out, q2, h3, by omega, ?_⟩
 simp only [spec_l20Hydra.f]
 exact Ev.bind hE hE2

-- part: oStep
theorem O.app_terms : ∀ x y : O, (O.app x y).terms = x.terms ++ y.terms
 | .z, _ => rfl
 | .c n e r, y => by simp only [O.app, O.terms, O.app_terms r y, List.cons_append]
theorem O.last_split (k : Nat) : ∀ x : O, x ≠ .z → ∃ (pre : List S89) (n : Nat) (e : O), x.terms = pre ++ [⟨(n : Int), e.terms⟩] ∧ (x.Sm → 1 ≤ n ∧ n ≤ 9999 ∧ e.Sm) ∧ e.body.length + 2 + pre.length ≤ x.body.length ∧
  O.kind x = (if e.len = 0 then 1 else 2) ∧ (O.before x).terms = (if n = 1 then pre else pre ++ [⟨((n - 1 : Nat) : Int), e.terms⟩]) ∧
  (O.step k x).terms = (if e.len = 0 then (O.before x).terms else if O.kind e = 2 then (O.before x).terms ++ [⟨((1 : Nat) : Int), (O.step k e).terms⟩] else if k = 0 then (O.before x).terms else (O.before x).terms ++ [⟨(k : Int), (O.before e).terms⟩])
 | .z, h => absurd rfl h
 | .c n .z .z, _ => by
  refine ⟨[], n, .z, rfl, fun h => ⟨h.1.1, h.1.2, h.2.1.1⟩, by simp [O.body], by simp [O.kind, O.len], ?_, ?_⟩
  ·
   simp only [O.before]; split <;> simp [O.terms]
  ·
   simp [O.step, O.len]
 | .c n (.c m f s) .z, _ => by
  refine ⟨[], n, .c m f s, rfl, fun h => ⟨h.1.1, h.1.2, h.2.1.1⟩, ?_, by simp [O.kind, O.len], ?_, ?_⟩
  ·
   rw [O.body_c n (.c m f s) .z]; simp only [List.length_cons, List.length_append, List.length_nil, O.row_length]; omega
  ·
   simp only [O.before]; split <;> simp [O.terms]
  ·
   have hl : ¬ (O.c m f s).len = 0 := by simp [O.len]
   rw [if_neg hl]
   simp only [O.step]
   split
   ·
    rw [O.app_terms]; rfl
   ·
    split
    ·
     rfl
    ·
     rw [O.app_terms]; rfl
 | .c n e (.c m f r), _ => by
  have hz : (O.c m f r) ≠ .z := by simp
  obtain ⟨pre, n', e', h1, h2, h3, h4, h5, h6⟩ := O.last_split k (.c m f r) hz
  refine ⟨⟨(n : Int), e.terms⟩ :: pre, n', e', ?_, fun h => h2 h.2.2.1, ?_, ?_, ?_, ?_⟩
  ·
   rw [List.cons_append, ← h1]; rfl
  ·
   rw [O.body_c n e (.c m f r)]; simp only [List.length_cons, List.length_append]; omega
  ·
   rw [O.kind_cons n e hz, h4]
  ·
   rw [O.before_cons n e hz]
   show ⟨(n : Int), e.terms⟩ :: (O.before (.c m f r)).terms = _
   rw [h5]; split <;> rfl
  ·
   rw [O.step_cons k n e hz, O.before_cons n e hz]
   show ⟨(n : Int), e.terms⟩ :: (O.step k (.c m f r)).terms = _
   rw [h6]
   show _ = if e'.len = 0 then ⟨(n : Int), e.terms⟩ :: (O.before (.c m f r)).terms else if O.kind e' = 2 then (⟨(n : Int), e.terms⟩ :: (O.before (.c m f r)).terms) ++ _ else if k = 0 then ⟨(n : Int), e.terms⟩ :: (O.before (.c m f r)).terms else (⟨(n : Int), e.terms⟩ :: (O.before (.c m f r)).terms) ++ _
   repeat' (first | rfl | split)
theorem O.kind_z {x : O} (h : x.body.length ≤ 100000) : impl_kind.f x.terms = some (O.kind x : Int) := by
 by_cases hz : x = .z
 ·
  subst hz; rfl
 obtain ⟨pre, n, e, h1, _, h3, h4, _, _⟩ := O.last_split 0 x hz
 have hlen : x.terms.length = pre.length + 1 := by rw [h1]; simp
 have hw : wrap64 ((x.terms.length : Int) - 1) = ((pre.length : Nat) : Int) := by rw [hlen, wrap_in (by omega) (by omega)]; omega
 have hel := O.terms_len e
 simp only [impl_kind.f, if_neg (show ¬ ((x.terms.length : Int) = 0) by omega), hw, if_pos (show (0 : Int) ≤ ((pre.length : Nat) : Int) by omega), if_pos (show ((pre.length : Nat) : Int) < (x.terms.length : Int) by omega)]
 rw [h1, rd_T89_mid, h4]
 by_cases he : e.len = 0
 ·
  rw [if_pos (show (e.terms.length : Int) = 0 by omega), if_pos he]; rfl
 ·
  rw [if_neg (show ¬ ((e.terms.length : Int) = 0) by omega), if_neg he]; rfl
theorem O.before_ev {x : O} (hz : x ≠ .z) (hs : x.Sm) (h : x.body.length ≤ 100000) : impl_before.f x.terms = some (O.before x).terms := by
 obtain ⟨pre, n, e, h1, h2, h3, _, h5, _⟩ := O.last_split 0 x hz
 obtain ⟨hn1, hn2, _⟩ := h2 hs
 have hlen : x.terms.length = pre.length + 1 := by rw [h1]; simp
 have hw : wrap64 ((x.terms.length : Int) - 1) = ((pre.length : Nat) : Int) := by rw [hlen, wrap_in (by omega) (by omega)]; omega
 have hset : (x.terms.set ((pre.length : Nat) : Int).toNat (⟨wrap64 ((n : Int) - 1), e.terms⟩ : S89)) = pre ++ [⟨((n - 1 : Nat) : Int), e.terms⟩] := by
  rw [h1, Int.toNat_natCast, wrap_in (by omega) (by omega), show (n : Int) - 1 = ((n - 1 : Nat) : Int) by omega]; simp
 have hrd : rd_T89 x.terms ((pre.length : Nat) : Int) = ⟨(n : Int), e.terms⟩ := by rw [h1]; exact rd_T89_mid pre [] _
 simp only [impl_before.f, impl_term_75.f, if_pos (show x.terms.length < 4398046511104 by omega), Option.bind_some, hw, if_pos (show (0 : Int) ≤ ((pre.length : Nat) : Int) by omega), if_pos (show ((pre.length : Nat) : Int) < (x.terms.length : Int) by omega), hrd, hset, if_pos (show ((pre.length : Nat) : Int) ≤ (x.terms.length : Int) by omega)]
 rw [show rd_T89 (pre ++ [⟨((n - 1 : Nat) : Int), e.terms⟩]) ((pre.length : Nat) : Int) = ⟨((n - 1 : Nat) : Int), e.terms⟩ from rd_T89_mid pre [] _, h5]
 by_cases h1n : n = 1
 ·
  rw [if_pos (show ((n - 1 : Nat) : Int) = 0 by omega), if_pos h1n]; simp
 ·
  rw [if_neg (show ¬ (((n - 1 : Nat) : Int) = 0) by omega), if_neg h1n]
theorem O.before_body : ∀ x : O, (O.before x).body.length ≤ x.body.length
 | .z => Nat.le_refl _
 | .c n e .z => by simp only [O.before]; split <;> simp [O.body]
 | .c n e (.c m f r) => by
  rw [O.before_cons n e (by simp), O.body_c, O.body_c]
  have := O.before_body (.c m f r)
  simp only [List.length_cons, List.length_append]; omega
theorem O.step_body (k : Nat) : ∀ x : O, x.body.length ≤ 100 → (O.step k x).body.length ≤ 60 * x.body.length
 | .z, _ => by simp [O.step, O.body]
 | .c n .z .z, _ => by
  have := O.before_body (.c n .z .z)
  simp only [O.step]; omega
 | .c n (.c m f s) .z, h => by
  have hb := O.before_body (.c n (.c m f s) .z)
  have hx : (O.c n (.c m f s) .z).body.length = (O.c m f s).body.length + 2 := by
   rw [O.body_c]; simp only [List.length_cons, List.length_append, O.row_length]; simp [O.body]
  have he := O.step_body k (.c m f s) (by omega)
  have hbe := O.before_body (.c m f s)
  have h1 : ∀ (j : Nat) (y : O), (O.c j y .z).body.length = y.body.length + 2 := fun j y => by
   rw [O.body_c]; simp only [List.length_cons, List.length_append, O.row_length]; simp [O.body]
  simp only [O.step]
  split
  ·
   rw [O.app_body, List.length_append, h1]; omega
  ·
   split
   ·
    omega
   ·
    rw [O.app_body, List.length_append, h1]; omega
 | .c n e (.c m f r), h => by
  rw [O.step_cons k n e (by simp)]
  rw [O.body_c] at h ⊢
  rw [O.body_c n e (.c m f r)]
  simp only [List.length_cons, List.length_append] at h ⊢
  have := O.step_body k (.c m f r) (by omega)
  omega
theorem step_ev (k : Nat) : ∀ (N : Nat) (x : O), x.body.length ≤ N → N ≤ 1000 → x.Sm → Ev (fun q => impl_step.f q x.terms (k : Int)) (O.step k x).terms := by
 intro N
 induction N with
 | zero =>
  intro x hN h1 hs
  cases x with
  | z =>
   refine ev_s ?_
   simp only [impl_step.f]
   exact Ev.now _
  | c n e r => rw [O.body_c] at hN; simp at hN
 | succ N IH =>
  intro x hN h1 hs
  by_cases hz : x = .z
  ·
   subst hz
   refine ev_s ?_
   simp only [impl_step.f]
   exact Ev.now _
  obtain ⟨pre, n, e, e1, h2, h3, h4, _, h6⟩ := O.last_split k x hz
  obtain ⟨hn1, hn2, hse⟩ := h2 hs
  have hlen : x.terms.length = pre.length + 1 := by rw [e1]; simp
  have hw : wrap64 ((x.terms.length : Int) - 1) = ((pre.length : Nat) : Int) := by rw [hlen, wrap_in (by omega) (by omega)]; omega
  have hrd : rd_T89 x.terms ((pre.length : Nat) : Int) = ⟨(n : Int), e.terms⟩ := by rw [e1]; exact rd_T89_mid pre [] _
  have hbf := O.before_ev hz hs (by omega)
  have hbl := O.before_body x
  have hbt := O.terms_len (O.before x)
  have hbL := O.len_le (O.before x)
  refine ev_s ?_
  simp only [impl_step.f, O.kind_z (show x.body.length ≤ 100000 by omega), Option.bind_some, hw, hrd, if_pos (show (0 : Int) ≤ ((pre.length : Nat) : Int) by omega), if_pos (show ((pre.length : Nat) : Int) < (x.terms.length : Int) by omega), hbf, O.kind_z (show e.body.length ≤ 100000 by omega)]
  rw [h4, h6]
  by_cases he : e.len = 0
  ·
   simp only [if_pos he]
   exact Ev.now _
  ·
   simp only [if_neg he, if_neg (show ¬ (((2 : Nat) : Int) = 0) by decide), if_neg (show ¬ (((2 : Nat) : Int) = 1) by decide)]
   have hez : e ≠ .z := by rintro rfl; exact he rfl
   by_cases hk : O.kind e = 2
   ·
    simp only [if_pos hk, if_pos (show ((O.kind e : Nat) : Int) = 2 by omega), impl_term_72.f, Option.bind_some]
    refine Ev.bind (IH e (by omega) (by omega) hse) ?_
    simp only [if_pos (show (O.before x).terms.length < 4398046511104 by omega)]
    exact Ev.now _
   ·
    simp only [if_neg hk, if_neg (show ¬ (((O.kind e : Nat) : Int) = 2) by omega)]
    by_cases h0 : k = 0
    ·
     simp only [if_pos h0, if_neg (show ¬ ((k : Int) > 0) by omega)]
     exact Ev.now _
    ·
     simp only [if_neg h0, if_pos (show (k : Int) > 0 by omega), impl_term_72.f, Option.bind_some, O.before_ev hez hse (by omega), if_pos (show (O.before x).terms.length < 4398046511104 by omega)]
     exact Ev.now _

-- part: hDown
def O.stepsO (c : Nat) : Nat → O → Nat → Int
 | 0, _, _ => -1
 | f + 1, .z, n => (n : Int)
 | f + 1, .c m e r, n => if (O.step c (.c m e r)).fit.2 = true then (if n + 1 > 3000 then -1 else O.stepsO c f (O.step c (.c m e r)) (n + 1)) else -1
theorem O.fit_true {x : O} (h : x.fit.2 = true) : x.row.length ≤ 60 ∧ x.most ≤ 9999 := by
 unfold O.fit at h
 split at h
 ·
  assumption
 ·
  cases h
theorem O.step_NF {c : Nat} (hc : 1 ≤ c) {x : O} (hx : x.NF) : (O.step c x).NF := by
 by_cases hz : x = .z
 ·
  subst hz; exact trivial
 ·
  have hn : H.of x ≠ .nul := by
   intro e
   have := H.ord_of x hx
   rw [e] at this
   exact hz this.symm
  have h := (H.cutLast_step c hc (H.of x) (H.of_sorted x hx) hn).1
  rw [H.ord_of x hx] at h
  rw [← h]
  exact H.ord_NF _
theorem StepsDown_l0 (c : Nat) (hc : c ≤ 99) (hc1 : 1 ≤ c) : ∀ (f : Nat) (x : O) (n : Nat) (s : Int), n + f = 3001 → n ≤ 3000 → x.Sm → x.row.length ≤ 60 → ∃ t : Int, Ev (fun k => impl_StepsDown.l0 k (c : Int) x.terms (n : Int) s) (O.stepsO c f x n, t)
 | 0, x, n, s, hn, hn3, hs, hr => by omega
 | f + 1, .z, n, s, hn, hn3, hs, hr => by
  refine ⟨s, ev_s ?_⟩
  simp only [impl_StepsDown.l0, O.terms, List.length_nil, if_neg (show ¬ (((0 : Nat) : Int) > 0) by decide), O.stepsO]
  exact Ev.now _
 | f + 1, .c m e r, n, s, hn, hn3, hs, hr => by
  have hrow := O.row_length (.c m e r)
  have hb := O.step_body c (.c m e r) (by omega)
  have hrs := O.row_length (O.step c (.c m e r))
  have hlen : ((O.c m e r).terms.length : Int) > 0 := by simp only [O.terms, List.length_cons]; omega
  have hstep := step_ev c 60 (.c m e r) (by omega) (by omega) hs
  have htold := told_ev (x := O.step c (.c m e r)) (by omega)
  have hj : ∀ s2 : Int, ∃ t : Int, Ev (fun k => impl_StepsDown.j2 k (c : Int) (O.c m e r).terms (n : Int) s2) (O.stepsO c (f + 1) (.c m e r) n, t) := by
   intro s2
   by_cases hf : (O.step c (.c m e r)).fit.2 = true
   ·
    by_cases h3 : n + 1 > 3000
    ·
     refine ⟨-1, ev_s ?_⟩
     simp only [impl_StepsDown.j2]
     refine Ev.bind hstep ?_
     refine Ev.bind htold ?_
     simp only [if_pos hf, show wrap64 ((n : Int) + 1) = ((n + 1 : Nat) : Int) from wrap_nat2 n 1 (by omega), if_pos (show ((n + 1 : Nat) : Int) > 3000 by omega), O.stepsO, if_pos h3]
     exact Ev.now _
    ·
     obtain ⟨g1, g2⟩ := O.fit_true hf
     obtain ⟨t, ih⟩ := StepsDown_l0 c hc hc1 f (O.step c (.c m e r)) (n + 1) s2 (by omega) (by omega) (O.Sm_of (O.step_NF hc1 hs.nf) g2 g1) g1
     refine ⟨t, ev_s ?_⟩
     simp only [impl_StepsDown.j2]
     refine Ev.bind hstep ?_
     refine Ev.bind htold ?_
     simp only [if_pos hf, show wrap64 ((n : Int) + 1) = ((n + 1 : Nat) : Int) from wrap_nat2 n 1 (by omega), if_neg (show ¬ (((n + 1 : Nat) : Int) > 3000) by omega), O.stepsO, if_neg h3]
     exact ih
   ·
    refine ⟨-1, ev_s ?_⟩
    simp only [impl_StepsDown.j2]
    refine Ev.bind hstep ?_
    refine Ev.bind htold ?_
    simp only [if_neg hf, O.stepsO]
    exact Ev.now _
  by_cases hk : ((O.kind (.c m e r) : Nat) : Int) = 1
  ·
   obtain ⟨t, ht⟩ := hj (wrap64 (s + 1))
   refine ⟨t, ev_s ?_⟩
   simp only [impl_StepsDown.l0, if_pos hlen, O.kind_z (show (O.c m e r).body.length ≤ 100000 by omega), Option.bind_some, if_pos hk]
   exact ht
  ·
   obtain ⟨t, ht⟩ := hj s
   refine ⟨t, ev_s ?_⟩
   simp only [impl_StepsDown.l0, if_pos hlen, O.kind_z (show (O.c m e r).body.length ≤ 100000 by omega), Option.bind_some, if_neg hk]
   exact ht
theorem impl_StepsDown_good {x : O} (hs : x.Sm) (hr : x.row.length ≤ 60) {c : Nat} (hc : c ≤ 99) (hc1 : 1 ≤ c) : ∃ t : Int, Ev (fun k => impl_StepsDown.f k x.row (c : Int)) (O.stepsO c 3001 x 0, t) := by
 obtain ⟨t, ht⟩ := StepsDown_l0 c hc hc1 3001 x 0 0 rfl (by omega) hs hr
 refine ⟨t, ?_⟩
 simp only [impl_StepsDown.f]
 refine Ev.bind (ordOf_ev hs hr) ?_
 simp only [if_true, if_neg (show ¬ ((c : Int) < 0) by omega), decide_eq_false (show ¬ ((c : Int) > 99) by omega)]
 refine ev_s ?_
 simp only [impl_StepsDown.j0, Bool.false_eq_true, if_false]
 exact ht
theorem impl_StepsDown_bad {l : List Int} (h : NoOrd l) (c : Int) : Ev (fun k => impl_StepsDown.f k l c) (-1, -1) := by
 obtain ⟨a, ha⟩ := impl_ordOf_bad h
 simp only [impl_StepsDown.f]
 refine Ev.bind ha ?_
 simp only [Bool.false_eq_true, if_false]
 refine ev_s ?_
 simp only [impl_StepsDown.j0, if_true]
 exact Ev.now _

-- part: alive
theorem alive_ev : Ev (fun k => laws_alive.f k) true := Ev.of laws_alive.mono (k := 20) (by decide +kernel)

-- part: law_FnHydraFight
theorem H.fightO_ge (c : Int) : ∀ (f : Nat) (h : H) (n : Nat), -1 ≤ H.fightO c f h n
 | 0, _, _ => by simp [H.fightO]
 | f + 1, h, n => by
  simp only [H.fightO]
  split
  ·
   omega
  ·
   split
   ·
    exact H.fightO_ge c f _ _
   ·
    omega
theorem H.fight_ge (h : H) (c : Int) : -1 ≤ h.fight c := by
 unfold H.fight
 split
 ·
  exact H.fightO_ge _ _ _ _
 ·
  omega
theorem H.fight_one : ∀ (f : Nat) (h : H) (n : Nat), h.size ≤ f → h.size ≤ 60 → H.fightO 1 f h n = (n : Int) + (h.size : Int) - 1
 | 0, h, n, hf, _ => by have := H.size_pos h; omega
 | f + 1, h, n, hf, h60 => by
  simp only [H.fightO]
  by_cases h0 : h.len = 0
  ·
   rw [if_pos h0]
   have := H.heads_nul_len h0
   subst this
   simp [H.size]
  ·
   rw [if_neg h0]
   have hnul : h ≠ .nul := by rintro rfl; exact h0 rfl
   have hh := H.heads_pos hnul
   have hsz := H.cutAt_size h (h.heads - 1) (by omega)
   have hr := H.row_size (H.cutAt 1 h (h.heads - 1)).1
   have e1 : ((h.heads : Int) - 1).toNat = h.heads - 1 := by omega
   have hc : h.cutO ((h.heads : Int) - 1) 1 = some (H.cutAt 1 h (h.heads - 1)).1 := by
    unfold H.cutO
    rw [if_pos (by omega), e1, show (1 : Int).toNat = 1 from rfl, if_pos (by omega)]
   rw [hc]
   show H.fightO 1 f (H.cutAt 1 h (h.heads - 1)).1 (n + 1) = _
   rw [H.fight_one f _ _ (by omega) (by omega)]
   omega
theorem H.cutO_step {c : Nat} (hc1 : 1 ≤ c) {h g : H} (hs : h.sorted) (e : h.cutO ((h.heads : Int) - 1) (c : Int) = some g) : g.sorted ∧ g.ord = O.step c h.ord ∧ g.row.length ≤ 60 := by
 have hr := H.cutO_row e
 unfold H.cutO at e
 split at e
 ·
  rename_i hcc
  split at e
  ·
   injection e with e
   have e1 : ((h.heads : Int) - 1).toNat = h.heads - 1 := by omega
   have hnul : h ≠ .nul := by
    rintro rfl
    simp [H.heads] at hcc
   rw [Int.toNat_natCast, e1, H.cutAt_last c h hnul] at e
   have h2 := H.cutLast_step c hc1 h hs hnul
   rw [e] at h2
   exact ⟨h2.2.1, h2.1, hr⟩
  ·
   cases e
 ·
  cases e
theorem H.fight_steps {c : Nat} (hc1 : 1 ≤ c) : ∀ (f F : Nat) (h : H) (x : O) (n : Nat), h.sorted → h.ord = x → 0 ≤ H.fightO (c : Int) f h n → 0 ≤ O.stepsO c F x n → H.fightO (c : Int) f h n = O.stepsO c F x n
 | 0, F, h, x, n, _, _, h1, _ => by simp [H.fightO] at h1
 | f + 1, 0, h, x, n, _, _, _, h2 => by simp [O.stepsO] at h2
 | f + 1, F + 1, h, x, n, hs, hx, h1, h2 => by
  by_cases h0 : h.len = 0
  ·
   have := H.heads_nul_len h0
   subst this
   subst hx
   simp only [H.fightO, if_pos h0]
   rfl
  ·
   have hnul : h ≠ .nul := by rintro rfl; exact h0 rfl
   cases x with
   | z => exact absurd ((H.ord_z h).mp hx) hnul
   | c m e r =>
    simp only [H.fightO, if_neg h0] at h1 ⊢
    cases hc : h.cutO ((h.heads : Int) - 1) (c : Int) with
    | none => rw [hc] at h1; simp at h1
    | some g =>
     rw [hc] at h1
     simp only at h1 ⊢
     obtain ⟨a1, a2, _⟩ := H.cutO_step hc1 hs hc
     simp only [O.stepsO] at h2 ⊢
     by_cases hf : (O.step c (.c m e r)).fit.2 = true
     ·
      rw [if_pos hf] at h2 ⊢
      by_cases h3 : n + 1 > 3000
      ·
       rw [if_pos h3] at h2; simp at h2
      ·
       rw [if_neg h3] at h2 ⊢
       exact H.fight_steps hc1 f F g _ (n + 1) a1 (by rw [a2, hx]) h1 h2
     ·
      rw [if_neg hf] at h2; simp at h2
theorem copies_in {a d : Int} (h0 : 0 ≤ a) (h1 : a < 3 ∨ a = 0) (h2 : 0 ≤ d) (h3 : d < 30 ∨ d = 0) : ∃ c : Nat, wrap64 ((wrap64 (1 + a)) + (wrap64 ((wrap64 (Int.tdiv d 29)) * 9))) = (c : Int) ∧ 1 ≤ c ∧ c ≤ 12 := by
 have hd : Int.tdiv d 29 = d / 29 := by rw [Int.tdiv_eq_ediv_of_nonneg h2]
 rw [hd]
 have hq : 0 ≤ d / 29 ∧ d / 29 ≤ 1 := by omega
 generalize d / 29 = q at *
 rw [wrap_in (x := q) (by omega) (by omega), wrap_in (x := q * 9) (by omega) (by omega), wrap_in (x := 1 + a) (by omega) (by omega), wrap_in (x := 1 + a + q * 9) (by omega) (by omega)]
 exact ⟨(1 + a + q * 9).toNat, by omega, by omega, by omega⟩
theorem DrawHydraFight_ev (l : List Int) (h : ∀ x ∈ l, (Lit.int .u8 x).wf = true) : ∃ (out : List Int) (c : Nat), 1 ≤ c ∧ c ≤ 12 ∧ Ev (fun k => spec_DrawHydraFight.f k l) (out, (c : Int)) := by
 obtain ⟨b, hb, ho⟩ := open_ev l h
 obtain ⟨out, q, h1, h2, hE⟩ := l20Hydra_ev b hb 0 (by omega) 9 (by omega)
 obtain ⟨v1, a1, a2, e1⟩ := pick_ev b hb q (by omega) 3
 obtain ⟨v2, b1, b2, e2⟩ := pick_ev b hb (q + 1) (by omega) 30
 obtain ⟨c, hc, hc1, hc2⟩ := copies_in a1 a2 b1 b2
 refine ⟨out, c, hc1, hc2, ?_⟩
 rw [← hc]
 simp only [spec_DrawHydraFight.f, ho, Option.bind_some]
 refine Ev.bind hE ?_
 refine Ev.bind e1 ?_
 refine Ev.bind e2 ?_
 exact Ev.now _
theorem O.fit_cases {x : O} (hx : x.NF) : (x.fit = ([], false)) ∨ (x.fit = (x.row, true) ∧ x.Sm ∧ x.row.length ≤ 60) := by
 unfold O.fit
 split
 ·
  rename_i h
  exact .inr ⟨rfl, O.Sm_of hx h.2 h.1, h.1⟩
 ·
  exact .inl rfl
theorem NoOrd_nil : NoOrd [] := by
 rcases ord_or [] with ⟨o, ho, _⟩ | h
 ·
  simp [O.row] at ho
 ·
  exact h
theorem FnHydraFight : laws_FnHydraFight.Pure := by
 intro l0 _ _ hw
 refine Ev.rounds ?_
 simp only [laws_FnHydraFight.f]
 by_cases hb : (l0.length : Int) > 1048576
 ·
  simp only [if_pos hb]; exact Ev.now _
 simp only [if_neg hb]
 obtain ⟨l, c, hc1, hc12, he⟩ := DrawHydraFight_ev l0 hw
 refine Ev.bind he ?_
 rcases hydra_or l with ⟨h, rfl, hh⟩ | h
 ·
  have hz := H.row_size h
  have hz2 := H.row_size h.isort
  have hz3 := H.isort_size h
  have hh2 : h.isort.row.length ≤ 60 := by omega
  have hge := H.fight_ge h (c : Int)
  refine Ev.bind (impl_HydraFight_good hh _) ?_
  refine Ev.bind (spec_HydraFight_good hh _) ?_
  simp only [if_true]
  refine Ev.bind (spec_HydraValid_good hh) ?_
  simp only [if_true]
  refine Ev.bind (impl_HydraFight_good hh _) ?_
  refine Ev.bind (impl_HydraOrd_good hh) ?_
  refine Ev.bind (impl_HydraSort_good hh) ?_
  refine Ev.bind (impl_HydraFight_good hh2 _) ?_
  have hone : h.fight 1 = wrap64 ((h.row.length : Int) - 1) := by
   rw [wrap_in (by omega) (by omega), H.fight, if_pos (by omega), H.fight_one 401 h 0 (by omega) (by omega)]
   omega
  have hfin : Ev (fun _ => (some (decide (h.fight (c : Int) ≥ -1)) : Option Bool)) true := ev_now (decide_eq_true hge)
  rcases O.fit_cases (H.ord_NF h) with e1 | ⟨e1, s1, r1⟩
  ·
   rw [e1]
   refine Ev.bind (impl_StepsDown_bad NoOrd_nil _) ?_
   simp only [if_pos hone, Bool.false_eq_true, if_false]
   exact hfin
  ·
   rw [e1]
   obtain ⟨t, ht⟩ := impl_StepsDown_good s1 r1 (show c ≤ 99 by omega) hc1
   refine Ev.bind ht ?_
   simp only [if_pos hone, if_true]
   by_cases g1 : h.isort.fight (c : Int) < 0
   ·
    simp only [if_pos g1]; exact hfin
   simp only [if_neg g1]
   by_cases g2 : O.stepsO c 3001 h.ord 0 < 0
   ·
    simp only [if_pos g2]; exact hfin
   simp only [if_neg g2]
   have heq : h.isort.fight (c : Int) = O.stepsO c 3001 h.ord 0 := by
    unfold H.fight at g1 ⊢
    split at g1
    ·
     rename_i hcc
     rw [if_pos hcc]
     exact H.fight_steps hc1 401 3001 h.isort h.ord 0 (H.isort_sorted h) (H.isort_ord h) (by omega) (by omega)
    ·
     omega
   simp only [if_pos heq]
   exact hfin
 ·
  refine Ev.bind (impl_HydraFight_bad h _) ?_
  refine Ev.bind (spec_HydraFight_bad h _) ?_
  simp only [if_true]
  refine Ev.bind (spec_HydraValid_bad h) ?_
  simp only [Bool.false_eq_true, if_false, if_true]
  exact Ev.bind alive_ev (Ev.now _)

end Go.Proofs.Ytmidgjmlgjjobaa.Pure

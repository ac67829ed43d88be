-- half
/- The law FnExactHydraSame returns true for every input that the statement lets in; no condition of our own. -/
import Derived.Test.YtahhdbjjfdjloaaJex13
namespace Go.Proofs.Ytahhdbjjfdjloaa.Pure
open Go.RowKit Go.Proofs.Ytahhdbjjfdjloaa.Je Go.Proofs.YtahhdbjjfdjloaaW.PrintWords Go.Proofs.YtahhdbjjfdjloaaW.PrintLast
set_option linter.unusedVariables false
set_option linter.unusedSimpArgs false

-- part: base
theorem ev_s {α : Type} {g : Nat → Option α} {r : α} (h : Ev (fun k => g (k + 1)) r) : Ev g r := Ev.step (fun _ => rfl) h
theorem ev_eq {α : Type} {g : Nat → Option α} {r q : α} (h : Ev g r) (e : r = q) : Ev g q := e ▸ h
theorem ev_now {α : Type} {r q : α} (e : r = q) : Ev (fun _ => some r) q := e ▸ Ev.now r
theorem wrap_in {x : Int} (h0 : -9223372036854775808 ≤ x) (h1 : x ≤ 9223372036854775807) : wrap64 x = x := by unfold wrap64; omega
theorem rd_eq (xs : List Int) (i : Nat) : rd xs (i : Int) = xs.getD i 0 := by simp [rd]
theorem rd_get {xs : List Int} {i : Nat} (h : i < xs.length) : rd xs (i : Int) = xs[i] := by simp [rd, h]
theorem wrap_nat2 (a b : Nat) (h : a + b < 4611686018427387904) : wrap64 ((a : Int) + (b : Int)) = ((a + b : Nat) : Int) := by rw [wrap_in (by omega) (by omega)]; omega
theorem toIntS_l0 (l : List Int) (hl : l.length ≤ 35184372088832) : ∀ (d i : Nat) (x : List Int), i + d = l.length → x.length = l.length → x.take i = l.take i → Ev (fun k => laws_toIntS.l0 k l x i) l := by
 intro d
 induction d with
 | zero =>
  intro i x h hx ht
  refine ev_s ?_
  simp only [laws_toIntS.l0]
  rw [show i = l.length by omega] at ht ⊢
  simp only [if_neg (show ¬ ((l.length : Int) < (l.length : Int)) by omega)]
  rw [List.take_of_length_le (by omega), List.take_length] at ht
  rw [ht]; exact Ev.now _
 | succ d ih =>
  intro i x h hx ht
  refine ev_s ?_
  simp only [laws_toIntS.l0]
  simp only [if_pos (show (i : Int) < (l.length : Int) by omega), if_pos (show (0 : Int) ≤ (i : Int) by omega), if_pos (show (i : Int) < (x.length : Int) by omega), show wrap64 ((i : Int) + 1) = ((i + 1 : Nat) : Int) by rw [wrap_in (by omega) (by omega)]; rfl, Int.toNat_natCast]
  refine ih (i + 1) _ (by omega) (by simpa using hx) ?_
  rw [rd_get (show i < l.length by omega)]
  apply List.ext_getElem?
  intro j
  have := congrArg (fun z => z[j]?) ht
  simp only [List.getElem?_take] at this ⊢
  by_cases hj : j < i
  ·
   rw [if_pos hj, if_pos hj] at this
   rw [if_pos (by omega), if_pos (by omega), List.getElem?_set_ne (by omega)]; exact this
  ·
   by_cases hji : j = i
   ·
    subst hji
    rw [if_pos (by omega), if_pos (by omega), List.getElem?_set_self (by omega), List.getElem?_eq_getElem (by omega)]
   ·
    rw [if_neg (by omega), if_neg (by omega)]
theorem toIntS_ev (l : List Int) (hl : l.length ≤ 35184372088832) : Ev (fun k => laws_toIntS.f k l) l := by
 simp only [laws_toIntS.f, Int.toNat_natCast, if_pos (show (0 : Int) ≤ (l.length : Int) by omega), if_pos hl]
 exact toIntS_l0 l hl l.length 0 _ (by omega) (by simp) (by simp)

-- part: eqLoop
theorem eqIntS_l0 (F : Nat → List Int → List Int → Int → Option Bool)
  (h0 : ∀ k a b i, F (k + 1) a b i = if i < (a.length : Int) then (if 0 ≤ i then (if i < (b.length : Int) then (if (rd a i) = (rd b i) then (F k a b (wrap64 (i + 1))) else (some false)) else none) else none) else some true)
  (a b : List Int) (hl : a.length = b.length) (hb : a.length ≤ 140737488351232) : ∀ (d i : Nat), i + d = a.length → a.take i = b.take i → Ev (fun k => F k a b i) (decide (a = b)) := by
 intro d
 induction d with
 | zero =>
  intro i h ht
  refine ev_s ?_
  simp only [h0]
  simp only [if_neg (show ¬ ((i : Int) < (a.length : Int)) by omega)]
  rw [List.take_of_length_le (by omega), List.take_of_length_le (by omega)] at ht
  simp only [ht, decide_true]; exact Ev.now _
 | succ d ih =>
  intro i h ht
  refine ev_s ?_
  simp only [h0]
  simp only [if_pos (show (i : Int) < (a.length : Int) by omega), if_pos (show (0 : Int) ≤ (i : Int) by omega), if_pos (show (i : Int) < (b.length : Int) by omega), show wrap64 ((i : Int) + 1) = ((i + 1 : Nat) : Int) by rw [wrap_in (by omega) (by omega)]; rfl]
  rw [rd_get (show i < a.length by omega), rd_get (show i < b.length by omega)]
  by_cases he : a[i] = b[i]
  ·
   simp only [if_pos he]
   refine ih (i + 1) (by omega) ?_
   rw [List.take_succ_eq_append_getElem (by omega), List.take_succ_eq_append_getElem (by omega), ht, he]
  ·
   simp only [if_neg he]
   refine ev_now (Eq.symm (decide_eq_false (fun hab => he ?_)))
   subst hab; rfl

-- part: eqIntS
theorem eqIntS_ev (a b : List Int) (hb : a.length ≤ 140737488351232) : Ev (fun k => laws_eqIntS.f k a b) (decide (a = b)) := by
 simp only [laws_eqIntS.f]
 by_cases hl : a.length = b.length
 ·
  simp only [if_pos (show (a.length : Int) = (b.length : Int) by omega)]
  exact eqIntS_l0 laws_eqIntS.l0 (fun _ _ _ _ => rfl) a b hl hb a.length 0 (by omega) (by simp)
 ·
  simp only [if_neg (show ¬ ((a.length : Int) = (b.length : Int)) by omega)]
  exact ev_now (Eq.symm (decide_eq_false (fun hab => hl (by rw [hab]))))

-- part: mark
def marksOf (a n : Nat) : List Int := (List.range n).map (fun i => ((a + i : Nat) : Int))
theorem l1In_eq (n lo hi : Int) : spec_l1In.f n lo hi = some (decide (lo ≤ n ∧ n ≤ hi)) := by
 unfold spec_l1In.f
 by_cases h : n ≥ lo
 ·
  rw [if_pos h]; simp [show lo ≤ n from h]
 ·
  rw [if_neg h]; simp [show ¬ lo ≤ n from h]

-- part: O
inductive O where
 | z : O
 | c (n : Nat) (e r : O) : O

-- part: oAppDef
def O.app : O → O → O
 | .z, y => y
 | .c n e r, y => .c n e (O.app r y)
def O.cmp : O → O → Ordering
 | .z, .z => .eq
 | .z, .c .. => .lt
 | .c .., .z => .gt
 | .c n e r, .c m f s => ((O.cmp e f).then (compare n m)).then (O.cmp r s)

theorem O.cmp_self : ∀ a : O, O.cmp a a = .eq
 | .z => rfl
 | .c n e r => by
  have h1 := O.cmp_self e
  have h2 := O.cmp_self r
  simp [O.cmp, h1, h2]

theorem O.eq_of_cmp : ∀ a b : O, O.cmp a b = .eq → a = b
 | .z, .z => fun _ => rfl
 | .z, .c .. => fun h => by simp [O.cmp] at h
 | .c .., .z => fun h => by simp [O.cmp] at h
 | .c n e r, .c m f s => fun h => by
  simp only [O.cmp, Ordering.then_eq_eq] at h
  obtain ⟨⟨h1, h2⟩, h3⟩ := h
  rw [O.eq_of_cmp e f h1, O.eq_of_cmp r s h3, Nat.compare_eq_eq.mp h2]

theorem O.cmp_swap : ∀ a b : O, (O.cmp a b).swap = O.cmp b a
 | .z, .z => rfl
 | .z, .c .. => rfl
 | .c .., .z => rfl
 | .c n e r, .c m f s => by
  have h1 := O.cmp_swap e f
  have h2 := O.cmp_swap r s
  simp only [O.cmp, Ordering.swap_then, h1, h2, Nat.compare_swap]

theorem O.cmp_gt_iff (a b : O) : O.cmp a b = .gt ↔ O.cmp b a = .lt := by
 rw [← O.cmp_swap a b]
 cases O.cmp a b <;> simp [Ordering.swap]

theorem O.lt_trans : ∀ a b c : O, O.cmp a b = .lt → O.cmp b c = .lt → O.cmp a c = .lt
 | .z, .z, _ => fun h => by simp [O.cmp] at h
 | .c .., .z, _ => fun h => by simp [O.cmp] at h
 | .z, .c .., .z => fun _ h => by simp [O.cmp] at h
 | .z, .c .., .c .. => fun _ _ => rfl
 | .c .., .c .., .z => fun _ h => by simp [O.cmp] at h
 | .c n e r, .c m f s, .c k g t => fun h1 h2 => by
  simp only [O.cmp, Ordering.then_eq_lt] at h1 h2 ⊢
  rcases h1 with (h1 | ⟨h1, h1'⟩) | ⟨h1, h1'⟩
  ·
   rcases h2 with (h2 | ⟨h2, h2'⟩) | ⟨h2, h2'⟩
   ·
    exact .inl (.inl (O.lt_trans _ _ _ h1 h2))
   ·
    rw [← O.eq_of_cmp _ _ h2]; exact .inl (.inl h1)
   ·
    rw [Ordering.then_eq_eq] at h2; rw [← O.eq_of_cmp _ _ h2.1]; exact .inl (.inl h1)
  ·
   have := O.eq_of_cmp _ _ h1; subst this
   rcases h2 with (h2 | ⟨h2, h2'⟩) | ⟨h2, h2'⟩
   ·
    exact .inl (.inl h2)
   ·
    have h3 := O.eq_of_cmp _ _ h2; subst h3
    rw [Nat.compare_eq_lt] at h1' h2'
    exact .inl (.inr ⟨h2, Nat.compare_eq_lt.mpr (by omega)⟩)
   ·
    rw [Ordering.then_eq_eq] at h2; rw [← Nat.compare_eq_eq.mp h2.2]; exact .inl (.inr ⟨h2.1, h1'⟩)
  ·
   rw [Ordering.then_eq_eq] at h1
   have := O.eq_of_cmp _ _ h1.1; subst this
   have := Nat.compare_eq_eq.mp h1.2; subst this
   rcases h2 with (h2 | ⟨h2, h2'⟩) | ⟨h2, h2'⟩
   ·
    exact .inl (.inl h2)
   ·
    exact .inl (.inr ⟨h2, h2'⟩)
   ·
    exact .inr ⟨h2, O.lt_trans _ _ _ h1' h2'⟩

theorem O.cmp_tri (a b : O) : O.cmp a b = .lt ∨ a = b ∨ O.cmp b a = .lt := by
 cases h : O.cmp a b with
 | lt => exact .inl rfl
 | eq => exact .inr (.inl (O.eq_of_cmp _ _ h))
 | gt => exact .inr (.inr ((O.cmp_gt_iff _ _).mp h))

theorem O.lt_irrefl (a : O) : O.cmp a a ≠ .lt := by rw [O.cmp_self]; simp
def O.hd (e : O) : O → Prop
 | .z => True
 | .c _ f _ => O.cmp f e = .lt

def O.NF : O → Prop
 | .z => True
 | .c n e r => 1 ≤ n ∧ O.NF e ∧ O.NF r ∧ O.hd e r

-- part: coreIns
def O.ins (e : O) : O → O
 | .z => .c 1 e .z
 | .c n f r => match O.cmp f e with
  | .gt => .c n f (O.ins e r)
  | .eq => .c (n + 1) f r
  | .lt => .c 1 e (.c n f r)

theorem O.hd_trans {e f : O} (h : O.cmp e f = .lt) : ∀ {x : O}, O.hd e x → O.hd f x
 | .z, _ => trivial
 | .c .., h' => O.lt_trans _ _ _ h' h

theorem O.ins_hd {e g : O} (h : O.cmp e g = .lt) : ∀ {x : O}, O.hd g x → O.hd g (O.ins e x)
 | .z, _ => h
 | .c n f r, h' => by
  unfold O.ins
  cases hc : O.cmp f e with
  | gt => exact h'
  | eq => exact h'
  | lt => exact h

theorem O.ins_NF {e : O} (he : O.NF e) : ∀ {x : O}, O.NF x → O.NF (O.ins e x)
 | .z, _ => ⟨Nat.le_refl _, he, trivial, trivial⟩
 | .c n f r, h => by
  obtain ⟨h1, h2, h3, h4⟩ := h
  unfold O.ins
  cases hc : O.cmp f e with
  | gt => exact ⟨h1, h2, O.ins_NF he h3, O.ins_hd ((O.cmp_gt_iff _ _).mp hc) h4⟩
  | eq => exact ⟨by omega, h2, h3, h4⟩
  | lt => exact ⟨Nat.le_refl _, he, ⟨h1, h2, h3, h4⟩, hc⟩

theorem O.ins_big {e : O} : ∀ {x : O}, O.hd e x → O.ins e x = .c 1 e x
 | .z, _ => rfl
 | .c n f r, h => by unfold O.ins; rw [show O.cmp f e = .lt from h]

theorem O.ins_comm (e f : O) : ∀ x : O, O.NF x → O.ins e (O.ins f x) = O.ins f (O.ins e x)
 | .z, _ => by
  rcases O.cmp_tri e f with h | h | h
  ·
   have h' := (O.cmp_gt_iff f e).mpr h
   simp [O.ins, h, h']
  ·
   subst h; rfl
  ·
   have h' := (O.cmp_gt_iff e f).mpr h
   simp [O.ins, h, h']
 | .c n g r, hx => by
  have ih := O.ins_comm e f r hx.2.2.1
  have hg : O.hd g r := hx.2.2.2
  rcases O.cmp_tri e g with he | he | he
  ·
   have he' := (O.cmp_gt_iff g e).mpr he
   rcases O.cmp_tri f g with hf | hf | hf
   ·
    have hf' := (O.cmp_gt_iff g f).mpr hf
    simp [O.ins, he', hf', ih]
   ·
    subst hf; simp [O.ins, he', O.cmp_self]
   ·
    simp only [O.ins, he', hf]
    rw [(O.cmp_gt_iff f e).mpr (O.lt_trans _ _ _ he hf)]
    try simp [O.ins, he']
  ·
   subst he
   rcases O.cmp_tri f e with hf | hf | hf
   ·
    have hf' := (O.cmp_gt_iff e f).mpr hf
    simp [O.ins, hf', O.cmp_self]
   ·
    subst hf; rfl
   ·
    have hf' := (O.cmp_gt_iff f e).mpr hf
    simp [O.ins, hf, hf', O.cmp_self]
  ·
   rcases O.cmp_tri f g with hf | hf | hf
   ·
    have hf' := (O.cmp_gt_iff g f).mpr hf
    simp only [O.ins, he, hf']
    rw [(O.cmp_gt_iff e f).mpr (O.lt_trans _ _ _ hf he)]
    try simp [O.ins, hf']
   ·
    subst hf
    have he' := (O.cmp_gt_iff e f).mpr he
    simp [O.ins, he, he', O.cmp_self]
   ·
    rcases O.cmp_tri e f with h | h | h
    ·
     have h' := (O.cmp_gt_iff f e).mpr h
     simp [O.ins, he, hf, h, h']
    ·
     subst h; rfl
    ·
     have h' := (O.cmp_gt_iff e f).mpr h
     simp [O.ins, he, hf, h, h']

def O.insk (e : O) : Nat → O → O
 | 0, x => x
 | k + 1, x => O.ins e (O.insk e k x)

inductive H where
 | nul : H
 | cons (b r : H) : H

-- part: hRow
def H.len : H → Nat
 | .nul => 0
 | .cons _ r => H.len r + 1
def H.body : H → List Int
 | .nul => []
 | .cons b r => (H.len b : Int) :: (H.body b ++ H.body r)
def H.row (h : H) : List Int := (h.len : Int) :: h.body
theorem H.body_cons (b r : H) : (H.cons b r).body = b.row ++ r.body := rfl
theorem H.row_length (h : H) : h.row.length = h.body.length + 1 := by simp [H.row]
theorem H.len_le : ∀ h : H, h.len ≤ h.body.length
 | .nul => Nat.le_refl _
 | .cons b r => by have := H.len_le r; simp only [H.len, H.body, List.length_cons, List.length_append]; omega
inductive BadN : Nat → List Int → Prop where
 | nil (m : Nat) : BadN (m + 1) []
 | out (m : Nat) (x : Int) (r : List Int) (h : x < 0 ∨ 60 < x) : BadN (m + 1) (x :: r)
 | deep (m : Nat) (x : Int) (r : List Int) (h0 : 0 ≤ x) (h1 : x ≤ 60) (h : BadN x.toNat r) : BadN (m + 1) (x :: r)
 | next (m : Nat) (b : H) (t : List Int) (hb : b.row.length ≤ 60) (h : BadN m t) : BadN (m + 1) (b.row ++ t)
theorem read_total : ∀ (n : Nat), n ≤ 60 → ∀ (m : Nat) (l : List Int), l.length ≤ n → (∃ s t, l = H.body s ++ t ∧ s.len = m) ∨ BadN m l
 | n, hn, 0, l, _ => .inl ⟨.nul, l, rfl, rfl⟩
 | n, hn, m + 1, [], _ => .inr (.nil m)
 | 0, hn, m + 1, x :: r, h => by simp at h
 | n + 1, hn, m + 1, x :: r, h => by
  simp only [List.length_cons, Nat.add_le_add_iff_right] at h
  by_cases hx : x < 0 ∨ 60 < x
  ·
   exact .inr (.out m x r hx)
  ·
   rcases read_total n (by omega) x.toNat r h with ⟨s, t, hs, hl⟩ | hb
   ·
    have hxl : x = (s.len : Int) := by omega
    have he : x :: r = s.row ++ t := by rw [hs, hxl]; rfl
    have hlr : r.length = s.body.length + t.length := by rw [hs, List.length_append]
    have hlen : t.length ≤ n := by omega
    rcases read_total n (by omega) m t hlen with ⟨s2, t2, hs2, hl2⟩ | hb
    ·
     refine .inl ⟨.cons s s2, t2, ?_, by rw [H.len, hl2]⟩
     rw [he, hs2, H.body_cons, List.append_assoc]
    ·
     rw [he]
     exact .inr (.next m s t (by rw [H.row_length]; omega) hb)
   ·
    exact .inr (.deep m x r (by omega) (by omega) hb)
theorem H.body_inj : ∀ (s s' : H) (t t' : List Int), s.len = s'.len → s.body ++ t = s'.body ++ t' → s = s' ∧ t = t'
 | .nul, .nul, t, t', _, h => ⟨rfl, h⟩
 | .nul, .cons .., _, _, h, _ => by simp [H.len] at h
 | .cons .., .nul, _, _, h, _ => by simp [H.len] at h
 | .cons b r, .cons b' r', t, t', hl, h => by
  simp only [H.len, Nat.add_right_cancel_iff] at hl
  simp only [H.body, List.cons_append, List.append_assoc, List.cons.injEq] at h
  obtain ⟨h1, h2⟩ := h
  obtain ⟨h3, h4⟩ := H.body_inj b b' _ _ (by omega) h2
  obtain ⟨h5, h6⟩ := H.body_inj r r' _ _ hl h4
  exact ⟨by rw [h3, h5], h6⟩
theorem H.row_inj {g h : H} (e : g.row = h.row) : g = h := by
 simp only [H.row, List.cons.injEq] at e
 exact (H.body_inj g h [] [] (by omega) (by rw [e.2])).1

-- part: hTake
def H.terms : H → List S46
 | .nul => []
 | .cons b r => ⟨H.terms b⟩ :: H.terms r
theorem H.terms_len : ∀ h : H, h.terms.length = h.len
 | .nul => rfl
 | .cons b r => by rw [H.terms, H.len, List.length_cons, H.terms_len r]
theorem rd_T46_mid (pre suf : List S46) (x : S46) : rd_T46 (pre ++ x :: suf) ((pre.length : Nat) : Int) = x := by simp [rd_T46]
theorem rd_cons (x : Int) (l : List Int) : rd (x :: l) 0 = x := rfl
theorem takeHydra_in {x : Int} {r : List Int} (h0 : 0 ≤ x) (h1 : x ≤ 60) {q : (List S46) × List Int × Bool} (h : Ev (fun k => impl_takeHydra.l0 k r [] x 0) q) : Ev (fun k => impl_takeHydra.f k (x :: r)) q := by
 refine ev_s ?_
 have g1 : ¬ (((x :: r).length : Int) = 0) := by simp only [List.length_cons]; omega
 have g2 : (0 : Int) < ((x :: r).length : Int) := by simp only [List.length_cons]; omega
 have g3 : (1 : Int) ≤ ((x :: r).length : Int) := by simp only [List.length_cons]; omega
 have g4 : ¬ (rd (x :: r) 0 < 0) := by rw [rd_cons]; omega
 have g5 : ¬ (rd (x :: r) 0 > 60) := by rw [rd_cons]; omega
 simp only [impl_takeHydra.f, if_neg g1, if_pos g2, if_neg g4, decide_eq_false g5]
 refine ev_s ?_
 simp only [impl_takeHydra.j0, Bool.false_eq_true, if_false, if_pos g2, if_pos g3, List.drop_succ_cons, List.drop_zero]
 exact h
theorem takeHydra_out {l : List Int} (h : l = [] ∨ ∃ x r, l = x :: r ∧ (x < 0 ∨ 60 < x)) : Ev (fun k => impl_takeHydra.f k l) ([], [], false) := by
 have hj : Ev (fun k => impl_takeHydra.j0 k l true) ([], [], false) := by
  refine ev_s ?_
  simp only [impl_takeHydra.j0, if_true]
  exact Ev.now _
 refine ev_s ?_
 rcases h with rfl | ⟨x, r, rfl, hx⟩
 ·
  simp only [impl_takeHydra.f, List.length_nil, if_pos (show ((0 : Nat) : Int) = 0 from rfl)]
  exact hj
 ·
  have g1 : ¬ (((x :: r).length : Int) = 0) := by simp only [List.length_cons]; omega
  have g2 : (0 : Int) < ((x :: r).length : Int) := by simp only [List.length_cons]; omega
  by_cases h0 : rd (x :: r) 0 < 0
  ·
   simp only [impl_takeHydra.f, if_neg g1, if_pos g2, if_pos h0]; exact hj
  ·
   have g5 : rd (x :: r) 0 > 60 := by rw [rd_cons] at h0 ⊢; omega
   simp only [impl_takeHydra.f, if_neg g1, if_pos g2, if_neg h0, decide_eq_true g5]; exact hj
theorem takeHydra_l0 : ∀ (s : H) (pre : List S46) (t : List Int), pre.length + s.body.length ≤ 1000 → s.body.length ≤ 60 →
  Ev (fun k => impl_takeHydra.l0 k (s.body ++ t) pre ((pre.length + s.len : Nat) : Int) (pre.length : Int)) (pre ++ s.terms, t, true)
 | .nul, pre, t, _, _ => by
  refine ev_s ?_
  simp only [impl_takeHydra.l0, H.len, H.body, H.terms, Nat.add_zero, List.nil_append, List.append_nil, Int.lt_irrefl, if_false]
  exact Ev.now _
 | .cons b r, pre, t, hp, hs => by
  simp only [H.body, List.length_cons, List.length_append] at hp hs
  have hbl := H.len_le b
  have ihb := takeHydra_l0 b [] (r.body ++ t) (by simp; omega) (by omega)
  simp only [List.length_nil, Nat.zero_add, List.nil_append] at ihb
  have ihr := takeHydra_l0 r (pre ++ [⟨b.terms⟩]) t (by simp; omega) (by omega)
  have hbody : (H.cons b r).body ++ t = (b.len : Int) :: (b.body ++ (r.body ++ t)) := by simp [H.body]
  have hw : wrap64 ((pre.length : Int) + 1) = (((pre ++ [(⟨b.terms⟩ : S46)]).length : Nat) : Int) := by
   rw [List.length_append, List.length_singleton]; exact wrap_nat2 pre.length 1 (by omega)
  have hcnt : ((pre.length + (H.cons b r).len : Nat) : Int) = (((pre ++ [(⟨b.terms⟩ : S46)]).length + r.len : Nat) : Int) := by
   simp only [H.len, List.length_append, List.length_singleton]; omega
  have hres : pre ++ (H.cons b r).terms = pre ++ [(⟨b.terms⟩ : S46)] ++ r.terms := by simp [H.terms]
  rw [hbody, hres]
  refine ev_s ?_
  simp only [impl_takeHydra.l0, if_pos (show (pre.length : Int) < ((pre.length + (H.cons b r).len : Nat) : Int) by simp only [H.len]; omega)]
  refine Ev.bind (takeHydra_in (by omega) (by omega) ihb) ?_
  simp only [if_true, if_pos (show pre.length < 5864062014805 by omega), hw, hcnt]
  exact ihr
theorem takeHydra_row {s : H} (h : s.row.length ≤ 60) (t : List Int) : Ev (fun k => impl_takeHydra.f k (s.row ++ t)) (s.terms, t, true) := by
 rw [H.row_length] at h
 have := H.len_le s
 have h1 := takeHydra_l0 s [] t (by simp; omega) (by omega)
 simp only [List.length_nil, Nat.zero_add, List.nil_append] at h1
 exact takeHydra_in (by omega) (by omega) h1
theorem takeHydra_bad {m : Nat} {l : List Int} (h : BadN m l) : ∀ (pre : List S46), pre.length + m ≤ 1000 → Ev (fun k => impl_takeHydra.l0 k l pre ((pre.length + m : Nat) : Int) (pre.length : Int)) ([], [], false) := by
 have fall : ∀ (l : List Int) (m : Nat) (pre : List S46) {a : List S46} {t : List Int}, Ev (fun k => impl_takeHydra.f k l) (a, t, false) → Ev (fun k => impl_takeHydra.l0 k l pre ((pre.length + (m + 1) : Nat) : Int) (pre.length : Int)) ([], [], false) := by
  intro l m pre a t h
  refine ev_s ?_
  simp only [impl_takeHydra.l0, if_pos (show (pre.length : Int) < ((pre.length + (m + 1) : Nat) : Int) by omega)]
  refine Ev.bind h ?_
  simp only [Bool.false_eq_true, if_false]
  exact Ev.now _
 induction h with
 | nil m => intro pre _; exact fall _ m pre (takeHydra_out (.inl rfl))
 | out m x r h => intro pre _; exact fall _ m pre (takeHydra_out (.inr ⟨x, r, rfl, h⟩))
 | deep m x r h0 h1 h ih =>
  intro pre hp
  have := ih [] (by simp only [List.length_nil]; omega)
  simp only [List.length_nil, Nat.zero_add, Int.toNat_of_nonneg h0] at this
  exact fall _ m pre (takeHydra_in h0 h1 this)
 | next m b t hb h ih =>
  intro pre hp
  have hw : wrap64 ((pre.length : Int) + 1) = (((pre ++ [(⟨b.terms⟩ : S46)]).length : Nat) : Int) := by
   rw [List.length_append, List.length_singleton]; exact wrap_nat2 pre.length 1 (by omega)
  have hcnt : ((pre.length + (m + 1) : Nat) : Int) = (((pre ++ [(⟨b.terms⟩ : S46)]).length + m : Nat) : Int) := by
   simp only [List.length_append, List.length_singleton]; omega
  refine ev_s ?_
  simp only [impl_takeHydra.l0, if_pos (show (pre.length : Int) < ((pre.length + (m + 1) : Nat) : Int) by omega)]
  refine Ev.bind (takeHydra_row hb t) ?_
  simp only [if_true, if_pos (show pre.length < 5864062014805 by omega), hw, hcnt]
  exact ih (pre ++ [⟨b.terms⟩]) (by simp only [List.length_append, List.length_singleton]; omega)
theorem l5End_in {l : List Int} {p : Nat} (hp : p < l.length) (hb : l.length ≤ 1000000) (h0 : 0 ≤ l[p]) (h1 : l[p] ≤ 60) {q : Int} (h : Ev (fun k => spec_l5End.l0 k l ((p + 1 : Nat) : Int) l[p] 0) q) : Ev (fun k => spec_l5End.f k l (p : Int)) q := by
 refine ev_s ?_
 simp only [spec_l5End.f, if_neg (show ¬ ((p : Int) ≥ (l.length : Int)) by omega), if_pos (show (0 : Int) ≤ (p : Int) by omega), if_pos (show (p : Int) < (l.length : Int) by omega), l1In_eq, Option.bind_some, rd_get hp, decide_eq_true (show 0 ≤ l[p] ∧ l[p] ≤ 60 from ⟨h0, h1⟩)]
 refine ev_s ?_
 simp only [spec_l5End.j0, Bool.not_true, Bool.false_eq_true, if_false, if_pos (show (0 : Int) ≤ (p : Int) by omega), if_pos (show (p : Int) < (l.length : Int) by omega), rd_get hp, show wrap64 ((p : Int) + 1) = ((p + 1 : Nat) : Int) from wrap_nat2 p 1 (by omega)]
 exact h
theorem l5End_out {l : List Int} {p : Nat} (h : l.length ≤ p ∨ ∃ hp : p < l.length, l[p] < 0 ∨ 60 < l[p]) : Ev (fun k => spec_l5End.f k l (p : Int)) (-1) := by
 have hj : Ev (fun k => spec_l5End.j0 k l (p : Int) true) (-1) := by
  refine ev_s ?_
  simp only [spec_l5End.j0, if_true]
  exact Ev.now _
 refine ev_s ?_
 rcases h with h | ⟨hp, hx⟩
 ·
  simp only [spec_l5End.f, if_pos (show ((p : Int) ≥ (l.length : Int)) by omega)]
  exact hj
 ·
  simp only [spec_l5End.f, if_neg (show ¬ ((p : Int) ≥ (l.length : Int)) by omega), if_pos (show (0 : Int) ≤ (p : Int) by omega), if_pos (show (p : Int) < (l.length : Int) by omega), l1In_eq, Option.bind_some, rd_get hp, decide_eq_false (show ¬ (0 ≤ l[p] ∧ l[p] ≤ 60) by omega), Bool.not_false]
  exact hj
theorem l5End_l0 : ∀ (s : H) (pre t l : List Int) (i : Nat), l = pre ++ s.body ++ t → l.length ≤ 1000000 → s.body.length ≤ 60 → i + s.body.length ≤ 1000 →
  Ev (fun k => spec_l5End.l0 k l (pre.length : Int) ((i + s.len : Nat) : Int) (i : Int)) ((pre.length + s.body.length : Nat) : Int)
 | .nul, pre, t, l, i, _, _, _, _ => by
  refine ev_s ?_
  simp only [spec_l5End.l0, H.len, H.body, Nat.add_zero, Int.lt_irrefl, if_false, List.length_nil]
  exact Ev.now _
 | .cons b r, pre, t, l, i, hl, hb, hs, hi => by
  simp only [H.body, List.length_cons, List.length_append] at hs hi
  have hbl := H.len_le b
  have hlen : l.length = pre.length + (b.body.length + r.body.length + 1) + t.length := by rw [hl]; simp only [H.body, List.length_append, List.length_cons]
  have hp : pre.length < l.length := by omega
  have hx : l[pre.length] = (b.len : Int) := by
   subst hl
   simp [H.body]
  have ihb := l5End_l0 b (pre ++ [(b.len : Int)]) (r.body ++ t) l 0 (by rw [hl]; simp [H.body]) hb (by omega) (by omega)
  have ihr := l5End_l0 r (pre ++ b.row) t l (i + 1) (by rw [hl]; simp [H.body, H.row]) hb (by omega) (by omega)
  simp only [List.length_append, List.length_singleton, Nat.zero_add] at ihb
  simp only [List.length_append, H.row_length] at ihr
  have hE : Ev (fun k => spec_l5End.f k l (pre.length : Int)) ((pre.length + (b.body.length + 1) : Nat) : Int) := by
   refine l5End_in hp hb (by rw [hx]; omega) (by rw [hx]; omega) ?_
   rw [hx]
   exact ev_eq ihb (by omega)
  refine ev_s ?_
  simp only [spec_l5End.l0, if_pos (show (i : Int) < ((i + (H.cons b r).len : Nat) : Int) by simp only [H.len]; omega), if_pos (show (pre.length : Int) ≥ 0 by omega), show wrap64 ((i : Int) + 1) = ((i + 1 : Nat) : Int) from wrap_nat2 i 1 (by omega)]
  refine Ev.bind hE ?_
  have e1 : ((i + (H.cons b r).len : Nat) : Int) = ((i + 1 + r.len : Nat) : Int) := by simp only [H.len]; omega
  rw [e1]
  exact ev_eq ihr (by simp only [H.body, List.length_cons, List.length_append]; omega)
theorem l5End_row {s : H} (pre t : List Int) (hb : (pre ++ s.row ++ t).length ≤ 1000000) (hs : s.row.length ≤ 60) : Ev (fun k => spec_l5End.f k (pre ++ s.row ++ t) (pre.length : Int)) ((pre.length + s.row.length : Nat) : Int) := by
 rw [H.row_length] at hs
 have hbl := H.len_le s
 have hp : pre.length < (pre ++ s.row ++ t).length := by simp only [H.row, List.length_append, List.length_cons]; omega
 have hx : (pre ++ s.row ++ t)[pre.length] = (s.len : Int) := by simp [H.row]
 have h2 := l5End_l0 s (pre ++ [(s.len : Int)]) t (pre ++ s.row ++ t) 0 (by simp [H.row]) hb (by omega) (by omega)
 simp only [List.length_append, List.length_singleton, Nat.zero_add] at h2
 refine l5End_in hp hb (by rw [hx]; omega) (by rw [hx]; omega) ?_
 rw [hx]
 exact ev_eq h2 (by rw [H.row_length]; omega)
theorem l5End_bad {m : Nat} {l : List Int} (h : BadN m l) : ∀ (pre : List Int) (i : Nat), (pre ++ l).length ≤ 1000000 → i + m ≤ 1000000 → Ev (fun k => spec_l5End.l0 k (pre ++ l) (pre.length : Int) ((i + m : Nat) : Int) (i : Int)) (-1) := by
 have fall : ∀ (l : List Int) (m i p : Nat), i + (m + 1) ≤ 1000000 → Ev (fun k => spec_l5End.f k l (p : Int)) (-1) → Ev (fun k => spec_l5End.l0 k l (p : Int) ((i + (m + 1) : Nat) : Int) (i : Int)) (-1) := by
  intro l m i p him h
  refine ev_s ?_
  simp only [spec_l5End.l0, if_pos (show (i : Int) < ((i + (m + 1) : Nat) : Int) by omega), if_pos (show (p : Int) ≥ 0 by omega), show wrap64 ((i : Int) + 1) = ((i + 1 : Nat) : Int) from wrap_nat2 i 1 (by omega)]
  refine Ev.bind h ?_
  refine ev_s ?_
  by_cases hm : ((i + 1 : Nat) : Int) < ((i + (m + 1) : Nat) : Int)
  ·
   simp only [spec_l5End.l0, if_pos hm, if_neg (show ¬ ((-1 : Int) ≥ 0) by decide)]; exact Ev.now _
  ·
   simp only [spec_l5End.l0, if_neg hm]; exact Ev.now _
 induction h with
 | nil m => intro pre i hl him; exact fall _ m i _ him (l5End_out (.inl (by simp)))
 | out m x r h => intro pre i hl him; exact fall _ m i _ him (l5End_out (.inr ⟨by simp, by simpa using h⟩))
 | deep m x r h0 h1 h ih =>
  intro pre i hl him
  have := ih (pre ++ [x]) 0 (by simpa using hl) (by omega)
  simp only [List.append_assoc, List.singleton_append, List.length_append, List.length_singleton, Nat.zero_add, Int.toNat_of_nonneg h0] at this
  have hx : (pre ++ x :: r)[pre.length]'(by simp) = x := by simp
  refine fall _ m i _ him (l5End_in (by simp) hl (by rw [hx]; exact h0) (by rw [hx]; exact h1) ?_)
  rw [hx]
  exact this
 | next m b t hb h ih =>
  intro pre i hl him
  have := ih (pre ++ b.row) (i + 1) (by simpa using hl) (by omega)
  have hr := l5End_row (s := b) pre t (by simpa using hl) hb
  rw [List.append_assoc] at hr this
  refine ev_s ?_
  simp only [spec_l5End.l0, if_pos (show (i : Int) < ((i + (m + 1) : Nat) : Int) by omega), if_pos (show (pre.length : Int) ≥ 0 by omega), show wrap64 ((i : Int) + 1) = ((i + 1 : Nat) : Int) from wrap_nat2 i 1 (by omega)]
  refine Ev.bind hr ?_
  rw [show i + (m + 1) = i + 1 + m by omega, ← List.length_append]
  exact this
theorem hydra_cases (l : List Int) : (∃ h : H, l = h.row ∧ l.length ≤ 60) ∨ (60 < l.length ∨ l = [] ∨ BadN 1 l ∨ ∃ (h : H) (x : Int) (t : List Int), l = h.row ++ x :: t) := by
 by_cases h60 : l.length ≤ 60
 ·
  rcases read_total 60 (Nat.le_refl _) 1 l h60 with ⟨s, t, hs, hl⟩ | hb
  ·
   rcases s with _ | ⟨b, r⟩
   ·
    simp [H.len] at hl
   ·
    rcases r with _ | ⟨b2, r2⟩
    ·
     have e : l = b.row ++ t := by rw [hs, H.body_cons]; simp [H.body]
     rcases t with _ | ⟨x, t⟩
     ·
      exact .inl ⟨b, by rw [e, List.append_nil], h60⟩
     ·
      exact .inr (.inr (.inr (.inr ⟨b, x, t, e⟩)))
    ·
     simp [H.len] at hl
  ·
   exact .inr (.inr (.inr (.inl hb)))
 ·
  exact .inr (.inl (by omega))
theorem impl_hydraOf_good {h : H} (hl : h.row.length ≤ 60) : Ev (fun k => impl_hydraOf.f k h.row) (h.terms, true) := by
 have hr := H.row_length h
 have := takeHydra_row hl []
 rw [List.append_nil] at this
 simp only [impl_hydraOf.f, if_neg (show ¬ ((h.row.length : Int) < 1) by omega), if_neg (show ¬ ((h.row.length : Int) > 60) by omega)]
 refine Ev.bind this ?_
 simp only [if_true]
 exact ev_now (by simp)
theorem spec_HydraValid_good {h : H} (hl : h.row.length ≤ 60) : Ev (fun k => spec_HydraValid.f k h.row) true := by
 have hr := H.row_length h
 have := l5End_row (s := h) [] [] (by simp; omega) hl
 simp only [List.nil_append, List.append_nil, List.length_nil, Nat.zero_add] at this
 simp only [spec_HydraValid.f, l1In_eq, Option.bind_some, decide_eq_true (show 1 ≤ (h.row.length : Int) ∧ (h.row.length : Int) ≤ 60 by omega), if_true]
 refine Ev.bind this ?_
 exact ev_now (by simp)
def NoHydra (l : List Int) : Prop := 60 < l.length ∨ l = [] ∨ BadN 1 l ∨ ∃ (h : H) (x : Int) (t : List Int), l = h.row ++ x :: t
theorem impl_hydraOf_bad {l : List Int} (h : NoHydra l) : ∃ a, Ev (fun k => impl_hydraOf.f k l) (a, false) := by
 by_cases h0 : l = []
 ·
  subst h0
  refine ⟨[], ?_⟩
  simp only [impl_hydraOf.f, List.length_nil, if_pos (show ((0 : Nat) : Int) < 1 by decide)]
  exact Ev.now _
 ·
  have hpos : 0 < l.length := List.length_pos_iff.mpr h0
  by_cases h60 : 60 < l.length
  ·
   refine ⟨[], ?_⟩
   simp only [impl_hydraOf.f, if_neg (show ¬ ((l.length : Int) < 1) by omega), if_pos (show (l.length : Int) > 60 by omega)]
   exact Ev.now _
  ·
   simp only [impl_hydraOf.f, if_neg (show ¬ ((l.length : Int) < 1) by omega), if_neg (show ¬ ((l.length : Int) > 60) by omega)]
   rcases h with h | h | h | ⟨g, x, t, rfl⟩
   ·
    omega
   ·
    exact absurd h h0
   ·
    have hf : ∃ a t, Ev (fun k => impl_takeHydra.f k l) (a, t, false) := by
     cases h with
     | nil => exact absurd rfl h0
     | out m x r h => exact ⟨_, _, takeHydra_out (.inr ⟨x, r, rfl, h⟩)⟩
     | deep m x r hx0 hx1 h =>
      have := takeHydra_bad h [] (by simp only [List.length_nil]; omega)
      simp only [List.length_nil, Nat.zero_add, Int.toNat_of_nonneg hx0] at this
      exact ⟨_, _, takeHydra_in hx0 hx1 this⟩
     | next m b t hb h => cases h
    obtain ⟨a, t, hf⟩ := hf
    refine ⟨a, Ev.bind hf ?_⟩
    simp only [Bool.false_eq_true, if_false]
    exact Ev.now _
   ·
    simp only [List.length_append, List.length_cons] at h60
    refine ⟨g.terms, Ev.bind (takeHydra_row (by omega) (x :: t)) ?_⟩
    simp only [if_true]
    exact ev_now (by simp; omega)
theorem spec_HydraValid_bad {l : List Int} (h : NoHydra l) : Ev (fun k => spec_HydraValid.f k l) false := by
 by_cases h1 : 1 ≤ (l.length : Int) ∧ (l.length : Int) ≤ 60
 ·
  simp only [spec_HydraValid.f, l1In_eq, Option.bind_some, decide_eq_true h1, if_true]
  have hend : ∃ e : Int, e ≠ (l.length : Int) ∧ Ev (fun k => spec_l5End.f k l ((0 : Nat) : Int)) e := by
   rcases h with h | h | h | ⟨g, x, t, rfl⟩
   ·
    omega
   ·
    subst h; simp at h1
   ·
    refine ⟨-1, by omega, ?_⟩
    cases h with
    | nil => simp at h1
    | out m x r h => exact l5End_out (.inr ⟨by simp, by simpa using h⟩)
    | deep m x r h0 h2 h =>
     have := l5End_bad h [x] 0 (by simp only [List.singleton_append]; omega) (by omega)
     simp only [List.singleton_append, List.length_singleton, Nat.zero_add, Int.toNat_of_nonneg h0] at this
     exact l5End_in (by simp) (by omega) (by simpa using h0) (by simpa using h2) this
    | next m b t hb h => cases h
   ·
    simp only [List.length_append, List.length_cons] at h1
    have := l5End_row (s := g) [] (x :: t) (by simp; omega) (by omega)
    simp only [List.nil_append, List.length_nil, Nat.zero_add] at this
    exact ⟨_, by simp only [List.length_append, List.length_cons]; omega, this⟩
  obtain ⟨e, he, hE⟩ := hend
  refine Ev.bind hE ?_
  exact ev_now (by simpa using he)
 ·
  simp only [spec_HydraValid.f, l1In_eq, Option.bind_some, decide_eq_false h1, Bool.false_eq_true, if_false]
  exact Ev.now _
theorem hydra_or (l : List Int) : (∃ h : H, l = h.row ∧ h.row.length ≤ 60) ∨ NoHydra l := by
 rcases hydra_cases l with ⟨h, e, hl⟩ | h
 ·
  exact .inl ⟨h, e, e ▸ hl⟩
 ·
  exact .inr h

-- part: l5Branches
def H.rows : H → List (List Int)
 | .nul => []
 | .cons b r => b.row :: H.rows r
theorem H.rows_len : ∀ h : H, h.rows.length = h.len
 | .nul => rfl
 | .cons b r => by rw [H.rows, H.len, List.length_cons, H.rows_len r]
theorem H.rows_flat : ∀ h : H, h.rows.flatten = h.body
 | .nul => rfl
 | .cons b r => by rw [H.rows, List.flatten_cons, H.rows_flat r, H.body_cons]
theorem rd_L3_mid (pre suf : List (List Int)) (x : List Int) : rd_L3 (pre ++ x :: suf) ((pre.length : Nat) : Int) = x := by simp [rd_L3]
theorem l5Branches_l0 : ∀ (s : H) (pre : List Int) (out : List (List Int)), (pre ++ s.body).length ≤ 1000000 → s.body.length ≤ 60 → out.length + s.len ≤ 1000000 → Ev (fun k => spec_l5Branches.l0 k (pre ++ s.body) out (pre.length : Int)) (out ++ s.rows)
 | .nul, pre, out, _, _, _ => by
  refine ev_s ?_
  simp only [spec_l5Branches.l0, H.body, H.rows, List.append_nil, Int.lt_irrefl, if_false]
  exact Ev.now _
 | .cons b r, pre, out, hb, hs, ho => by
  have hE := l5End_row (s := b) pre r.body (by rw [H.body_cons] at hb; rw [List.append_assoc]; exact hb) (by rw [H.body_cons, List.length_append] at hs; omega)
  have ihr := l5Branches_l0 r (pre ++ b.row) (out ++ [b.row]) (by rw [H.body_cons] at hb; rw [List.append_assoc]; exact hb) (by rw [H.body_cons, List.length_append] at hs; omega) (by simp only [H.len] at ho; simp only [List.length_append, List.length_singleton]; omega)
  have hrl := H.row_length b
  have he : pre ++ (H.cons b r).body = pre ++ b.row ++ r.body := by rw [H.body_cons, List.append_assoc]
  have hcut : ((pre ++ b.row ++ r.body).take (pre.length + b.row.length)).drop pre.length = b.row := by
   rw [show pre.length + b.row.length = (pre ++ b.row).length by rw [List.length_append], List.take_left', List.drop_left']
   ·
    rfl
   ·
    rfl
  have hres : out ++ (H.cons b r).rows = out ++ [b.row] ++ r.rows := by simp [H.rows]
  rw [he] at hb ⊢
  rw [hres]
  have hlen : (pre ++ b.row ++ r.body).length = pre.length + b.row.length + r.body.length := by simp only [List.length_append]
  refine ev_s ?_
  simp only [spec_l5Branches.l0, if_pos (show (pre.length : Int) < ((pre ++ b.row ++ r.body).length : Int) by omega)]
  refine Ev.bind hE ?_
  simp only [if_pos (show (0 : Int) ≤ (pre.length : Int) by omega), if_pos (show (pre.length : Int) ≤ ((pre.length + b.row.length : Nat) : Int) by omega), if_pos (show ((pre.length + b.row.length : Nat) : Int) ≤ ((pre ++ b.row ++ r.body).length : Int) by omega), if_pos (show out.length < 5864062014805 by omega), Int.toNat_natCast, hcut]
  rw [← List.length_append]
  exact ihr
theorem l5Branches_ev {h : H} (hl : h.row.length ≤ 60) : Ev (fun k => spec_l5Branches.f k h.row) h.rows := by
 have hr := H.row_length h
 have hle := H.len_le h
 have := l5Branches_l0 h [(h.len : Int)] [] (by simp; omega) (by omega) (by simp; omega)
 simp only [spec_l5Branches.f]
 exact this

-- part: hGrown
theorem row_l0 : ∀ (s : H) (pre : List S46) (a : List Int), pre.length + s.body.length ≤ 1000000 → a.length + s.body.length ≤ 1000000 →
  Ev (fun k => impl_hydra_row.l0 k a (pre ++ s.terms) (((pre ++ s.terms).length : Nat) : Int) (pre.length : Int)) (a ++ s.body)
 | .nul, pre, a, _, _ => by
  refine ev_s ?_
  simp only [impl_hydra_row.l0, H.terms, H.body, List.append_nil, Int.lt_irrefl, if_false]
  exact Ev.now _
 | .cons b r, pre, a, hp, ha => by
  have hrl := H.row_length b
  simp only [H.body, List.length_cons, List.length_append] at hp ha
  have hE : Ev (fun k => impl_hydra_row.f k b.terms) b.row := by
   refine ev_s ?_
   simp only [impl_hydra_row.f]
   have := row_l0 b [] [(b.len : Int)] (by simp; omega) (by simp; omega)
   rw [List.nil_append] at this
   simp only [H.terms_len] at this ⊢
   exact this
  have hlen : (pre ++ (H.cons b r).terms).length = pre.length + (r.terms.length + 1) := by simp [H.terms]
  have hmid : rd_T46 (pre ++ (H.cons b r).terms) (pre.length : Int) = ⟨b.terms⟩ := rd_T46_mid pre r.terms ⟨b.terms⟩
  have happ : pre ++ (H.cons b r).terms = (pre ++ [⟨b.terms⟩]) ++ r.terms := by simp [H.terms]
  have ew : wrap64 ((pre.length : Int) + 1) = (((pre ++ [(⟨b.terms⟩ : S46)]).length : Nat) : Int) := by
   rw [List.length_append, List.length_singleton]; exact wrap_nat2 pre.length 1 (by omega)
  have g1 : (pre.length : Int) < (((pre ++ (H.cons b r).terms).length : Nat) : Int) := by omega
  refine ev_s ?_
  simp only [impl_hydra_row.l0, if_pos g1, if_pos (show (0 : Int) ≤ (pre.length : Int) from Int.natCast_nonneg _), hmid]
  refine Ev.bind hE ?_
  simp only [if_pos (show a.length + b.row.length < 17592186044416 by omega), ew]
  rw [happ, H.body_cons, ← List.append_assoc]
  exact row_l0 r (pre ++ [⟨b.terms⟩]) (a ++ b.row) (by simp only [List.length_append, List.length_singleton]; omega) (by rw [List.length_append]; omega)
theorem row_ev {h : H} (hl : h.row.length ≤ 100000) : Ev (fun k => impl_hydra_row.f k h.terms) h.row := by
 rw [H.row_length] at hl
 refine ev_s ?_
 simp only [impl_hydra_row.f]
 have := row_l0 h [] [(h.len : Int)] (by simp; omega) (by simp; omega)
 rw [List.nil_append] at this
 simp only [H.terms_len] at this ⊢
 exact this

-- part: oRow
def O.len : O → Nat
 | .z => 0
 | .c _ _ r => O.len r + 1
def O.body : O → List Int
 | .z => []
 | .c n e r => (n : Int) :: (O.len e : Int) :: (O.body e ++ O.body r)
def O.row (o : O) : List Int := (O.len o : Int) :: O.body o
theorem O.len_le : ∀ o : O, o.len ≤ o.body.length
 | .z => Nat.le_refl _
 | .c n e r => by have := O.len_le r; simp only [O.len, O.body, List.length_cons, List.length_append]; omega
inductive IsO : List S72 → O → Prop where
 | nil : IsO [] .z
 | cons {n : Nat} {e r : List S72} {oe or_ : O} (he : IsO e oe) (hr : IsO r or_) : IsO (⟨(n : Int), e⟩ :: r) (.c n oe or_)
theorem IsO.len {l : List S72} {o : O} (h : IsO l o) : l.length = o.len := by
 induction h with
 | nil => rfl
 | cons he hr ihe ihr => simp [O.len, ihr]
theorem rd_T72_mid (pre suf : List S72) (x : S72) : rd_T72 (pre ++ x :: suf) ((pre.length : Nat) : Int) = x := by simp [rd_T72]
def O.num (n : Nat) : O := if n = 0 then .z else .c n .z .z

-- part: oTerms
def O.terms : O → List S72
 | .z => []
 | .c n e r => ⟨(n : Int), O.terms e⟩ :: O.terms r
theorem O.terms_is : ∀ o : O, IsO o.terms o
 | .z => .nil
 | .c n e r => .cons (O.terms_is e) (O.terms_is r)
theorem IsO.terms {l : List S72} {o : O} (h : IsO l o) : l = o.terms := by
 induction h with
 | nil => rfl
 | cons _ _ h1 h2 => rw [O.terms, h1, h2]
theorem O.terms_len (o : O) : o.terms.length = o.len := IsO.len o.terms_is
def ordI : Ordering → Int
 | .lt => -1
 | .eq => 0
 | .gt => 1
theorem ordI_neg {o : Ordering} : ordI o < 0 ↔ o = .lt := by cases o <;> decide
theorem cmpInt_nat (x y : Nat) : cmp_Compare_int.f (x : Int) (y : Int) = some (ordI (compare x y)) := by
 simp only [cmp_Compare_int.f, cmp_isNaN_int.f, Option.bind_some, bne_self_eq_false, Bool.false_eq_true, if_false]
 by_cases h1 : x < y
 ·
  rw [if_pos (show (x : Int) < (y : Int) by omega), Nat.compare_eq_lt.mpr h1]; rfl
 ·
  by_cases h2 : y < x
  ·
   rw [if_neg (show ¬ ((x : Int) < (y : Int)) by omega), if_pos (show (x : Int) > (y : Int) by omega), Nat.compare_eq_gt.mpr h2]; rfl
  ·
   rw [if_neg (show ¬ ((x : Int) < (y : Int)) by omega), if_neg (show ¬ ((x : Int) > (y : Int)) by omega), Nat.compare_eq_eq.mpr (by omega)]; rfl
theorem ordI_then (a b : Ordering) : ordI (a.then b) = if ordI a = 0 then ordI b else ordI a := by cases a <;> rfl
theorem compare_step (n m : Nat) (e r f s : O) (pa pb : List S72) (hp : pa.length = pb.length) (hb : pa.length ≤ 1000000) (h1 : Ev (fun k => impl_compare.f k e.terms f.terms) (ordI (O.cmp e f)))
  (h2 : Ev (fun k => impl_compare.l0 k (pa ++ ((⟨(n : Int), O.terms e⟩ : S72) :: O.terms r)) (pb ++ ((⟨(m : Int), O.terms f⟩ : S72) :: O.terms s)) ((pa.length + 1 : Nat) : Int)) (ordI (O.cmp r s))) :
  Ev (fun k => impl_compare.l0 k (pa ++ ((⟨(n : Int), O.terms e⟩ : S72) :: O.terms r)) (pb ++ ((⟨(m : Int), O.terms f⟩ : S72) :: O.terms s)) (pa.length : Int)) (ordI (O.cmp (.c n e r) (.c m f s))) := by
 have hla : (pa ++ ((⟨(n : Int), O.terms e⟩ : S72) :: O.terms r)).length = pa.length + (r.terms.length + 1) := by simp
 have hlb : (pb ++ ((⟨(m : Int), O.terms f⟩ : S72) :: O.terms s)).length = pb.length + (s.terms.length + 1) := by simp
 have ea : rd_T72 (pa ++ ((⟨(n : Int), O.terms e⟩ : S72) :: O.terms r)) (pa.length : Int) = ⟨(n : Int), O.terms e⟩ := rd_T72_mid pa r.terms ⟨(n : Int), O.terms e⟩
 have eb : rd_T72 (pb ++ ((⟨(m : Int), O.terms f⟩ : S72) :: O.terms s)) (pa.length : Int) = ⟨(m : Int), O.terms f⟩ := by rw [hp]; exact rd_T72_mid pb s.terms ⟨(m : Int), O.terms f⟩
 generalize pa ++ ((⟨(n : Int), O.terms e⟩ : S72) :: O.terms r) = A at *
 generalize pb ++ ((⟨(m : Int), O.terms f⟩ : S72) :: O.terms s) = B at *
 have ew : wrap64 ((pa.length : Int) + 1) = ((pa.length + 1 : Nat) : Int) := wrap_nat2 pa.length 1 (by omega)
 have g1 : (pa.length : Int) < (A.length : Int) := by omega
 have g2 : (pa.length : Int) < (B.length : Int) := by omega
 refine ev_s ?_
 simp only [impl_compare.l0, if_pos g1, decide_eq_true g2]
 refine ev_s ?_
 simp only [impl_compare.j1, if_true, if_pos (show (0 : Int) ≤ (pa.length : Int) from Int.natCast_nonneg _), if_pos g1, if_pos g2, ea, eb, ew]
 refine Ev.bind h1 ?_
 rw [O.cmp, ordI_then, ordI_then]
 by_cases q1 : ordI (O.cmp e f) = 0
 ·
  simp only [if_pos q1, cmpInt_nat, Option.bind_some]
  by_cases q2 : ordI (compare n m) = 0
  ·
   simp only [if_pos q2]
   exact h2
  ·
   simp only [if_neg q2]
   exact Ev.now _
 ·
  simp only [if_neg q1]
  exact Ev.now _
theorem compare_l0 : ∀ (x y : O) (pa pb : List S72), pa.length = pb.length → pa.length + x.body.length ≤ 1000000 → pb.length + y.body.length ≤ 1000000 →
  Ev (fun k => impl_compare.l0 k (pa ++ x.terms) (pb ++ y.terms) (pa.length : Int)) (ordI (O.cmp x y))
 | .z, .z, pa, pb, hp, _, _ => by
  refine ev_s ?_
  simp only [impl_compare.l0, O.terms, List.append_nil, if_neg (show ¬ ((pa.length : Int) < (pa.length : Int)) by omega)]
  refine ev_s ?_
  simp only [impl_compare.j1, Bool.false_eq_true, if_false, cmpInt_nat, Option.bind_some, hp, Nat.compare_eq_eq.mpr]
  exact Ev.now _
 | .z, .c m f s, pa, pb, hp, _, _ => by
  refine ev_s ?_
  simp only [impl_compare.l0, O.terms, List.append_nil, if_neg (show ¬ ((pa.length : Int) < (pa.length : Int)) by omega)]
  refine ev_s ?_
  have hl : (pb ++ (⟨(m : Int), O.terms f⟩ :: O.terms s : List S72)).length = pb.length + (s.terms.length + 1) := by simp
  simp only [impl_compare.j1, Bool.false_eq_true, if_false, cmpInt_nat, Option.bind_some, hl, Nat.compare_eq_lt.mpr (show pa.length < pb.length + (s.terms.length + 1) by omega)]
  exact Ev.now _
 | .c n e r, .z, pa, pb, hp, _, _ => by
  refine ev_s ?_
  have hl : (pa ++ (⟨(n : Int), O.terms e⟩ :: O.terms r : List S72)).length = pa.length + (r.terms.length + 1) := by simp
  simp only [impl_compare.l0, O.terms, List.append_nil, hl, if_pos (show (pa.length : Int) < ((pa.length + (r.terms.length + 1) : Nat) : Int) by omega), decide_eq_false (show ¬ ((pa.length : Int) < (pb.length : Int)) by omega)]
  refine ev_s ?_
  simp only [impl_compare.j1, Bool.false_eq_true, if_false, hl, cmpInt_nat, Option.bind_some, Nat.compare_eq_gt.mpr (show pb.length < pa.length + (r.terms.length + 1) by omega)]
  exact Ev.now _
 | .c n e r, .c m f s, pa, pb, hp, ha, hb => by
  simp only [O.body, List.length_cons, List.length_append] at ha hb
  have ih1 : Ev (fun k => impl_compare.f k e.terms f.terms) (ordI (O.cmp e f)) := by
   have := compare_l0 e f [] [] rfl (by simp only [List.length_nil]; omega) (by simp only [List.length_nil]; omega)
   rw [List.nil_append, List.nil_append] at this
   refine ev_s ?_
   simp only [impl_compare.f]
   exact this
  have ih2 := compare_l0 r s (pa ++ [⟨(n : Int), e.terms⟩]) (pb ++ [⟨(m : Int), f.terms⟩]) (by simp only [List.length_append, List.length_singleton, hp]) (by simp only [List.length_append, List.length_singleton]; omega) (by simp only [List.length_append, List.length_singleton]; omega)
  simp only [List.append_assoc, List.singleton_append, List.length_append, List.length_singleton] at ih2
  exact compare_step n m e r f s pa pb hp (by omega) ih1 ih2
theorem compare_ev (x y : O) (hx : x.body.length ≤ 100000) (hy : y.body.length ≤ 100000) : Ev (fun k => impl_compare.f k x.terms y.terms) (ordI (O.cmp x y)) := by
 have := compare_l0 x y [] [] rfl (by simp; omega) (by simp; omega)
 rw [List.nil_append, List.nil_append] at this
 refine ev_s ?_
 simp only [impl_compare.f]
 exact this
def O.Sm : O → Prop
 | .z => True
 | .c n e r => (1 ≤ n ∧ n ≤ 9999) ∧ (O.Sm e ∧ e.len ≤ 60) ∧ O.Sm r ∧ O.hd e r
def LastE (pa : List S72) (r : O) : Prop := pa = [] ∨ ∃ pb m f, pa = pb ++ [⟨m, O.terms f⟩] ∧ f.body.length ≤ 100000 ∧ O.hd f r

-- part: l1Make
def zipB : List Int → List (List Int) → List Int
 | t :: ts, e :: es => t :: e ++ zipB ts es
 | _, _ => []
theorem zipB_drop {t : List Int} {e : List (List Int)} {i : Nat} (ht : i < t.length) (he : i < e.length) : zipB (t.drop i) (e.drop i) = t[i] :: e[i] ++ zipB (t.drop (i + 1)) (e.drop (i + 1)) := by
 rw [List.drop_eq_getElem_cons ht, List.drop_eq_getElem_cons he]; rfl
theorem zipB_snoc : ∀ (t : List Int) (e : List (List Int)) (n : Int) (x : List Int), t.length = e.length → zipB (t ++ [n]) (e ++ [x]) = zipB t e ++ n :: x
 | [], [], n, x, _ => by simp [zipB]
 | [], _ :: _, _, _, h => by simp at h
 | _ :: _, [], _, _, h => by simp at h
 | a :: t, b :: e, n, x, h => by
  have := zipB_snoc t e n x (by simpa using h)
  simp [zipB, this]
theorem rdL1_get {xs : List (List Int)} {i : Nat} (h : i < xs.length) : rd_L3 xs (i : Int) = xs[i] := by simp [rd_L3, h]
theorem l1Make_l0 (t : List Int) (e : List (List Int)) (hl : t.length = e.length) (hb : t.length ≤ 1000000) : ∀ (d i : Nat) (out : List Int), i + d = t.length → out.length + (zipB (t.drop i) (e.drop i)).length ≤ 1000000 → Ev (fun k => spec_l1Make.l0 k t e out (i : Int)) (out ++ zipB (t.drop i) (e.drop i)) := by
 intro d
 induction d with
 | zero =>
  intro i out h _
  refine ev_s ?_
  simp only [spec_l1Make.l0, if_neg (show ¬ ((i : Int) < (t.length : Int)) by omega)]
  rw [List.drop_of_length_le (by omega)]
  exact ev_now (by simp [zipB])
 | succ d ih =>
  intro i out h ho
  rw [zipB_drop (show i < t.length by omega) (show i < e.length by omega)] at ho
  simp only [List.length_append, List.length_cons] at ho
  refine ev_s ?_
  simp only [spec_l1Make.l0, if_pos (show (i : Int) < (t.length : Int) by omega), if_pos (show (0 : Int) ≤ (i : Int) by omega), if_pos (show (i : Int) < (e.length : Int) by omega), if_pos (show out.length < 17592186044416 by omega), Option.bind_some, rdL1_get (show i < e.length by omega), rd_get (show i < t.length by omega), show wrap64 ((i : Int) + 1) = ((i + 1 : Nat) : Int) by rw [wrap_in (by omega) (by omega)]; rfl, List.length_append, List.length_singleton, if_pos (show out.length + 1 + e[i].length < 17592186044416 by omega)]
  refine ev_eq (ih (i + 1) _ (by omega) (by simp; omega)) ?_
  rw [zipB_drop (show i < t.length by omega) (show i < e.length by omega)]
  simp
theorem l1Make_ev (t : List Int) (e : List (List Int)) (hl : t.length = e.length) (hb : t.length ≤ 100000) (hz : (zipB t e).length ≤ 100000) : Ev (fun k => spec_l1Make.f k t e) ((t.length : Int) :: zipB t e) := by
 simp only [spec_l1Make.f]
 exact l1Make_l0 t e hl (by omega) t.length 0 [(t.length : Int)] (by omega) (by simp; omega)

-- part: oSpec
theorem O.row_length (o : O) : o.row.length = o.body.length + 1 := by simp [O.row]
theorem O.body_c (n : Nat) (e r : O) : (O.c n e r).body = (n : Int) :: (e.row ++ r.body) := by simp [O.body, O.row]
def O.ns : O → List Int
 | .z => []
 | .c n _ r => (n : Int) :: O.ns r
def O.es : O → List (List Int)
 | .z => []
 | .c _ e r => e.row :: O.es r
theorem O.ns_len : ∀ o : O, o.ns.length = o.len
 | .z => rfl
 | .c n e r => by simp only [O.ns, O.len, List.length_cons, O.ns_len r]
theorem O.es_len : ∀ o : O, o.es.length = o.len
 | .z => rfl
 | .c n e r => by simp only [O.es, O.len, List.length_cons, O.es_len r]
theorem rd_L3_at (pre suf : List (List Int)) (x : List Int) : rd_L3 (pre ++ x :: suf) ((pre.length : Nat) : Int) = x := by simp [rd_L3]
theorem l1Span_l0 : ∀ (s : O) (pre t l : List Int) (i : Nat), l = pre ++ s.body ++ t → l.length ≤ 1000000 → i + s.body.length ≤ 1000000 →
  Ev (fun k => spec_l1Span.l0 k l (pre.length : Int) ((i + s.len : Nat) : Int) (i : Int)) ((pre.length + s.body.length : Nat) : Int)
 | .z, pre, t, l, i, _, _, _ => by
  refine ev_s ?_
  simp only [spec_l1Span.l0, O.len, O.body, Nat.add_zero, Int.lt_irrefl, if_false, List.length_nil]
  exact Ev.now _
 | .c n e r, pre, t, l, i, hl, hb, hi => by
  have hrl := O.row_length e
  have hbl := O.len_le e
  have hlen : l.length = pre.length + (e.body.length + r.body.length + 2) + t.length := by rw [hl, O.body_c]; simp; omega
  rw [O.body_c] at hi
  simp only [List.length_cons, List.length_append] at hi
  have he : Ev (fun k => spec_l1Span.f k l ((pre.length + 1 : Nat) : Int)) ((pre.length + 1 + e.row.length : Nat) : Int) := by
   have hp : pre.length + 1 < l.length := by omega
   have hx : rd l ((pre.length + 1 : Nat) : Int) = (e.len : Int) := by
    rw [rd_get hp]
    subst hl
    simp [O.body_c, O.row]
   have ih := l1Span_l0 e (pre ++ [(n : Int), (e.len : Int)]) (r.body ++ t) l 0 (by rw [hl]; simp [O.body_c, O.row]) hb (by omega)
   simp only [List.length_append, List.length_cons, List.length_nil, Nat.zero_add] at ih
   refine ev_s ?_
   simp only [spec_l1Span.f, if_pos (show (0 : Int) ≤ ((pre.length + 1 : Nat) : Int) by omega), if_pos (show ((pre.length + 1 : Nat) : Int) < (l.length : Int) by omega), hx, show wrap64 (((pre.length + 1 : Nat) : Int) + 1) = ((pre.length + (0 + 1 + 1) : Nat) : Int) by rw [wrap_in (by omega) (by omega)]; omega]
   exact ev_eq ih (by omega)
  have ihr := l1Span_l0 r (pre ++ (n : Int) :: e.row) t l (i + 1) (by rw [hl, O.body_c]; simp) hb (by omega)
  have hpl : (pre ++ (n : Int) :: e.row).length = pre.length + 1 + e.row.length := by simp; omega
  rw [hpl] at ihr
  refine ev_s ?_
  simp only [spec_l1Span.l0, if_pos (show (i : Int) < ((i + (O.c n e r).len : Nat) : Int) by simp only [O.len]; omega), show wrap64 ((pre.length : Int) + 1) = ((pre.length + 1 : Nat) : Int) from wrap_nat2 _ 1 (by omega), show wrap64 ((i : Int) + 1) = ((i + 1 : Nat) : Int) from wrap_nat2 i 1 (by omega)]
  refine Ev.bind he ?_
  rw [show ((i + (O.c n e r).len : Nat) : Int) = ((i + 1 + r.len : Nat) : Int) by simp only [O.len]; omega]
  exact ev_eq ihr (by rw [O.body_c]; simp only [List.length_cons, List.length_append]; omega)
theorem l1Span_row {e : O} (pre t : List Int) (hb : (pre ++ e.row ++ t).length ≤ 1000000) : Ev (fun k => spec_l1Span.f k (pre ++ e.row ++ t) (pre.length : Int)) ((pre.length + e.row.length : Nat) : Int) := by
 have hrl := O.row_length e
 have hl : (pre ++ e.row ++ t).length = pre.length + e.row.length + t.length := by simp only [List.length_append]
 have hp : pre.length < (pre ++ e.row ++ t).length := by omega
 have hx : rd (pre ++ e.row ++ t) ((pre.length : Nat) : Int) = (e.len : Int) := by rw [rd_get hp]; simp [O.row]
 have ih := l1Span_l0 e (pre ++ [(e.len : Int)]) t (pre ++ e.row ++ t) 0 (by simp [O.row]) hb (by omega)
 simp only [List.length_append, List.length_singleton, Nat.zero_add] at ih
 refine ev_s ?_
 simp only [spec_l1Span.f, if_pos (show (0 : Int) ≤ (pre.length : Int) by omega), if_pos (show (pre.length : Int) < ((pre ++ e.row ++ t).length : Int) by omega), hx, show wrap64 ((pre.length : Int) + 1) = ((pre.length + 1 : Nat) : Int) from wrap_nat2 _ 1 (by omega)]
 exact ev_eq ih (by omega)
theorem l1Terms_l0 : ∀ (s : O) (pre : List Int) (ns : List Int) (es : List (List Int)), (pre ++ s.body).length ≤ 1000000 → ns.length + s.len ≤ 1000000 → es.length + s.len ≤ 1000000 →
  Ev (fun k => spec_l1Terms.l0 k (pre ++ s.body) ns es (pre.length : Int)) (ns ++ s.ns, es ++ s.es)
 | .z, pre, ns, es, _, _, _ => by
  refine ev_s ?_
  simp only [spec_l1Terms.l0, O.body, O.ns, O.es, List.append_nil, Int.lt_irrefl, if_false]
  exact Ev.now _
 | .c n e r, pre, ns, es, hb, hn, he => by
  simp only [O.len] at hn he
  have hrl := O.row_length e
  have e0 : pre ++ (O.c n e r).body = (pre ++ [(n : Int)]) ++ e.row ++ r.body := by rw [O.body_c]; simp
  have hlen : (pre ++ (O.c n e r).body).length = pre.length + 1 + e.row.length + r.body.length := by rw [e0]; simp; omega
  have hsp := l1Span_row (e := e) (pre ++ [(n : Int)]) r.body (by rw [← e0]; exact hb)
  have hpl : (pre ++ [(n : Int)]).length = pre.length + 1 := by simp
  have hcut : (((pre ++ [(n : Int)]) ++ e.row ++ r.body).take (pre.length + 1 + e.row.length)).drop (pre.length + 1) = e.row := by
   rw [show pre.length + 1 + e.row.length = ((pre ++ [(n : Int)]) ++ e.row).length by simp; omega, List.take_left', List.drop_left' (by simp)]
   rfl
  have hx : rd ((pre ++ [(n : Int)]) ++ e.row ++ r.body) ((pre.length : Nat) : Int) = (n : Int) := by rw [rd_get (by rw [← e0]; omega)]; simp
  have ihr := l1Terms_l0 r ((pre ++ [(n : Int)]) ++ e.row) (ns ++ [(n : Int)]) (es ++ [e.row]) (by rw [← e0]; exact hb) (by simp; omega) (by simp; omega)
  have hpl2 : ((pre ++ [(n : Int)]) ++ e.row).length = pre.length + 1 + e.row.length := by simp; omega
  rw [hpl2] at ihr
  rw [hpl] at hsp
  rw [e0] at hb hlen ⊢
  generalize (pre ++ [(n : Int)]) ++ e.row ++ r.body = l at *
  refine ev_s ?_
  simp only [spec_l1Terms.l0, if_pos (show (pre.length : Int) < (l.length : Int) by omega), show wrap64 ((pre.length : Int) + 1) = ((pre.length + 1 : Nat) : Int) from wrap_nat2 _ 1 (by omega)]
  refine Ev.bind hsp ?_
  simp only [if_pos (show (0 : Int) ≤ (pre.length : Int) by omega), if_pos (show ns.length < 17592186044416 by omega), if_pos (show (0 : Int) ≤ ((pre.length + 1 : Nat) : Int) by omega), if_pos (show ((pre.length + 1 : Nat) : Int) ≤ ((pre.length + 1 + e.row.length : Nat) : Int) by omega), if_pos (show ((pre.length + 1 + e.row.length : Nat) : Int) ≤ (l.length : Int) by omega), if_pos (show es.length < 5864062014805 by omega), hx, Int.toNat_natCast, hcut]
  refine ev_eq ihr ?_
  simp [O.ns, O.es]
theorem l1Terms_ev {o : O} (hl : o.row.length ≤ 100000) : Ev (fun k => spec_l1Terms.f k o.row) (o.ns, o.es) := by
 have hr := O.row_length o
 have hle := O.len_le o
 have := l1Terms_l0 o [(o.len : Int)] [] [] (by simp; omega) (by simp; omega) (by simp; omega)
 simp only [spec_l1Terms.f]
 exact this
theorem l1Compare_l0 : ∀ (x y : O) (pa pb : List Int) (qa qb : List (List Int)), pa.length = pb.length → pa.length = qa.length → pa.length = qb.length → pa.length + x.body.length ≤ 100000 → pb.length + y.body.length ≤ 100000 →
  Ev (fun k => spec_l1Compare.l0 k (pa ++ x.ns) (qa ++ x.es) (pb ++ y.ns) (qb ++ y.es) (pa.length : Int)) (ordI (O.cmp x y))
 | .z, .z, pa, pb, qa, qb, h1, h2, h3, _, _ => by
  refine ev_s ?_
  simp only [spec_l1Compare.l0, O.ns, O.es, List.append_nil, Int.lt_irrefl, if_false]
  refine ev_s ?_
  simp only [spec_l1Compare.j1, Bool.false_eq_true, if_false, h1, Int.lt_irrefl, if_neg (show ¬ ((pb.length : Int) > (pb.length : Int)) by omega)]
  exact Ev.now _
 | .z, .c m f s, pa, pb, qa, qb, h1, h2, h3, _, _ => by
  refine ev_s ?_
  simp only [spec_l1Compare.l0, O.ns, O.es, List.append_nil, Int.lt_irrefl, if_false]
  refine ev_s ?_
  simp only [spec_l1Compare.j1, Bool.false_eq_true, if_false, if_pos (show (pa.length : Int) < ((pb ++ (m : Int) :: s.ns).length : Int) by simp; omega)]
  exact Ev.now _
 | .c n e r, .z, pa, pb, qa, qb, h1, h2, h3, _, _ => by
  refine ev_s ?_
  simp only [spec_l1Compare.l0, O.ns, O.es, List.append_nil, if_pos (show (pa.length : Int) < ((pa ++ (n : Int) :: r.ns).length : Int) by simp; omega), decide_eq_false (show ¬ ((pa.length : Int) < (pb.length : Int)) by omega)]
  refine ev_s ?_
  simp only [spec_l1Compare.j1, Bool.false_eq_true, if_false, if_neg (show ¬ (((pa ++ (n : Int) :: r.ns).length : Int) < (pb.length : Int)) by simp; omega), if_pos (show (((pa ++ (n : Int) :: r.ns).length : Int) > (pb.length : Int)) by simp; omega)]
  exact Ev.now _
 | .c n e r, .c m f s, pa, pb, qa, qb, h1, h2, h3, ha, hb => by
  rw [O.body_c] at ha hb
  simp only [List.length_cons, List.length_append] at ha hb
  have hre := O.row_length e
  have hrf := O.row_length f
  have ih1 : Ev (fun k => spec_l1Compare.f k e.row f.row) (ordI (O.cmp e f)) := by
   have := l1Compare_l0 e f [] [] [] [] rfl rfl rfl (by simp only [List.length_nil]; omega) (by simp only [List.length_nil]; omega)
   simp only [List.nil_append] at this
   refine ev_s ?_
   simp only [spec_l1Compare.f]
   refine Ev.bind (l1Terms_ev (by omega)) ?_
   exact Ev.bind (l1Terms_ev (by omega)) this
  have ih2 := l1Compare_l0 r s (pa ++ [(n : Int)]) (pb ++ [(m : Int)]) (qa ++ [e.row]) (qb ++ [f.row]) (by simp [h1]) (by simp [h2]) (by simp [h3]) (by simp; omega) (by simp; omega)
  simp only [List.append_assoc, List.singleton_append, List.length_append, List.length_singleton] at ih2
  simp only [O.ns, O.es]
  have ea : rd (pa ++ (n : Int) :: r.ns) (pa.length : Int) = (n : Int) := by rw [rd_eq]; simp
  have eb : rd (pb ++ (m : Int) :: s.ns) (pa.length : Int) = (m : Int) := by rw [h1, rd_eq]; simp
  have ec : rd_L3 (qa ++ e.row :: r.es) (pa.length : Int) = e.row := by rw [h2]; exact rd_L3_at qa r.es e.row
  have ed : rd_L3 (qb ++ f.row :: s.es) (pa.length : Int) = f.row := by rw [h3]; exact rd_L3_at qb s.es f.row
  have g1 : (pa.length : Int) < ((pa ++ (n : Int) :: r.ns).length : Int) := by simp; omega
  have g2 : (pa.length : Int) < ((pb ++ (m : Int) :: s.ns).length : Int) := by simp; omega
  have g3 : (pa.length : Int) < ((qa ++ e.row :: r.es).length : Int) := by simp; omega
  have g4 : (pa.length : Int) < ((qb ++ f.row :: s.es).length : Int) := by simp; omega
  refine ev_s ?_
  simp only [spec_l1Compare.l0, if_pos g1, decide_eq_true g2]
  refine ev_s ?_
  simp only [spec_l1Compare.j1, if_true, if_pos (show (0 : Int) ≤ (pa.length : Int) from Int.natCast_nonneg _), if_pos g1, if_pos g2, if_pos g3, if_pos g4, ea, eb, ec, ed, show wrap64 ((pa.length : Int) + 1) = ((pa.length + 1 : Nat) : Int) from wrap_nat2 _ 1 (by omega)]
  refine Ev.bind ih1 ?_
  rw [O.cmp, ordI_then, ordI_then]
  by_cases q1 : ordI (O.cmp e f) = 0
  ·
   simp only [if_pos q1]
   rcases Nat.lt_trichotomy n m with h | h | h
   ·
    simp only [if_neg (show ¬ ((n : Int) = (m : Int)) by omega), if_pos (show (n : Int) < (m : Int) by omega), Nat.compare_eq_lt.mpr h, ordI, show ¬ ((-1 : Int) = 0) by decide, if_false]
    exact Ev.now _
   ·
    subst h
    simp only [if_true, Nat.compare_eq_eq.mpr, ordI]
    exact ih2
   ·
    simp only [if_neg (show ¬ ((n : Int) = (m : Int)) by omega), if_neg (show ¬ ((n : Int) < (m : Int)) by omega), Nat.compare_eq_gt.mpr h, ordI, show ¬ ((1 : Int) = 0) by decide, if_false]
    exact Ev.now _
  ·
   simp only [if_neg q1]
   exact Ev.now _
theorem l1Compare_ev (x y : O) (hx : x.row.length ≤ 50000) (hy : y.row.length ≤ 50000) : Ev (fun k => spec_l1Compare.f k x.row y.row) (ordI (O.cmp x y)) := by
 have hrx := O.row_length x
 have hry := O.row_length y
 have := l1Compare_l0 x y [] [] [] [] rfl rfl rfl (by simp; omega) (by simp; omega)
 simp only [List.nil_append] at this
 refine ev_s ?_
 simp only [spec_l1Compare.f]
 refine Ev.bind (l1Terms_ev (by omega)) ?_
 exact Ev.bind (l1Terms_ev (by omega)) this

-- part: coreStep
def O.kind : O → Nat
 | .z => 0
 | .c _ .z .z => 1
 | .c _ (.c ..) .z => 2
 | .c _ _ (.c n e r) => O.kind (.c n e r)
def O.before : O → O
 | .z => .z
 | .c n e .z => if n = 1 then .z else .c (n - 1) e .z
 | .c n e (.c m f r) => .c n e (O.before (.c m f r))
def O.step (k : Nat) : O → O
 | .z => .z
 | .c n .z .z => O.before (.c n .z .z)
 | .c n (.c m f r) .z =>
  if O.kind (.c m f r) = 2 then O.app (O.before (.c n (.c m f r) .z)) (.c 1 (O.step k (.c m f r)) .z)
  else if k = 0 then O.before (.c n (.c m f r) .z)
  else O.app (O.before (.c n (.c m f r) .z)) (.c k (O.before (.c m f r)) .z)
 | .c n e (.c m f r) => .c n e (O.step k (.c m f r))

-- part: coreH
def H.ord : H → O
 | .nul => .z
 | .cons b r => O.ins (H.ord b) (H.ord r)
def H.size : H → Nat
 | .nul => 1
 | .cons b r => H.size b + H.size r
theorem H.size_pos : ∀ h : H, 1 ≤ h.size
 | .nul => Nat.le_refl _
 | .cons b r => by have := H.size_pos r; simp only [H.size]; omega
theorem H.ord_NF : ∀ h : H, O.NF h.ord
 | .nul => trivial
 | .cons b r => O.ins_NF (H.ord_NF b) (H.ord_NF r)
def H.le (e : O) : H → Prop
 | .nul => True
 | .cons b _ => O.cmp b.ord e ≠ .gt
def H.sorted : H → Prop
 | .nul => True
 | .cons b r => H.sorted b ∧ H.sorted r ∧ H.le b.ord r
def H.rep : Nat → H → H → H
 | 0, _, r => r
 | k + 1, b, r => .cons b (H.rep k b r)
def H.of : O → H
 | .z => .nul
 | .c n e r => H.rep n (H.of e) (H.of r)
def O.size : O → Nat
 | .z => 1
 | .c n e r => n * O.size e + O.size r

theorem H.rep_size (b r : H) : ∀ k, (H.rep k b r).size = k * b.size + r.size
 | 0 => by simp [H.rep]
 | k + 1 => by simp only [H.rep, H.size, H.rep_size b r k, Nat.add_mul]; omega
theorem H.of_size : ∀ o : O, (H.of o).size = o.size
 | .z => rfl
 | .c n e r => by rw [H.of, H.rep_size, H.of_size e, H.of_size r]; rfl
theorem O.ins_size (e : O) : ∀ x : O, (O.ins e x).size = e.size + x.size
 | .z => by simp [O.ins, O.size]
 | .c n f r => by
  unfold O.ins
  cases hc : O.cmp f e with
  | gt => simp only [O.size, O.ins_size e r]; omega
  | eq => rw [← O.eq_of_cmp _ _ hc]; simp only [O.size, Nat.add_mul]; omega
  | lt => simp only [O.size]; omega
theorem H.ord_size : ∀ h : H, h.ord.size = h.size
 | .nul => rfl
 | .cons b r => by rw [H.ord, O.ins_size, H.ord_size b, H.ord_size r]; rfl

theorem H.rep_ord (b r : H) : ∀ k, (H.rep k b r).ord = O.insk b.ord k r.ord
 | 0 => rfl
 | k + 1 => by simp only [H.rep, H.ord, H.rep_ord b r k, O.insk]
theorem O.insk_big {e x : O} (h : O.hd e x) : ∀ k, 1 ≤ k → O.insk e k x = .c k e x
 | 1, _ => O.ins_big h
 | k + 2, _ => by rw [O.insk, O.insk_big h (k + 1) (by omega)]; simp [O.ins, O.cmp_self]
theorem H.ord_of : ∀ o : O, O.NF o → (H.of o).ord = o
 | .z, _ => rfl
 | .c n e r, h => by
  rw [H.of, H.rep_ord, H.ord_of e h.2.1, H.ord_of r h.2.2.1, O.insk_big h.2.2.2 n h.1]
theorem H.le_of_hd {e : O} : ∀ {o : O}, O.NF o → O.hd e o → H.le e (H.of o)
 | .z, _, _ => trivial
 | .c n f r, hn, h => by
  obtain ⟨m, rfl⟩ : ∃ m, n = m + 1 := ⟨n - 1, by have := hn.1; omega⟩
  simp only [H.of, H.rep, H.le]
  rw [H.ord_of f hn.2.1, show O.cmp f e = .lt from h]; simp
theorem H.rep_sorted {b r : H} (hb : b.sorted) (hr : r.sorted) (h : H.le b.ord r) : ∀ k, (H.rep k b r).sorted
 | 0 => hr
 | k + 1 => ⟨hb, H.rep_sorted hb hr h k, by
  cases k with
  | zero => exact h
  | succ k => simp [H.rep, H.le, O.cmp_self]⟩
theorem H.of_sorted : ∀ o : O, O.NF o → (H.of o).sorted
 | .z, _ => trivial
 | .c n e r, h => H.rep_sorted (H.of_sorted e h.2.1) (H.of_sorted r h.2.2.1) (by rw [H.ord_of e h.2.1]; exact H.le_of_hd h.2.2.1 h.2.2.2) n


theorem H.ord_head : ∀ {b r : H}, (H.cons b r).sorted → ∃ n s, (H.cons b r).ord = .c n b.ord s
 | b, .nul, _ => ⟨1, .z, rfl⟩
 | b, .cons b' r', h => by
  obtain ⟨n, s, hs⟩ := H.ord_head h.2.1
  have hle : O.cmp b'.ord b.ord ≠ .gt := h.2.2
  rw [H.ord, hs]
  cases hc : O.cmp b'.ord b.ord with
  | gt => exact absurd hc hle
  | eq => exact ⟨n + 1, s, by rw [O.ins, hc, O.eq_of_cmp _ _ hc]⟩
  | lt => exact ⟨1, _, by rw [O.ins, hc]⟩
theorem H.ord_le {b r : H} (h : (H.cons b r).sorted) : O.hd b.ord r.ord ∨ ∃ n s, r.ord = .c n b.ord s := by
 cases r with
 | nul => exact .inl trivial
 | cons b' r' =>
  obtain ⟨n, s, hs⟩ := H.ord_head h.2.1
  have hle : O.cmp b'.ord b.ord ≠ .gt := h.2.2
  rw [hs]
  cases hc : O.cmp b'.ord b.ord with
  | gt => exact absurd hc hle
  | eq => exact .inr ⟨n, s, by rw [O.eq_of_cmp _ _ hc]⟩
  | lt => exact .inl hc
theorem H.of_ins {e x : O} (h : O.hd e x ∨ ∃ n s, x = .c n e s) : H.of (O.ins e x) = .cons (H.of e) (H.of x) := by
 rcases h with h | ⟨n, s, rfl⟩
 ·
  rw [O.ins_big h]; rfl
 ·
  simp [O.ins, O.cmp_self, H.of, H.rep]
theorem H.of_ord : ∀ h : H, h.sorted → H.of h.ord = h
 | .nul, _ => rfl
 | .cons b r, h => by rw [H.ord, H.of_ins (H.ord_le h), H.of_ord b h.1, H.of_ord r h.2.1]

def H.isort (h : H) : H := H.of h.ord
theorem H.isort_sorted (h : H) : h.isort.sorted := H.of_sorted _ h.ord_NF
theorem H.isort_ord (h : H) : h.isort.ord = h.ord := H.ord_of _ h.ord_NF
theorem H.isort_size (h : H) : h.isort.size = h.size := by rw [H.isort, H.of_size, H.ord_size]
theorem H.isort_unique {g h : H} (hg : g.sorted) (he : g.ord = h.ord) : g = h.isort := by rw [H.isort, ← he, H.of_ord g hg]
theorem H.isort_eq_iff (g h : H) : g.isort = h.isort ↔ g.ord = h.ord := ⟨fun e => by rw [← g.isort_ord, e, h.isort_ord], fun e => by rw [H.isort, e]; rfl⟩

def O.tail (k : Nat) (e : O) : O := if O.kind e = 2 then .c 1 (O.step k e) .z else if k = 0 then .z else .c k (O.before e) .z
def H.cutLast (k : Nat) : H → H × Bool
 | .nul => (.nul, false)
 | .cons .nul .nul => (.nul, true)
 | .cons (.cons b s) .nul => (H.rep (if (H.cutLast k (.cons b s)).2 = true then k else 1) (H.cutLast k (.cons b s)).1 .nul, false)
 | .cons b (.cons b' r) => (.cons b (H.cutLast k (.cons b' r)).1, (H.cutLast k (.cons b' r)).2)

theorem H.le_trans' {e f : O} (h : O.cmp e f = .lt) : ∀ {r : H}, H.le e r → H.le f r
 | .nul, _ => trivial
 | .cons b r, h' => by
  have h'' : O.cmp b.ord e ≠ .gt := h'
  show O.cmp b.ord f ≠ .gt
  cases hc : O.cmp b.ord e with
  | gt => exact absurd hc h''
  | eq => rw [O.eq_of_cmp _ _ hc, h]; simp
  | lt => rw [O.lt_trans _ _ _ hc h]; simp
def H.heads : H → Nat
 | .nul => 0
 | .cons .nul r => 1 + H.heads r
 | .cons (.cons b s) r => H.heads (.cons b s) + H.heads r
def H.cutAt (k : Nat) : H → Nat → H × Bool
 | .nul, _ => (.nul, false)
 | .cons .nul r, 0 => (r, true)
 | .cons .nul r, j + 1 => (.cons .nul (H.cutAt k r j).1, (H.cutAt k r j).2)
 | .cons (.cons b s) r, j =>
  if j < H.heads (.cons b s) then (H.rep (if (H.cutAt k (.cons b s) j).2 = true then k else 1) (H.cutAt k (.cons b s) j).1 r, false)
  else (.cons (.cons b s) (H.cutAt k r (j - H.heads (.cons b s))).1, (H.cutAt k r (j - H.heads (.cons b s))).2)
theorem rd_L3_get {x : List (List Int)} {i : Nat} (h : i < x.length) : rd_L3 x (i : Int) = x[i] := by simp [rd_L3, h]
theorem l5Tree_l0 (x : List (List Int)) (hx : x.length ≤ 1000000) : ∀ (d i : Nat) (out : List Int), i + d = x.length → out.length + (x.drop i).flatten.length ≤ 1000000 → Ev (fun k => spec_l5Tree.l0 k x out (i : Int)) (out ++ (x.drop i).flatten)
 | 0, i, out, h, _ => by
  refine ev_s ?_
  simp only [spec_l5Tree.l0, if_neg (show ¬ ((i : Int) < (x.length : Int)) by omega)]
  rw [List.drop_eq_nil_of_le (by omega)]
  exact ev_now (by simp)
 | d + 1, i, out, h, hl => by
  have hi : i < x.length := by omega
  rw [List.drop_eq_getElem_cons hi, List.flatten_cons] at hl ⊢
  simp only [List.length_append] at hl
  refine ev_s ?_
  simp only [spec_l5Tree.l0, if_pos (show (i : Int) < (x.length : Int) by omega), if_pos (show 0 ≤ (i : Int) by omega), rd_L3_get hi, if_pos (show out.length + x[i].length < 17592186044416 by omega), show wrap64 ((i : Int) + 1) = ((i + 1 : Nat) : Int) from wrap_nat2 i 1 (by omega)]
  exact ev_eq (l5Tree_l0 x hx d (i + 1) (out ++ x[i]) (by omega) (by simp only [List.length_append]; omega)) (by simp)
theorem l5Tree_ev (x : List (List Int)) (hx : x.length ≤ 1000000) (hl : x.flatten.length ≤ 999999) : Ev (fun k => spec_l5Tree.f k x) ((x.length : Int) :: x.flatten) := by
 have := l5Tree_l0 x hx x.length 0 [(x.length : Int)] (by omega) (by simp only [List.drop_zero, List.length_singleton]; omega)
 exact ev_eq this (by simp)

-- part: hApp
theorem H.row_size : ∀ h : H, h.row.length = h.size
 | .nul => rfl
 | .cons b r => by
  have h1 := H.row_size b
  have h2 := H.row_size r
  rw [H.row_length] at h2 ⊢
  rw [H.body_cons, List.length_append, H.size]; omega
def H.app : H → H → H
 | .nul, h => h
 | .cons b r, h => .cons b (H.app r h)
theorem H.app_nul : ∀ g : H, H.app g .nul = g
 | .nul => rfl
 | .cons b r => by rw [H.app, H.app_nul r]
theorem H.app_assoc : ∀ a b c : H, H.app (H.app a b) c = H.app a (H.app b c)
 | .nul, _, _ => rfl
 | .cons x r, b, c => by simp only [H.app, H.app_assoc r b c]
theorem H.app_size : ∀ g h : H, (H.app g h).size + 1 = g.size + h.size
 | .nul, h => by simp only [H.app, H.size]; omega
 | .cons b r, h => by have := H.app_size r h; simp only [H.app, H.size]; omega
theorem H.app_rows : ∀ g h : H, (H.app g h).rows = g.rows ++ h.rows
 | .nul, _ => rfl
 | .cons b r, h => by simp only [H.app, H.rows, H.app_rows r h, List.cons_append]
theorem H.app_terms : ∀ g h : H, (H.app g h).terms = g.terms ++ h.terms
 | .nul, _ => rfl
 | .cons b r, h => by simp only [H.app, H.terms, H.app_terms r h, List.cons_append]
theorem H.len_size (h : H) : h.len + 1 ≤ h.size := by have := H.len_le h; have := H.row_size h; have := H.row_length h; omega
theorem O.size_pos : ∀ o : O, 1 ≤ o.size
 | .z => Nat.le_refl _
 | .c n e r => by have := O.size_pos r; simp only [O.size]; omega
theorem H.rows_flat' (h : H) : ((h.rows.length : Nat) : Int) :: h.rows.flatten = h.row := by rw [H.rows_len, H.rows_flat]; rfl
theorem l5Tree_rows {h : H} (hs : h.size ≤ 1000) : Ev (fun k => spec_l5Tree.f k h.rows) h.row := by
 have h1 := H.row_size h
 have h2 := H.row_length h
 have h3 := H.len_le h
 have h4 := H.rows_len h
 have h5 := H.rows_flat h
 refine ev_eq (l5Tree_ev h.rows (by omega) (by rw [h5]; omega)) (H.rows_flat' h)
section
variable {α : Type}
def Srt (lt : α → α → Bool) (l : List α) : Prop := l.Pairwise (fun x y => lt y x = false)
structure LtOk (lt : α → α → Bool) : Prop where
 asym : ∀ x y, lt x y = true → lt y x = false
 trans : ∀ x y z, lt y x = false → lt z y = false → lt z x = false
theorem srt_unique {lt : α → α → Bool} : ∀ {x y : List α}, (∀ a ∈ x, ∀ b ∈ x, lt a b = false → lt b a = false → a = b) → Srt lt x → Srt lt y → x.Perm y → x = y
 | [], y, _, _, _, h => (List.Perm.nil_eq h)
 | a :: x, [], _, _, _, h => absurd h.length_eq (by simp)
 | a :: x, b :: y, he, hx, hy, h => by
  have hab : a = b := by
   have h1 : b ∈ a :: x := h.mem_iff.mpr List.mem_cons_self
   have h2 : a ∈ b :: y := h.mem_iff.mp List.mem_cons_self
   rcases List.mem_cons.mp h1 with rfl | h1'
   ·
    rfl
   ·
    rcases List.mem_cons.mp h2 with rfl | h2'
    ·
     rfl
    ·
     exact he a List.mem_cons_self b h1 ((List.pairwise_cons.mp hy).1 a h2') ((List.pairwise_cons.mp hx).1 b h1')
  subst hab
  rw [srt_unique (fun u hu v hv => he u (List.mem_cons_of_mem _ hu) v (List.mem_cons_of_mem _ hv)) (List.pairwise_cons.mp hx).2 (List.pairwise_cons.mp hy).2 (List.perm_cons a |>.mp h)]
end

-- part: coreSort
def H.list : H → List H
 | .nul => []
 | .cons b r => b :: H.list r
theorem H.list_terms : ∀ h : H, h.terms = h.list.map (fun b => (⟨b.terms⟩ : S46))
 | .nul => rfl
 | .cons b r => by rw [H.terms, H.list, List.map_cons, H.list_terms r]
def H.mapS : H → H
 | .nul => .nul
 | .cons b r => .cons b.isort (H.mapS r)
theorem H.mapS_ord : ∀ h : H, (H.mapS h).ord = h.ord
 | .nul => rfl
 | .cons b r => by simp only [H.mapS, H.ord, H.isort_ord, H.mapS_ord r]
theorem H.list_size : ∀ (h b : H), b ∈ h.list → b.size < h.size
 | .nul, b, hb => by simp [H.list] at hb
 | .cons c r, b, hb => by
  have h1 := H.size_pos r
  have h2 := H.size_pos c
  simp only [H.list, List.mem_cons] at hb
  simp only [H.size]
  rcases hb with rfl | hb
  ·
   omega
  ·
   have := H.list_size r b hb; omega
theorem H.list_app : ∀ g h : H, (H.app g h).list = g.list ++ h.list
 | .nul, _ => rfl
 | .cons b r, h => by simp only [H.app, H.list, H.list_app r h, List.cons_append]
theorem H.rep_list (b r : H) : ∀ n, (H.rep n b r).list = List.replicate n b ++ r.list
 | 0 => by simp [H.rep]
 | n + 1 => by rw [H.rep, H.list, H.rep_list b r n, List.replicate_succ]; rfl
theorem H.of_ins_perm (e : O) : ∀ x : O, (H.of (O.ins e x)).list.Perm (H.of e :: (H.of x).list)
 | .z => by simp [O.ins, H.of, H.rep, H.list]
 | .c n f r => by
  have ih := H.of_ins_perm e r
  unfold O.ins
  cases hc : O.cmp f e with
  | gt =>
   simp only [H.of, H.rep_list]
   refine (List.Perm.append_left _ ih).trans ?_
   exact List.perm_middle
  | eq =>
   rw [← O.eq_of_cmp _ _ hc]
   simp only [H.of, H.rep_list, List.replicate_succ, List.cons_append]
   exact List.Perm.refl _
  | lt =>
   simp only [H.of, H.rep_list, H.rep, H.list]
   exact List.Perm.refl _
theorem H.of_perm : ∀ (g : H), (∀ b ∈ g.list, b.sorted) → (H.of g.ord).list.Perm g.list
 | .nul, _ => List.Perm.refl _
 | .cons b r, h => by
  have ih := H.of_perm r (fun c hc => h c (List.mem_cons_of_mem _ hc))
  have hb := H.of_ord b (h b List.mem_cons_self)
  rw [H.ord]
  refine (H.of_ins_perm b.ord r.ord).trans ?_
  rw [hb]
  exact List.Perm.cons b ih
theorem O.le_trans' {a b c : O} (h1 : O.cmp a b ≠ .gt) (h2 : O.cmp b c ≠ .gt) : O.cmp a c ≠ .gt := by
 cases h : O.cmp a b with
 | gt => exact absurd h h1
 | eq => rw [O.eq_of_cmp _ _ h]; exact h2
 | lt =>
  cases h' : O.cmp b c with
  | gt => exact absurd h' h2
  | eq => rw [← O.eq_of_cmp _ _ h', h]; simp
  | lt => rw [O.lt_trans _ _ _ h h']; simp
theorem H.sorted_pair : ∀ {g : H}, g.sorted → g.list.Pairwise (fun a b => O.cmp b.ord a.ord ≠ .gt)
 | .nul, _ => List.Pairwise.nil
 | .cons b .nul, _ => List.pairwise_singleton _ _
 | .cons b (.cons c r), h => by
  have ih := H.sorted_pair h.2.1
  refine List.pairwise_cons.mpr ⟨fun x hx => ?_, ih⟩
  have hbc : O.cmp c.ord b.ord ≠ .gt := h.2.2
  simp only [H.list, List.mem_cons] at hx
  rcases hx with rfl | hx
  ·
   exact hbc
  ·
   exact O.le_trans' ((List.pairwise_cons.mp ih).1 x hx) hbc
def H.gt (a b : H) : Bool := decide (O.cmp b.ord a.ord = .lt)
theorem H.gt_false {a b : H} : H.gt a b = false ↔ O.cmp b.ord a.ord ≠ .lt := by simp [H.gt]
theorem H.gt_true {a b : H} : H.gt a b = true ↔ O.cmp b.ord a.ord = .lt := by simp [H.gt]
theorem O.not_lt {a b : O} : O.cmp a b ≠ .lt ↔ O.cmp b a ≠ .gt := by rw [Ne, Ne, O.cmp_gt_iff]
theorem H.gt_trans {a b c : H} (h1 : H.gt a b = true) (h2 : H.gt b c = true) : H.gt a c = true := by
 rw [H.gt_true] at *; exact O.lt_trans _ _ _ h2 h1
theorem H.gt_ntrans {a b c : H} (h1 : H.gt a b = false) (h2 : H.gt b c = false) : H.gt a c = false := by
 rw [H.gt_false, O.not_lt] at *; exact O.le_trans' h1 h2
theorem H.gt_irr (a : H) : H.gt a a = false := by rw [H.gt_false, O.cmp_self]; simp
theorem H.gt_same {a b : H} (h1 : H.gt a b = false) (h2 : H.gt b a = false) : a.ord = b.ord := by
 rw [H.gt_false] at *
 rcases O.cmp_tri a.ord b.ord with h | h | h
 ·
  exact absurd h h2
 ·
  exact h
 ·
  exact absurd h h1
theorem H.sort_list {g : H} (hg : ∀ b ∈ g.list, b.sorted) : g.list.mergeSort (fun x y => !H.gt y x) = (H.of g.ord).list := by
 have hp := H.of_perm g hg
 have s2 := H.sorted_pair (H.of_sorted g.ord g.ord_NF)
 have s1 := List.pairwise_mergeSort (le := fun x y : H => !H.gt y x) (fun a b c h1 h2 => by
   simp only [Bool.not_eq_true'] at h1 h2 ⊢
   exact H.gt_ntrans h2 h1) (fun a b => by
   cases e1 : H.gt b a with
   | false => rfl
   | true =>
    cases e2 : H.gt a b with
    | false => rfl
    | true => have := H.gt_trans e2 e1; rw [H.gt_irr] at this; cases this) g.list
 refine srt_unique (lt := H.gt) ?_ ?_ ?_ ?_
 ·
  intro a ha b hb h1 h2
  have ha' : a ∈ g.list := (List.mergeSort_perm _ _).mem_iff.mp ha
  have hb' : b ∈ g.list := (List.mergeSort_perm _ _).mem_iff.mp hb
  have := H.gt_same h1 h2
  rw [← H.of_ord a (hg a ha'), ← H.of_ord b (hg b hb'), this]
 ·
  exact s1.imp (fun h => by simpa using h)
 ·
  exact s2.imp (fun h => by rw [H.gt_false, O.not_lt]; rw [Ne, O.cmp_gt_iff] at h ⊢; exact h)
 ·
  exact (List.mergeSort_perm _ _).trans hp.symm

-- part: told
def O.most : O → Nat
 | .z => 0
 | .c n e r => max (max n (O.most e)) (O.most r)
def O.fit (x : O) : List Int × Bool := if x.row.length ≤ 60 ∧ x.most ≤ 9999 then (x.row, true) else ([], false)
theorem O.row_le_size : ∀ {x : O}, x.NF → x.row.length + 1 ≤ 2 * x.size
 | .z, _ => by simp [O.row, O.body, O.size]
 | .c n e r, h => by
  have h1 := O.row_le_size h.2.1
  have h2 := O.row_le_size h.2.2.1
  have h3 : e.size ≤ n * e.size := Nat.le_mul_of_pos_left _ h.1
  rw [O.row_length] at h2 ⊢
  rw [O.body_c]
  simp only [List.length_cons, List.length_append, O.size]
  omega
theorem O.num_le_size (n : Nat) (e r : O) : n + 1 ≤ (O.c n e r).size := by
 have h1 := O.size_pos e
 have h2 := O.size_pos r
 have h3 : n ≤ n * e.size := Nat.le_mul_of_pos_right _ h1
 simp only [O.size]; omega
def H.ordA : H → O → O
 | .nul, x => x
 | .cons b r, x => O.ins b.ord (H.ordA r x)
theorem H.ordA_NF : ∀ (h : H) {x : O}, x.NF → (H.ordA h x).NF
 | .nul, _, hx => hx
 | .cons b r, _, hx => O.ins_NF (H.ord_NF b) (H.ordA_NF r hx)
theorem H.ordA_ins (e : O) : ∀ (h : H) {x : O}, x.NF → H.ordA h (O.ins e x) = O.ins e (H.ordA h x)
 | .nul, _, _ => rfl
 | .cons b r, x, hx => by rw [H.ordA, H.ordA_ins e r hx, O.ins_comm _ _ _ (H.ordA_NF r hx)]; rfl
theorem H.ordA_z : ∀ h : H, H.ordA h .z = h.ord
 | .nul => rfl
 | .cons b r => by rw [H.ordA, H.ordA_z r]; rfl
theorem natural_l0 (e : O) (he : e.body.length ≤ 100000) : ∀ (x : O) (out : List S72), x.NF → x.size ≤ 10000 → x.body.length ≤ 100000 → out.length + x.size ≤ 100000 →
  Ev (fun k => impl_natural.l0 k x.terms [⟨1, e.terms⟩] out) (out ++ (O.ins e x).terms) := by
 have none_ : ∀ (x : List S72) (out : List S72), out.length + x.length ≤ 1000000 → Ev (fun k => impl_natural.l0 k x [] out) (out ++ x) := by
  intro x out h
  refine ev_s ?_
  have hj : Ev (fun k => impl_natural.j1 k x [] out false) (out ++ x) := by
   refine ev_s ?_
   simp only [impl_natural.j1, Bool.false_eq_true, if_false, if_pos (show out.length + x.length < 4398046511104 by omega), Option.bind_some, List.length_append, List.length_nil, if_pos (show out.length + x.length + 0 < 4398046511104 by omega), List.append_nil]
   exact Ev.now _
  by_cases hx : (x.length : Int) > 0
  ·
   simp only [impl_natural.l0, if_pos hx, List.length_nil, decide_eq_false (show ¬ (((0 : Nat) : Int) > 0) by omega)]; exact hj
  ·
   simp only [impl_natural.l0, if_neg hx]; exact hj
 intro x
 induction x with
 | z =>
  intro out _ _ _ ho
  refine ev_s ?_
  simp only [impl_natural.l0, O.terms, List.length_nil, if_neg (show ¬ (((0 : Nat) : Int) > 0) by omega)]
  refine ev_s ?_
  simp only [impl_natural.j1, Bool.false_eq_true, if_false, List.length_nil, Nat.add_zero, if_pos (show out.length < 4398046511104 by omega), List.append_nil, Option.bind_some, List.length_singleton, if_pos (show out.length + 1 < 4398046511104 by omega), O.ins, O.terms]
  exact Ev.now _
 | c n f r _ ihr =>
  intro out hx hz hb ho
  have hnl := O.num_le_size n f r
  have hrow := O.row_length f
  rw [O.body_c] at hb
  simp only [List.length_cons, List.length_append] at hb
  have hsz : (O.c n f r).size = n * f.size + r.size := rfl
  have hnf : n ≤ n * f.size := Nat.le_mul_of_pos_right _ (O.size_pos f)
  have hr1 := O.size_pos r
  have hrl : r.terms.length ≤ r.body.length := by rw [O.terms_len]; exact O.len_le r
  have g1 : ((O.c n f r).terms.length : Int) > 0 := by simp [O.terms]
  have e0 : rd_T72 (O.c n f r).terms 0 = ⟨(n : Int), f.terms⟩ := by simp [O.terms, rd_T72]
  have e1 : rd_T72 [(⟨1, e.terms⟩ : S72)] 0 = ⟨1, e.terms⟩ := by simp [rd_T72]
  have ed : (O.c n f r).terms.drop 1 = r.terms := rfl
  have ed1 : [(⟨1, e.terms⟩ : S72)].drop 1 = [] := rfl
  refine ev_s ?_
  simp only [impl_natural.l0, if_pos g1, List.length_singleton, decide_eq_true (show ((1 : Nat) : Int) > 0 by omega)]
  refine ev_s ?_
  simp only [impl_natural.j1, if_true, if_pos (show (0 : Int) < ((O.c n f r).terms.length : Int) from g1), List.length_singleton, if_pos (show (0 : Int) < ((1 : Nat) : Int) by omega), e0, e1]
  refine Ev.bind (compare_ev f e (by omega) he) ?_
  have hord : O.ins e (.c n f r) = match O.cmp f e with | .gt => .c n f (O.ins e r) | .eq => .c (n + 1) f r | .lt => .c 1 e (.c n f r) := rfl
  rw [hord]
  cases hc : O.cmp f e with
  | gt =>
   simp only [ordI, if_pos (show (1 : Int) > 0 by decide), if_pos (show out.length < 4398046511104 by omega), if_pos (show (1 : Int) ≤ ((O.c n f r).terms.length : Int) by omega), ed]
   refine ev_eq (ihr (out ++ [⟨(n : Int), f.terms⟩]) hx.2.2.1 (by omega) (by omega) (by simp only [List.length_append, List.length_singleton]; have := hx.1; omega)) ?_
   simp [O.terms]
  | lt =>
   simp only [ordI, if_neg (show ¬ ((-1 : Int) > 0) by decide), if_pos (show (-1 : Int) < 0 by decide), if_pos (show out.length < 4398046511104 by omega), if_pos (show (1 : Int) ≤ ((1 : Nat) : Int) by omega), ed1]
   refine ev_eq (none_ (O.c n f r).terms (out ++ [⟨1, e.terms⟩]) (by simp [O.terms]; omega)) ?_
   simp [O.terms]
  | eq =>
   simp only [ordI, if_neg (show ¬ ((0 : Int) > 0) by decide), if_neg (show ¬ ((0 : Int) < 0) by decide), if_pos (show out.length < 4398046511104 by omega), if_pos (show (1 : Int) ≤ ((O.c n f r).terms.length : Int) by omega), if_pos (show (1 : Int) ≤ ((1 : Nat) : Int) by omega), ed, ed1, show wrap64 ((n : Int) + 1) = ((n + 1 : Nat) : Int) from wrap_nat2 n 1 (by omega)]
   refine ev_eq (none_ r.terms (out ++ [⟨((n + 1 : Nat) : Int), f.terms⟩]) (by simp; omega)) ?_
   simp [O.terms]
theorem natural_ev {e x : O} (he : e.body.length ≤ 100000) (hx : x.NF) (hz : x.size ≤ 10000) : Ev (fun k => impl_natural.f k x.terms [⟨1, e.terms⟩]) (O.ins e x).terms := by
 have h1 := O.row_le_size hx
 have h2 := O.row_length x
 simp only [impl_natural.f]
 have := natural_l0 e he x [] hx hz (by omega) (by simp only [List.length_nil]; omega)
 rw [List.nil_append] at this
 exact this
theorem hydraOrd_l0 : ∀ (s : H) (pre : List S46) (x : O), x.NF → x.size + s.size ≤ 5000 → pre.length + s.size ≤ 100000 →
  Ev (fun k => impl_hydra_ord.l0 k x.terms (pre ++ s.terms) (((pre ++ s.terms).length : Nat) : Int) (pre.length : Int)) (H.ordA s x).terms
 | .nul, pre, x, _, _, _ => by
  refine ev_s ?_
  simp only [impl_hydra_ord.l0, H.terms, List.append_nil, Int.lt_irrefl, if_false, H.ordA]
  exact Ev.now _
 | .cons b r, pre, x, hx, hz, hp => by
  simp only [H.size] at hz hp
  have hb1 := H.size_pos b
  have hE : Ev (fun k => impl_hydra_ord.f k b.terms) b.ord.terms := by
   refine ev_s ?_
   simp only [impl_hydra_ord.f]
   have := hydraOrd_l0 b [] .z trivial (by simp only [O.size]; have := H.size_pos r; omega) (by simp only [List.length_nil]; omega)
   rw [List.nil_append, H.ordA_z] at this
   exact this
  have hlen : (pre ++ (H.cons b r).terms).length = pre.length + (r.terms.length + 1) := by simp [H.terms]
  have hmid : rd_T46 (pre ++ (H.cons b r).terms) (pre.length : Int) = ⟨b.terms⟩ := rd_T46_mid pre r.terms ⟨b.terms⟩
  have happ : pre ++ (H.cons b r).terms = (pre ++ [⟨b.terms⟩]) ++ r.terms := by simp [H.terms]
  have ew : wrap64 ((pre.length : Int) + 1) = (((pre ++ [(⟨b.terms⟩ : S46)]).length : Nat) : Int) := by
   rw [List.length_append, List.length_singleton]; exact wrap_nat2 pre.length 1 (by omega)
  have g1 : (pre.length : Int) < (((pre ++ (H.cons b r).terms).length : Nat) : Int) := by omega
  have hrow := O.row_le_size (H.ord_NF b)
  have hrl := O.row_length b.ord
  have hos := H.ord_size b
  refine ev_s ?_
  simp only [impl_hydra_ord.l0, if_pos g1, if_pos (show (0 : Int) ≤ (pre.length : Int) from Int.natCast_nonneg _), hmid]
  refine Ev.bind hE ?_
  simp only [impl_power.f, Option.bind_some]
  refine Ev.bind (natural_ev (by omega) hx (by omega)) ?_
  rw [ew, happ]
  refine ev_eq (hydraOrd_l0 r (pre ++ [⟨b.terms⟩]) (O.ins b.ord x) (O.ins_NF (H.ord_NF b) hx) (by rw [O.ins_size]; omega) (by simp only [List.length_append, List.length_singleton]; omega)) ?_
  rw [H.ordA_ins _ _ hx]; rfl
theorem hydraOrd_ev {h : H} (hs : h.size ≤ 1000) : Ev (fun k => impl_hydra_ord.f k h.terms) h.ord.terms := by
 refine ev_s ?_
 simp only [impl_hydra_ord.f]
 have := hydraOrd_l0 h [] .z trivial (by simp only [O.size]; omega) (by simp only [List.length_nil]; omega)
 rw [List.nil_append, H.ordA_z] at this
 exact this

-- part: hOrdSpec
theorem zipB_body : ∀ o : O, zipB o.ns o.es = o.body
 | .z => rfl
 | .c n e r => by rw [O.ns, O.es, zipB, zipB_body r, O.body_c]; simp
theorem zipB_app : ∀ (t : List Int) (e : List (List Int)) (t' : List Int) (e' : List (List Int)), t.length = e.length → zipB (t ++ t') (e ++ e') = zipB t e ++ zipB t' e'
 | [], [], t', e', _ => rfl
 | [], _ :: _, _, _, h => by simp at h
 | _ :: _, [], _, _, h => by simp at h
 | a :: t, b :: e, t', e', h => by
  have := zipB_app t e t' e' (by simpa using h)
  simp [zipB, this]
theorem made {t : List Int} {e : List (List Int)} (o : O) (h : t.length = e.length) (ht : t.length + o.len ≤ 10000) (hz : (zipB t e).length + o.body.length ≤ 50000) : Ev (fun k => spec_l1Make.f k (t ++ o.ns) (e ++ o.es)) (((t.length + o.len : Nat) : Int) :: (zipB t e ++ o.body)) := by
 have h1 := O.ns_len o
 have h2 := O.es_len o
 refine ev_eq (l1Make_ev (t ++ o.ns) (e ++ o.es) (by simp; omega) (by simp; omega) (by rw [zipB_app _ _ _ _ h, zipB_body]; simp; omega)) ?_
 rw [zipB_app _ _ _ _ h, zipB_body]; simp; omega
theorem l5Add_done (e : O) (he : e.row.length ≤ 50000) : ∀ (s : O) (pn : List Int) (pe : List (List Int)) (t : List Int) (x : List (List Int)), s.NF → O.hd e s → pn.length = pe.length → pn.length + s.len ≤ 5000 → t.length = x.length → t.length + s.len ≤ 10000 → (zipB t x).length + s.body.length ≤ 50000 → s.body.length ≤ 50000 →
  Ev (fun k => spec_l5Add.l0 k (pn ++ s.ns) (pe ++ s.es) [e.row] t x true (pn.length : Int)) (((t.length + s.len : Nat) : Int) :: (zipB t x ++ s.body)) := by
 intro s
 induction s with
 | z =>
  intro pn pe t x _ _ _ _ htx ht hz _
  refine ev_s ?_
  simp only [spec_l5Add.l0, O.ns, O.es, List.append_nil, Int.lt_irrefl, if_false, if_true]
  have := made .z htx ht hz
  simp only [O.ns, O.es, List.append_nil] at this
  exact Ev.bind this (Ev.now _)
 | c n f r _ IH =>
  intro pn pe t x hs hh hpe hp htx ht hz hb
  simp only [O.len] at hp ht
  rw [O.body_c] at hz hb
  simp only [List.length_cons, List.length_append] at hz hb
  have hlt : O.cmp f e = .lt := hh
  have ih := IH (pn ++ [(n : Int)]) (pe ++ [f.row]) (t ++ [(n : Int)]) (x ++ [f.row]) hs.2.2.1 (O.hd_trans hlt hs.2.2.2) (by simp [hpe]) (by simp; omega) (by simp [htx]) (by simp; omega) (by rw [zipB_snoc _ _ _ _ htx]; simp; omega) (by omega)
  simp only [List.append_assoc, List.singleton_append, List.length_append, List.length_singleton] at ih
  have hrn : rd (pn ++ (n : Int) :: r.ns) (pn.length : Int) = (n : Int) := by rw [rd_eq]; simp
  have hre2 : rd_L3 (pe ++ f.row :: r.es) (pn.length : Int) = f.row := by rw [hpe]; exact rd_L3_at pe r.es f.row
  have hre3 : rd_L3 [e.row] 0 = e.row := by simp [rd_L3]
  have hl1 : (pn ++ (n : Int) :: r.ns).length = pn.length + (r.ns.length + 1) := by simp
  have hl2 : (pe ++ f.row :: r.es).length = pn.length + (r.es.length + 1) := by simp [hpe]
  have hfr := O.row_length f
  clear IH
  simp only [O.ns, O.es]
  generalize pn ++ (n : Int) :: r.ns = A at *
  generalize pe ++ f.row :: r.es = B at *
  refine ev_s ?_
  simp only [spec_l5Add.l0, if_pos (show (pn.length : Int) < (A.length : Int) by omega), if_pos (show (0 : Int) ≤ (pn.length : Int) by omega), if_pos (show (pn.length : Int) < (B.length : Int) by omega), List.length_singleton, if_pos (show (0 : Int) < ((1 : Nat) : Int) by omega), hre2, hre3]
  refine Ev.bind (l1Compare_ev f e (by omega) he) ?_
  simp only [hlt, ordI, if_pos (show (-1 : Int) < 0 by decide), Bool.not_true]
  refine ev_s ?_
  simp only [spec_l5Add.j1, Bool.false_eq_true, if_false, if_pos (show (pn.length : Int) < (A.length : Int) by omega), if_pos (show (0 : Int) ≤ (pn.length : Int) by omega), if_pos (show (pn.length : Int) < (B.length : Int) by omega), if_pos (show t.length < 17592186044416 by omega), if_pos (show x.length < 5864062014805 by omega), Option.bind_some, hrn, hre2, show ¬ ((-1 : Int) = 0) by decide, show wrap64 ((pn.length : Int) + 1) = ((pn.length + 1 : Nat) : Int) from wrap_nat2 _ 1 (by omega)]
  refine ev_eq ih ?_
  rw [zipB_snoc _ _ _ _ htx, O.body_c]
  simp only [O.len, List.append_assoc, List.cons_append, List.cons.injEq]
  first | exact ⟨by omega, rfl⟩ | exact ⟨by omega, trivial⟩ | omega
theorem set_last (l : List Int) (a b : Int) : (l ++ [a]).set l.length b = l ++ [b] := by rw [List.set_append_right _ _ (Nat.le_refl _), Nat.sub_self]; rfl
theorem l5Add_done1 (e f r : O) (n : Nat) (pn : List Int) (pe : List (List Int)) (t : List Int) (x : List (List Int)) (he : e.row.length ≤ 50000) (hr : r.NF) (hd : O.hd e r) (hpe : pn.length = pe.length) (hp : pn.length + (1 + r.len) ≤ 5000) (h1 : t.length = x.length) (h2 : t.length + r.len ≤ 10000) (h3 : (zipB t x).length + r.body.length ≤ 50000) (h4 : r.body.length ≤ 50000) :
  Ev (fun k => spec_l5Add.l0 k (pn ++ (n : Int) :: r.ns) (pe ++ f.row :: r.es) [e.row] t x true ((pn.length + 1 : Nat) : Int)) (((t.length + r.len : Nat) : Int) :: (zipB t x ++ r.body)) := by
 have g2 : (pn ++ [(n : Int)]).length = (pe ++ [f.row]).length := by rw [List.length_append, List.length_append, hpe]; rfl
 have g3 : (pn ++ [(n : Int)]).length + r.len ≤ 5000 := by rw [List.length_append, List.length_singleton]; omega
 have h := l5Add_done e he r (pn ++ [(n : Int)]) (pe ++ [f.row]) t x hr hd g2 g3 h1 h2 h3 h4
 rw [List.append_assoc, List.append_assoc, List.length_append, List.length_singleton] at h
 exact h
theorem l5Add_l0 (e : O) (he : e.row.length ≤ 40000) : ∀ (s : O) (pn : List Int) (pe : List (List Int)), s.NF → s.most ≤ 1000000 → pn.length = pe.length → pn.length + s.len ≤ 5000 → (zipB pn pe).length + s.body.length + e.row.length + 1 ≤ 50000 →
  Ev (fun k => spec_l5Add.l0 k (pn ++ s.ns) (pe ++ s.es) [e.row] pn pe false (pn.length : Int)) (((pn.length + (O.ins e s).len : Nat) : Int) :: (zipB pn pe ++ (O.ins e s).body)) := by
 intro s
 induction s with
 | z =>
  intro pn pe _ _ hpe hp hz
  simp only [O.len] at hp
  have hre3 : rd_L3 [e.row] 0 = e.row := by simp [rd_L3]
  refine ev_s ?_
  simp only [spec_l5Add.l0, O.ns, O.es, List.append_nil, Int.lt_irrefl, Bool.false_eq_true, if_false, if_pos (show pn.length < 17592186044416 by omega), List.length_singleton, if_pos (show (0 : Int) < ((1 : Nat) : Int) by omega), if_pos (show pe.length < 5864062014805 by omega), hre3]
  have hm := made (t := pn) (e := pe) (.c 1 e .z) hpe (by simp only [O.len]; omega) (by rw [O.body_c]; simp [O.body]; omega)
  simp only [O.ns, O.es] at hm
  exact Ev.bind hm (Ev.now _)
 | c n f r _ IH =>
  intro pn pe hs hm hpe hp hz
  simp only [O.len] at hp
  simp only [O.most] at hm
  rw [O.body_c] at hz
  simp only [List.length_cons, List.length_append] at hz
  have hrn : rd (pn ++ (n : Int) :: r.ns) (pn.length : Int) = (n : Int) := by rw [rd_eq]; simp
  have hre2 : rd_L3 (pe ++ f.row :: r.es) (pn.length : Int) = f.row := by rw [hpe]; exact rd_L3_at pe r.es f.row
  have hre3 : rd_L3 [e.row] 0 = e.row := by simp [rd_L3]
  have hl1 : (pn ++ (n : Int) :: r.ns).length = pn.length + (r.ns.length + 1) := by simp
  have hl2 : (pe ++ f.row :: r.es).length = pn.length + (r.es.length + 1) := by simp [hpe]
  have hfr := O.row_length f
  have hord : O.ins e (.c n f r) = match O.cmp f e with | .gt => .c n f (O.ins e r) | .eq => .c (n + 1) f r | .lt => .c 1 e (.c n f r) := rfl
  have hrNF : r.NF := hs.2.2.1
  have hfr2 : O.hd f r := hs.2.2.2
  have hdone := fun (t : List Int) (x : List (List Int)) (hd : O.hd e r) => l5Add_done1 e f r n pn pe t x (by omega) hrNF hd hpe (by clear hm; omega)
  have ih := IH (pn ++ [(n : Int)]) (pe ++ [f.row]) hrNF (by omega) (by simp [hpe]) (by clear hm; rw [List.length_append, List.length_singleton]; omega) (by rw [zipB_snoc _ _ _ _ hpe]; simp; omega)
  simp only [List.append_assoc, List.singleton_append, List.length_append, List.length_singleton] at ih
  clear IH
  rw [hord]
  simp only [O.ns, O.es]
  generalize pn ++ (n : Int) :: r.ns = A at *
  generalize pe ++ f.row :: r.es = B at *
  refine ev_s ?_
  simp only [spec_l5Add.l0, if_pos (show (pn.length : Int) < (A.length : Int) by omega), if_pos (show (0 : Int) ≤ (pn.length : Int) by omega), if_pos (show (pn.length : Int) < (B.length : Int) by omega), List.length_singleton, if_pos (show (0 : Int) < ((1 : Nat) : Int) by omega), hre2, hre3]
  refine Ev.bind (l1Compare_ev f e (by omega) (by omega)) ?_
  cases hc : O.cmp f e with
  | lt =>
   simp only [ordI, if_pos (show (-1 : Int) < 0 by decide), Bool.not_false]
   refine ev_s ?_
   simp only [spec_l5Add.j1, if_true, List.length_append, List.length_singleton, if_pos (show pn.length < 17592186044416 by omega), if_pos (show (0 : Int) < ((1 : Nat) : Int) by omega), if_pos (show pe.length < 5864062014805 by omega), Option.bind_some, hre3, if_pos (show (pn.length : Int) < (A.length : Int) by omega), if_pos (show (0 : Int) ≤ (pn.length : Int) by omega), if_pos (show (pn.length : Int) < (B.length : Int) by omega), if_pos (show pn.length + 1 < 17592186044416 by omega), if_pos (show pe.length + 1 < 5864062014805 by omega), hrn, hre2, show ¬ ((-1 : Int) = 0) by decide, if_false, show wrap64 ((pn.length : Int) + 1) = ((pn.length + 1 : Nat) : Int) from wrap_nat2 _ 1 (by omega)]
   have hz2 : zipB (pn ++ [1] ++ [(n : Int)]) (pe ++ [e.row] ++ [f.row]) = zipB pn pe ++ 1 :: (e.row ++ (n : Int) :: f.row) := by
    rw [zipB_snoc _ _ _ _ (by simp [hpe]), zipB_snoc _ _ _ _ hpe]; simp
   refine ev_eq (hdone (pn ++ [1] ++ [(n : Int)]) (pe ++ [e.row] ++ [f.row]) (O.hd_trans hc hfr2) (by simp [hpe]) (by simp; omega) (by rw [hz2]; simp; omega) (by omega)) ?_
   rw [hz2]
   simp only [O.body_c, O.len, List.length_append, List.length_singleton, List.length_cons, List.length_nil, List.nil_append, List.append_assoc, List.cons_append, List.cons.injEq]
   first | exact ⟨by omega, rfl⟩ | exact ⟨by omega, trivial⟩ | omega
  | gt =>
   simp only [ordI, if_neg (show ¬ ((1 : Int) < 0) by decide)]
   refine ev_s ?_
   simp only [spec_l5Add.j1, Bool.false_eq_true, if_false, if_pos (show (pn.length : Int) < (A.length : Int) by omega), if_pos (show (0 : Int) ≤ (pn.length : Int) by omega), if_pos (show (pn.length : Int) < (B.length : Int) by omega), if_pos (show pn.length < 17592186044416 by omega), if_pos (show pe.length < 5864062014805 by omega), Option.bind_some, hrn, hre2, show ¬ ((1 : Int) = 0) by decide, show wrap64 ((pn.length : Int) + 1) = ((pn.length + 1 : Nat) : Int) from wrap_nat2 _ 1 (by omega)]
   refine ev_eq ih ?_
   rw [zipB_snoc _ _ _ _ hpe]
   simp only [O.body_c, O.len, List.append_assoc, List.cons_append, List.cons.injEq]
   first | exact ⟨by omega, rfl⟩ | exact ⟨by omega, trivial⟩ | omega
  | eq =>
   have hfe := O.eq_of_cmp _ _ hc
   simp only [ordI, if_neg (show ¬ ((0 : Int) < 0) by decide)]
   refine ev_s ?_
   simp only [spec_l5Add.j1, Bool.false_eq_true, if_false, if_pos (show (pn.length : Int) < (A.length : Int) by omega), if_pos (show (0 : Int) ≤ (pn.length : Int) by omega), if_pos (show (pn.length : Int) < (B.length : Int) by omega), if_pos (show pn.length < 17592186044416 by omega), if_pos (show pe.length < 5864062014805 by omega), Option.bind_some, hrn, hre2, if_true, show wrap64 (((pn ++ [(n : Int)]).length : Int) - 1) = (pn.length : Int) from (by rw [List.length_append, List.length_singleton, wrap_in (by omega) (by omega)]; omega), if_pos (show (pn.length : Int) < ((pn ++ [(n : Int)]).length : Int) by simp; omega), Int.toNat_natCast, set_last, show wrap64 ((n : Int) + 1) = ((n + 1 : Nat) : Int) from wrap_nat2 n 1 (by omega), show wrap64 ((pn.length : Int) + 1) = ((pn.length + 1 : Nat) : Int) from wrap_nat2 _ 1 (by omega)]
   refine ev_eq (hdone (pn ++ [((n + 1 : Nat) : Int)]) (pe ++ [f.row]) (by rw [← hfe]; exact hfr2) (by simp [hpe]) (by simp; omega) (by rw [zipB_snoc _ _ _ _ hpe]; simp; omega) (by omega)) ?_
   rw [zipB_snoc _ _ _ _ hpe]
   simp only [O.body_c, O.len, List.length_append, List.length_singleton, List.length_cons, List.length_nil, List.nil_append, List.append_assoc, List.cons_append, List.cons.injEq]
   first | exact ⟨by omega, rfl⟩ | exact ⟨by omega, trivial⟩ | omega
theorem l5Add_ev {e x : O} (he : e.row.length ≤ 10000) (hx : x.NF) (hm : x.most ≤ 1000000) (hxr : x.row.length ≤ 4000) : Ev (fun k => spec_l5Add.f k x.row ([1, 1] ++ e.row)) (O.ins e x).row := by
 have h1 := O.row_length x
 have h2 := O.len_le x
 have hrow : [1, 1] ++ e.row = (O.c 1 e .z).row := by simp [O.row, O.body, O.len]
 have hsz : (O.c 1 e .z).row.length = e.row.length + 2 := by rw [← hrow]; simp <;> omega
 simp only [spec_l5Add.f, hrow]
 refine Ev.bind (l1Terms_ev (by omega)) ?_
 refine Ev.bind (l1Terms_ev (by omega)) ?_
 have := l5Add_l0 e (by omega) x [] [] hx hm rfl (by simp only [List.length_nil]; omega) (by simp [zipB]; omega)
 simp only [List.nil_append, List.length_nil, Nat.zero_add] at this
 simp only [O.es]
 exact ev_eq this (by simp [zipB, O.row])
theorem O.most_le_size : ∀ {x : O}, x.NF → x.most ≤ x.size
 | .z, _ => by simp [O.most]
 | .c n e r, h => by
  have h1 := O.most_le_size h.2.1
  have h2 := O.most_le_size h.2.2.1
  have h3 := O.size_pos e
  have h4 : n ≤ n * e.size := Nat.le_mul_of_pos_right _ h3
  have h5 : e.size ≤ n * e.size := Nat.le_mul_of_pos_left _ h.1
  simp only [O.most, O.size]; omega
theorem l5Ord_l0 : ∀ (N : Nat) (s : H), s.size ≤ N → ∀ (pe : List (List Int)) (x : O), x.NF → x.size + s.size ≤ 1000 → pe.length + s.size ≤ 100000 → s.size ≤ 60 →
  Ev (fun k => spec_l5Ord.l0 k (pe ++ s.rows) x.row (pe.length : Int)) (H.ordA s x).row := by
 intro N
 induction N with
 | zero => intro s hN; have := H.size_pos s; omega
 | succ N IH =>
  intro s hN pe x hx hz hp hs
  cases s with
  | nul =>
   refine ev_s ?_
   simp only [spec_l5Ord.l0, H.rows, List.append_nil, Int.lt_irrefl, if_false, H.ordA]
   exact Ev.now _
  | cons b r =>
   simp only [H.size] at hz hp hN hs
   have hb1 := H.size_pos b
   have hr1 := H.size_pos r
   have hbr := H.row_size b
   have hE : Ev (fun k => spec_l5Ord.f k b.row) b.ord.row := by
    refine ev_s ?_
    simp only [spec_l5Ord.f]
    refine Ev.bind (l5Branches_ev (h := b) (by omega)) ?_
    have := IH b (by omega) [] .z trivial (by simp only [O.size]; omega) (by simp only [List.length_nil]; omega) (by omega)
    rw [List.nil_append, H.ordA_z] at this
    exact this
   have hmid : rd_L3 (pe ++ b.row :: r.rows) (pe.length : Int) = b.row := rd_L3_at pe r.rows b.row
   have happ : pe ++ (H.cons b r).rows = (pe ++ [b.row]) ++ r.rows := by simp [H.rows]
   have ew : wrap64 ((pe.length : Int) + 1) = (((pe ++ [b.row]).length : Nat) : Int) := by
    rw [List.length_append, List.length_singleton]; exact wrap_nat2 pe.length 1 (by omega)
   have hlen : (pe ++ b.row :: r.rows).length = pe.length + (r.rows.length + 1) := by simp
   have hrow := O.row_le_size (H.ord_NF b)
   have hos := H.ord_size b
   have hxr := O.row_le_size hx
   have hxm := O.most_le_size hx
   have ih := IH r (by omega) (pe ++ [b.row]) (O.ins b.ord x) (O.ins_NF (H.ord_NF b) hx) (by rw [O.ins_size]; omega) (by simp only [List.length_append, List.length_singleton]; omega) (by omega)
   rw [show (H.cons b r).rows = b.row :: r.rows from rfl]
   refine ev_s ?_
   simp only [spec_l5Ord.l0, if_pos (show (pe.length : Int) < ((pe ++ b.row :: r.rows).length : Int) by omega), Option.bind_some, if_pos (show (0 : Int) ≤ (pe.length : Int) from Int.natCast_nonneg _), hmid]
   refine Ev.bind hE ?_
   simp only [List.length_cons, List.length_nil, if_pos (show 0 + 1 + 1 + b.ord.row.length < 17592186044416 by omega)]
   refine Ev.bind (l5Add_ev (by omega) hx (by omega) (by omega)) ?_
   rw [ew]
   refine ev_eq ?_ (show (H.ordA r (O.ins b.ord x)).row = (H.ordA (.cons b r) x).row by rw [H.ordA_ins _ _ hx]; rfl)
   rw [show pe ++ b.row :: r.rows = (pe ++ [b.row]) ++ r.rows by simp]
   exact ih
theorem l5Ord_ev {h : H} (hs : h.size ≤ 60) : Ev (fun k => spec_l5Ord.f k h.row) h.ord.row := by
 have hr := H.row_size h
 refine ev_s ?_
 simp only [spec_l5Ord.f]
 refine Ev.bind (l5Branches_ev (h := h) (by omega)) ?_
 have := l5Ord_l0 60 h hs [] .z trivial (by simp only [O.size]; omega) (by simp only [List.length_nil]; omega) hs
 rw [List.nil_append, H.ordA_z] at this
 exact this

-- part: hSort
theorem lit_ev {a b : H} (ha : a.size ≤ 100) (hb : b.size ≤ 100) : Ev (fun k => impl_hydra_sortedLit1.f k a.terms b.terms) (ordI (O.cmp b.ord a.ord)) := by
 have h1 := O.row_le_size (H.ord_NF a)
 have h2 := O.row_le_size (H.ord_NF b)
 have h3 := H.ord_size a
 have h4 := H.ord_size b
 have h5 := O.row_length a.ord
 have h6 := O.row_length b.ord
 simp only [impl_hydra_sortedLit1.f]
 refine Ev.bind (hydraOrd_ev (by omega)) ?_
 refine Ev.bind (hydraOrd_ev (by omega)) ?_
 refine Ev.bind (compare_ev b.ord a.ord (by omega) (by omega)) ?_
 exact Ev.now _
theorem ev_all {α β : Type} {P : α → β → Prop} (g : α → Nat → Option β) (v : α → β) : ∀ (l : List α), (∀ a ∈ l, Ev (g a) (v a)) → ∃ K, ∀ k, K ≤ k → ∀ a ∈ l, g a k = some (v a)
 | [], _ => ⟨0, fun _ _ a ha => by simp at ha⟩
 | a :: l, h => by
  obtain ⟨K1, h1⟩ := h a List.mem_cons_self
  obtain ⟨K2, h2⟩ := ev_all (P := P) g v l (fun b hb => h b (List.mem_cons_of_mem _ hb))
  refine ⟨max K1 K2, fun k hk b hb => ?_⟩
  rcases List.mem_cons.mp hb with rfl | hb
  ·
   exact h1 k (by omega)
  ·
   exact h2 k (by omega) b hb
theorem sortBranches_ev {g : H} (hg : ∀ b ∈ g.list, b.sorted) (hs : g.size ≤ 100) : Ev (fun k => impl_hydra.f k g.terms) (H.of g.ord).terms := by
 have hsz : ∀ b ∈ g.list, b.size ≤ 100 := fun b hb => by have := H.list_size g b hb; omega
 have hev : ∀ p ∈ (g.list.flatMap fun a => g.list.map fun b => (a, b)), Ev (fun k => impl_hydra_sortedLit1.f k p.1.terms p.2.terms) (ordI (O.cmp p.2.ord p.1.ord)) := by
  intro p hp
  obtain ⟨a, ha, hp⟩ := List.mem_flatMap.mp hp
  obtain ⟨b, hb, rfl⟩ := List.mem_map.mp hp
  exact lit_ev (hsz a ha) (hsz b hb)
 obtain ⟨K, hK⟩ := ev_all (P := fun _ _ => True) (fun (p : H × H) k => impl_hydra_sortedLit1.f k p.1.terms p.2.terms) (fun p => ordI (O.cmp p.2.ord p.1.ord)) _ hev
 refine ⟨K, fun k hk => ?_⟩
 have hcmp : ∀ a ∈ g.list, ∀ b ∈ g.list, impl_hydra_sortedLit1.f k a.terms b.terms = some (ordI (O.cmp b.ord a.ord)) := fun a ha b hb => hK k hk (a, b) (List.mem_flatMap.mpr ⟨a, ha, List.mem_map.mpr ⟨b, hb, rfl⟩⟩)
 have hlt : ∀ a ∈ g.list, ∀ b ∈ g.list, impl_hydra.lt k ⟨a.terms⟩ ⟨b.terms⟩ = H.gt a b := fun a ha b hb => by
  simp only [impl_hydra.lt, hcmp a ha b hb, H.gt]
  have := ordI_neg (o := O.cmp b.ord a.ord)
  by_cases h : O.cmp b.ord a.ord = .lt
  ·
   rw [decide_eq_true h, decide_eq_true (this.mpr h)]
  ·
   rw [decide_eq_false h, decide_eq_false (fun h' => h (this.mp h'))]
 have hm : ∀ x ∈ g.terms, ∃ a ∈ g.list, x = ⟨a.terms⟩ := fun x hx => by
  rw [H.list_terms] at hx
  obtain ⟨a, ha, rfl⟩ := List.mem_map.mp hx
  exact ⟨a, ha, rfl⟩
 have G : impl_hydra.Good k g.terms := by
  refine ⟨?_, ?_, ?_, ?_, ?_, ?_⟩
  ·
   have := H.terms_len g; have := H.len_size g; omega
  ·
   intro x hx y hy
   obtain ⟨a, ha, rfl⟩ := hm x hx
   obtain ⟨b, hb, rfl⟩ := hm y hy
   exact ⟨_, hcmp a ha b hb⟩
  ·
   intro x hx y hy
   obtain ⟨a, ha, rfl⟩ := hm x hx
   obtain ⟨b, hb, rfl⟩ := hm y hy
   rw [hlt a ha b hb, hlt b hb a ha]
   intro h1 h2
   have := H.gt_same h1 h2
   rw [← H.of_ord a (hg a ha), ← H.of_ord b (hg b hb), this]
  ·
   intro x hx
   obtain ⟨a, ha, rfl⟩ := hm x hx
   rw [hlt a ha a ha]; exact H.gt_irr a
  ·
   intro x hx y hy z hz
   obtain ⟨a, ha, rfl⟩ := hm x hx
   obtain ⟨b, hb, rfl⟩ := hm y hy
   obtain ⟨c, hc, rfl⟩ := hm z hz
   rw [hlt a ha b hb, hlt b hb c hc, hlt a ha c hc]
   exact H.gt_trans
  ·
   intro x hx y hy z hz
   obtain ⟨a, ha, rfl⟩ := hm x hx
   obtain ⟨b, hb, rfl⟩ := hm y hy
   obtain ⟨c, hc, rfl⟩ := hm z hz
   rw [hlt a ha b hb, hlt b hb c hc, hlt a ha c hc]
   exact H.gt_ntrans
 show impl_hydra.f k g.terms = _
 unfold impl_hydra.f
 rw [if_pos (impl_hydra.good_iff.mpr G), H.list_terms, H.list_terms (H.of g.ord), ← H.sort_list hg]
 have := List.map_mergeSort (f := fun b : H => (⟨b.terms⟩ : S46)) (r := fun x y => !H.gt y x) (s := fun x y => !impl_hydra.lt k y x) (l := g.list) (fun a ha b hb => by rw [hlt b hb a ha])
 rw [this]
theorem H.mapS_app (g b : H) : (H.app g (.cons b.isort .nul)).terms = g.terms ++ [⟨b.isort.terms⟩] := by rw [H.app_terms]; rfl
theorem sorted_l0 : ∀ (N : Nat) (s : H), s.size ≤ N → ∀ (pre : List S46) (g : H) (d : H), pre.length + s.size ≤ 1000 → g.size + s.size ≤ 101 → (∀ b ∈ g.list, b.sorted) → s.size ≤ 60 → d = H.app g (H.mapS s) →
  Ev (fun k => impl_hydra_sorted.l0 k g.terms (pre ++ s.terms) (((pre ++ s.terms).length : Nat) : Int) (pre.length : Int)) (H.of d.ord).terms := by
 intro N
 induction N with
 | zero => intro s hN; have := H.size_pos s; omega
 | succ N IH =>
  intro s hN pre g d hp hz hg hs hd
  cases s with
  | nul =>
   refine ev_s ?_
   simp only [impl_hydra_sorted.l0, H.terms, List.append_nil, Int.lt_irrefl, if_false]
   have hd' : d = g := by rw [hd]; exact H.app_nul g
   subst hd'
   simp only [H.size] at hz
   exact Ev.bind (sortBranches_ev hg (by omega)) (Ev.now _)
  | cons b r =>
   simp only [H.size] at hp hN hs hz
   have hb1 := H.size_pos b
   have hr1 := H.size_pos r
   have hgt := H.terms_len g
   have hgl := H.len_size g
   have hE : Ev (fun k => impl_hydra_sorted.f k b.terms) b.isort.terms := by
    refine ev_s ?_
    simp only [impl_hydra_sorted.f]
    have := IH b (by omega) [] .nul (H.mapS b) (by simp only [List.length_nil]; omega) (by simp only [H.size]; omega) (fun c hc => by simp [H.list] at hc) (by omega) rfl
    rw [H.mapS_ord] at this
    simp only [List.nil_append, List.length_nil] at this
    exact this
   have hmid : rd_T46 (pre ++ (H.cons b r).terms) (pre.length : Int) = ⟨b.terms⟩ := rd_T46_mid pre r.terms ⟨b.terms⟩
   have happ : pre ++ (H.cons b r).terms = (pre ++ [⟨b.terms⟩]) ++ r.terms := by simp [H.terms]
   have hlen : (pre ++ (H.cons b r).terms).length = pre.length + (r.terms.length + 1) := by simp [H.terms]
   have ew : wrap64 ((pre.length : Int) + 1) = (((pre ++ [(⟨b.terms⟩ : S46)]).length : Nat) : Int) := by
    rw [List.length_append, List.length_singleton]; exact wrap_nat2 pre.length 1 (by omega)
   have hsn : (H.app g (.cons b.isort .nul)).size = g.size + b.size := by have := H.app_size g (.cons b.isort .nul); simp only [H.size, H.isort_size] at this; omega
   have ih := IH r (by omega) (pre ++ [⟨b.terms⟩]) (H.app g (.cons b.isort .nul)) d (by simp only [List.length_append, List.length_singleton]; omega) (by omega)
    (fun c hc => by
     rw [H.list_app, List.mem_append] at hc
     rcases hc with hc | hc
     ·
      exact hg c hc
     ·
      simp only [H.list, List.mem_singleton] at hc; subst hc; exact H.isort_sorted b) (by omega) (by rw [hd, H.app_assoc]; rfl)
   refine ev_s ?_
   simp only [impl_hydra_sorted.l0, if_pos (show (pre.length : Int) < (((pre ++ (H.cons b r).terms).length : Nat) : Int) by omega), if_pos (show (0 : Int) ≤ (pre.length : Int) from Int.natCast_nonneg _), hmid]
   refine Ev.bind hE ?_
   simp only [if_pos (show g.terms.length < 5864062014805 by omega), ew, ← H.mapS_app]
   rw [happ]
   exact ih
theorem sorted_ev {h : H} (hs : h.size ≤ 60) : Ev (fun k => impl_hydra_sorted.f k h.terms) h.isort.terms := by
 refine ev_s ?_
 simp only [impl_hydra_sorted.f]
 have := sorted_l0 60 h hs [] .nul (H.mapS h) (by simp only [List.length_nil]; omega) (by simp only [H.size]; omega) (fun c hc => by simp [H.list] at hc) hs rfl
 rw [H.mapS_ord] at this
 simp only [List.nil_append, List.length_nil] at this
 exact this

-- part: hSortSpec
def H.put (x : H) : H → H
 | .nul => .cons x .nul
 | .cons b r => if O.cmp b.ord x.ord = .lt then .cons x (.cons b r) else .cons b (H.put x r)
theorem H.put_ord (x : H) : ∀ g : H, (H.put x g).ord = O.ins x.ord g.ord
 | .nul => rfl
 | .cons b r => by
  rw [H.put]
  split
  ·
   rfl
  ·
   rw [H.ord, H.put_ord x r, H.ord, O.ins_comm _ _ _ (H.ord_NF r)]
theorem H.put_size (x : H) : ∀ g : H, (H.put x g).size = x.size + g.size
 | .nul => rfl
 | .cons b r => by
  rw [H.put]
  split
  ·
   rfl
  ·
   rw [H.size, H.put_size x r, H.size]; omega
theorem H.le_put {x : H} {e : O} (hx : O.cmp x.ord e ≠ .gt) : ∀ {g : H}, H.le e g → H.le e (H.put x g)
 | .nul, _ => hx
 | .cons b r, h => by
  rw [H.put]
  split
  ·
   exact hx
  ·
   exact h
theorem H.put_sorted {x : H} (hx : x.sorted) : ∀ {g : H}, g.sorted → (H.put x g).sorted
 | .nul, _ => ⟨hx, trivial, trivial⟩
 | .cons b r, h => by
  rw [H.put]
  split
  ·
   rename_i hc
   refine ⟨hx, h, ?_⟩
   show O.cmp b.ord x.ord ≠ .gt
   rw [hc]; simp
  ·
   rename_i hc
   exact ⟨h.1, H.put_sorted hx h.2.1, H.le_put (O.not_lt.mp hc) h.2.2⟩
theorem l5Sort_l1 {X : List (List Int)} {x5 : Int} {x : H} (hx : x.size ≤ 60) {q : List Int} : ∀ (Q P : H), (H.app P Q).size ≤ 1000 → (∀ b ∈ Q.list, b.size ≤ 60) →
  Ev (fun k => spec_l5Sort.l0 k X (H.app P (H.put x Q)).rows (wrap64 (x5 + 1))) q →
  Ev (fun k => spec_l5Sort.l1 k X (H.app P Q).rows x5 x.row (P.len : Int)) q
 | .nul, P, hz, hs, hE => by
  have h1 := H.rows_len P
  have h2 := H.len_size P
  rw [H.app_nul] at hz ⊢
  have e1 : P.rows.take P.len = P.rows := List.take_of_length_le (by omega)
  have e2 : P.rows.drop P.len = [] := List.drop_eq_nil_of_le (by omega)
  refine ev_s ?_
  simp only [spec_l5Sort.l1, if_neg (show ¬ ((P.len : Int) < (P.rows.length : Int)) by omega), Option.bind_some, if_pos (show (0 : Int) ≤ (P.len : Int) by omega), if_pos (show (P.len : Int) ≤ (P.rows.length : Int) by omega), Int.toNat_natCast, e1, e2, List.nil_append, List.append_nil, List.length_nil, List.length_singleton, List.length_append,
   if_pos (show 0 + P.rows.length < 5864062014805 by omega), if_pos (show 0 + P.rows.length + 1 < 5864062014805 by omega), if_pos (show 0 + P.rows.length + 1 + 0 < 5864062014805 by omega), if_pos (show P.rows.length + 1 < 5864062014805 by omega), if_pos (show P.rows.length + 1 + 0 < 5864062014805 by omega)]
  rw [show P.rows ++ [x.row] = (H.app P (H.put x .nul)).rows by rw [H.app_rows]; rfl]
  exact hE
 | .cons b r, P, hz, hs, hE => by
  have h1 := H.rows_len P
  have h2 := H.len_size P
  have hb : b.size ≤ 60 := hs b List.mem_cons_self
  have hA := H.app_size P (.cons b r)
  have hb1 := H.size_pos b
  have hr1 := H.size_pos r
  simp only [H.size] at hA
  have hrows : (H.app P (.cons b r)).rows = P.rows ++ b.row :: r.rows := by rw [H.app_rows]; rfl
  have hlen : (H.app P (.cons b r)).rows.length = P.len + (r.rows.length + 1) := by rw [hrows, List.length_append, List.length_cons, h1]
  have hrl := H.rows_len r
  have hrs := H.len_size r
  have hmid : rd_L3 (H.app P (.cons b r)).rows (P.len : Int) = b.row := by rw [hrows, ← h1]; exact rd_L3_mid P.rows r.rows b.row
  have e1 : (H.app P (.cons b r)).rows.take P.len = P.rows := by rw [hrows, ← h1]; exact List.take_left
  have e2 : (H.app P (.cons b r)).rows.drop P.len = b.row :: r.rows := by rw [hrows, ← h1]; exact List.drop_left
  have ho := O.row_le_size (H.ord_NF b)
  have ho2 := O.row_le_size (H.ord_NF x)
  have hos := H.ord_size b
  have hos2 := H.ord_size x
  refine ev_s ?_
  simp only [spec_l5Sort.l1, if_pos (show (P.len : Int) < ((H.app P (.cons b r)).rows.length : Int) by omega), if_pos (show (0 : Int) ≤ (P.len : Int) by omega), hmid]
  refine Ev.bind (l5Ord_ev hb) ?_
  refine Ev.bind (l5Ord_ev hx) ?_
  refine Ev.bind (l1Compare_ev b.ord x.ord (by omega) (by omega)) ?_
  by_cases hc : O.cmp b.ord x.ord = .lt
  ·
   simp only [hc, ordI, if_neg (show ¬ ((-1 : Int) ≥ 0) by decide), Option.bind_some, if_pos (show (P.len : Int) ≤ ((H.app P (.cons b r)).rows.length : Int) by omega), Int.toNat_natCast, e1, e2, List.nil_append, List.length_nil, List.length_singleton, List.length_append, List.length_cons,
    if_pos (show 0 + P.rows.length < 5864062014805 by omega), if_pos (show 0 + P.rows.length + 1 < 5864062014805 by omega), if_pos (show 0 + P.rows.length + 1 + (r.rows.length + 1) < 5864062014805 by omega), if_pos (show P.rows.length + 1 < 5864062014805 by omega), if_pos (show P.rows.length + 1 + (r.rows.length + 1) < 5864062014805 by omega)]
   rw [show P.rows ++ [x.row] ++ b.row :: r.rows = (H.app P (H.put x (.cons b r))).rows by rw [H.app_rows, H.put, if_pos hc]; simp [H.rows]]
   exact hE
  ·
   have hge : ordI (O.cmp b.ord x.ord) ≥ 0 := by
    cases h : O.cmp b.ord x.ord with
    | lt => exact absurd h hc
    | eq => decide
    | gt => decide
   simp only [if_pos hge]
   rw [H.put, if_neg hc] at hE
   have hA2 : H.app P (.cons b r) = H.app (H.app P (.cons b .nul)) r := by rw [H.app_assoc]; rfl
   have hA3 : H.app P (.cons b (H.put x r)) = H.app (H.app P (.cons b .nul)) (H.put x r) := by rw [H.app_assoc]; rfl
   have hl2 : (H.app P (.cons b .nul)).len = P.len + 1 := by
    have h5 := H.rows_len (H.app P (.cons b .nul))
    have h6 := congrArg List.length (H.app_rows P (.cons b .nul))
    rw [List.length_append] at h6
    have h7 : (H.cons b H.nul).rows.length = 1 := rfl
    omega
   rw [hA3] at hE
   have ih := l5Sort_l1 hx r (H.app P (.cons b .nul)) (by rw [← hA2]; exact hz) (fun c hc => hs c (List.mem_cons_of_mem _ hc)) hE
   rw [hl2, ← hA2] at ih
   rw [show wrap64 ((P.len : Int) + 1) = ((P.len + 1 : Nat) : Int) from wrap_nat2 P.len 1 (by omega)]
   exact ih
theorem l5Sort_l0 : ∀ (N : Nat) (s : H), s.size ≤ N → ∀ (pe : List (List Int)) (g : H), g.sorted → g.size + s.size ≤ 61 → pe.length + s.size ≤ 1000 → s.size ≤ 60 →
  ∃ d : H, d.sorted ∧ d.ord = H.ordA s g.ord ∧ Ev (fun k => spec_l5Sort.l0 k (pe ++ s.rows) g.rows (pe.length : Int)) d.row := by
 intro N
 induction N with
 | zero => intro s hN; have := H.size_pos s; omega
 | succ N IH =>
  intro s hN pe g hg hz hp hs
  cases s with
  | nul =>
   refine ⟨g, hg, rfl, ?_⟩
   simp only [H.size] at hz
   refine ev_s ?_
   simp only [spec_l5Sort.l0, H.rows, List.append_nil, Int.lt_irrefl, if_false]
   exact Ev.bind (l5Tree_rows (by omega)) (Ev.now _)
  | cons b r =>
   simp only [H.size] at hN hz hp hs
   have hb1 := H.size_pos b
   have hr1 := H.size_pos r
   have hbr := H.row_size b
   have hE : Ev (fun k => spec_l5Sort.f k b.row) b.isort.row := by
    obtain ⟨d, h1, h2, h3⟩ := IH b (by omega) [] .nul trivial (by simp only [H.size]; omega) (by simp only [List.length_nil]; omega) (by omega)
    rw [show (H.nul).ord = .z from rfl, H.ordA_z] at h2
    rw [← H.isort_unique h1 h2]
    refine ev_s ?_
    simp only [spec_l5Sort.f]
    exact Ev.bind (l5Branches_ev (h := b) (by omega)) h3
   have hmid : rd_L3 (pe ++ b.row :: r.rows) (pe.length : Int) = b.row := rd_L3_mid pe r.rows b.row
   have ew : wrap64 ((pe.length : Int) + 1) = (((pe ++ [b.row]).length : Nat) : Int) := by
    rw [List.length_append, List.length_singleton]; exact wrap_nat2 pe.length 1 (by omega)
   have hlen : (pe ++ b.row :: r.rows).length = pe.length + (r.rows.length + 1) := by simp
   have his := H.isort_size b
   have hps := H.put_size b.isort g
   obtain ⟨d, h1, h2, h3⟩ := IH r (by omega) (pe ++ [b.row]) (H.put b.isort g) (H.put_sorted (H.isort_sorted b) hg) (by omega) (by simp only [List.length_append, List.length_singleton]; omega) (by omega)
   refine ⟨d, h1, ?_, ?_⟩
   ·
    rw [h2, H.put_ord, H.isort_ord]; rw [H.ordA_ins _ _ (H.ord_NF g)]; rfl
   ·
    rw [show (H.cons b r).rows = b.row :: r.rows from rfl]
    refine ev_s ?_
    simp only [spec_l5Sort.l0, if_pos (show (pe.length : Int) < ((pe ++ b.row :: r.rows).length : Int) by omega), if_pos (show (0 : Int) ≤ (pe.length : Int) from Int.natCast_nonneg _), hmid]
    refine Ev.bind hE ?_
    have key := l5Sort_l1 (X := pe ++ b.row :: r.rows) (x5 := (pe.length : Int)) (x := b.isort) (by omega) (q := d.row) g .nul (by simp only [H.app]; omega) (fun c hc => by have := H.list_size g c hc; omega)
     (by rw [ew, show pe ++ b.row :: r.rows = (pe ++ [b.row]) ++ r.rows by simp]; exact h3)
    exact key
theorem l5Sort_ev {h : H} (hs : h.size ≤ 60) : Ev (fun k => spec_l5Sort.f k h.row) h.isort.row := by
 have hr := H.row_size h
 obtain ⟨d, h1, h2, h3⟩ := l5Sort_l0 60 h hs [] .nul trivial (by simp only [H.size]; omega) (by simp only [List.length_nil]; omega) hs
 rw [show (H.nul).ord = .z from rfl, H.ordA_z] at h2
 rw [← H.isort_unique h1 h2]
 refine ev_s ?_
 simp only [spec_l5Sort.f]
 exact Ev.bind (l5Branches_ev (h := h) (by omega)) h3

-- part: hSame
theorem equal_ev (a b : List Int) (hb : a.length ≤ 1000000) : Ev (fun k => slices_Equal_int_int.f k a b) (decide (a = b)) := by
 simp only [slices_Equal_int_int.f]
 by_cases hl : a.length = b.length
 ·
  simp only [if_pos (show (a.length : Int) = (b.length : Int) by omega)]
  have go : ∀ (d i : Nat), i + d = a.length → Ev (fun k => slices_Equal_int_int.l0 k a b (a.length : Int) (i : Int)) (decide (a.drop i = b.drop i)) := by
   intro d
   induction d with
   | zero =>
    intro i hi
    refine ev_s ?_
    simp only [slices_Equal_int_int.l0, if_neg (show ¬ ((i : Int) < (a.length : Int)) by omega)]
    rw [List.drop_eq_nil_of_le (by omega), List.drop_eq_nil_of_le (by omega)]
    exact Ev.now _
   | succ d ih =>
    intro i hi
    have hlt : i < a.length := by omega
    have hlt2 : i < b.length := by omega
    refine ev_s ?_
    simp only [slices_Equal_int_int.l0, if_pos (show (i : Int) < (a.length : Int) by omega), if_pos (show (i : Int) < (b.length : Int) by omega), if_pos (show (0 : Int) ≤ (i : Int) by omega), rd_get hlt, rd_get hlt2, show wrap64 ((i : Int) + 1) = ((i + 1 : Nat) : Int) from wrap_nat2 i 1 (by omega)]
    rw [List.drop_eq_getElem_cons hlt, List.drop_eq_getElem_cons hlt2]
    by_cases he : a[i] = b[i]
    ·
     simp only [if_pos he]
     exact ev_eq (ih (i + 1) (by omega)) (by simp only [List.cons.injEq, he, true_and])
    ·
     simp only [if_neg he]
     exact ev_now (by simp only [List.cons.injEq, he, false_and, decide_false])
  exact ev_eq (go a.length 0 (by omega)) (by simp)
 ·
  simp only [if_neg (show ¬ ((a.length : Int) = (b.length : Int)) by omega)]
  exact ev_now (Eq.symm (decide_eq_false (fun hab => hl (by rw [hab]))))
def H.same (g h : H) : Bool := decide (O.cmp g.ord h.ord = .eq)
theorem H.same_eq {g h : H} (e : g.ord = h.ord) : H.same g h = true := by unfold H.same; rw [e, O.cmp_self]; rfl
theorem H.same_ne {g h : H} (e : g.ord ≠ h.ord) : H.same g h = false := by
 unfold H.same
 exact decide_eq_false (fun h' => e (O.eq_of_cmp _ _ h'))
theorem H.same_rows (g h : H) : decide (g.isort.row = h.isort.row) = H.same g h := by
 cases hc : O.cmp g.ord h.ord with
 | eq =>
  have e := O.eq_of_cmp _ _ hc
  rw [H.same_eq e, decide_eq_true]; rw [(H.isort_eq_iff g h).mpr e]
 | lt =>
  have e : g.ord ≠ h.ord := fun e => by rw [e, O.cmp_self] at hc; cases hc
  rw [H.same_ne e, decide_eq_false]; exact fun h' => e ((H.isort_eq_iff g h).mp (H.row_inj h'))
 | gt =>
  have e : g.ord ≠ h.ord := fun e => by rw [e, O.cmp_self] at hc; cases hc
  rw [H.same_ne e, decide_eq_false]; exact fun h' => e ((H.isort_eq_iff g h).mp (H.row_inj h'))
theorem impl_HydraSame_good {g h : H} (hg : g.row.length ≤ 60) (hh : h.row.length ≤ 60) : Ev (fun k => impl_HydraSame.f k g.row h.row) (H.same g h) := by
 have a1 := H.row_size g
 have a2 := H.row_size g.isort
 have a3 := H.isort_size g
 have b1 := H.row_size h
 have b2 := H.row_size h.isort
 have b3 := H.isort_size h
 simp only [impl_HydraSame.f]
 refine Ev.bind (impl_hydraOf_good hg) ?_
 refine Ev.bind (impl_hydraOf_good hh) ?_
 simp only [if_true]
 refine Ev.bind (sorted_ev (by omega)) ?_
 refine Ev.bind (row_ev (by omega)) ?_
 refine Ev.bind (sorted_ev (by omega)) ?_
 refine Ev.bind (row_ev (by omega)) ?_
 refine Ev.bind (equal_ev _ _ (by omega)) ?_
 exact ev_now (H.same_rows g h)
theorem impl_hydraOf_any (l : List Int) : ∃ a b, Ev (fun k => impl_hydraOf.f k l) (a, b) := by
 rcases hydra_or l with ⟨h, rfl, hr⟩ | h
 ·
  exact ⟨_, _, impl_hydraOf_good hr⟩
 ·
  obtain ⟨a, ha⟩ := impl_hydraOf_bad h; exact ⟨_, _, ha⟩
theorem impl_HydraSame_bad {l m : List Int} (h : NoHydra l ∨ NoHydra m) : Ev (fun k => impl_HydraSame.f k l m) false := by
 simp only [impl_HydraSame.f]
 rcases h with h | h
 ·
  obtain ⟨a, ha⟩ := impl_hydraOf_bad h
  obtain ⟨c, b, hc⟩ := impl_hydraOf_any m
  refine Ev.bind ha ?_
  refine Ev.bind hc ?_
  simp only [Bool.false_eq_true, if_false]
  exact Ev.now _
 ·
  obtain ⟨a, ha⟩ := impl_hydraOf_bad h
  obtain ⟨c, b, hc⟩ := impl_hydraOf_any l
  refine Ev.bind hc ?_
  refine Ev.bind ha ?_
  cases b with
  | true => simp only [if_true, Bool.false_eq_true, if_false]; exact Ev.now _
  | false => simp only [Bool.false_eq_true, if_false]; exact Ev.now _

-- part: hSameSpec
theorem l1Same_ev (a b : List Int) (hl : a.length = b.length) (hb : a.length ≤ 1000000) : Ev (fun k => spec_l1Same.f k a b) (decide (a = b)) := by
 simp only [spec_l1Same.f]
 have go : ∀ (d i : Nat), i + d = a.length → Ev (fun k => spec_l1Same.l0 k a b (i : Int)) (decide (a.drop i = b.drop i)) := by
  intro d
  induction d with
  | zero =>
   intro i hi
   refine ev_s ?_
   simp only [spec_l1Same.l0, if_neg (show ¬ ((i : Int) < (a.length : Int)) by omega)]
   refine ev_s ?_
   simp only [spec_l1Same.j1, Bool.false_eq_true, if_false]
   rw [List.drop_eq_nil_of_le (by omega), List.drop_eq_nil_of_le (by omega)]
   exact ev_now (by simp [hl])
  | succ d ih =>
   intro i hi
   have hlt : i < a.length := by omega
   have hlt2 : i < b.length := by omega
   refine ev_s ?_
   simp only [spec_l1Same.l0, if_pos (show (i : Int) < (a.length : Int) by omega), decide_eq_true (show (i : Int) < (b.length : Int) by omega)]
   refine ev_s ?_
   simp only [spec_l1Same.j1, if_true, if_pos (show (i : Int) < (a.length : Int) by omega), if_pos (show (i : Int) < (b.length : Int) by omega), if_pos (show (0 : Int) ≤ (i : Int) by omega), rd_get hlt, rd_get hlt2, show wrap64 ((i : Int) + 1) = ((i + 1 : Nat) : Int) from wrap_nat2 i 1 (by omega)]
   rw [List.drop_eq_getElem_cons hlt, List.drop_eq_getElem_cons hlt2]
   by_cases he : a[i] = b[i]
   ·
    simp only [if_pos he]
    exact ev_eq (ih (i + 1) (by omega)) (by simp only [List.cons.injEq, he, true_and])
   ·
    simp only [if_neg he]
    exact ev_now (by simp only [List.cons.injEq, he, false_and, decide_false])
 exact ev_eq (go a.length 0 (by omega)) (by simp)
theorem l1Same_ne (a b : List Int) (hl : a.length ≠ b.length) (hb : a.length ≤ 1000000) (hb2 : b.length ≤ 1000000) : Ev (fun k => spec_l1Same.f k a b) false := by
 simp only [spec_l1Same.f]
 have go : ∀ (d i : Nat), i + d = a.length → Ev (fun k => spec_l1Same.l0 k a b (i : Int)) false := by
  intro d
  induction d with
  | zero =>
   intro i hi
   refine ev_s ?_
   simp only [spec_l1Same.l0, if_neg (show ¬ ((i : Int) < (a.length : Int)) by omega)]
   refine ev_s ?_
   simp only [spec_l1Same.j1, Bool.false_eq_true, if_false]
   exact ev_now (by rw [beq_eq_false_iff_ne]; omega)
  | succ d ih =>
   intro i hi
   have hlt : i < a.length := by omega
   by_cases hlt2 : i < b.length
   ·
    refine ev_s ?_
    simp only [spec_l1Same.l0, if_pos (show (i : Int) < (a.length : Int) by omega), decide_eq_true (show (i : Int) < (b.length : Int) by omega)]
    refine ev_s ?_
    simp only [spec_l1Same.j1, if_true, if_pos (show (i : Int) < (a.length : Int) by omega), if_pos (show (i : Int) < (b.length : Int) by omega), if_pos (show (0 : Int) ≤ (i : Int) by omega), rd_get hlt, rd_get hlt2, show wrap64 ((i : Int) + 1) = ((i + 1 : Nat) : Int) from wrap_nat2 i 1 (by omega)]
    by_cases he : a[i] = b[i]
    ·
     simp only [if_pos he]; exact ih (i + 1) (by omega)
    ·
     simp only [if_neg he]; exact Ev.now _
   ·
    refine ev_s ?_
    simp only [spec_l1Same.l0, if_pos (show (i : Int) < (a.length : Int) by omega), decide_eq_false (show ¬ ((i : Int) < (b.length : Int)) by omega)]
    refine ev_s ?_
    simp only [spec_l1Same.j1, Bool.false_eq_true, if_false]
    exact ev_now (by rw [beq_eq_false_iff_ne]; omega)
 exact go a.length 0 (by omega)
theorem l1Same_all (a b : List Int) (hb : a.length ≤ 1000000) (hb2 : b.length ≤ 1000000) : Ev (fun k => spec_l1Same.f k a b) (decide (a = b)) := by
 by_cases hl : a.length = b.length
 ·
  exact l1Same_ev a b hl hb
 ·
  rw [decide_eq_false (fun hab => hl (by rw [hab]))]; exact l1Same_ne a b hl hb hb2
theorem spec_HydraSame_good {g h : H} (hg : g.row.length ≤ 60) (hh : h.row.length ≤ 60) : Ev (fun k => spec_HydraSame.f k g.row h.row) (H.same g h) := by
 have a1 := H.row_size g
 have a2 := H.row_size g.isort
 have a3 := H.isort_size g
 have b1 := H.row_size h
 have b2 := H.row_size h.isort
 have b3 := H.isort_size h
 simp only [spec_HydraSame.f]
 refine Ev.bind (spec_HydraValid_good hg) ?_
 simp only [if_true]
 refine Ev.bind (spec_HydraValid_good hh) ?_
 simp only [if_true]
 refine Ev.bind (l5Sort_ev (by omega)) ?_
 refine Ev.bind (l5Sort_ev (by omega)) ?_
 refine Ev.bind (l1Same_all _ _ (by omega) (by omega)) ?_
 exact ev_now (H.same_rows g h)
theorem spec_HydraSame_bad {l m : List Int} (h : NoHydra l ∨ NoHydra m) : Ev (fun k => spec_HydraSame.f k l m) false := by
 simp only [spec_HydraSame.f]
 by_cases hl : NoHydra l
 ·
  refine Ev.bind (spec_HydraValid_bad hl) ?_
  simp only [Bool.false_eq_true, if_false]
  exact Ev.now _
 ·
  have hm : NoHydra m := by rcases h with h | h; exact absurd h hl; exact h
  rcases hydra_or l with ⟨g, rfl, hr⟩ | h
  ·
   refine Ev.bind (spec_HydraValid_good hr) ?_
   simp only [if_true]
   refine Ev.bind (spec_HydraValid_bad hm) ?_
   simp only [Bool.false_eq_true, if_false]
   exact Ev.now _
  ·
   exact absurd h hl

-- part: law_FnExactHydraSame
theorem HydraSame_both (l m : List Int) : ∃ r : Bool, Ev (fun k => spec_HydraSame.f k l m) r ∧ Ev (fun k => impl_HydraSame.f k l m) r := by
 rcases hydra_or l with ⟨g, rfl, hg⟩ | h
 ·
  rcases hydra_or m with ⟨h, rfl, hh⟩ | h
  ·
   exact ⟨_, spec_HydraSame_good hg hh, impl_HydraSame_good hg hh⟩
  ·
   exact ⟨_, spec_HydraSame_bad (.inr h), impl_HydraSame_bad (.inr h)⟩
 ·
  exact ⟨_, spec_HydraSame_bad (.inl h), impl_HydraSame_bad (.inl h)⟩
theorem FnExactHydraSame : laws_FnExactHydraSame.Pure := by
 intro l0 l1 _ hl _ _ hl1 _
 refine Ev.rounds ?_
 simp only [laws_FnExactHydraSame.f]
 by_cases hb : (l0.length : Int) > 1048576
 ·
  simp only [if_pos hb]; exact Ev.now _
 by_cases hb1 : (l1.length : Int) > 1048576
 ·
  simp only [if_neg hb, if_pos hb1]; exact Ev.now _
 simp only [if_neg hb, if_neg hb1]
 have ht := toIntS_ev l0 (by omega)
 have ht1 := toIntS_ev l1 (by omega)
 obtain ⟨r, hs, hi⟩ := HydraSame_both l0 l1
 refine Ev.bind ht ?_
 refine Ev.bind ht1 ?_
 refine Ev.bind hs ?_
 refine Ev.bind ht ?_
 refine Ev.bind ht1 ?_
 refine Ev.bind hi ?_
 simp only [bne_self_eq_false, Bool.false_eq_true, if_false]
 refine Ev.bind ht ?_
 refine Ev.bind (eqIntS_ev l0 l0 (by omega)) ?_
 simp only [decide_true, if_true]
 refine Ev.bind ht1 ?_
 refine Ev.bind (eqIntS_ev l1 l1 (by omega)) ?_
 simp only [decide_true, if_true]
 exact Ev.now _

end Go.Proofs.Ytahhdbjjfdjloaa.Pure

-- half
/- The law FnHydraOf returns true for every input that the statement lets in; no condition of our own. -/
import Derived.Test.YtahhdbjjfdjloaaJfx18
namespace Go.Proofs.Ytahhdbjjfdjloaa.Pure
open Go.RowKit Go.Proofs.Ytahhdbjjfdjloaa.Jf Go.Proofs.YtahhdbjjfdjloaaW.PrintWords Go.Proofs.YtahhdbjjfdjloaaW.PrintLast
set_option linter.unusedVariables false
set_option linter.unusedSimpArgs false

-- part: base
theorem ev_s {α : Type} {g : Nat -> Option α} {r : α} (h : Ev (fun k => g (k + 1)) r) : Ev g r := Ev.step (fun _ => rfl) h
theorem ev_eq {α : Type} {g : Nat -> Option α} {r q : α} (h : Ev g r) (e : r = q) : Ev g q := e ▸ h
theorem ev_now {α : Type} {r q : α} (e : r = q) : Ev (fun _ => some r) q := e ▸ Ev.now r
theorem wrap_in {x : Int} (h0 : -9223372036854775808 <= x) (h1 : x <= 9223372036854775807) : wrap64 x = x := by unfold wrap64; omega
theorem rd_eq (xs : List Int) (i : Nat) : rd xs (i : Int) = xs.getD i 0 := by simp [rd]
theorem rd_get {xs : List Int} {i : Nat} (h : i < xs.length) : rd xs (i : Int) = xs[i] := by simp [rd, h]
theorem wrap_nat2 (a b : Nat) (h : a + b < 4611686018427387904) : wrap64 ((a : Int) + (b : Int)) = ((a + b : Nat) : Int) := by rw [wrap_in (by omega) (by omega)]; omega
theorem ev_const {α : Type} {x : Option α} {a : α} (h : x = some a) : Ev (fun _ => x) a := by subst h; exact Ev.now a

-- part: eqLoop
theorem eqIntS_l0 (F : Nat -> List Int -> List Int -> Int -> Option Bool)
  (h0 : ∀ k a b i, F (k + 1) a b i = if i < (a.length : Int) then (if 0 <= i then (if i < (b.length : Int) then (if (rd a i) = (rd b i) then (F k a b (wrap64 (i + 1))) else (some false)) else none) else none) else some true)
  (a b : List Int) (hl : a.length = b.length) (hb : a.length <= 140737488351232) : ∀ (d i : Nat), i + d = a.length -> a.take i = b.take i -> Ev (fun k => F k a b i) (decide (a = b)) := by
 intro d
 induction d with
 | zero =>
  intro i h ht
  refine ev_s ?_
  simp only [h0]
  simp only [if_neg (show ¬ ((i : Int) < (a.length : Int)) by omega)]
  rw [List.take_of_length_le (by omega), List.take_of_length_le (by omega)] at ht
  simp only [ht, decide_true]; exact Ev.now _
 | succ d ih =>
  intro i h ht
  refine ev_s ?_
  simp only [h0]
  simp only [if_pos (show (i : Int) < (a.length : Int) by omega), if_pos (show (0 : Int) <= (i : Int) by omega), if_pos (show (i : Int) < (b.length : Int) by omega), show wrap64 ((i : Int) + 1) = ((i + 1 : Nat) : Int) by rw [wrap_in (by omega) (by omega)]; rfl]
  rw [rd_get (show i < a.length by omega), rd_get (show i < b.length by omega)]
  by_cases he : a[i] = b[i]
  ·
   simp only [if_pos he]
   refine ih (i + 1) (by omega) ?_
   rw [List.take_succ_eq_append_getElem (by omega), List.take_succ_eq_append_getElem (by omega), ht, he]
  ·
   simp only [if_neg he]
   refine ev_now (Eq.symm (decide_eq_false (fun hab => he ?_)))
   subst hab; rfl

-- part: sameInts
theorem sameInts_ev (a b : List Int) (hb : a.length <= 140737488351232) : Ev (fun k => laws_sameInts.f k a b) (decide (a = b)) := by
 simp only [laws_sameInts.f]
 by_cases hl : a.length = b.length
 ·
  simp only [if_pos (show (a.length : Int) = (b.length : Int) by omega)]
  exact eqIntS_l0 laws_sameInts.l0 (fun _ _ _ _ => rfl) a b hl hb a.length 0 (by omega) (by simp)
 ·
  simp only [if_neg (show ¬ ((a.length : Int) = (b.length : Int)) by omega)]
  exact ev_now (Eq.symm (decide_eq_false (fun hab => hl (by rw [hab]))))

-- part: l1In
theorem l1In_eq (n lo hi : Int) : spec_l1In.f n lo hi = some (decide (lo <= n /\ n <= hi)) := by
 unfold spec_l1In.f
 by_cases h : n >= lo
 · rw [if_pos h]; simp [show lo <= n from h]
 · rw [if_neg h]; simp [show ¬ lo <= n from h]

-- part: O
inductive O where
 | z : O
 | c (n : Nat) (e r : O) : O

-- part: oAppDef
def O.app : O -> O -> O
 | .z, y => y
 | .c n e r, y => .c n e (O.app r y)
theorem O.app_z : ∀ x : O, O.app x .z = x
 | .z => rfl
 | .c n e r => by rw [O.app, O.app_z r]

-- part: coreO
def O.cmp : O -> O -> Ordering
 | .z, .z => .eq
 | .z, .c .. => .lt
 | .c .., .z => .gt
 | .c n e r, .c m f s => ((O.cmp e f).then (compare n m)).then (O.cmp r s)

theorem O.cmp_self : ∀ a : O, O.cmp a a = .eq
 | .z => rfl
 | .c n e r => by
  have h1 := O.cmp_self e
  have h2 := O.cmp_self r
  simp [O.cmp, h1, h2]

theorem O.eq_of_cmp : ∀ a b : O, O.cmp a b = .eq -> a = b
 | .z, .z => fun _ => rfl
 | .z, .c .. => fun h => by simp [O.cmp] at h
 | .c .., .z => fun h => by simp [O.cmp] at h
 | .c n e r, .c m f s => fun h => by
  simp only [O.cmp, Ordering.then_eq_eq] at h
  obtain ⟨⟨h1, h2⟩, h3⟩ := h
  rw [O.eq_of_cmp e f h1, O.eq_of_cmp r s h3, Nat.compare_eq_eq.mp h2]

theorem O.cmp_swap : ∀ a b : O, (O.cmp a b).swap = O.cmp b a
 | .z, .z => rfl
 | .z, .c .. => rfl
 | .c .., .z => rfl
 | .c n e r, .c m f s => by
  have h1 := O.cmp_swap e f
  have h2 := O.cmp_swap r s
  simp only [O.cmp, Ordering.swap_then, h1, h2, Nat.compare_swap]

theorem O.cmp_gt_iff (a b : O) : O.cmp a b = .gt ↔ O.cmp b a = .lt := by
 rw [<- O.cmp_swap a b]
 cases O.cmp a b <;> simp [Ordering.swap]

theorem O.lt_trans : ∀ a b c : O, O.cmp a b = .lt -> O.cmp b c = .lt -> O.cmp a c = .lt
 | .z, .z, _ => fun h => by simp [O.cmp] at h
 | .c .., .z, _ => fun h => by simp [O.cmp] at h
 | .z, .c .., .z => fun _ h => by simp [O.cmp] at h
 | .z, .c .., .c .. => fun _ _ => rfl
 | .c .., .c .., .z => fun _ h => by simp [O.cmp] at h
 | .c n e r, .c m f s, .c k g t => fun h1 h2 => by
  simp only [O.cmp, Ordering.then_eq_lt] at h1 h2 ⊢
  rcases h1 with (h1 | ⟨h1, h1'⟩) | ⟨h1, h1'⟩
  ·
   rcases h2 with (h2 | ⟨h2, h2'⟩) | ⟨h2, h2'⟩
   · exact .inl (.inl (O.lt_trans _ _ _ h1 h2))
   · rw [<- O.eq_of_cmp _ _ h2]; exact .inl (.inl h1)
   · rw [Ordering.then_eq_eq] at h2; rw [<- O.eq_of_cmp _ _ h2.1]; exact .inl (.inl h1)
  ·
   have := O.eq_of_cmp _ _ h1; subst this
   rcases h2 with (h2 | ⟨h2, h2'⟩) | ⟨h2, h2'⟩
   · exact .inl (.inl h2)
   ·
    have h3 := O.eq_of_cmp _ _ h2; subst h3
    rw [Nat.compare_eq_lt] at h1' h2'
    exact .inl (.inr ⟨h2, Nat.compare_eq_lt.mpr (by omega)⟩)
   · rw [Ordering.then_eq_eq] at h2; rw [<- Nat.compare_eq_eq.mp h2.2]; exact .inl (.inr ⟨h2.1, h1'⟩)
  ·
   rw [Ordering.then_eq_eq] at h1
   have := O.eq_of_cmp _ _ h1.1; subst this
   have := Nat.compare_eq_eq.mp h1.2; subst this
   rcases h2 with (h2 | ⟨h2, h2'⟩) | ⟨h2, h2'⟩
   · exact .inl (.inl h2)
   · exact .inl (.inr ⟨h2, h2'⟩)
   · exact .inr ⟨h2, O.lt_trans _ _ _ h1' h2'⟩

theorem O.cmp_tri (a b : O) : O.cmp a b = .lt \/ a = b \/ O.cmp b a = .lt := by
 cases h : O.cmp a b with
 | lt => exact .inl rfl
 | eq => exact .inr (.inl (O.eq_of_cmp _ _ h))
 | gt => exact .inr (.inr ((O.cmp_gt_iff _ _).mp h))

theorem O.lt_irrefl (a : O) : O.cmp a a ≠ .lt := by rw [O.cmp_self]; simp
def O.hd (e : O) : O -> Prop
 | .z => True
 | .c _ f _ => O.cmp f e = .lt

def O.NF : O -> Prop
 | .z => True
 | .c n e r => 1 <= n /\ O.NF e /\ O.NF r /\ O.hd e r

-- part: coreIns
def O.ins (e : O) : O -> O
 | .z => .c 1 e .z
 | .c n f r => match O.cmp f e with
  | .gt => .c n f (O.ins e r)
  | .eq => .c (n + 1) f r
  | .lt => .c 1 e (.c n f r)

theorem O.ins_hd {e g : O} (h : O.cmp e g = .lt) : ∀ {x : O}, O.hd g x -> O.hd g (O.ins e x)
 | .z, _ => h
 | .c n f r, h' => by
  unfold O.ins
  cases hc : O.cmp f e with
  | gt => exact h'
  | eq => exact h'
  | lt => exact h

theorem O.ins_NF {e : O} (he : O.NF e) : ∀ {x : O}, O.NF x -> O.NF (O.ins e x)
 | .z, _ => ⟨Nat.le_refl _, he, trivial, trivial⟩
 | .c n f r, h => by
  obtain ⟨h1, h2, h3, h4⟩ := h
  unfold O.ins
  cases hc : O.cmp f e with
  | gt => exact ⟨h1, h2, O.ins_NF he h3, O.ins_hd ((O.cmp_gt_iff _ _).mp hc) h4⟩
  | eq => exact ⟨by omega, h2, h3, h4⟩
  | lt => exact ⟨Nat.le_refl _, he, ⟨h1, h2, h3, h4⟩, hc⟩

theorem O.ins_big {e : O} : ∀ {x : O}, O.hd e x -> O.ins e x = .c 1 e x
 | .z, _ => rfl
 | .c n f r, h => by unfold O.ins; rw [show O.cmp f e = .lt from h]

theorem O.ins_comm (e f : O) : ∀ x : O, O.NF x -> O.ins e (O.ins f x) = O.ins f (O.ins e x)
 | .z, _ => by
  rcases O.cmp_tri e f with h | h | h
  ·
   have h' := (O.cmp_gt_iff f e).mpr h
   simp [O.ins, h, h']
  · subst h; rfl
  ·
   have h' := (O.cmp_gt_iff e f).mpr h
   simp [O.ins, h, h']
 | .c n g r, hx => by
  have ih := O.ins_comm e f r hx.2.2.1
  have hg : O.hd g r := hx.2.2.2
  rcases O.cmp_tri e g with he | he | he
  ·
   have he' := (O.cmp_gt_iff g e).mpr he
   rcases O.cmp_tri f g with hf | hf | hf
   ·
    have hf' := (O.cmp_gt_iff g f).mpr hf
    simp [O.ins, he', hf', ih]
   · subst hf; simp [O.ins, he', O.cmp_self]
   ·
    simp only [O.ins, he', hf]
    rw [(O.cmp_gt_iff f e).mpr (O.lt_trans _ _ _ he hf)]
    try simp [O.ins, he']
  ·
   subst he
   rcases O.cmp_tri f e with hf | hf | hf
   ·
    have hf' := (O.cmp_gt_iff e f).mpr hf
    simp [O.ins, hf', O.cmp_self]
   · subst hf; rfl
   ·
    have hf' := (O.cmp_gt_iff f e).mpr hf
    simp [O.ins, hf, hf', O.cmp_self]
  ·
   rcases O.cmp_tri f g with hf | hf | hf
   ·
    have hf' := (O.cmp_gt_iff g f).mpr hf
    simp only [O.ins, he, hf']
    rw [(O.cmp_gt_iff e f).mpr (O.lt_trans _ _ _ hf he)]
    try simp [O.ins, hf']
   ·
    subst hf
    have he' := (O.cmp_gt_iff e f).mpr he
    simp [O.ins, he, he', O.cmp_self]
   ·
    rcases O.cmp_tri e f with h | h | h
    ·
     have h' := (O.cmp_gt_iff f e).mpr h
     simp [O.ins, he, hf, h, h']
    · subst h; rfl
    ·
     have h' := (O.cmp_gt_iff e f).mpr h
     simp [O.ins, he, hf, h, h']

theorem O.lt_ins (e : O) : ∀ x : O, O.cmp x (O.ins e x) = .lt
 | .z => rfl
 | .c n f r => by
  unfold O.ins
  cases hc : O.cmp f e with
  | gt => simp [O.cmp, O.cmp_self, O.lt_ins e r]
  | eq => simp [O.cmp, O.cmp_self, Nat.compare_eq_lt.mpr (Nat.lt_succ_self n)]
  | lt => simp [O.cmp, hc]

def O.insk (e : O) : Nat -> O -> O
 | 0, x => x
 | k + 1, x => O.ins e (O.insk e k x)

theorem O.hd_lt {e : O} : ∀ {x : O}, O.hd e x -> ∀ n r, O.cmp x (.c n e r) = .lt
 | .z, _, _, _ => rfl
 | .c _ _ _, h, _, _ => by simp [O.cmp, show O.cmp _ _ = _ from h]

inductive H where
 | nul : H
 | cons (b r : H) : H

-- part: hRow
def H.len : H -> Nat
 | .nul => 0
 | .cons _ r => H.len r + 1
def H.body : H -> List Int
 | .nul => []
 | .cons b r => (H.len b : Int) :: (H.body b ++ H.body r)
def H.row (h : H) : List Int := (h.len : Int) :: h.body
theorem H.body_cons (b r : H) : (H.cons b r).body = b.row ++ r.body := rfl
theorem H.row_length (h : H) : h.row.length = h.body.length + 1 := by simp [H.row]
theorem H.len_le : ∀ h : H, h.len <= h.body.length
 | .nul => Nat.le_refl _
 | .cons b r => by have := H.len_le r; simp only [H.len, H.body, List.length_cons, List.length_append]; omega
inductive BadN : Nat -> List Int -> Prop where
 | nil (m : Nat) : BadN (m + 1) []
 | out (m : Nat) (x : Int) (r : List Int) (h : x < 0 \/ 60 < x) : BadN (m + 1) (x :: r)
 | deep (m : Nat) (x : Int) (r : List Int) (h0 : 0 <= x) (h1 : x <= 60) (h : BadN x.toNat r) : BadN (m + 1) (x :: r)
 | next (m : Nat) (b : H) (t : List Int) (hb : b.row.length <= 60) (h : BadN m t) : BadN (m + 1) (b.row ++ t)
theorem H.body_inj : ∀ (s s' : H) (t t' : List Int), s.len = s'.len -> s.body ++ t = s'.body ++ t' -> s = s' /\ t = t'
 | .nul, .nul, t, t', _, h => ⟨rfl, h⟩
 | .nul, .cons .., _, _, h, _ => by simp [H.len] at h
 | .cons .., .nul, _, _, h, _ => by simp [H.len] at h
 | .cons b r, .cons b' r', t, t', hl, h => by
  simp only [H.len, Nat.add_right_cancel_iff] at hl
  simp only [H.body, List.cons_append, List.append_assoc, List.cons.injEq] at h
  obtain ⟨h1, h2⟩ := h
  obtain ⟨h3, h4⟩ := H.body_inj b b' _ _ (by omega) h2
  obtain ⟨h5, h6⟩ := H.body_inj r r' _ _ hl h4
  exact ⟨by rw [h3, h5], h6⟩
theorem H.row_inj {g h : H} (e : g.row = h.row) : g = h := by
 simp only [H.row, List.cons.injEq] at e
 exact (H.body_inj g h [] [] (by omega) (by rw [e.2])).1

-- part: hTake
def H.terms : H -> List S46
 | .nul => []
 | .cons b r => ⟨H.terms b⟩ :: H.terms r
theorem H.terms_len : ∀ h : H, h.terms.length = h.len
 | .nul => rfl
 | .cons b r => by rw [H.terms, H.len, List.length_cons, H.terms_len r]
theorem rd_T46_mid (pre suf : List S46) (x : S46) : rd_T46 (pre ++ x :: suf) ((pre.length : Nat) : Int) = x := by simp [rd_T46]
theorem rd_cons (x : Int) (l : List Int) : rd (x :: l) 0 = x := rfl
theorem takeHydra_in {x : Int} {r : List Int} (h0 : 0 <= x) (h1 : x <= 60) {q : (List S46) × List Int × Bool} (h : Ev (fun k => impl_takeHydra.l0 k r [] x 0) q) : Ev (fun k => impl_takeHydra.f k (x :: r)) q := by
 refine ev_s ?_
 have g1 : ¬ (((x :: r).length : Int) = 0) := by simp only [List.length_cons]; omega
 have g2 : (0 : Int) < ((x :: r).length : Int) := by simp only [List.length_cons]; omega
 have g3 : (1 : Int) <= ((x :: r).length : Int) := by simp only [List.length_cons]; omega
 have g4 : ¬ (rd (x :: r) 0 < 0) := by rw [rd_cons]; omega
 have g5 : ¬ (rd (x :: r) 0 > 60) := by rw [rd_cons]; omega
 simp only [impl_takeHydra.f, if_neg g1, if_pos g2, if_neg g4, decide_eq_false g5]
 refine ev_s ?_
 simp only [impl_takeHydra.j0, Bool.false_eq_true, if_false, if_pos g2, if_pos g3, List.drop_succ_cons, List.drop_zero]
 exact h
theorem takeHydra_out {l : List Int} (h : l = [] \/ ∃ x r, l = x :: r /\ (x < 0 \/ 60 < x)) : Ev (fun k => impl_takeHydra.f k l) ([], [], false) := by
 have hj : Ev (fun k => impl_takeHydra.j0 k l true) ([], [], false) := by
  refine ev_s ?_
  simp only [impl_takeHydra.j0, if_true]
  exact Ev.now _
 refine ev_s ?_
 rcases h with rfl | ⟨x, r, rfl, hx⟩
 ·
  simp only [impl_takeHydra.f, List.length_nil, if_pos (show ((0 : Nat) : Int) = 0 from rfl)]
  exact hj
 ·
  have g1 : ¬ (((x :: r).length : Int) = 0) := by simp only [List.length_cons]; omega
  have g2 : (0 : Int) < ((x :: r).length : Int) := by simp only [List.length_cons]; omega
  by_cases h0 : rd (x :: r) 0 < 0
  · simp only [impl_takeHydra.f, if_neg g1, if_pos g2, if_pos h0]; exact hj
  ·
   have g5 : rd (x :: r) 0 > 60 := by rw [rd_cons] at h0 ⊢; omega
   simp only [impl_takeHydra.f, if_neg g1, if_pos g2, if_neg h0, decide_eq_true g5]; exact hj
theorem takeHydra_l0 : ∀ (s : H) (pre : List S46) (t : List Int), pre.length + s.body.length <= 1000 -> s.body.length <= 60 ->
  Ev (fun k => impl_takeHydra.l0 k (s.body ++ t) pre ((pre.length + s.len : Nat) : Int) (pre.length : Int)) (pre ++ s.terms, t, true)
 | .nul, pre, t, _, _ => by
  refine ev_s ?_
  simp only [impl_takeHydra.l0, H.len, H.body, H.terms, Nat.add_zero, List.nil_append, List.append_nil, Int.lt_irrefl, if_false]
  exact Ev.now _
 | .cons b r, pre, t, hp, hs => by
  simp only [H.body, List.length_cons, List.length_append] at hp hs
  have hbl := H.len_le b
  have ihb := takeHydra_l0 b [] (r.body ++ t) (by simp; omega) (by omega)
  simp only [List.length_nil, Nat.zero_add, List.nil_append] at ihb
  have ihr := takeHydra_l0 r (pre ++ [⟨b.terms⟩]) t (by simp; omega) (by omega)
  have hbody : (H.cons b r).body ++ t = (b.len : Int) :: (b.body ++ (r.body ++ t)) := by simp [H.body]
  have hw : wrap64 ((pre.length : Int) + 1) = (((pre ++ [(⟨b.terms⟩ : S46)]).length : Nat) : Int) := by
   rw [List.length_append, List.length_singleton]; exact wrap_nat2 pre.length 1 (by omega)
  have hcnt : ((pre.length + (H.cons b r).len : Nat) : Int) = (((pre ++ [(⟨b.terms⟩ : S46)]).length + r.len : Nat) : Int) := by
   simp only [H.len, List.length_append, List.length_singleton]; omega
  have hres : pre ++ (H.cons b r).terms = pre ++ [(⟨b.terms⟩ : S46)] ++ r.terms := by simp [H.terms]
  rw [hbody, hres]
  refine ev_s ?_
  simp only [impl_takeHydra.l0, if_pos (show (pre.length : Int) < ((pre.length + (H.cons b r).len : Nat) : Int) by simp only [H.len]; omega)]
  refine Ev.bind (takeHydra_in (by omega) (by omega) ihb) ?_
  simp only [if_true, if_pos (show pre.length < 5864062014805 by omega), hw, hcnt]
  exact ihr
theorem takeHydra_row {s : H} (h : s.row.length <= 60) (t : List Int) : Ev (fun k => impl_takeHydra.f k (s.row ++ t)) (s.terms, t, true) := by
 rw [H.row_length] at h
 have := H.len_le s
 have h1 := takeHydra_l0 s [] t (by simp; omega) (by omega)
 simp only [List.length_nil, Nat.zero_add, List.nil_append] at h1
 exact takeHydra_in (by omega) (by omega) h1
theorem takeHydra_bad {m : Nat} {l : List Int} (h : BadN m l) : ∀ (pre : List S46), pre.length + m <= 1000 -> Ev (fun k => impl_takeHydra.l0 k l pre ((pre.length + m : Nat) : Int) (pre.length : Int)) ([], [], false) := by
 have fall : ∀ (l : List Int) (m : Nat) (pre : List S46) {a : List S46} {t : List Int}, Ev (fun k => impl_takeHydra.f k l) (a, t, false) -> Ev (fun k => impl_takeHydra.l0 k l pre ((pre.length + (m + 1) : Nat) : Int) (pre.length : Int)) ([], [], false) := by
  intro l m pre a t h
  refine ev_s ?_
  simp only [impl_takeHydra.l0, if_pos (show (pre.length : Int) < ((pre.length + (m + 1) : Nat) : Int) by omega)]
  refine Ev.bind h ?_
  simp only [Bool.false_eq_true, if_false]
  exact Ev.now _
 induction h with
 | nil m => intro pre _; exact fall _ m pre (takeHydra_out (.inl rfl))
 | out m x r h => intro pre _; exact fall _ m pre (takeHydra_out (.inr ⟨x, r, rfl, h⟩))
 | deep m x r h0 h1 h ih =>
  intro pre hp
  have := ih [] (by simp only [List.length_nil]; omega)
  simp only [List.length_nil, Nat.zero_add, Int.toNat_of_nonneg h0] at this
  exact fall _ m pre (takeHydra_in h0 h1 this)
 | next m b t hb h ih =>
  intro pre hp
  have hw : wrap64 ((pre.length : Int) + 1) = (((pre ++ [(⟨b.terms⟩ : S46)]).length : Nat) : Int) := by
   rw [List.length_append, List.length_singleton]; exact wrap_nat2 pre.length 1 (by omega)
  have hcnt : ((pre.length + (m + 1) : Nat) : Int) = (((pre ++ [(⟨b.terms⟩ : S46)]).length + m : Nat) : Int) := by
   simp only [List.length_append, List.length_singleton]; omega
  refine ev_s ?_
  simp only [impl_takeHydra.l0, if_pos (show (pre.length : Int) < ((pre.length + (m + 1) : Nat) : Int) by omega)]
  refine Ev.bind (takeHydra_row hb t) ?_
  simp only [if_true, if_pos (show pre.length < 5864062014805 by omega), hw, hcnt]
  exact ih (pre ++ [⟨b.terms⟩]) (by simp only [List.length_append, List.length_singleton]; omega)
theorem impl_hydraOf_good {h : H} (hl : h.row.length <= 60) : Ev (fun k => impl_hydraOf.f k h.row) (h.terms, true) := by
 have hr := H.row_length h
 have := takeHydra_row hl []
 rw [List.append_nil] at this
 simp only [impl_hydraOf.f, if_neg (show ¬ ((h.row.length : Int) < 1) by omega), if_neg (show ¬ ((h.row.length : Int) > 60) by omega)]
 refine Ev.bind this ?_
 simp only [if_true]
 exact ev_now (by simp)
def NoHydra (l : List Int) : Prop := 60 < l.length \/ l = [] \/ BadN 1 l \/ ∃ (h : H) (x : Int) (t : List Int), l = h.row ++ x :: t
theorem impl_hydraOf_bad {l : List Int} (h : NoHydra l) : ∃ a, Ev (fun k => impl_hydraOf.f k l) (a, false) := by
 by_cases h0 : l = []
 ·
  subst h0
  refine ⟨[], ?_⟩
  simp only [impl_hydraOf.f, List.length_nil, if_pos (show ((0 : Nat) : Int) < 1 by decide)]
  exact Ev.now _
 ·
  have hpos : 0 < l.length := List.length_pos_iff.mpr h0
  by_cases h60 : 60 < l.length
  ·
   refine ⟨[], ?_⟩
   simp only [impl_hydraOf.f, if_neg (show ¬ ((l.length : Int) < 1) by omega), if_pos (show (l.length : Int) > 60 by omega)]
   exact Ev.now _
  ·
   simp only [impl_hydraOf.f, if_neg (show ¬ ((l.length : Int) < 1) by omega), if_neg (show ¬ ((l.length : Int) > 60) by omega)]
   rcases h with h | h | h | ⟨g, x, t, rfl⟩
   · omega
   · exact absurd h h0
   ·
    have hf : ∃ a t, Ev (fun k => impl_takeHydra.f k l) (a, t, false) := by
     cases h with
     | nil => exact absurd rfl h0
     | out m x r h => exact ⟨_, _, takeHydra_out (.inr ⟨x, r, rfl, h⟩)⟩
     | deep m x r hx0 hx1 h =>
      have := takeHydra_bad h [] (by simp only [List.length_nil]; omega)
      simp only [List.length_nil, Nat.zero_add, Int.toNat_of_nonneg hx0] at this
      exact ⟨_, _, takeHydra_in hx0 hx1 this⟩
     | next m b t hb h => cases h
    obtain ⟨a, t, hf⟩ := hf
    refine ⟨a, Ev.bind hf ?_⟩
    simp only [Bool.false_eq_true, if_false]
    exact Ev.now _
   ·
    simp only [List.length_append, List.length_cons] at h60
    refine ⟨g.terms, Ev.bind (takeHydra_row (by omega) (x :: t)) ?_⟩
    simp only [if_true]
    exact ev_now (by simp; omega)
theorem impl_HydraValid_good {h : H} (hl : h.row.length <= 60) : Ev (fun k => impl_HydraValid.f k h.row) true := by
 simp only [impl_HydraValid.f]
 exact Ev.bind (impl_hydraOf_good hl) (Ev.now _)
def H.zs (h : H) : Nat := h.body.count 0
theorem H.zs_cons (b r : H) : (H.cons b r).zs = (if b.len = 0 then 1 else 0) + b.zs + r.zs := by
 simp only [H.zs, H.body, List.count_cons, List.count_append]
 by_cases h : b.len = 0
 · simp [h]; omega
 ·
  have : ¬ ((b.len : Int) = 0) := by omega
  simp [h]
theorem H.zs_le (h : H) : h.zs <= h.body.length := List.count_le_length
theorem heads_l0 : ∀ (s : H) (pre : List S46) (n : Nat), pre.length + s.body.length <= 1000 -> n + s.body.length <= 100000 -> Ev (fun k => impl_hydra_heads.l0 k (n : Int) (pre ++ s.terms) (((pre ++ s.terms).length : Nat) : Int) (pre.length : Int)) ((n + s.zs : Nat) : Int)
 | .nul, pre, n, _, _ => by
  refine ev_s ?_
  simp only [impl_hydra_heads.l0, H.terms, List.append_nil, Int.lt_irrefl, if_false]
  exact ev_now (by simp [H.zs, H.body])
 | .cons b r, pre, n, hp, hn => by
  simp only [H.body, List.length_cons, List.length_append] at hp hn
  have hbz := H.zs_le b
  have hbt := H.terms_len b
  have hbl := H.len_le b
  have hE : Ev (fun k => impl_hydra_heads.f k b.terms) (b.zs : Int) := by
   refine ev_s ?_
   simp only [impl_hydra_heads.f]
   have := heads_l0 b [] 0 (by simp; omega) (by omega)
   rw [List.nil_append] at this
   exact ev_eq this (by simp)
  have hlen : (pre ++ (H.cons b r).terms).length = pre.length + (r.terms.length + 1) := by simp [H.terms]
  have hmid : rd_T46 (pre ++ (H.cons b r).terms) (pre.length : Int) = ⟨b.terms⟩ := rd_T46_mid pre r.terms ⟨b.terms⟩
  have happ : pre ++ (H.cons b r).terms = (pre ++ [⟨b.terms⟩]) ++ r.terms := by simp [H.terms]
  have ew : wrap64 ((pre.length : Int) + 1) = (((pre ++ [(⟨b.terms⟩ : S46)]).length : Nat) : Int) := by
   rw [List.length_append, List.length_singleton]; exact wrap_nat2 pre.length 1 (by omega)
  have g1 : (pre.length : Int) < (((pre ++ (H.cons b r).terms).length : Nat) : Int) := by omega
  refine ev_s ?_
  simp only [impl_hydra_heads.l0, if_pos g1, if_pos (show (0 : Int) <= (pre.length : Int) from Int.natCast_nonneg _), hmid]
  by_cases h0 : b.len = 0
  ·
   simp only [if_pos (show (b.terms.length : Int) = 0 by omega)]
   refine Ev.bind hE ?_
   rw [wrap_in (x := (n : Int) + 1) (by omega) (by omega), wrap_in (x := (n : Int) + 1 + (b.zs : Int)) (by omega) (by omega), ew, show (n : Int) + 1 + (b.zs : Int) = ((n + 1 + b.zs : Nat) : Int) by omega, happ]
   exact ev_eq (heads_l0 r (pre ++ [⟨b.terms⟩]) (n + 1 + b.zs) (by simp only [List.length_append, List.length_singleton]; omega) (by omega)) (by rw [H.zs_cons, if_pos h0]; omega)
  ·
   simp only [if_neg (show ¬ ((b.terms.length : Int) = 0) by omega)]
   refine Ev.bind hE ?_
   rw [wrap_in (x := (n : Int) + (b.zs : Int)) (by omega) (by omega), ew, show (n : Int) + (b.zs : Int) = ((n + b.zs : Nat) : Int) by omega, happ]
   exact ev_eq (heads_l0 r (pre ++ [⟨b.terms⟩]) (n + b.zs) (by simp only [List.length_append, List.length_singleton]; omega) (by omega)) (by rw [H.zs_cons, if_neg h0]; omega)
theorem heads_ev (h : H) (hl : h.row.length <= 60) : Ev (fun k => impl_hydra_heads.f k h.terms) (h.zs : Int) := by
 rw [H.row_length] at hl
 refine ev_s ?_
 simp only [impl_hydra_heads.f]
 have := heads_l0 h [] 0 (by simp; omega) (by omega)
 rw [List.nil_append] at this
 exact ev_eq this (by simp)
theorem impl_HydraHeads_good {h : H} (hl : h.row.length <= 60) : Ev (fun k => impl_HydraHeads.f k h.row) (h.zs : Int) := by
 simp only [impl_HydraHeads.f]
 refine Ev.bind (impl_hydraOf_good hl) ?_
 simp only [if_true]
 exact Ev.bind (heads_ev h hl) (Ev.now _)
def H.rows : H -> List (List Int)
 | .nul => []
 | .cons b r => b.row :: H.rows r
theorem H.rows_len : ∀ h : H, h.rows.length = h.len
 | .nul => rfl
 | .cons b r => by rw [H.rows, H.len, List.length_cons, H.rows_len r]
theorem H.rows_flat : ∀ h : H, h.rows.flatten = h.body
 | .nul => rfl
 | .cons b r => by rw [H.rows, List.flatten_cons, H.rows_flat r, H.body_cons]
theorem row_l0 : ∀ (s : H) (pre : List S46) (a : List Int), pre.length + s.body.length <= 1000000 -> a.length + s.body.length <= 1000000 ->
  Ev (fun k => impl_hydra_row.l0 k a (pre ++ s.terms) (((pre ++ s.terms).length : Nat) : Int) (pre.length : Int)) (a ++ s.body)
 | .nul, pre, a, _, _ => by
  refine ev_s ?_
  simp only [impl_hydra_row.l0, H.terms, H.body, List.append_nil, Int.lt_irrefl, if_false]
  exact Ev.now _
 | .cons b r, pre, a, hp, ha => by
  have hrl := H.row_length b
  simp only [H.body, List.length_cons, List.length_append] at hp ha
  have hE : Ev (fun k => impl_hydra_row.f k b.terms) b.row := by
   refine ev_s ?_
   simp only [impl_hydra_row.f]
   have := row_l0 b [] [(b.len : Int)] (by simp; omega) (by simp; omega)
   rw [List.nil_append] at this
   simp only [H.terms_len] at this ⊢
   exact this
  have hlen : (pre ++ (H.cons b r).terms).length = pre.length + (r.terms.length + 1) := by simp [H.terms]
  have hmid : rd_T46 (pre ++ (H.cons b r).terms) (pre.length : Int) = ⟨b.terms⟩ := rd_T46_mid pre r.terms ⟨b.terms⟩
  have happ : pre ++ (H.cons b r).terms = (pre ++ [⟨b.terms⟩]) ++ r.terms := by simp [H.terms]
  have ew : wrap64 ((pre.length : Int) + 1) = (((pre ++ [(⟨b.terms⟩ : S46)]).length : Nat) : Int) := by
   rw [List.length_append, List.length_singleton]; exact wrap_nat2 pre.length 1 (by omega)
  have g1 : (pre.length : Int) < (((pre ++ (H.cons b r).terms).length : Nat) : Int) := by omega
  refine ev_s ?_
  simp only [impl_hydra_row.l0, if_pos g1, if_pos (show (0 : Int) <= (pre.length : Int) from Int.natCast_nonneg _), hmid]
  refine Ev.bind hE ?_
  simp only [if_pos (show a.length + b.row.length < 17592186044416 by omega), ew]
  rw [happ, H.body_cons, <- List.append_assoc]
  exact row_l0 r (pre ++ [⟨b.terms⟩]) (a ++ b.row) (by simp only [List.length_append, List.length_singleton]; omega) (by rw [List.length_append]; omega)
theorem row_ev {h : H} (hl : h.row.length <= 100000) : Ev (fun k => impl_hydra_row.f k h.terms) h.row := by
 rw [H.row_length] at hl
 refine ev_s ?_
 simp only [impl_hydra_row.f]
 have := row_l0 h [] [(h.len : Int)] (by simp; omega) (by simp; omega)
 rw [List.nil_append] at this
 simp only [H.terms_len] at this ⊢
 exact this
theorem grown_ev {h : H} (hl : h.row.length <= 100000) : Ev (fun k => impl_grown.f k h.terms) (if h.row.length <= 60 then (h.row, true) else ([], false)) := by
 simp only [impl_grown.f]
 refine Ev.bind (row_ev hl) ?_
 by_cases h60 : h.row.length <= 60
 ·
  simp only [if_neg (show ¬ ((h.row.length : Int) > 60) by omega), if_pos h60, slices_Clip_int_int.f, Option.bind_some]
  exact Ev.now _
 ·
  simp only [if_pos (show ((h.row.length : Int) > 60) by omega), if_neg h60]
  exact Ev.now _

-- part: oRow
def O.len : O -> Nat
 | .z => 0
 | .c _ _ r => O.len r + 1
def O.body : O -> List Int
 | .z => []
 | .c n e r => (n : Int) :: (O.len e : Int) :: (O.body e ++ O.body r)
def O.row (o : O) : List Int := (O.len o : Int) :: O.body o
theorem O.len_le : ∀ o : O, o.len <= o.body.length
 | .z => Nat.le_refl _
 | .c n e r => by have := O.len_le r; simp only [O.len, O.body, List.length_cons, List.length_append]; omega
inductive IsO : List S72 -> O -> Prop where
 | nil : IsO [] .z
 | cons {n : Nat} {e r : List S72} {oe or_ : O} (he : IsO e oe) (hr : IsO r or_) : IsO (⟨(n : Int), e⟩ :: r) (.c n oe or_)
theorem IsO.len {l : List S72} {o : O} (h : IsO l o) : l.length = o.len := by
 induction h with
 | nil => rfl
 | cons he hr ihe ihr => simp [O.len, ihr]
theorem rd_T72_mid (pre suf : List S72) (x : S72) : rd_T72 (pre ++ x :: suf) ((pre.length : Nat) : Int) = x := by simp [rd_T72]
def O.num (n : Nat) : O := if n = 0 then .z else .c n .z .z
theorem rowOf_l0 {suf : List S72} {o : O} (h : IsO suf o) : ∀ (pre : List S72) (out : List Int), pre.length + suf.length <= 1000000 -> out.length + o.body.length <= 1000000 -> Ev (fun k => impl_rowOf.l0 k out (pre ++ suf) (((pre ++ suf).length : Nat) : Int) (pre.length : Int)) (out ++ o.body) := by
 induction h with
 | nil =>
  intro pre out _ _
  refine ev_s ?_
  simp only [impl_rowOf.l0, List.append_nil, if_neg (show ¬ ((pre.length : Int) < (pre.length : Int)) by omega), O.body]
  exact Ev.now _
 | @cons n e r oe or_ he hr ihe ihr =>
  intro pre out hp ho
  simp only [List.length_cons] at hp
  simp only [O.body, List.length_cons, List.length_append] at ho
  have hlen : ((pre ++ (⟨(n : Int), e⟩ : S72) :: r).length : Nat) = pre.length + (r.length + 1) := by simp
  have he1 := IsO.len he
  have hel := O.len_le oe
  have hE : Ev (fun k => impl_rowOf.f k e) oe.row := by
   refine ev_s ?_
   simp only [impl_rowOf.f]
   have := ihe [] [(e.length : Int)] (by simp; omega) (by simp; omega)
   rw [List.nil_append] at this
   refine ev_eq this ?_
   rw [O.row, <- he1]; rfl
  refine ev_s ?_
  simp only [impl_rowOf.l0, rd_T72_mid, hlen, if_pos (show (pre.length : Int) < ((pre.length + (r.length + 1) : Nat) : Int) by omega), if_pos (show (0 : Int) <= (pre.length : Int) by omega), if_pos (show out.length < 17592186044416 by omega), Option.bind_some]
  refine Ev.bind hE ?_
  have hrow : oe.row.length = oe.body.length + 1 := by simp [O.row]
  simp only [List.length_append, List.length_singleton, hrow, if_pos (show out.length + 1 + (oe.body.length + 1) < 17592186044416 by omega), show wrap64 ((pre.length : Int) + 1) = ((pre.length + 1 : Nat) : Int) by rw [wrap_in (by omega) (by omega)]; rfl]
  have := ihr (pre ++ [⟨(n : Int), e⟩]) (out ++ [(n : Int)] ++ oe.row) (by simp; omega) (by simp [hrow]; omega)
  simp only [List.append_assoc, List.singleton_append, List.length_append, List.length_cons, List.length_nil] at this
  refine ev_eq ?_ (show out ++ ((n : Int) :: (oe.row ++ or_.body)) = out ++ (O.c n oe or_).body by simp [O.body, O.row])
  simp only [List.append_assoc, List.singleton_append]
  exact this
theorem rowOf_ev {l : List S72} {o : O} (h : IsO l o) (ho : o.body.length <= 100000) : Ev (fun k => impl_rowOf.f k l) o.row := by
 have hl := IsO.len h
 have := O.len_le o
 refine ev_s ?_
 simp only [impl_rowOf.f]
 have := rowOf_l0 h [] [(l.length : Int)] (by simp; omega) (by simp; omega)
 rw [List.nil_append] at this
 refine ev_eq this ?_
 rw [O.row, <- hl]; rfl

-- part: oTerms
def O.terms : O -> List S72
 | .z => []
 | .c n e r => ⟨(n : Int), O.terms e⟩ :: O.terms r
theorem O.terms_is : ∀ o : O, IsO o.terms o
 | .z => .nil
 | .c n e r => .cons (O.terms_is e) (O.terms_is r)
theorem IsO.terms {l : List S72} {o : O} (h : IsO l o) : l = o.terms := by
 induction h with
 | nil => rfl
 | cons _ _ h1 h2 => rw [O.terms, h1, h2]
theorem O.terms_len (o : O) : o.terms.length = o.len := IsO.len o.terms_is
def ordI : Ordering -> Int
 | .lt => -1
 | .eq => 0
 | .gt => 1
theorem ordI_neg {o : Ordering} : ordI o < 0 ↔ o = .lt := by cases o <;> decide
theorem cmpInt_nat (x y : Nat) : cmp_Compare_int.f (x : Int) (y : Int) = some (ordI (compare x y)) := by
 simp only [cmp_Compare_int.f, cmp_isNaN_int.f, Option.bind_some, bne_self_eq_false, Bool.false_eq_true, if_false]
 by_cases h1 : x < y
 · rw [if_pos (show (x : Int) < (y : Int) by omega), Nat.compare_eq_lt.mpr h1]; rfl
 ·
  by_cases h2 : y < x
  · rw [if_neg (show ¬ ((x : Int) < (y : Int)) by omega), if_pos (show (x : Int) > (y : Int) by omega), Nat.compare_eq_gt.mpr h2]; rfl
  · rw [if_neg (show ¬ ((x : Int) < (y : Int)) by omega), if_neg (show ¬ ((x : Int) > (y : Int)) by omega), Nat.compare_eq_eq.mpr (by omega)]; rfl
theorem ordI_then (a b : Ordering) : ordI (a.then b) = if ordI a = 0 then ordI b else ordI a := by cases a <;> rfl
theorem compare_step (n m : Nat) (e r f s : O) (pa pb : List S72) (hp : pa.length = pb.length) (hb : pa.length <= 1000000) (h1 : Ev (fun k => impl_compare.f k e.terms f.terms) (ordI (O.cmp e f)))
  (h2 : Ev (fun k => impl_compare.l0 k (pa ++ ((⟨(n : Int), O.terms e⟩ : S72) :: O.terms r)) (pb ++ ((⟨(m : Int), O.terms f⟩ : S72) :: O.terms s)) ((pa.length + 1 : Nat) : Int)) (ordI (O.cmp r s))) :
  Ev (fun k => impl_compare.l0 k (pa ++ ((⟨(n : Int), O.terms e⟩ : S72) :: O.terms r)) (pb ++ ((⟨(m : Int), O.terms f⟩ : S72) :: O.terms s)) (pa.length : Int)) (ordI (O.cmp (.c n e r) (.c m f s))) := by
 have hla : (pa ++ ((⟨(n : Int), O.terms e⟩ : S72) :: O.terms r)).length = pa.length + (r.terms.length + 1) := by simp
 have hlb : (pb ++ ((⟨(m : Int), O.terms f⟩ : S72) :: O.terms s)).length = pb.length + (s.terms.length + 1) := by simp
 have ea : rd_T72 (pa ++ ((⟨(n : Int), O.terms e⟩ : S72) :: O.terms r)) (pa.length : Int) = ⟨(n : Int), O.terms e⟩ := rd_T72_mid pa r.terms ⟨(n : Int), O.terms e⟩
 have eb : rd_T72 (pb ++ ((⟨(m : Int), O.terms f⟩ : S72) :: O.terms s)) (pa.length : Int) = ⟨(m : Int), O.terms f⟩ := by rw [hp]; exact rd_T72_mid pb s.terms ⟨(m : Int), O.terms f⟩
 generalize pa ++ ((⟨(n : Int), O.terms e⟩ : S72) :: O.terms r) = A at *
 generalize pb ++ ((⟨(m : Int), O.terms f⟩ : S72) :: O.terms s) = B at *
 have ew : wrap64 ((pa.length : Int) + 1) = ((pa.length + 1 : Nat) : Int) := wrap_nat2 pa.length 1 (by omega)
 have g1 : (pa.length : Int) < (A.length : Int) := by omega
 have g2 : (pa.length : Int) < (B.length : Int) := by omega
 refine ev_s ?_
 simp only [impl_compare.l0, if_pos g1, decide_eq_true g2]
 refine ev_s ?_
 simp only [impl_compare.j1, if_true, if_pos (show (0 : Int) <= (pa.length : Int) from Int.natCast_nonneg _), if_pos g1, if_pos g2, ea, eb, ew]
 refine Ev.bind h1 ?_
 rw [O.cmp, ordI_then, ordI_then]
 by_cases q1 : ordI (O.cmp e f) = 0
 ·
  simp only [if_pos q1, cmpInt_nat, Option.bind_some]
  by_cases q2 : ordI (compare n m) = 0
  ·
   simp only [if_pos q2]
   exact h2
  ·
   simp only [if_neg q2]
   exact Ev.now _
 ·
  simp only [if_neg q1]
  exact Ev.now _
theorem compare_l0 : ∀ (x y : O) (pa pb : List S72), pa.length = pb.length -> pa.length + x.body.length <= 1000000 -> pb.length + y.body.length <= 1000000 ->
  Ev (fun k => impl_compare.l0 k (pa ++ x.terms) (pb ++ y.terms) (pa.length : Int)) (ordI (O.cmp x y))
 | .z, .z, pa, pb, hp, _, _ => by
  refine ev_s ?_
  simp only [impl_compare.l0, O.terms, List.append_nil, if_neg (show ¬ ((pa.length : Int) < (pa.length : Int)) by omega)]
  refine ev_s ?_
  simp only [impl_compare.j1, Bool.false_eq_true, if_false, cmpInt_nat, Option.bind_some, hp, Nat.compare_eq_eq.mpr]
  exact Ev.now _
 | .z, .c m f s, pa, pb, hp, _, _ => by
  refine ev_s ?_
  simp only [impl_compare.l0, O.terms, List.append_nil, if_neg (show ¬ ((pa.length : Int) < (pa.length : Int)) by omega)]
  refine ev_s ?_
  have hl : (pb ++ (⟨(m : Int), O.terms f⟩ :: O.terms s : List S72)).length = pb.length + (s.terms.length + 1) := by simp
  simp only [impl_compare.j1, Bool.false_eq_true, if_false, cmpInt_nat, Option.bind_some, hl, Nat.compare_eq_lt.mpr (show pa.length < pb.length + (s.terms.length + 1) by omega)]
  exact Ev.now _
 | .c n e r, .z, pa, pb, hp, _, _ => by
  refine ev_s ?_
  have hl : (pa ++ (⟨(n : Int), O.terms e⟩ :: O.terms r : List S72)).length = pa.length + (r.terms.length + 1) := by simp
  simp only [impl_compare.l0, O.terms, List.append_nil, hl, if_pos (show (pa.length : Int) < ((pa.length + (r.terms.length + 1) : Nat) : Int) by omega), decide_eq_false (show ¬ ((pa.length : Int) < (pb.length : Int)) by omega)]
  refine ev_s ?_
  simp only [impl_compare.j1, Bool.false_eq_true, if_false, hl, cmpInt_nat, Option.bind_some, Nat.compare_eq_gt.mpr (show pb.length < pa.length + (r.terms.length + 1) by omega)]
  exact Ev.now _
 | .c n e r, .c m f s, pa, pb, hp, ha, hb => by
  simp only [O.body, List.length_cons, List.length_append] at ha hb
  have ih1 : Ev (fun k => impl_compare.f k e.terms f.terms) (ordI (O.cmp e f)) := by
   have := compare_l0 e f [] [] rfl (by simp only [List.length_nil]; omega) (by simp only [List.length_nil]; omega)
   rw [List.nil_append, List.nil_append] at this
   refine ev_s ?_
   simp only [impl_compare.f]
   exact this
  have ih2 := compare_l0 r s (pa ++ [⟨(n : Int), e.terms⟩]) (pb ++ [⟨(m : Int), f.terms⟩]) (by simp only [List.length_append, List.length_singleton, hp]) (by simp only [List.length_append, List.length_singleton]; omega) (by simp only [List.length_append, List.length_singleton]; omega)
  simp only [List.append_assoc, List.singleton_append, List.length_append, List.length_singleton] at ih2
  exact compare_step n m e r f s pa pb hp (by omega) ih1 ih2
theorem compare_ev (x y : O) (hx : x.body.length <= 100000) (hy : y.body.length <= 100000) : Ev (fun k => impl_compare.f k x.terms y.terms) (ordI (O.cmp x y)) := by
 have := compare_l0 x y [] [] rfl (by simp; omega) (by simp; omega)
 rw [List.nil_append, List.nil_append] at this
 refine ev_s ?_
 simp only [impl_compare.f]
 exact this
def O.Sm : O -> Prop
 | .z => True
 | .c n e r => (1 <= n /\ n <= 9999) /\ (O.Sm e /\ e.len <= 60) /\ O.Sm r /\ O.hd e r
theorem O.Sm.nf : ∀ {o : O}, o.Sm -> o.NF
 | .z, _ => trivial
 | .c n e r, h => ⟨h.1.1, O.Sm.nf h.2.1.1, O.Sm.nf h.2.2.1, h.2.2.2⟩
def LastE (pa : List S72) (r : O) : Prop := pa = [] \/ ∃ pb m f, pa = pb ++ [⟨m, O.terms f⟩] /\ f.body.length <= 100000 /\ O.hd f r
theorem takeOrd_l0 : ∀ (r : O), r.Sm -> ∀ (pa : List S72) (t : List Int), pa.length + r.len <= 60 -> r.body.length <= 100000 -> LastE pa r ->
  Ev (fun k => impl_takeOrd.l0 k (r.body ++ t) pa ((pa.length + r.len : Nat) : Int) (pa.length : Int)) (pa ++ r.terms, t, true)
 | .z, _, pa, t, _, _, _ => by
  refine ev_s ?_
  simp only [impl_takeOrd.l0, O.len, O.body, O.terms, Nat.add_zero, List.nil_append, List.append_nil, Int.lt_irrefl, if_false]
  exact Ev.now _
 | .c n e r, hs, pa, t, hl, hb, hlast => by
  obtain ⟨hn, ⟨hse, hle⟩, hsr, hhd⟩ := hs
  simp only [O.len] at hl
  simp only [O.body, List.length_cons, List.length_append] at hb
  have ihr := takeOrd_l0 r hsr (pa ++ [⟨(n : Int), e.terms⟩]) t (by simp; omega) (by omega) (.inr ⟨pa, n, e, rfl, by omega, hhd⟩)
  have ihe : Ev (fun k => impl_takeOrd.f k ((e.len : Int) :: (e.body ++ (r.body ++ t)))) (e.terms, r.body ++ t, true) := by
   have := takeOrd_l0 e hse [] (r.body ++ t) (by simpa using hle) (by omega) (.inl rfl)
   simp only [List.length_nil, Nat.zero_add, List.nil_append] at this
   refine ev_s ?_
   have hc : rd ((e.len : Int) :: (e.body ++ (r.body ++ t))) 0 = (e.len : Int) := rfl
   simp only [impl_takeOrd.f, List.length_cons, if_neg (show ¬ (((e.body ++ (r.body ++ t)).length + 1 : Nat) : Int) = 0 by omega), if_pos (show (0 : Int) < (((e.body ++ (r.body ++ t)).length + 1 : Nat) : Int) by omega), if_pos (show (1 : Int) <= (((e.body ++ (r.body ++ t)).length + 1 : Nat) : Int) by omega), Option.bind_some, hc, List.drop_succ_cons, List.drop_zero, if_neg (show ¬ ((e.len : Int) < 0) by omega), decide_eq_false (show ¬ ((e.len : Int) > 60) by omega)]
   refine ev_s ?_
   simp only [impl_takeOrd.j0, Bool.false_eq_true, if_false]
   exact this
  have hbody : (O.c n e r).body ++ t = (n : Int) :: ((e.len : Int) :: (e.body ++ (r.body ++ t))) := by simp [O.body]
  have hc : rd ((n : Int) :: ((e.len : Int) :: (e.body ++ (r.body ++ t)))) 0 = (n : Int) := rfl
  have hw : wrap64 ((pa.length : Int) + 1) = (((pa ++ [(⟨(n : Int), e.terms⟩ : S72)]).length : Nat) : Int) := by
   rw [List.length_append, List.length_singleton]; exact wrap_nat2 pa.length 1 (by omega)
  have hcnt : ((pa.length + (O.c n e r).len : Nat) : Int) = (((pa ++ [(⟨(n : Int), e.terms⟩ : S72)]).length + r.len : Nat) : Int) := by
   simp only [O.len, List.length_append, List.length_singleton]; omega
  have hres : pa ++ (O.c n e r).terms = pa ++ [(⟨(n : Int), e.terms⟩ : S72)] ++ r.terms := by simp [O.terms]
  rw [hbody, hres]
  refine ev_s ?_
  simp only [impl_takeOrd.l0, List.length_cons, if_pos (show (pa.length : Int) < ((pa.length + (O.c n e r).len : Nat) : Int) by simp only [O.len]; omega), hc]
  have hlen : (((e.len : Int) :: (e.body ++ (r.body ++ t))).length : Nat) = (e.body ++ (r.body ++ t)).length + 1 := by simp
  simp only [if_neg (show ¬ ((((e.body ++ (r.body ++ t)).length + 1 + 1 : Nat) : Int) = 0) by omega), if_pos (show (0 : Int) < (((e.body ++ (r.body ++ t)).length + 1 + 1 : Nat) : Int) by omega), if_neg (show ¬ ((n : Int) < 1) by omega), decide_eq_false (show ¬ ((n : Int) > 9999) by omega)]
  refine ev_s ?_
  simp only [impl_takeOrd.j2, Bool.false_eq_true, if_false, List.length_cons, if_pos (show (1 : Int) <= (((e.body ++ (r.body ++ t)).length + 1 + 1 : Nat) : Int) by omega), List.drop_succ_cons, List.drop_zero]
  refine Ev.bind ihe ?_
  simp only [if_true, if_pos (show (0 : Int) < (((e.body ++ (r.body ++ t)).length + 1 + 1 : Nat) : Int) by omega), hc, if_pos (show pa.length < 4398046511104 by omega), hw, hcnt]
  rcases hlast with h0 | ⟨pb, m, f, hpa, hfb, hfd⟩
  ·
   simp only [if_neg (show ¬ ((pa.length : Int) > 0) by rw [h0]; simp)]
   exact ihr
  ·
   have hpl : pa.length = pb.length + 1 := by rw [hpa]; simp
   have hw1 : wrap64 ((pa.length : Int) - 1) = (pb.length : Int) := by rw [wrap_in (by omega) (by omega)]; omega
   have hrd : rd_T72 pa (pb.length : Int) = ⟨m, O.terms f⟩ := by rw [hpa]; exact rd_T72_mid pb [] ⟨m, O.terms f⟩
   simp only [if_pos (show (pa.length : Int) > 0 by omega), hw1, if_pos (show (0 : Int) <= (pb.length : Int) by omega), if_pos (show (pb.length : Int) < (pa.length : Int) by omega), hrd]
   refine Ev.bind (compare_ev e f (by omega) hfb) ?_
   have : ordI (O.cmp e f) = -1 := by rw [show O.cmp e f = .lt from hfd]; rfl
   simp only [this, if_neg (show ¬ ((-1 : Int) >= 0) by decide)]
   exact ihr
theorem takeOrd_ev {o : O} (hs : o.Sm) (hl : o.len <= 60) (hb : o.body.length <= 100000) (t : List Int) : Ev (fun k => impl_takeOrd.f k (o.row ++ t)) (o.terms, t, true) := by
 have := takeOrd_l0 o hs [] t (by simpa using hl) hb (.inl rfl)
 simp only [List.length_nil, Nat.zero_add, List.nil_append] at this
 refine ev_s ?_
 have hc : rd ((o.len : Int) :: (o.body ++ t)) 0 = (o.len : Int) := rfl
 simp only [O.row, List.cons_append, impl_takeOrd.f, List.length_cons, if_neg (show ¬ (((o.body ++ t).length + 1 : Nat) : Int) = 0 by omega), if_pos (show (0 : Int) < (((o.body ++ t).length + 1 : Nat) : Int) by omega), if_pos (show (1 : Int) <= (((o.body ++ t).length + 1 : Nat) : Int) by omega), Option.bind_some, hc, List.drop_succ_cons, List.drop_zero, if_neg (show ¬ ((o.len : Int) < 0) by omega), decide_eq_false (show ¬ ((o.len : Int) > 60) by omega)]
 refine ev_s ?_
 simp only [impl_takeOrd.j0, Bool.false_eq_true, if_false]
 exact this
theorem ordOf_ev {o : O} (hs : o.Sm) (hb : o.row.length <= 60) : Ev (fun k => impl_ordOf.f k o.row) (o.terms, true) := by
 have hlb := O.len_le o
 have hr : o.row.length = o.body.length + 1 := by simp [O.row]
 have h := takeOrd_ev hs (by omega) (by omega) []
 rw [List.append_nil] at h
 simp only [impl_ordOf.f, if_neg (show ¬ ((o.row.length : Int) < 1) by omega), if_neg (show ¬ ((o.row.length : Int) > 60) by omega)]
 refine Ev.bind h ?_
 simp only [if_true]
 exact ev_now (by simp)

-- part: l1Make
def zipB : List Int -> List (List Int) -> List Int
 | t :: ts, e :: es => t :: e ++ zipB ts es
 | _, _ => []
theorem zipB_drop {t : List Int} {e : List (List Int)} {i : Nat} (ht : i < t.length) (he : i < e.length) : zipB (t.drop i) (e.drop i) = t[i] :: e[i] ++ zipB (t.drop (i + 1)) (e.drop (i + 1)) := by
 rw [List.drop_eq_getElem_cons ht, List.drop_eq_getElem_cons he]; rfl
theorem rdL1_get {xs : List (List Int)} {i : Nat} (h : i < xs.length) : rd_L1 xs (i : Int) = xs[i] := by simp [rd_L1, h]
theorem l1Make_l0 (t : List Int) (e : List (List Int)) (hl : t.length = e.length) (hb : t.length <= 1000000) : ∀ (d i : Nat) (out : List Int), i + d = t.length -> out.length + (zipB (t.drop i) (e.drop i)).length <= 1000000 -> Ev (fun k => spec_l1Make.l0 k t e out (i : Int)) (out ++ zipB (t.drop i) (e.drop i)) := by
 intro d
 induction d with
 | zero =>
  intro i out h _
  refine ev_s ?_
  simp only [spec_l1Make.l0, if_neg (show ¬ ((i : Int) < (t.length : Int)) by omega)]
  rw [List.drop_of_length_le (by omega)]
  exact ev_now (by simp [zipB])
 | succ d ih =>
  intro i out h ho
  rw [zipB_drop (show i < t.length by omega) (show i < e.length by omega)] at ho
  simp only [List.length_append, List.length_cons] at ho
  refine ev_s ?_
  simp only [spec_l1Make.l0, if_pos (show (i : Int) < (t.length : Int) by omega), if_pos (show (0 : Int) <= (i : Int) by omega), if_pos (show (i : Int) < (e.length : Int) by omega), if_pos (show out.length < 17592186044416 by omega), Option.bind_some, rdL1_get (show i < e.length by omega), rd_get (show i < t.length by omega), show wrap64 ((i : Int) + 1) = ((i + 1 : Nat) : Int) by rw [wrap_in (by omega) (by omega)]; rfl, List.length_append, List.length_singleton, if_pos (show out.length + 1 + e[i].length < 17592186044416 by omega)]
  refine ev_eq (ih (i + 1) _ (by omega) (by simp; omega)) ?_
  rw [zipB_drop (show i < t.length by omega) (show i < e.length by omega)]
  simp
theorem l1Make_ev (t : List Int) (e : List (List Int)) (hl : t.length = e.length) (hb : t.length <= 100000) (hz : (zipB t e).length <= 100000) : Ev (fun k => spec_l1Make.f k t e) ((t.length : Int) :: zipB t e) := by
 simp only [spec_l1Make.f]
 exact l1Make_l0 t e hl (by omega) t.length 0 [(t.length : Int)] (by omega) (by simp; omega)

-- part: oApp
theorem O.app_assoc : ∀ x y t : O, O.app (O.app x y) t = O.app x (O.app y t)
 | .z, _, _ => rfl
 | .c n e r, y, t => by simp only [O.app, O.app_assoc r y t]
theorem O.app_body : ∀ x y : O, (O.app x y).body = x.body ++ y.body
 | .z, _ => rfl
 | .c n e r, y => by simp only [O.app, O.body, O.app_body r y, List.cons_append, List.append_assoc]
theorem IsO.app {a b : List S72} {x y : O} (ha : IsO a x) (hb : IsO b y) : IsO (a ++ b) (O.app x y) := by
 induction ha with
 | nil => exact hb
 | cons he _ _ ih => exact .cons he ih

-- part: oSpec
theorem O.row_length (o : O) : o.row.length = o.body.length + 1 := by simp [O.row]
theorem O.body_c (n : Nat) (e r : O) : (O.c n e r).body = (n : Int) :: (e.row ++ r.body) := by simp [O.body, O.row]
def O.ns : O -> List Int
 | .z => []
 | .c n _ r => (n : Int) :: O.ns r
def O.es : O -> List (List Int)
 | .z => []
 | .c _ e r => e.row :: O.es r
theorem rd_L1_at (pre suf : List (List Int)) (x : List Int) : rd_L1 (pre ++ x :: suf) ((pre.length : Nat) : Int) = x := by simp [rd_L1]
theorem l1Span_l0 : ∀ (s : O) (pre t l : List Int) (i : Nat), l = pre ++ s.body ++ t -> l.length <= 1000000 -> i + s.body.length <= 1000000 ->
  Ev (fun k => spec_l1Span.l0 k l (pre.length : Int) ((i + s.len : Nat) : Int) (i : Int)) ((pre.length + s.body.length : Nat) : Int)
 | .z, pre, t, l, i, _, _, _ => by
  refine ev_s ?_
  simp only [spec_l1Span.l0, O.len, O.body, Nat.add_zero, Int.lt_irrefl, if_false, List.length_nil]
  exact Ev.now _
 | .c n e r, pre, t, l, i, hl, hb, hi => by
  have hrl := O.row_length e
  have hbl := O.len_le e
  have hlen : l.length = pre.length + (e.body.length + r.body.length + 2) + t.length := by rw [hl, O.body_c]; simp; omega
  rw [O.body_c] at hi
  simp only [List.length_cons, List.length_append] at hi
  have he : Ev (fun k => spec_l1Span.f k l ((pre.length + 1 : Nat) : Int)) ((pre.length + 1 + e.row.length : Nat) : Int) := by
   have hp : pre.length + 1 < l.length := by omega
   have hx : rd l ((pre.length + 1 : Nat) : Int) = (e.len : Int) := by
    rw [rd_get hp]
    subst hl
    simp [O.body_c, O.row]
   have ih := l1Span_l0 e (pre ++ [(n : Int), (e.len : Int)]) (r.body ++ t) l 0 (by rw [hl]; simp [O.body_c, O.row]) hb (by omega)
   simp only [List.length_append, List.length_cons, List.length_nil, Nat.zero_add] at ih
   refine ev_s ?_
   simp only [spec_l1Span.f, if_pos (show (0 : Int) <= ((pre.length + 1 : Nat) : Int) by omega), if_pos (show ((pre.length + 1 : Nat) : Int) < (l.length : Int) by omega), hx, show wrap64 (((pre.length + 1 : Nat) : Int) + 1) = ((pre.length + (0 + 1 + 1) : Nat) : Int) by rw [wrap_in (by omega) (by omega)]; omega]
   exact ev_eq ih (by omega)
  have ihr := l1Span_l0 r (pre ++ (n : Int) :: e.row) t l (i + 1) (by rw [hl, O.body_c]; simp) hb (by omega)
  have hpl : (pre ++ (n : Int) :: e.row).length = pre.length + 1 + e.row.length := by simp; omega
  rw [hpl] at ihr
  refine ev_s ?_
  simp only [spec_l1Span.l0, if_pos (show (i : Int) < ((i + (O.c n e r).len : Nat) : Int) by simp only [O.len]; omega), show wrap64 ((pre.length : Int) + 1) = ((pre.length + 1 : Nat) : Int) from wrap_nat2 _ 1 (by omega), show wrap64 ((i : Int) + 1) = ((i + 1 : Nat) : Int) from wrap_nat2 i 1 (by omega)]
  refine Ev.bind he ?_
  rw [show ((i + (O.c n e r).len : Nat) : Int) = ((i + 1 + r.len : Nat) : Int) by simp only [O.len]; omega]
  exact ev_eq ihr (by rw [O.body_c]; simp only [List.length_cons, List.length_append]; omega)
theorem l1Span_row {e : O} (pre t : List Int) (hb : (pre ++ e.row ++ t).length <= 1000000) : Ev (fun k => spec_l1Span.f k (pre ++ e.row ++ t) (pre.length : Int)) ((pre.length + e.row.length : Nat) : Int) := by
 have hrl := O.row_length e
 have hl : (pre ++ e.row ++ t).length = pre.length + e.row.length + t.length := by simp only [List.length_append]
 have hp : pre.length < (pre ++ e.row ++ t).length := by omega
 have hx : rd (pre ++ e.row ++ t) ((pre.length : Nat) : Int) = (e.len : Int) := by rw [rd_get hp]; simp [O.row]
 have ih := l1Span_l0 e (pre ++ [(e.len : Int)]) t (pre ++ e.row ++ t) 0 (by simp [O.row]) hb (by omega)
 simp only [List.length_append, List.length_singleton, Nat.zero_add] at ih
 refine ev_s ?_
 simp only [spec_l1Span.f, if_pos (show (0 : Int) <= (pre.length : Int) by omega), if_pos (show (pre.length : Int) < ((pre ++ e.row ++ t).length : Int) by omega), hx, show wrap64 ((pre.length : Int) + 1) = ((pre.length + 1 : Nat) : Int) from wrap_nat2 _ 1 (by omega)]
 exact ev_eq ih (by omega)
theorem l1Terms_l0 : ∀ (s : O) (pre : List Int) (ns : List Int) (es : List (List Int)), (pre ++ s.body).length <= 1000000 -> ns.length + s.len <= 1000000 -> es.length + s.len <= 1000000 ->
  Ev (fun k => spec_l1Terms.l0 k (pre ++ s.body) ns es (pre.length : Int)) (ns ++ s.ns, es ++ s.es)
 | .z, pre, ns, es, _, _, _ => by
  refine ev_s ?_
  simp only [spec_l1Terms.l0, O.body, O.ns, O.es, List.append_nil, Int.lt_irrefl, if_false]
  exact Ev.now _
 | .c n e r, pre, ns, es, hb, hn, he => by
  simp only [O.len] at hn he
  have hrl := O.row_length e
  have e0 : pre ++ (O.c n e r).body = (pre ++ [(n : Int)]) ++ e.row ++ r.body := by rw [O.body_c]; simp
  have hlen : (pre ++ (O.c n e r).body).length = pre.length + 1 + e.row.length + r.body.length := by rw [e0]; simp; omega
  have hsp := l1Span_row (e := e) (pre ++ [(n : Int)]) r.body (by rw [<- e0]; exact hb)
  have hpl : (pre ++ [(n : Int)]).length = pre.length + 1 := by simp
  have hcut : (((pre ++ [(n : Int)]) ++ e.row ++ r.body).take (pre.length + 1 + e.row.length)).drop (pre.length + 1) = e.row := by
   rw [show pre.length + 1 + e.row.length = ((pre ++ [(n : Int)]) ++ e.row).length by simp; omega, List.take_left', List.drop_left' (by simp)]
   rfl
  have hx : rd ((pre ++ [(n : Int)]) ++ e.row ++ r.body) ((pre.length : Nat) : Int) = (n : Int) := by rw [rd_get (by rw [<- e0]; omega)]; simp
  have ihr := l1Terms_l0 r ((pre ++ [(n : Int)]) ++ e.row) (ns ++ [(n : Int)]) (es ++ [e.row]) (by rw [<- e0]; exact hb) (by simp; omega) (by simp; omega)
  have hpl2 : ((pre ++ [(n : Int)]) ++ e.row).length = pre.length + 1 + e.row.length := by simp; omega
  rw [hpl2] at ihr
  rw [hpl] at hsp
  rw [e0] at hb hlen ⊢
  generalize (pre ++ [(n : Int)]) ++ e.row ++ r.body = l at *
  refine ev_s ?_
  simp only [spec_l1Terms.l0, if_pos (show (pre.length : Int) < (l.length : Int) by omega), show wrap64 ((pre.length : Int) + 1) = ((pre.length + 1 : Nat) : Int) from wrap_nat2 _ 1 (by omega)]
  refine Ev.bind hsp ?_
  simp only [if_pos (show (0 : Int) <= (pre.length : Int) by omega), if_pos (show ns.length < 17592186044416 by omega), if_pos (show (0 : Int) <= ((pre.length + 1 : Nat) : Int) by omega), if_pos (show ((pre.length + 1 : Nat) : Int) <= ((pre.length + 1 + e.row.length : Nat) : Int) by omega), if_pos (show ((pre.length + 1 + e.row.length : Nat) : Int) <= (l.length : Int) by omega), if_pos (show es.length < 5864062014805 by omega), hx, Int.toNat_natCast, hcut]
  refine ev_eq ihr ?_
  simp [O.ns, O.es]
theorem l1Terms_ev {o : O} (hl : o.row.length <= 100000) : Ev (fun k => spec_l1Terms.f k o.row) (o.ns, o.es) := by
 have hr := O.row_length o
 have hle := O.len_le o
 have := l1Terms_l0 o [(o.len : Int)] [] [] (by simp; omega) (by simp; omega) (by simp; omega)
 simp only [spec_l1Terms.f]
 exact this
theorem l1Compare_l0 : ∀ (x y : O) (pa pb : List Int) (qa qb : List (List Int)), pa.length = pb.length -> pa.length = qa.length -> pa.length = qb.length -> pa.length + x.body.length <= 100000 -> pb.length + y.body.length <= 100000 ->
  Ev (fun k => spec_l1Compare.l0 k (pa ++ x.ns) (qa ++ x.es) (pb ++ y.ns) (qb ++ y.es) (pa.length : Int)) (ordI (O.cmp x y))
 | .z, .z, pa, pb, qa, qb, h1, h2, h3, _, _ => by
  refine ev_s ?_
  simp only [spec_l1Compare.l0, O.ns, O.es, List.append_nil, Int.lt_irrefl, if_false]
  refine ev_s ?_
  simp only [spec_l1Compare.j1, Bool.false_eq_true, if_false, h1, Int.lt_irrefl, if_neg (show ¬ ((pb.length : Int) > (pb.length : Int)) by omega)]
  exact Ev.now _
 | .z, .c m f s, pa, pb, qa, qb, h1, h2, h3, _, _ => by
  refine ev_s ?_
  simp only [spec_l1Compare.l0, O.ns, O.es, List.append_nil, Int.lt_irrefl, if_false]
  refine ev_s ?_
  simp only [spec_l1Compare.j1, Bool.false_eq_true, if_false, if_pos (show (pa.length : Int) < ((pb ++ (m : Int) :: s.ns).length : Int) by simp; omega)]
  exact Ev.now _
 | .c n e r, .z, pa, pb, qa, qb, h1, h2, h3, _, _ => by
  refine ev_s ?_
  simp only [spec_l1Compare.l0, O.ns, O.es, List.append_nil, if_pos (show (pa.length : Int) < ((pa ++ (n : Int) :: r.ns).length : Int) by simp; omega), decide_eq_false (show ¬ ((pa.length : Int) < (pb.length : Int)) by omega)]
  refine ev_s ?_
  simp only [spec_l1Compare.j1, Bool.false_eq_true, if_false, if_neg (show ¬ (((pa ++ (n : Int) :: r.ns).length : Int) < (pb.length : Int)) by simp; omega), if_pos (show (((pa ++ (n : Int) :: r.ns).length : Int) > (pb.length : Int)) by simp; omega)]
  exact Ev.now _
 | .c n e r, .c m f s, pa, pb, qa, qb, h1, h2, h3, ha, hb => by
  rw [O.body_c] at ha hb
  simp only [List.length_cons, List.length_append] at ha hb
  have hre := O.row_length e
  have hrf := O.row_length f
  have ih1 : Ev (fun k => spec_l1Compare.f k e.row f.row) (ordI (O.cmp e f)) := by
   have := l1Compare_l0 e f [] [] [] [] rfl rfl rfl (by simp only [List.length_nil]; omega) (by simp only [List.length_nil]; omega)
   simp only [List.nil_append] at this
   refine ev_s ?_
   simp only [spec_l1Compare.f]
   refine Ev.bind (l1Terms_ev (by omega)) ?_
   exact Ev.bind (l1Terms_ev (by omega)) this
  have ih2 := l1Compare_l0 r s (pa ++ [(n : Int)]) (pb ++ [(m : Int)]) (qa ++ [e.row]) (qb ++ [f.row]) (by simp [h1]) (by simp [h2]) (by simp [h3]) (by simp; omega) (by simp; omega)
  simp only [List.append_assoc, List.singleton_append, List.length_append, List.length_singleton] at ih2
  simp only [O.ns, O.es]
  have ea : rd (pa ++ (n : Int) :: r.ns) (pa.length : Int) = (n : Int) := by rw [rd_eq]; simp
  have eb : rd (pb ++ (m : Int) :: s.ns) (pa.length : Int) = (m : Int) := by rw [h1, rd_eq]; simp
  have ec : rd_L1 (qa ++ e.row :: r.es) (pa.length : Int) = e.row := by rw [h2]; exact rd_L1_at qa r.es e.row
  have ed : rd_L1 (qb ++ f.row :: s.es) (pa.length : Int) = f.row := by rw [h3]; exact rd_L1_at qb s.es f.row
  have g1 : (pa.length : Int) < ((pa ++ (n : Int) :: r.ns).length : Int) := by simp; omega
  have g2 : (pa.length : Int) < ((pb ++ (m : Int) :: s.ns).length : Int) := by simp; omega
  have g3 : (pa.length : Int) < ((qa ++ e.row :: r.es).length : Int) := by simp; omega
  have g4 : (pa.length : Int) < ((qb ++ f.row :: s.es).length : Int) := by simp; omega
  refine ev_s ?_
  simp only [spec_l1Compare.l0, if_pos g1, decide_eq_true g2]
  refine ev_s ?_
  simp only [spec_l1Compare.j1, if_true, if_pos (show (0 : Int) <= (pa.length : Int) from Int.natCast_nonneg _), if_pos g1, if_pos g2, if_pos g3, if_pos g4, ea, eb, ec, ed, show wrap64 ((pa.length : Int) + 1) = ((pa.length + 1 : Nat) : Int) from wrap_nat2 _ 1 (by omega)]
  refine Ev.bind ih1 ?_
  rw [O.cmp, ordI_then, ordI_then]
  by_cases q1 : ordI (O.cmp e f) = 0
  ·
   simp only [if_pos q1]
   rcases Nat.lt_trichotomy n m with h | h | h
   ·
    simp only [if_neg (show ¬ ((n : Int) = (m : Int)) by omega), if_pos (show (n : Int) < (m : Int) by omega), Nat.compare_eq_lt.mpr h, ordI, show ¬ ((-1 : Int) = 0) by decide, if_false]
    exact Ev.now _
   ·
    subst h
    simp only [if_true, Nat.compare_eq_eq.mpr, ordI]
    exact ih2
   ·
    simp only [if_neg (show ¬ ((n : Int) = (m : Int)) by omega), if_neg (show ¬ ((n : Int) < (m : Int)) by omega), Nat.compare_eq_gt.mpr h, ordI, show ¬ ((1 : Int) = 0) by decide, if_false]
    exact Ev.now _
  ·
   simp only [if_neg q1]
   exact Ev.now _
theorem l1Compare_ev (x y : O) (hx : x.row.length <= 50000) (hy : y.row.length <= 50000) : Ev (fun k => spec_l1Compare.f k x.row y.row) (ordI (O.cmp x y)) := by
 have hrx := O.row_length x
 have hry := O.row_length y
 have := l1Compare_l0 x y [] [] [] [] rfl rfl rfl (by simp; omega) (by simp; omega)
 simp only [List.nil_append] at this
 refine ev_s ?_
 simp only [spec_l1Compare.f]
 refine Ev.bind (l1Terms_ev (by omega)) ?_
 exact Ev.bind (l1Terms_ev (by omega)) this

-- part: oValid
def O.fol : Option O -> O -> Prop
 | none, _ => True
 | some f, e => O.cmp e f = .lt
def O.folr (L : Option O) : O -> Prop
 | .z => True
 | .c _ e _ => O.fol L e
theorem O.folr_hd {e : O} : ∀ {r : O}, O.folr (some e) r -> O.hd e r
 | .z, _ => trivial
 | .c _ _ _, h => h
inductive BadO : Nat -> Option O -> List Int -> Prop where
 | nil (m : Nat) (L : Option O) : BadO (m + 1) L []
 | out (m : Nat) (L : Option O) (x : Int) (r : List Int) (h : x < 1 \/ 9999 < x) : BadO (m + 1) L (x :: r)
 | head (m : Nat) (L : Option O) (x : Int) (r : List Int) (h1 : 1 <= x) (h2 : x <= 9999) (h : r = [] \/ ∃ y t, r = y :: t /\ (y < 0 \/ 60 < y)) : BadO (m + 1) L (x :: r)
 | deep (m : Nat) (L : Option O) (x y : Int) (r : List Int) (h1 : 1 <= x) (h2 : x <= 9999) (h3 : 0 <= y) (h4 : y <= 60) (h : BadO y.toNat none r) : BadO (m + 1) L (x :: y :: r)
 | order (m : Nat) (f e : O) (x : Int) (t : List Int) (h1 : 1 <= x) (h2 : x <= 9999) (he : e.Sm) (hl : e.len <= 60) (hb : e.row.length <= 60) (h : O.cmp e f ≠ .lt) : BadO (m + 1) (some f) (x :: (e.row ++ t))
 | next (m : Nat) (L : Option O) (e : O) (x : Int) (t : List Int) (h1 : 1 <= x) (h2 : x <= 9999) (he : e.Sm) (hl : e.len <= 60) (hb : e.row.length <= 60) (hf : O.fol L e) (h : BadO m (some e) t) : BadO (m + 1) L (x :: (e.row ++ t))
theorem ord_total : ∀ (n : Nat), n <= 60 -> ∀ (m : Nat) (L : Option O) (l : List Int), l.length <= n -> (∃ r t, l = O.body r ++ t /\ r.len = m /\ r.Sm /\ O.folr L r) \/ BadO m L l
 | n, hn, 0, L, l, _ => .inl ⟨.z, l, rfl, rfl, trivial, trivial⟩
 | n, hn, m + 1, L, [], _ => .inr (.nil m L)
 | 0, hn, m + 1, L, x :: r, h => by simp at h
 | n + 1, hn, m + 1, L, x :: r, h => by
  simp only [List.length_cons, Nat.add_le_add_iff_right] at h
  by_cases hx : x < 1 \/ 9999 < x
  · exact .inr (.out m L x r hx)
  ·
   match r, h with
   | [], _ => exact .inr (.head m L x [] (by omega) (by omega) (.inl rfl))
   | y :: r, h =>
    simp only [List.length_cons] at h
    by_cases hy : y < 0 \/ 60 < y
    · exact .inr (.head m L x _ (by omega) (by omega) (.inr ⟨y, r, rfl, hy⟩))
    ·
     rcases ord_total n (by omega) y.toNat none r (by omega) with ⟨s, t, hs, hl, hsm, _⟩ | hb
     ·
      have hyl : y = (s.len : Int) := by omega
      have he : y :: r = s.row ++ t := by rw [hs, hyl]; rfl
      have hsl := O.row_length s
      have hlr : r.length = s.body.length + t.length := by rw [hs, List.length_append]
      rw [he]
      by_cases hf : O.fol L s
      ·
       rcases ord_total n (by omega) m (some s) t (by omega) with ⟨r2, t2, hs2, hl2, hsm2, hf2⟩ | hb
       ·
        refine .inl ⟨.c x.toNat s r2, t2, ?_, by rw [O.len, hl2], ⟨⟨by omega, by omega⟩, ⟨hsm, by omega⟩, hsm2, O.folr_hd hf2⟩, hf⟩
        rw [O.body_c, hs2, show ((x.toNat : Nat) : Int) = x by omega]; simp
       · exact .inr (.next m L s x t (by omega) (by omega) hsm (by omega) (by omega) hf hb)
      ·
       cases L with
       | none => exact absurd trivial hf
       | some f => exact .inr (.order m f s x t (by omega) (by omega) hsm (by omega) (by omega) hf)
     · exact .inr (.deep m L x y r (by omega) (by omega) (by omega) (by omega) hb)
theorem O.body_inj : ∀ (s s' : O) (t t' : List Int), s.len = s'.len -> s.body ++ t = s'.body ++ t' -> s = s' /\ t = t'
 | .z, .z, t, t', _, h => ⟨rfl, h⟩
 | .z, .c .., _, _, h, _ => by simp [O.len] at h
 | .c .., .z, _, _, h, _ => by simp [O.len] at h
 | .c n e r, .c m f s, t, t', hl, h => by
  simp only [O.len, Nat.add_right_cancel_iff] at hl
  simp only [O.body, List.cons_append, List.append_assoc, List.cons.injEq] at h
  obtain ⟨h0, h1, h2⟩ := h
  obtain ⟨h3, h4⟩ := O.body_inj e f _ _ (by omega) h2
  obtain ⟨h5, h6⟩ := O.body_inj r s _ _ hl h4
  exact ⟨by rw [h3, h5, show n = m by omega], h6⟩
theorem O.row_inj {a b : O} (e : a.row = b.row) : a = b := by
 simp only [O.row, List.cons.injEq] at e
 exact (O.body_inj a b [] [] (by omega) (by rw [e.2])).1
def NoOrd (l : List Int) : Prop := 60 < l.length \/ l = [] \/ (∃ y r, l = y :: r /\ (y < 0 \/ 60 < y)) \/ (∃ y r, l = y :: r /\ 0 <= y /\ y <= 60 /\ BadO y.toNat none r) \/ ∃ (o : O) (x : Int) (t : List Int), l = o.row ++ x :: t /\ o.Sm /\ o.len <= 60
theorem ord_or (l : List Int) : (∃ o : O, l = o.row /\ o.Sm /\ o.row.length <= 60) \/ NoOrd l := by
 by_cases h60 : 60 < l.length
 · exact .inr (.inl h60)
 ·
  match l, h60 with
  | [], _ => exact .inr (.inr (.inl rfl))
  | y :: r, h60 =>
   simp only [List.length_cons] at h60
   by_cases hy : y < 0 \/ 60 < y
   · exact .inr (.inr (.inr (.inl ⟨y, r, rfl, hy⟩)))
   ·
    rcases ord_total 60 (Nat.le_refl _) y.toNat none r (by omega) with ⟨s, t, hs, hl, hsm, _⟩ | hb
    ·
     have hyl : y = (s.len : Int) := by omega
     have he : y :: r = s.row ++ t := by rw [hs, hyl]; rfl
     cases t with
     | nil =>
      rw [List.append_nil] at he
      exact .inl ⟨s, he, hsm, by rw [<- he, List.length_cons]; omega⟩
     | cons x t => exact .inr (.inr (.inr (.inr (.inr ⟨s, x, t, he, hsm, by omega⟩))))
    · exact .inr (.inr (.inr (.inr (.inl ⟨y, r, rfl, by omega, by omega, hb⟩))))
theorem takeOrd_in {y : Int} {r : List Int} (h0 : 0 <= y) (h1 : y <= 60) {q : (List S72) × List Int × Bool} (h : Ev (fun k => impl_takeOrd.l0 k r [] y 0) q) : Ev (fun k => impl_takeOrd.f k (y :: r)) q := by
 have hc : rd (y :: r) 0 = y := rfl
 refine ev_s ?_
 simp only [impl_takeOrd.f, hc, if_neg (show ¬ (((y :: r).length : Int) = 0) by simp only [List.length_cons]; omega), if_pos (show (0 : Int) < ((y :: r).length : Int) by simp only [List.length_cons]; omega), if_pos (show (1 : Int) <= ((y :: r).length : Int) by simp only [List.length_cons]; omega), Option.bind_some, List.drop_succ_cons, List.drop_zero, if_neg (show ¬ (y < 0) by omega), decide_eq_false (show ¬ (y > 60) by omega)]
 refine ev_s ?_
 simp only [impl_takeOrd.j0, Bool.false_eq_true, if_false]
 exact h
theorem takeOrd_out {l : List Int} (h : l = [] \/ ∃ y r, l = y :: r /\ (y < 0 \/ 60 < y)) : Ev (fun k => impl_takeOrd.f k l) ([], [], false) := by
 refine ev_s ?_
 rcases h with rfl | ⟨y, r, rfl, hy⟩
 ·
  simp only [impl_takeOrd.f, List.length_nil, if_pos (show ((0 : Nat) : Int) = 0 from rfl)]
  exact Ev.now _
 ·
  have hc : rd (y :: r) 0 = y := rfl
  have hj : Ev (fun k => impl_takeOrd.j0 k r y [] true) ([], [], false) := by
   refine ev_s ?_
   simp only [impl_takeOrd.j0, if_true]
   exact Ev.now _
  simp only [impl_takeOrd.f, hc, if_neg (show ¬ (((y :: r).length : Int) = 0) by simp only [List.length_cons]; omega), if_pos (show (0 : Int) < ((y :: r).length : Int) by simp only [List.length_cons]; omega), if_pos (show (1 : Int) <= ((y :: r).length : Int) by simp only [List.length_cons]; omega), Option.bind_some, List.drop_succ_cons, List.drop_zero]
  by_cases h0 : y < 0
  · simp only [if_pos h0]; exact hj
  · simp only [if_neg h0, decide_eq_true (show y > 60 by omega)]; exact hj
def LastO (pa : List S72) : Option O -> Prop
 | none => pa = []
 | some f => ∃ pb n, pa = pb ++ [⟨n, O.terms f⟩] /\ f.row.length <= 60
theorem takeOrd_bad {m : Nat} {L : Option O} {l : List Int} (h : BadO m L l) : ∀ (pa : List S72), LastO pa L -> pa.length + m <= 1000 -> Ev (fun k => impl_takeOrd.l0 k l pa ((pa.length + m : Nat) : Int) (pa.length : Int)) ([], [], false) := by
 -- a term whose number is out of bounds, or that is not there
 have j2 : ∀ (l : List Int) (pa : List S72) (i n j : Int), Ev (fun k => impl_takeOrd.j2 k l pa i n j true) ([], [], false) := by
  intro l pa i n j
  refine ev_s ?_
  simp only [impl_takeOrd.j2, if_true]
  exact Ev.now _
 -- a term whose exponent is read, or not
 have term : ∀ (m : Nat) (x : Int) (r : List Int) (pa : List S72) (q : (List S72) × List Int × Bool), 1 <= x -> x <= 9999 -> Ev (fun k => impl_takeOrd.j2 k (x :: r) pa (pa.length : Int) ((pa.length + (m + 1) : Nat) : Int) (pa.length : Int) false) q -> Ev (fun k => impl_takeOrd.l0 k (x :: r) pa ((pa.length + (m + 1) : Nat) : Int) (pa.length : Int)) q := by
  intro m x r pa q h1 h2 hj
  have hc : rd (x :: r) 0 = x := rfl
  refine ev_s ?_
  simp only [impl_takeOrd.l0, if_pos (show (pa.length : Int) < ((pa.length + (m + 1) : Nat) : Int) by omega), if_neg (show ¬ (((x :: r).length : Int) = 0) by simp only [List.length_cons]; omega), if_pos (show (0 : Int) < ((x :: r).length : Int) by simp only [List.length_cons]; omega), hc, if_neg (show ¬ (x < 1) by omega), decide_eq_false (show ¬ (x > 9999) by omega)]
  exact hj
 have fall : ∀ (m : Nat) (x : Int) (r : List Int) (pa : List S72) {a : List S72} {t : List Int}, 1 <= x -> x <= 9999 -> Ev (fun k => impl_takeOrd.f k r) (a, t, false) -> Ev (fun k => impl_takeOrd.l0 k (x :: r) pa ((pa.length + (m + 1) : Nat) : Int) (pa.length : Int)) ([], [], false) := by
  intro m x r pa a t h1 h2 hf
  refine term m x r pa _ h1 h2 ?_
  refine ev_s ?_
  simp only [impl_takeOrd.j2, Bool.false_eq_true, if_false, if_pos (show (1 : Int) <= ((x :: r).length : Int) by simp only [List.length_cons]; omega), List.drop_succ_cons, List.drop_zero]
  refine Ev.bind hf ?_
  simp only [Bool.false_eq_true, if_false]
  exact Ev.now _
 induction h with
 | nil m L =>
  intro pa _ _
  refine ev_s ?_
  simp only [impl_takeOrd.l0, if_pos (show (pa.length : Int) < ((pa.length + (m + 1) : Nat) : Int) by omega), List.length_nil, if_pos (show ((0 : Nat) : Int) = 0 from rfl)]
  exact j2 _ _ _ _ _
 | out m L x r h =>
  intro pa _ _
  have hc : rd (x :: r) 0 = x := rfl
  refine ev_s ?_
  simp only [impl_takeOrd.l0, if_pos (show (pa.length : Int) < ((pa.length + (m + 1) : Nat) : Int) by omega), if_neg (show ¬ (((x :: r).length : Int) = 0) by simp only [List.length_cons]; omega), if_pos (show (0 : Int) < ((x :: r).length : Int) by simp only [List.length_cons]; omega), hc]
  by_cases h0 : x < 1
  · simp only [if_pos h0]; exact j2 _ _ _ _ _
  · simp only [if_neg h0, decide_eq_true (show x > 9999 by omega)]; exact j2 _ _ _ _ _
 | head m L x r h1 h2 h => intro pa _ _; exact fall m x r pa h1 h2 (takeOrd_out h)
 | deep m L x y r h1 h2 h3 h4 h ih =>
  intro pa _ _
  have := ih [] rfl (by simp only [List.length_nil]; omega)
  simp only [List.length_nil, Nat.zero_add, Int.toNat_of_nonneg h3] at this
  exact fall m x _ pa h1 h2 (takeOrd_in h3 h4 this)
 | order m f e x t h1 h2 he hl hb h =>
  intro pa hL _
  obtain ⟨pb, n, hpa, hfb⟩ := hL
  have hrl := O.row_length e
  have hfl := O.row_length f
  refine term m x _ pa _ h1 h2 ?_
  refine ev_s ?_
  simp only [impl_takeOrd.j2, Bool.false_eq_true, if_false, if_pos (show (1 : Int) <= ((x :: (e.row ++ t)).length : Int) by simp only [List.length_cons]; omega), List.drop_succ_cons, List.drop_zero]
  refine Ev.bind (takeOrd_ev he hl (by omega) t) ?_
  have hpl : pa.length = pb.length + 1 := by rw [hpa]; simp
  have hw1 : wrap64 ((pa.length : Int) - 1) = (pb.length : Int) := by rw [wrap_in (by omega) (by omega)]; omega
  have hrd : rd_T72 pa (pb.length : Int) = ⟨n, O.terms f⟩ := by rw [hpa]; exact rd_T72_mid pb [] ⟨n, O.terms f⟩
  simp only [if_true, if_pos (show (pa.length : Int) > 0 by omega), hw1, if_pos (show (0 : Int) <= (pb.length : Int) by omega), if_pos (show (pb.length : Int) < (pa.length : Int) by omega), hrd]
  refine Ev.bind (compare_ev e f (by omega) (by omega)) ?_
  have hge : ordI (O.cmp e f) >= 0 := by
   have : ¬ ordI (O.cmp e f) < 0 := fun h' => h (ordI_neg.mp h')
   omega
  simp only [if_pos hge]
  exact Ev.now _
 | next m L e x t h1 h2 he hl hb hf h ih =>
  intro pa hL hp
  have hrl := O.row_length e
  have hw : wrap64 ((pa.length : Int) + 1) = (((pa ++ [(⟨x, e.terms⟩ : S72)]).length : Nat) : Int) := by
   rw [List.length_append, List.length_singleton]; exact wrap_nat2 pa.length 1 (by omega)
  have hcnt : ((pa.length + (m + 1) : Nat) : Int) = (((pa ++ [(⟨x, e.terms⟩ : S72)]).length + m : Nat) : Int) := by
   simp only [List.length_append, List.length_singleton]; omega
  have hc : rd (x :: (e.row ++ t)) 0 = x := rfl
  have ih := ih (pa ++ [⟨x, e.terms⟩]) ⟨pa, x, rfl, hb⟩ (by simp only [List.length_append, List.length_singleton]; omega)
  refine term m x _ pa _ h1 h2 ?_
  refine ev_s ?_
  simp only [impl_takeOrd.j2, Bool.false_eq_true, if_false, if_pos (show (1 : Int) <= ((x :: (e.row ++ t)).length : Int) by simp only [List.length_cons]; omega), List.drop_succ_cons, List.drop_zero]
  refine Ev.bind (takeOrd_ev he hl (by omega) t) ?_
  simp only [if_true, if_pos (show (0 : Int) < ((x :: (e.row ++ t)).length : Int) by simp only [List.length_cons]; omega), hc, if_pos (show pa.length < 4398046511104 by omega), hw, hcnt]
  cases L with
  | none =>
   have hpa : pa = [] := hL
   simp only [if_neg (show ¬ ((pa.length : Int) > 0) by rw [hpa]; simp)]
   exact ih
  | some f =>
   obtain ⟨pb, n, hpa, hfb⟩ := hL
   have hfl := O.row_length f
   have hpl : pa.length = pb.length + 1 := by rw [hpa]; simp
   have hw1 : wrap64 ((pa.length : Int) - 1) = (pb.length : Int) := by rw [wrap_in (by omega) (by omega)]; omega
   have hrd : rd_T72 pa (pb.length : Int) = ⟨n, O.terms f⟩ := by rw [hpa]; exact rd_T72_mid pb [] ⟨n, O.terms f⟩
   simp only [if_pos (show (pa.length : Int) > 0 by omega), hw1, if_pos (show (0 : Int) <= (pb.length : Int) by omega), if_pos (show (pb.length : Int) < (pa.length : Int) by omega), hrd]
   refine Ev.bind (compare_ev e f (by omega) (by omega)) ?_
   have hlt : ordI (O.cmp e f) = -1 := by rw [show O.cmp e f = .lt from hf]; rfl
   simp only [hlt, if_neg (show ¬ ((-1 : Int) >= 0) by decide)]
   exact ih
theorem impl_ordOf_bad {l : List Int} (h : NoOrd l) : ∃ a, Ev (fun k => impl_ordOf.f k l) (a, false) := by
 by_cases h0 : (l.length : Int) < 1
 · exact ⟨[], by simp only [impl_ordOf.f, if_pos h0]; exact Ev.now _⟩
 by_cases h60 : (l.length : Int) > 60
 · exact ⟨[], by simp only [impl_ordOf.f, if_neg h0, if_pos h60]; exact Ev.now _⟩
 have fin : ∀ {a : List S72} {t : List Int} {b : Bool}, (b = true -> t ≠ []) -> Ev (fun k => impl_takeOrd.f k l) (a, t, b) -> ∃ a, Ev (fun k => impl_ordOf.f k l) (a, false) := by
  intro a t b hb ht
  refine ⟨a, ?_⟩
  simp only [impl_ordOf.f, if_neg h0, if_neg h60]
  refine Ev.bind ht ?_
  cases b with
  | false => simp only [Bool.false_eq_true, if_false]; exact Ev.now _
  | true =>
   simp only [if_true]
   refine ev_now ?_
   have := List.length_pos_iff.mpr (hb rfl)
   rw [beq_eq_false_iff_ne.mpr (show (t.length : Int) ≠ 0 by omega)]
 rcases h with h | rfl | ⟨y, r, rfl, hy⟩ | ⟨y, r, rfl, h1, h2, hb⟩ | ⟨o, x, t, rfl, hs, hl⟩
 · exact absurd h (by omega)
 · simp at h0
 · exact fin (fun h => by cases h) (takeOrd_out (.inr ⟨y, r, rfl, hy⟩))
 ·
  have := takeOrd_bad hb [] rfl (by simp only [List.length_nil]; omega)
  simp only [List.length_nil, Nat.zero_add, Int.toNat_of_nonneg h1] at this
  exact fin (fun h => by cases h) (takeOrd_in h1 h2 this)
 ·
  have hrl := O.row_length o
  simp only [List.length_append, List.length_cons] at h60
  exact fin (fun _ => by simp) (takeOrd_ev hs hl (by omega) (x :: t))

-- part: oValidSpec
theorem l1End_in {l : List Int} {p : Nat} (hp : p < l.length) (hb : l.length <= 1000000) (h0 : 0 <= l[p]) (h1 : l[p] <= 60) {q : Int} (h : Ev (fun k => spec_l1End.l0 k l ((p + 1 : Nat) : Int) l[p] [] 0) q) : Ev (fun k => spec_l1End.f k l (p : Int)) q := by
 refine ev_s ?_
 simp only [spec_l1End.f, if_neg (show ¬ ((p : Int) >= (l.length : Int)) by omega), if_pos (show (0 : Int) <= (p : Int) by omega), if_pos (show (p : Int) < (l.length : Int) by omega), l1In_eq, Option.bind_some, rd_get hp, decide_eq_true (show 0 <= l[p] /\ l[p] <= 60 from ⟨h0, h1⟩), Bool.not_true]
 refine ev_s ?_
 simp only [spec_l1End.j0, Bool.false_eq_true, if_false, if_pos (show (0 : Int) <= (p : Int) by omega), if_pos (show (p : Int) < (l.length : Int) by omega), rd_get hp, show wrap64 ((p : Int) + 1) = ((p + 1 : Nat) : Int) from wrap_nat2 p 1 (by omega)]
 exact h
theorem l1End_out {l : List Int} {p : Nat} (h : l.length <= p \/ ∃ hp : p < l.length, l[p] < 0 \/ 60 < l[p]) : Ev (fun k => spec_l1End.f k l (p : Int)) (-1) := by
 have hj : Ev (fun k => spec_l1End.j0 k l (p : Int) true) (-1) := by
  refine ev_s ?_
  simp only [spec_l1End.j0, if_true]
  exact Ev.now _
 refine ev_s ?_
 rcases h with h | ⟨hp, hx⟩
 ·
  simp only [spec_l1End.f, if_pos (show ((p : Int) >= (l.length : Int)) by omega)]
  exact hj
 ·
  simp only [spec_l1End.f, if_neg (show ¬ ((p : Int) >= (l.length : Int)) by omega), if_pos (show (0 : Int) <= (p : Int) by omega), if_pos (show (p : Int) < (l.length : Int) by omega), l1In_eq, Option.bind_some, rd_get hp, decide_eq_false (show ¬ (0 <= l[p] /\ l[p] <= 60) by omega), Bool.not_false]
  exact hj
theorem l1End_term {l : List Int} {p i n : Nat} {la : List Int} (hp : p < l.length) (h0 : 1 <= l[p]) (h1 : l[p] <= 9999) (hi : i < n) {q : Int} (h : Ev (fun k => spec_l1End.j2 k l (p : Int) (n : Int) la (i : Int) false) q) : Ev (fun k => spec_l1End.l0 k l (p : Int) (n : Int) la (i : Int)) q := by
 refine ev_s ?_
 simp only [spec_l1End.l0, if_pos (show (i : Int) < (n : Int) by omega), if_neg (show ¬ ((p : Int) >= (l.length : Int)) by omega), if_pos (show (0 : Int) <= (p : Int) by omega), if_pos (show (p : Int) < (l.length : Int) by omega), l1In_eq, Option.bind_some, rd_get hp, decide_eq_true (show 1 <= l[p] /\ l[p] <= 9999 from ⟨h0, h1⟩), Bool.not_true]
 exact h
theorem l1End_noterm {l : List Int} {p i n : Nat} {la : List Int} (hi : i < n) (h : l.length <= p \/ ∃ hp : p < l.length, l[p] < 1 \/ 9999 < l[p]) : Ev (fun k => spec_l1End.l0 k l (p : Int) (n : Int) la (i : Int)) (-1) := by
 have hj : Ev (fun k => spec_l1End.j2 k l (p : Int) (n : Int) la (i : Int) true) (-1) := by
  refine ev_s ?_
  simp only [spec_l1End.j2, if_true]
  exact Ev.now _
 refine ev_s ?_
 rcases h with h | ⟨hp, hx⟩
 ·
  simp only [spec_l1End.l0, if_pos (show (i : Int) < (n : Int) by omega), if_pos (show ((p : Int) >= (l.length : Int)) by omega)]
  exact hj
 ·
  simp only [spec_l1End.l0, if_pos (show (i : Int) < (n : Int) by omega), if_neg (show ¬ ((p : Int) >= (l.length : Int)) by omega), if_pos (show (0 : Int) <= (p : Int) by omega), if_pos (show (p : Int) < (l.length : Int) by omega), l1In_eq, Option.bind_some, rd_get hp, decide_eq_false (show ¬ (1 <= l[p] /\ l[p] <= 9999) by omega), Bool.not_false]
  exact hj
def LastS (la : List Int) (i : Nat) : Option O -> Prop
 | none => i = 0
 | some f => 0 < i /\ la = f.row /\ f.row.length <= 60
theorem l1End_exp {pre t l la : List Int} {x : Int} {e : O} {L : Option O} {i n : Nat} (hl : l = pre ++ x :: (e.row ++ t)) (hb : l.length <= 1000000) (hi : i < n) (hn : n <= 1000) (he : e.row.length <= 60) (hL : LastS la i L)
  (hE : Ev (fun k => spec_l1End.f k l ((pre.length + 1 : Nat) : Int)) ((pre.length + 1 + e.row.length : Nat) : Int)) {q : Int}
  (hok : O.fol L e -> Ev (fun k => spec_l1End.l0 k l ((pre.length + 1 + e.row.length : Nat) : Int) (n : Int) e.row ((i + 1 : Nat) : Int)) q) (hno : ¬ O.fol L e -> q = -1) : Ev (fun k => spec_l1End.j2 k l (pre.length : Int) (n : Int) la (i : Int) false) q := by
 have hlen : l.length = pre.length + 1 + e.row.length + t.length := by rw [hl]; simp; omega
 have hcut : ((l.take (pre.length + 1 + e.row.length)).drop (pre.length + 1)) = e.row := by
  have e0 : l = (pre ++ [x]) ++ e.row ++ t := by rw [hl]; simp
  rw [e0, show pre.length + 1 + e.row.length = ((pre ++ [x]) ++ e.row).length by simp; omega, List.take_left', List.drop_left' (by simp)]
  rfl
 have hw : wrap64 ((pre.length : Int) + 1) = ((pre.length + 1 : Nat) : Int) := wrap_nat2 _ 1 (by omega)
 have hwi : wrap64 ((i : Int) + 1) = ((i + 1 : Nat) : Int) := wrap_nat2 _ 1 (by omega)
 refine ev_s ?_
 simp only [spec_l1End.j2, Bool.false_eq_true, if_false, hw]
 refine Ev.bind hE ?_
 simp only [if_neg (show ¬ (((pre.length + 1 + e.row.length : Nat) : Int) < 0) by omega), if_pos (show (0 : Int) <= ((pre.length + 1 : Nat) : Int) by omega), if_pos (show ((pre.length + 1 : Nat) : Int) <= ((pre.length + 1 + e.row.length : Nat) : Int) by omega), if_pos (show ((pre.length + 1 + e.row.length : Nat) : Int) <= (l.length : Int) by omega), Int.toNat_natCast, hcut, hwi]
 cases L with
 | none =>
  have h0 : i = 0 := hL
  simp only [if_neg (show ¬ ((i : Int) > 0) by omega)]
  exact hok trivial
 | some f =>
  obtain ⟨h0, hla, hf⟩ := hL
  simp only [if_pos (show (i : Int) > 0 by omega), hla]
  refine Ev.bind (l1Compare_ev e f (by omega) (by omega)) ?_
  by_cases h : O.cmp e f = .lt
  ·
   have hlt : ordI (O.cmp e f) = -1 := by rw [h]; rfl
   simp only [hlt, if_neg (show ¬ ((-1 : Int) >= 0) by decide)]
   exact hok h
  ·
   have hge : ordI (O.cmp e f) >= 0 := by
    have : ¬ ordI (O.cmp e f) < 0 := fun h' => h (ordI_neg.mp h')
    omega
   simp only [if_pos hge]
   exact ev_now (hno h).symm
theorem l1End_l0 : ∀ (r : O), r.Sm -> ∀ (pre t l la : List Int) (L : Option O) (i : Nat), l = pre ++ r.body ++ t -> l.length <= 1000000 -> r.body.length <= 60 -> i + r.len <= 1000 -> O.folr L r -> LastS la i L ->
  Ev (fun k => spec_l1End.l0 k l (pre.length : Int) ((i + r.len : Nat) : Int) la (i : Int)) ((pre.length + r.body.length : Nat) : Int)
 | .z, _, pre, t, l, la, L, i, _, _, _, _, _, _ => by
  refine ev_s ?_
  simp only [spec_l1End.l0, O.len, O.body, Nat.add_zero, Int.lt_irrefl, if_false, List.length_nil]
  exact Ev.now _
 | .c n e r, hs, pre, t, l, la, L, i, hl, hb, hr, hi, hf, hL => by
  obtain ⟨hn, ⟨hse, hle⟩, hsr, hhd⟩ := hs
  have hrl := O.row_length e
  have hel := O.len_le e
  have hbc := O.body_c n e r
  have hblen : (O.c n e r).body.length = 1 + e.row.length + r.body.length := by rw [hbc]; simp; omega
  have hl2 : l = pre ++ (n : Int) :: (e.row ++ (r.body ++ t)) := by rw [hl, hbc]; simp
  have hlen : l.length = pre.length + 1 + e.row.length + r.body.length + t.length := by rw [hl2]; simp; omega
  have hp : pre.length < l.length := by omega
  have hx : l[pre.length] = (n : Int) := by subst hl2; simp
  have hp1 : pre.length + 1 < l.length := by omega
  have hx1 : l[pre.length + 1] = (e.len : Int) := by
   have : l[pre.length + 1]? = some (e.len : Int) := by
    rw [hl2, List.getElem?_append_right (by omega)]; simp [O.row]
   exact (List.getElem?_eq_some_iff.mp this).2
  have hE : Ev (fun k => spec_l1End.f k l ((pre.length + 1 : Nat) : Int)) ((pre.length + 1 + e.row.length : Nat) : Int) := by
   refine l1End_in hp1 hb (by rw [hx1]; omega) (by rw [hx1]; omega) ?_
   rw [hx1]
   have := l1End_l0 e hse (pre ++ [(n : Int), (e.len : Int)]) (r.body ++ t) l [] none 0 (by rw [hl2]; simp [O.row]) hb (by omega) (by omega) (by cases e <;> trivial) rfl
   simp only [List.length_append, List.length_cons, List.length_nil, Nat.zero_add] at this
   exact ev_eq this (by omega)
  rw [show i + (O.c n e r).len = i + 1 + r.len by simp only [O.len]; omega]
  refine l1End_term hp (by rw [hx]; omega) (by rw [hx]; omega) (by omega) ?_
  refine l1End_exp hl2 hb (by omega) (by simp only [O.len] at hi; omega) (by omega) hL hE (fun _ => ?_) (fun h => absurd hf h)
  have ih := l1End_l0 r hsr (pre ++ (n : Int) :: e.row) t l e.row (some e) (i + 1) (by rw [hl2]; simp) hb (by omega) (by simp only [O.len] at hi; omega) (by cases r with | z => trivial | c _ _ _ => exact hhd) ⟨by omega, rfl, by omega⟩
  have hpl : (pre ++ (n : Int) :: e.row).length = pre.length + 1 + e.row.length := by simp; omega
  rw [hpl] at ih
  exact ev_eq ih (by omega)
theorem l1End_bad {m : Nat} {L : Option O} {r : List Int} (h : BadO m L r) : ∀ (pre l la : List Int) (i : Nat), l = pre ++ r -> l.length <= 1000000 -> i + m <= 1000 -> LastS la i L -> Ev (fun k => spec_l1End.l0 k l (pre.length : Int) ((i + m : Nat) : Int) la (i : Int)) (-1) := by
 -- an exponent that can't be read
 have fall : ∀ (m : Nat) (x : Int) (r pre l la : List Int) (i : Nat), l = pre ++ x :: r -> l.length <= 1000000 -> 1 <= x -> x <= 9999 -> Ev (fun k => spec_l1End.f k l ((pre.length + 1 : Nat) : Int)) (-1) -> Ev (fun k => spec_l1End.l0 k l (pre.length : Int) ((i + (m + 1) : Nat) : Int) la (i : Int)) (-1) := by
  intro m x r pre l la i hl hb h1 h2 hE
  have hp : pre.length < l.length := by rw [hl]; simp
  have hx : l[pre.length] = x := by subst hl; simp
  refine l1End_term hp (by omega) (by omega) (by omega) ?_
  refine ev_s ?_
  simp only [spec_l1End.j2, Bool.false_eq_true, if_false, show wrap64 ((pre.length : Int) + 1) = ((pre.length + 1 : Nat) : Int) from wrap_nat2 _ 1 (by omega)]
  refine Ev.bind hE ?_
  simp only [if_pos (show (-1 : Int) < 0 by decide)]
  exact Ev.now _
 have good : ∀ (pre t l : List Int) (x : Int) (e : O), l = pre ++ x :: (e.row ++ t) -> l.length <= 1000000 -> e.Sm -> e.len <= 60 -> e.row.length <= 60 -> Ev (fun k => spec_l1End.f k l ((pre.length + 1 : Nat) : Int)) ((pre.length + 1 + e.row.length : Nat) : Int) := by
  intro pre t l x e hl hb hse hle hr
  have hrl := O.row_length e
  have hp1 : pre.length + 1 < l.length := by rw [hl]; simp; omega
  have hx1 : l[pre.length + 1] = (e.len : Int) := by
   have : l[pre.length + 1]? = some (e.len : Int) := by
    rw [hl, List.getElem?_append_right (by omega)]; simp [O.row]
   exact (List.getElem?_eq_some_iff.mp this).2
  refine l1End_in hp1 hb (by rw [hx1]; omega) (by rw [hx1]; omega) ?_
  rw [hx1]
  have := l1End_l0 e hse (pre ++ [x, (e.len : Int)]) t l [] none 0 (by rw [hl]; simp [O.row]) hb (by omega) (by omega) (by cases e <;> trivial) rfl
  simp only [List.length_append, List.length_cons, List.length_nil, Nat.zero_add] at this
  exact ev_eq this (by omega)
 induction h with
 | nil m L => intro pre l la i hl _ _ _; exact l1End_noterm (by omega) (.inl (by rw [hl]; simp))
 | out m L x r h =>
  intro pre l la i hl _ _ _
  have hp : pre.length < l.length := by rw [hl]; simp
  have hx : l[pre.length] = x := by subst hl; simp
  exact l1End_noterm (by omega) (.inr ⟨hp, by rw [hx]; exact h⟩)
 | head m L x r h1 h2 h =>
  intro pre l la i hl hb _ _
  refine fall m x r pre l la i hl hb h1 h2 (l1End_out ?_)
  rcases h with rfl | ⟨y, t, rfl, hy⟩
  · exact .inl (by rw [hl]; simp)
  ·
   have hp1 : pre.length + 1 < l.length := by rw [hl]; simp
   have hx1 : l[pre.length + 1] = y := by
    have : l[pre.length + 1]? = some y := by rw [hl, List.getElem?_append_right (by omega)]; simp
    exact (List.getElem?_eq_some_iff.mp this).2
   exact .inr ⟨hp1, by rw [hx1]; exact hy⟩
 | deep m L x y r h1 h2 h3 h4 h ih =>
  intro pre l la i hl hb _ _
  have hp1 : pre.length + 1 < l.length := by rw [hl]; simp
  have hx1 : l[pre.length + 1] = y := by
   have : l[pre.length + 1]? = some y := by rw [hl, List.getElem?_append_right (by omega)]; simp
   exact (List.getElem?_eq_some_iff.mp this).2
  refine fall m x _ pre l la i hl hb h1 h2 (l1End_in hp1 hb (by omega) (by omega) ?_)
  have := ih (pre ++ [x, y]) l [] 0 (by rw [hl]; simp) hb (by omega) rfl
  rw [hx1]
  simp only [List.length_append, List.length_cons, List.length_nil, Nat.zero_add, Int.toNat_of_nonneg h3] at this
  exact this
 | order m f e x t h1 h2 he hle hr h =>
  intro pre l la i hl hb hi hL
  have hp : pre.length < l.length := by rw [hl]; simp
  have hx : l[pre.length] = x := by subst hl; simp
  refine l1End_term hp (by omega) (by omega) (by omega) ?_
  exact l1End_exp hl hb (by omega) (by omega) hr hL (good pre t l x e hl hb he hle hr) (fun h' => absurd h' h) (fun _ => rfl)
 | next m L e x t h1 h2 he hle hr hf h ih =>
  intro pre l la i hl hb hi hL
  have hp : pre.length < l.length := by rw [hl]; simp
  have hx : l[pre.length] = x := by subst hl; simp
  refine l1End_term hp (by omega) (by omega) (by omega) ?_
  refine l1End_exp hl hb (by omega) (by omega) hr hL (good pre t l x e hl hb he hle hr) (fun _ => ?_) (fun h' => absurd hf h')
  have := ih (pre ++ x :: e.row) l e.row (i + 1) (by rw [hl]; simp) hb (by omega) ⟨by omega, rfl, hr⟩
  rw [show (pre ++ x :: e.row).length = pre.length + 1 + e.row.length by simp; omega, show i + 1 + m = i + (m + 1) by omega] at this
  exact this
theorem OrdValid_good {o : O} (hs : o.Sm) (hr : o.row.length <= 60) : Ev (fun k => spec_OrdValid.f k o.row) true := by
 have hrl := O.row_length o
 have hle := O.len_le o
 have hE : Ev (fun k => spec_l1End.f k o.row ((0 : Nat) : Int)) (o.row.length : Int) := by
  refine l1End_in (p := 0) (by omega) (by omega) (by simp [O.row]) (by simp [O.row]; omega) ?_
  have := l1End_l0 o hs [(o.len : Int)] [] o.row [] none 0 (by simp [O.row]) (by omega) (by omega) (by omega) (by cases o <;> trivial) rfl
  simp only [List.length_singleton, Nat.zero_add] at this
  exact ev_eq this (by omega)
 simp only [spec_OrdValid.f, l1In_eq, Option.bind_some, decide_eq_true (show 1 <= (o.row.length : Int) /\ (o.row.length : Int) <= 60 by omega), if_true]
 refine Ev.bind hE ?_
 exact ev_now (by simp)
theorem OrdValid_bad {l : List Int} (h : NoOrd l) : Ev (fun k => spec_OrdValid.f k l) false := by
 by_cases h0 : 1 <= (l.length : Int) /\ (l.length : Int) <= 60
 ·
  simp only [spec_OrdValid.f, l1In_eq, Option.bind_some, decide_eq_true h0, if_true]
  have fin : ∀ {q : Int}, q ≠ (l.length : Int) -> Ev (fun k => spec_l1End.f k l ((0 : Nat) : Int)) q -> Ev (fun k => (spec_l1End.f k l 0).bind fun t167 => some (t167 == (l.length : Int))) false := by
   intro q hq hE
   refine Ev.bind hE ?_
   exact ev_now (beq_eq_false_iff_ne.mpr hq)
  rcases h with h | rfl | ⟨y, r, rfl, hy⟩ | ⟨y, r, rfl, h1, h2, hb⟩ | ⟨o, x, t, rfl, hs, hl⟩
  · omega
  · simp at h0
  · exact fin (q := -1) (by omega) (l1End_out (.inr ⟨by simp, hy⟩))
  ·
   refine fin (q := -1) (by omega) (l1End_in (p := 0) (by simp) (by omega) h1 h2 ?_)
   have := l1End_bad hb [y] (y :: r) [] 0 rfl (by omega) (by omega) rfl
   simp only [List.length_singleton, Nat.zero_add, Int.toNat_of_nonneg h1] at this
   exact this
  ·
   have hrl := O.row_length o
   have hlen : (o.row ++ x :: t).length = o.row.length + (t.length + 1) := by simp
   refine fin (q := (o.row.length : Int)) (by omega) (l1End_in (p := 0) (by omega) (by omega) (by simp [O.row]) (by simp [O.row]; omega) ?_)
   have := l1End_l0 o hs [(o.len : Int)] (x :: t) (o.row ++ x :: t) [] none 0 (by simp [O.row]) (by omega) (by omega) (by omega) (by cases o <;> trivial) rfl
   simp only [List.length_singleton, Nat.zero_add] at this
   have e1 : (o.row ++ x :: t)[0]'(by omega) = (o.len : Int) := by simp [O.row]
   rw [e1]
   exact ev_eq this (by omega)
 ·
  simp only [spec_OrdValid.f, l1In_eq, Option.bind_some, decide_eq_false h0, Bool.false_eq_true, if_false]
  exact Ev.now _

-- part: coreStep
def O.kind : O -> Nat
 | .z => 0
 | .c _ .z .z => 1
 | .c _ (.c ..) .z => 2
 | .c _ _ (.c n e r) => O.kind (.c n e r)
def O.before : O -> O
 | .z => .z
 | .c n e .z => if n = 1 then .z else .c (n - 1) e .z
 | .c n e (.c m f r) => .c n e (O.before (.c m f r))
def O.step (k : Nat) : O -> O
 | .z => .z
 | .c n .z .z => O.before (.c n .z .z)
 | .c n (.c m f r) .z =>
  if O.kind (.c m f r) = 2 then O.app (O.before (.c n (.c m f r) .z)) (.c 1 (O.step k (.c m f r)) .z)
  else if k = 0 then O.before (.c n (.c m f r) .z)
  else O.app (O.before (.c n (.c m f r) .z)) (.c k (O.before (.c m f r)) .z)
 | .c n e (.c m f r) => .c n e (O.step k (.c m f r))

-- part: coreH
def H.ord : H -> O
 | .nul => .z
 | .cons b r => O.ins (H.ord b) (H.ord r)
def H.size : H -> Nat
 | .nul => 1
 | .cons b r => H.size b + H.size r
theorem H.size_pos : ∀ h : H, 1 <= h.size
 | .nul => Nat.le_refl _
 | .cons b r => by have := H.size_pos r; simp only [H.size]; omega
theorem H.ord_NF : ∀ h : H, O.NF h.ord
 | .nul => trivial
 | .cons b r => O.ins_NF (H.ord_NF b) (H.ord_NF r)
theorem H.ord_z : ∀ h : H, h.ord = .z ↔ h = .nul
 | .nul => by simp [H.ord]
 | .cons b r => by
  simp only [H.ord, reduceCtorEq, iff_false]
  intro h
  have := O.lt_ins b.ord r.ord
  rw [h] at this
  cases h' : r.ord <;> rw [h'] at this <;> simp [O.cmp] at this

def H.le (e : O) : H -> Prop
 | .nul => True
 | .cons b _ => O.cmp b.ord e ≠ .gt
def H.sorted : H -> Prop
 | .nul => True
 | .cons b r => H.sorted b /\ H.sorted r /\ H.le b.ord r
def H.rep : Nat -> H -> H -> H
 | 0, _, r => r
 | k + 1, b, r => .cons b (H.rep k b r)
def H.of : O -> H
 | .z => .nul
 | .c n e r => H.rep n (H.of e) (H.of r)
def O.size : O -> Nat
 | .z => 1
 | .c n e r => n * O.size e + O.size r

theorem H.rep_size (b r : H) : ∀ k, (H.rep k b r).size = k * b.size + r.size
 | 0 => by simp [H.rep]
 | k + 1 => by simp only [H.rep, H.size, H.rep_size b r k, Nat.add_mul]; omega
theorem H.of_size : ∀ o : O, (H.of o).size = o.size
 | .z => rfl
 | .c n e r => by rw [H.of, H.rep_size, H.of_size e, H.of_size r]; rfl
theorem O.ins_size (e : O) : ∀ x : O, (O.ins e x).size = e.size + x.size
 | .z => by simp [O.ins, O.size]
 | .c n f r => by
  unfold O.ins
  cases hc : O.cmp f e with
  | gt => simp only [O.size, O.ins_size e r]; omega
  | eq => rw [<- O.eq_of_cmp _ _ hc]; simp only [O.size, Nat.add_mul]; omega
  | lt => simp only [O.size]; omega
theorem H.ord_size : ∀ h : H, h.ord.size = h.size
 | .nul => rfl
 | .cons b r => by rw [H.ord, O.ins_size, H.ord_size b, H.ord_size r]; rfl

theorem H.rep_ord (b r : H) : ∀ k, (H.rep k b r).ord = O.insk b.ord k r.ord
 | 0 => rfl
 | k + 1 => by simp only [H.rep, H.ord, H.rep_ord b r k, O.insk]
theorem O.insk_big {e x : O} (h : O.hd e x) : ∀ k, 1 <= k -> O.insk e k x = .c k e x
 | 1, _ => O.ins_big h
 | k + 2, _ => by rw [O.insk, O.insk_big h (k + 1) (by omega)]; simp [O.ins, O.cmp_self]
theorem H.ord_of : ∀ o : O, O.NF o -> (H.of o).ord = o
 | .z, _ => rfl
 | .c n e r, h => by
  rw [H.of, H.rep_ord, H.ord_of e h.2.1, H.ord_of r h.2.2.1, O.insk_big h.2.2.2 n h.1]
theorem H.le_of_hd {e : O} : ∀ {o : O}, O.NF o -> O.hd e o -> H.le e (H.of o)
 | .z, _, _ => trivial
 | .c n f r, hn, h => by
  obtain ⟨m, rfl⟩ : ∃ m, n = m + 1 := ⟨n - 1, by have := hn.1; omega⟩
  simp only [H.of, H.rep, H.le]
  rw [H.ord_of f hn.2.1, show O.cmp f e = .lt from h]; simp
theorem H.rep_sorted {b r : H} (hb : b.sorted) (hr : r.sorted) (h : H.le b.ord r) : ∀ k, (H.rep k b r).sorted
 | 0 => hr
 | k + 1 => ⟨hb, H.rep_sorted hb hr h k, by
  cases k with
  | zero => exact h
  | succ k => simp [H.rep, H.le, O.cmp_self]⟩
theorem H.of_sorted : ∀ o : O, O.NF o -> (H.of o).sorted
 | .z, _ => trivial
 | .c n e r, h => H.rep_sorted (H.of_sorted e h.2.1) (H.of_sorted r h.2.2.1) (by rw [H.ord_of e h.2.1]; exact H.le_of_hd h.2.2.1 h.2.2.2) n


theorem H.ord_head : ∀ {b r : H}, (H.cons b r).sorted -> ∃ n s, (H.cons b r).ord = .c n b.ord s
 | b, .nul, _ => ⟨1, .z, rfl⟩
 | b, .cons b' r', h => by
  obtain ⟨n, s, hs⟩ := H.ord_head h.2.1
  have hle : O.cmp b'.ord b.ord ≠ .gt := h.2.2
  rw [H.ord, hs]
  cases hc : O.cmp b'.ord b.ord with
  | gt => exact absurd hc hle
  | eq => exact ⟨n + 1, s, by rw [O.ins, hc, O.eq_of_cmp _ _ hc]⟩
  | lt => exact ⟨1, _, by rw [O.ins, hc]⟩
theorem H.ord_le {b r : H} (h : (H.cons b r).sorted) : O.hd b.ord r.ord \/ ∃ n s, r.ord = .c n b.ord s := by
 cases r with
 | nul => exact .inl trivial
 | cons b' r' =>
  obtain ⟨n, s, hs⟩ := H.ord_head h.2.1
  have hle : O.cmp b'.ord b.ord ≠ .gt := h.2.2
  rw [hs]
  cases hc : O.cmp b'.ord b.ord with
  | gt => exact absurd hc hle
  | eq => exact .inr ⟨n, s, by rw [O.eq_of_cmp _ _ hc]⟩
  | lt => exact .inl hc
def H.isort (h : H) : H := H.of h.ord
theorem O.kind_step (k : Nat) : ∀ x : O, O.kind x = 1 -> O.step k x = O.before x
 | .z, h => by simp [O.kind] at h
 | .c n .z .z, _ => by simp [O.step]
 | .c n (.c ..) .z, h => by simp [O.kind] at h
 | .c n .z (.c m f r), h => by
  have := O.kind_step k (.c m f r) (by simpa [O.kind] using h)
  simp only [O.step, O.before, this]
 | .c n (.c a b d) (.c m f r), h => by
  have := O.kind_step k (.c m f r) (by simpa [O.kind] using h)
  simp only [O.step, O.before, this]
theorem O.kind_cons (n : Nat) (e : O) {r : O} (h : r ≠ .z) : O.kind (.c n e r) = O.kind r := by
 cases r with
 | z => exact absurd rfl h
 | c m f s => cases e <;> rfl
theorem O.step_cons (k n : Nat) (e : O) {r : O} (h : r ≠ .z) : O.step k (.c n e r) = .c n e (O.step k r) := by
 cases r with
 | z => exact absurd rfl h
 | c m f s => cases e <;> rfl
theorem O.before_cons (n : Nat) (e : O) {r : O} (h : r ≠ .z) : O.before (.c n e r) = .c n e (O.before r) := by
 cases r with
 | z => exact absurd rfl h
 | c m f s => rfl
theorem O.kind_pos : ∀ x : O, x ≠ .z -> O.kind x = 1 \/ O.kind x = 2
 | .z, h => absurd rfl h
 | .c n e r, _ => by
  by_cases hr : r = .z
  · subst hr; cases e <;> simp [O.kind]
  · rw [O.kind_cons n e hr]; exact O.kind_pos r hr

def O.tail (k : Nat) (e : O) : O := if O.kind e = 2 then .c 1 (O.step k e) .z else if k = 0 then .z else .c k (O.before e) .z
theorem O.step_last (k n : Nat) {e : O} (he : e ≠ .z) : O.step k (.c n e .z) = O.app (O.before (.c n e .z)) (O.tail k e) := by
 cases e with
 | z => exact absurd rfl he
 | c m f r =>
  simp only [O.step, O.tail]
  split
  · rfl
  ·
   split
   · rw [O.app_z]
   · rfl

theorem O.tail_hd_of (k : Nat) (e : O) (hz : e ≠ .z) (h : O.cmp (O.step k e) e = .lt) : O.hd e (O.tail k e) := by
 unfold O.tail
 split
 · exact h
 ·
  split
  · trivial
  ·
   rename_i h1 _
   have h2 : O.kind e = 1 := by rcases O.kind_pos e hz with h | h; exact h; exact absurd h h1
   show O.cmp (O.before e) e = .lt
   rw [<- O.kind_step k e h2]
   exact h
theorem O.step_lt (k : Nat) : ∀ x : O, O.NF x -> x ≠ .z -> O.cmp (O.step k x) x = .lt
 | .z, _, h => absurd rfl h
 | .c n e r, hx, _ => by
  have h1 : 1 <= n := hx.1
  have hr' := O.step_lt k r hx.2.2.1
  have he' := O.step_lt k e hx.2.1
  by_cases hr : r = .z
  ·
   subst hr
   by_cases he : e = .z
   ·
    subst he
    simp only [O.step, O.before]
    split
    · rfl
    · simp [O.cmp, Nat.compare_eq_lt.mpr (show n - 1 < n by omega)]
   ·
    rw [O.step_last k n he]
    have ht := O.tail_hd_of k e he (he' he)
    simp only [O.before]
    split
    · simp only [O.app]; exact O.hd_lt ht _ _
    · simp [O.app, O.cmp, O.cmp_self, Nat.compare_eq_lt.mpr (show n - 1 < n by omega)]
  ·
   rw [O.step_cons k n e hr]
   simp [O.cmp, O.cmp_self, hr' hr]
theorem O.tail_hd (k : Nat) (e : O) (he : O.NF e) (hz : e ≠ .z) : O.hd e (O.tail k e) := O.tail_hd_of k e hz (O.step_lt k e he hz)
theorem O.step_hd (k : Nat) {e R : O} (hR : O.NF R) (h : O.hd e R) : O.hd e (O.step k R) := by
 by_cases hz : R = .z
 · subst hz; exact trivial
 ·
  have hlt := O.step_lt k R hR hz
  cases R with
  | z => exact absurd rfl hz
  | c n f r =>
   cases hs : O.step k (.c n f r) with
   | z => trivial
   | c m g s =>
    rw [hs] at hlt
    simp only [O.cmp, Ordering.then_eq_lt] at hlt
    rcases hlt with (hlt | ⟨hlt, _⟩) | ⟨hlt, _⟩
    · exact O.lt_trans _ _ _ hlt h
    · show O.cmp g e = .lt; rw [O.eq_of_cmp _ _ hlt]; exact h
    · rw [Ordering.then_eq_eq] at hlt; show O.cmp g e = .lt; rw [O.eq_of_cmp _ _ hlt.1]; exact h
theorem O.step_one (k : Nat) {e : O} (he : e ≠ .z) : O.step k (.c 1 e .z) = O.tail k e := by
 rw [O.step_last k 1 he]; simp [O.before, O.app]
theorem O.ins_step (k : Nat) {e R : O} (hR : O.NF R) (hz : R ≠ .z) (h : O.hd e R \/ ∃ n s, R = .c n e s) : O.step k (O.ins e R) = O.ins e (O.step k R) := by
 rcases h with h | ⟨n, s, rfl⟩
 · rw [O.ins_big h, O.step_cons k 1 e hz, O.ins_big (O.step_hd k hR h)]
 ·
  have hi : O.ins e (.c n e s) = .c (n + 1) e s := by simp [O.ins, O.cmp_self]
  rw [hi]
  have h1 : 1 <= n := hR.1
  by_cases hs : s = .z
  ·
   subst hs
   by_cases he : e = .z
   ·
    subst he
    simp only [O.step, O.before]
    by_cases hn : n = 1
    · subst hn; rfl
    · rw [if_neg (by omega), if_neg hn]; simp only [O.ins, O.cmp]; rw [show n - 1 + 1 = n + 1 - 1 by omega]
   ·
    rw [O.step_last k _ he, O.step_last k _ he]
    have ht := O.tail_hd k e hR.2.1 he
    simp only [O.before]
    rw [if_neg (by omega)]
    by_cases hn : n = 1
    · subst hn; simp only [if_true, O.app, O.ins_big ht]
    · rw [if_neg hn]; simp only [O.app, O.ins, O.cmp_self]; rw [show n - 1 + 1 = n + 1 - 1 by omega]
  ·
   rw [O.step_cons k _ e hs, O.step_cons k _ e hs]
   simp [O.ins, O.cmp_self]

def H.cutLast (k : Nat) : H -> H × Bool
 | .nul => (.nul, false)
 | .cons .nul .nul => (.nul, true)
 | .cons (.cons b s) .nul => (H.rep (if (H.cutLast k (.cons b s)).2 = true then k else 1) (H.cutLast k (.cons b s)).1 .nul, false)
 | .cons b (.cons b' r) => (.cons b (H.cutLast k (.cons b' r)).1, (H.cutLast k (.cons b' r)).2)

theorem H.le_of_ord {e : O} : ∀ {r : H}, r.sorted -> (O.hd e r.ord \/ ∃ n s, r.ord = .c n e s) -> H.le e r
 | .nul, _, _ => trivial
 | .cons b r, hs, h => by
  obtain ⟨n, s, ho⟩ := H.ord_head hs
  show O.cmp b.ord e ≠ .gt
  rw [ho] at h
  rcases h with h | ⟨m, t, h⟩
  · rw [show O.cmp b.ord e = .lt from h]; simp
  · injection h with _ h _; rw [h, O.cmp_self]; simp
theorem O.step_hd' (k : Nat) {e R : O} (hR : O.NF R) (h : O.hd e R \/ ∃ n s, R = .c n e s) : O.hd e (O.step k R) \/ ∃ n s, O.step k R = .c n e s := by
 rcases h with h | ⟨n, s, rfl⟩
 · exact .inl (O.step_hd k hR h)
 ·
  have hlt := O.step_lt k _ hR (by simp)
  cases hs : O.step k (.c n e s) with
  | z => exact .inl trivial
  | c m g t =>
   rw [hs] at hlt
   simp only [O.cmp, Ordering.then_eq_lt] at hlt
   rcases hlt with (hlt | ⟨hlt, _⟩) | ⟨hlt, _⟩
   · exact .inl hlt
   · rw [O.eq_of_cmp _ _ hlt]; exact .inr ⟨m, t, rfl⟩
   · rw [Ordering.then_eq_eq] at hlt; rw [O.eq_of_cmp _ _ hlt.1]; exact .inr ⟨m, t, rfl⟩

theorem H.cutLast_step (k : Nat) (hk : 1 <= k) : ∀ h : H, h.sorted -> h ≠ .nul -> (H.cutLast k h).1.ord = O.step k h.ord /\ (H.cutLast k h).1.sorted /\ ((H.cutLast k h).2 = true ↔ O.kind h.ord = 1)
 | .nul, _, hz => absurd rfl hz
 | .cons .nul .nul, _, _ => by simp [H.cutLast, H.ord, O.ins, O.step, O.before, H.sorted, O.kind]
 | .cons (.cons b s) .nul, hs, _ => by
  obtain ⟨h1, h2, h3⟩ := H.cutLast_step k hk (.cons b s) hs.1 (by simp)
  have hz : (H.cons b s).ord ≠ .z := by rw [Ne, H.ord_z]; simp
  generalize hc : H.cutLast k (.cons b s) = c at *
  obtain ⟨b', own⟩ := c
  simp only [H.cutLast, hc]
  refine ⟨?_, H.rep_sorted (r := .nul) h2 trivial trivial _, ?_⟩
  ·
   rw [H.rep_ord]
   show _ = O.step k (O.ins (H.cons b s).ord .z)
   rw [show O.ins (H.cons b s).ord .z = .c 1 (H.cons b s).ord .z from rfl, O.step_one k hz]
   simp only at h1 h3
   unfold O.tail
   rcases O.kind_pos _ hz with h4 | h4
   · rw [if_pos (h3.mpr h4), if_neg (by omega), if_neg (by omega), show (H.nul).ord = .z from rfl, O.insk_big (x := .z) trivial k hk, h1, O.kind_step k _ h4]
   · rw [if_neg (by rw [h3]; omega), if_pos h4, h1]; rfl
  ·
   simp only [Bool.false_eq_true, false_iff]
   show O.kind (O.c 1 (H.cons b s).ord .z) ≠ 1
   cases ho : (H.cons b s).ord with
   | z => exact absurd ho hz
   | c n e r => simp [O.kind]
 | .cons b (.cons b' r), hs, _ => by
  obtain ⟨h1, h2, h3⟩ := H.cutLast_step k hk (.cons b' r) hs.2.1 (by simp)
  have hz : (H.cons b' r).ord ≠ .z := by rw [Ne, H.ord_z]; simp
  have hle := H.ord_le hs
  have hst := O.ins_step k (H.ord_NF (.cons b' r)) hz hle
  simp only [H.cutLast]
  refine ⟨?_, ⟨hs.1, h2, H.le_of_ord h2 ?_⟩, ?_⟩
  ·
   show O.ins b.ord _ = O.step k (O.ins b.ord (H.cons b' r).ord)
   rw [hst, h1]
  · rw [h1]; exact O.step_hd' k (H.ord_NF _) hle
  ·
   rw [h3]
   show _ ↔ O.kind (O.ins b.ord (H.cons b' r).ord) = 1
   generalize (H.cons b' r).ord = R at *
   rcases hle with hle | ⟨n, t, rfl⟩
   · rw [O.ins_big hle, O.kind_cons _ _ hz]
   ·
    have hi : O.ins b.ord (.c n b.ord t) = .c (n + 1) b.ord t := by simp [O.ins, O.cmp_self]
    rw [hi]
    by_cases ht : t = .z
    · subst ht; cases b.ord <;> simp [O.kind]
    · rw [O.kind_cons _ _ ht, O.kind_cons _ _ ht]

def H.heads : H -> Nat
 | .nul => 0
 | .cons .nul r => 1 + H.heads r
 | .cons (.cons b s) r => H.heads (.cons b s) + H.heads r
def H.cutAt (k : Nat) : H -> Nat -> H × Bool
 | .nul, _ => (.nul, false)
 | .cons .nul r, 0 => (r, true)
 | .cons .nul r, j + 1 => (.cons .nul (H.cutAt k r j).1, (H.cutAt k r j).2)
 | .cons (.cons b s) r, j =>
  if j < H.heads (.cons b s) then (H.rep (if (H.cutAt k (.cons b s) j).2 = true then k else 1) (H.cutAt k (.cons b s) j).1 r, false)
  else (.cons (.cons b s) (H.cutAt k r (j - H.heads (.cons b s))).1, (H.cutAt k r (j - H.heads (.cons b s))).2)
theorem H.heads_pos : ∀ {h : H}, h ≠ .nul -> 1 <= h.heads
 | .nul, hz => absurd rfl hz
 | .cons .nul r, _ => by simp only [H.heads]; omega
 | .cons (.cons b s) r, _ => by have := H.heads_pos (h := .cons b s) (by simp); simp only [H.heads]; omega
theorem H.cutAt_size : ∀ (h : H) (j : Nat), j < h.heads -> (H.cutAt 1 h j).1.size + 1 = h.size
 | .nul, _, hj => by simp [H.heads] at hj
 | .cons .nul r, 0, _ => by simp only [H.cutAt, H.size]; omega
 | .cons .nul r, j + 1, hj => by
  have := H.cutAt_size r j (by simp only [H.heads] at hj; omega)
  simp only [H.cutAt, H.size]; omega
 | .cons (.cons b s) r, j, hj => by
  rw [H.cutAt]
  split
  ·
   rename_i h1
   have := H.cutAt_size (.cons b s) j h1
   rw [H.rep_size]
   simp only [H.size] at *
   rw [show (if (H.cutAt 1 (H.cons b s) j).2 = true then 1 else 1) = 1 by split <;> rfl]; omega
  ·
   rename_i h1
   have := H.cutAt_size r (j - H.heads (.cons b s)) (by simp only [H.heads] at hj; omega)
   simp only [H.size] at *; omega
theorem H.cutAt_last (k : Nat) : ∀ h : H, h ≠ .nul -> H.cutAt k h (h.heads - 1) = H.cutLast k h
 | .nul, hz => absurd rfl hz
 | .cons .nul .nul, _ => rfl
 | .cons .nul (.cons b r), _ => by
  have ih := H.cutAt_last k (.cons b r) (by simp)
  have hp := H.heads_pos (h := .cons b r) (by simp)
  rw [show (H.cons .nul (.cons b r)).heads - 1 = ((H.cons b r).heads - 1) + 1 by simp only [H.heads]; omega]
  simp only [H.cutAt, H.cutLast, ih]
 | .cons (.cons b s) .nul, _ => by
  have ih := H.cutAt_last k (.cons b s) (by simp)
  have hp := H.heads_pos (h := .cons b s) (by simp)
  have he : (H.cons (.cons b s) .nul).heads - 1 = (H.cons b s).heads - 1 := by simp [H.heads]
  rw [he]
  simp only [H.cutAt, H.cutLast]
  rw [if_pos (by omega), ih]
 | .cons (.cons b s) (.cons b' r), _ => by
  have ih := H.cutAt_last k (.cons b' r) (by simp)
  have hp := H.heads_pos (h := .cons b' r) (by simp)
  have he : (H.cons (.cons b s) (.cons b' r)).heads - 1 = (H.cons b s).heads + ((H.cons b' r).heads - 1) := by simp only [H.heads]; omega
  rw [he]
  simp only [H.cutAt, H.cutLast]
  rw [if_neg (by omega), show (H.cons b s).heads + ((H.cons b' r).heads - 1) - (H.cons b s).heads = (H.cons b' r).heads - 1 by omega, ih]

-- part: coreCut
theorem H.cutAt_own (k : Nat) : ∀ (h : H) (j : Nat), j < h.heads -> (H.cutAt k h j).2 = true -> (H.cutAt k h j).1.size < h.size
 | .nul, _, hj, _ => by simp [H.heads] at hj
 | .cons .nul r, 0, _, _ => by simp only [H.cutAt, H.size]; omega
 | .cons .nul r, j + 1, hj, ho => by
  have := H.cutAt_own k r j (by simp only [H.heads] at hj; omega) ho
  simp only [H.cutAt, H.size]; omega
 | .cons (.cons b s) r, j, hj, ho => by
  rw [H.cutAt] at ho ⊢
  by_cases h1 : j < H.heads (.cons b s)
  · rw [if_pos h1] at ho; cases ho
  ·
   rw [if_neg h1] at ho ⊢
   have := H.cutAt_own k r (j - H.heads (.cons b s)) (by simp only [H.heads] at hj; omega) ho
   simp only [H.size] at *; omega
theorem H.cutAt_bound (k : Nat) (hk : 1 <= k) : ∀ (h : H) (j : Nat), (H.cutAt k h j).1.size <= k * h.size
 | .nul, _ => by simp only [H.cutAt, H.size]; omega
 | .cons .nul r, 0 => by
  simp only [H.cutAt, H.size, Nat.mul_add]
  have := Nat.le_mul_of_pos_left r.size hk; omega
 | .cons .nul r, j + 1 => by
  have := H.cutAt_bound k hk r j
  simp only [H.cutAt, H.size, Nat.mul_add]; omega
 | .cons (.cons b s) r, j => by
  rw [H.cutAt]
  have h0 := H.cutAt_bound k hk (.cons b s) j
  have hr := Nat.le_mul_of_pos_left r.size hk
  have h2 := H.cutAt_bound k hk r (j - H.heads (.cons b s))
  by_cases h1 : j < H.heads (.cons b s)
  ·
   rw [if_pos h1]
   have h3 := H.cutAt_own k (.cons b s) j h1
   generalize H.cutAt k (.cons b s) j = c at *
   obtain ⟨c, o⟩ := c
   rw [show (H.cons (H.cons b s) r).size = (H.cons b s).size + r.size from rfl, Nat.mul_add]
   simp only at h0 h3 ⊢
   rw [H.rep_size]
   cases o with
   | true =>
    have := Nat.mul_le_mul_left k (Nat.le_of_lt (h3 rfl))
    simp only [if_true]; omega
   | false => simp only [Bool.false_eq_true, if_false]; omega
  ·
   rw [if_neg h1, show (H.cons (H.cons b s) r).size = (H.cons b s).size + r.size from rfl, Nat.mul_add]
   have h4 := Nat.le_mul_of_pos_left (H.cons b s).size hk
   simp only [show ∀ g, (H.cons (H.cons b s) g).size = (H.cons b s).size + g.size from fun g => rfl]
   omega

-- part: l5Tree
theorem rd_L1_get {x : List (List Int)} {i : Nat} (h : i < x.length) : rd_L1 x (i : Int) = x[i] := by simp [rd_L1, h]
theorem l5Tree_l0 (x : List (List Int)) (hx : x.length <= 1000000) : ∀ (d i : Nat) (out : List Int), i + d = x.length -> out.length + (x.drop i).flatten.length <= 1000000 -> Ev (fun k => spec_l5Tree.l0 k x out (i : Int)) (out ++ (x.drop i).flatten)
 | 0, i, out, h, _ => by
  refine ev_s ?_
  simp only [spec_l5Tree.l0, if_neg (show ¬ ((i : Int) < (x.length : Int)) by omega)]
  rw [List.drop_eq_nil_of_le (by omega)]
  exact ev_now (by simp)
 | d + 1, i, out, h, hl => by
  have hi : i < x.length := by omega
  rw [List.drop_eq_getElem_cons hi, List.flatten_cons] at hl ⊢
  simp only [List.length_append] at hl
  refine ev_s ?_
  simp only [spec_l5Tree.l0, if_pos (show (i : Int) < (x.length : Int) by omega), if_pos (show 0 <= (i : Int) by omega), rd_L1_get hi, if_pos (show out.length + x[i].length < 17592186044416 by omega), show wrap64 ((i : Int) + 1) = ((i + 1 : Nat) : Int) from wrap_nat2 i 1 (by omega)]
  exact ev_eq (l5Tree_l0 x hx d (i + 1) (out ++ x[i]) (by omega) (by simp only [List.length_append]; omega)) (by simp)
theorem l5Tree_ev (x : List (List Int)) (hx : x.length <= 1000000) (hl : x.flatten.length <= 999999) : Ev (fun k => spec_l5Tree.f k x) ((x.length : Int) :: x.flatten) := by
 have := l5Tree_l0 x hx x.length 0 [(x.length : Int)] (by omega) (by simp only [List.drop_zero, List.length_singleton]; omega)
 exact ev_eq this (by simp)

-- part: hApp
theorem H.row_size : ∀ h : H, h.row.length = h.size
 | .nul => rfl
 | .cons b r => by
  have h1 := H.row_size b
  have h2 := H.row_size r
  rw [H.row_length] at h2 ⊢
  rw [H.body_cons, List.length_append, H.size]; omega
def H.app : H -> H -> H
 | .nul, h => h
 | .cons b r, h => .cons b (H.app r h)
theorem H.app_nul : ∀ g : H, H.app g .nul = g
 | .nul => rfl
 | .cons b r => by rw [H.app, H.app_nul r]
theorem H.app_assoc : ∀ a b c : H, H.app (H.app a b) c = H.app a (H.app b c)
 | .nul, _, _ => rfl
 | .cons x r, b, c => by simp only [H.app, H.app_assoc r b c]
theorem H.app_size : ∀ g h : H, (H.app g h).size + 1 = g.size + h.size
 | .nul, h => by simp only [H.app, H.size]; omega
 | .cons b r, h => by have := H.app_size r h; simp only [H.app, H.size]; omega
theorem H.app_rows : ∀ g h : H, (H.app g h).rows = g.rows ++ h.rows
 | .nul, _ => rfl
 | .cons b r, h => by simp only [H.app, H.rows, H.app_rows r h, List.cons_append]
theorem H.app_terms : ∀ g h : H, (H.app g h).terms = g.terms ++ h.terms
 | .nul, _ => rfl
 | .cons b r, h => by simp only [H.app, H.terms, H.app_terms r h, List.cons_append]
theorem H.rep_app (b r : H) : ∀ k, H.rep k b r = H.app (H.rep k b .nul) r
 | 0 => rfl
 | k + 1 => by simp only [H.rep, H.app, <- H.rep_app b r k]
theorem H.of_app (n : Nat) (e r : O) : H.of (.c n e r) = H.app (H.rep n (H.of e) .nul) (H.of r) := by rw [H.of]; exact H.rep_app _ _ n
theorem H.rep_terms_len (b : H) : ∀ n, (H.rep n b .nul).terms.length = n
 | 0 => rfl
 | n + 1 => by simp only [H.rep, H.terms, List.length_cons, H.rep_terms_len b n]
theorem H.len_size (h : H) : h.len + 1 <= h.size := by have := H.len_le h; have := H.row_size h; have := H.row_length h; omega
theorem O.size_pos : ∀ o : O, 1 <= o.size
 | .z => Nat.le_refl _
 | .c n e r => by have := O.size_pos r; simp only [O.size]; omega
theorem H.rows_flat' (h : H) : ((h.rows.length : Nat) : Int) :: h.rows.flatten = h.row := by rw [H.rows_len, H.rows_flat]; rfl
theorem l5Tree_rows {h : H} (hs : h.size <= 1000) : Ev (fun k => spec_l5Tree.f k h.rows) h.row := by
 have h1 := H.row_size h
 have h2 := H.row_length h
 have h3 := H.len_le h
 have h4 := H.rows_len h
 have h5 := H.rows_flat h
 refine ev_eq (l5Tree_ev h.rows (by omega) (by rw [h5]; omega)) (H.rows_flat' h)
theorem H.snoc_rows (g b : H) : g.rows ++ [b.row] = (H.app g (.cons b .nul)).rows := by rw [H.app_rows]; rfl
theorem H.snoc_size (g b : H) : (H.app g (.cons b .nul)).size = g.size + b.size := by have := H.app_size g (.cons b .nul); simp only [H.size] at this; omega
theorem H.rep_nul_size (b : H) (k : Nat) : (H.rep k b .nul).size = k * b.size + 1 := by rw [H.rep_size]; rfl

-- part: hOf
theorem hydraSize_l0 : ∀ (r : O), r.Sm -> ∀ (pre : List S72) (a : Nat), pre.length + r.body.length <= 100000 -> a <= 1000 ->
  Ev (fun k => impl_hydraSize.l0 k (a : Int) (pre ++ r.terms) (((pre ++ r.terms).length : Nat) : Int) (pre.length : Int)) ((min 1000 (a + (r.size - 1)) : Nat) : Int)
 | .z, _, pre, a, _, ha => by
  refine ev_s ?_
  simp only [impl_hydraSize.l0, O.terms, List.append_nil, Int.lt_irrefl, if_false]
  exact ev_now (by simp only [O.size]; omega)
 | .c n e r, hs, pre, a, hp, ha => by
  obtain ⟨hn, ⟨hse, hle⟩, hsr, hhd⟩ := hs
  rw [O.body_c] at hp
  simp only [List.length_cons, List.length_append] at hp
  have hre := O.row_length e
  have hE : Ev (fun k => impl_hydraSize.f k e.terms) ((min 1000 e.size : Nat) : Int) := by
   refine ev_s ?_
   simp only [impl_hydraSize.f]
   have := hydraSize_l0 e hse [] 1 (by simp only [List.length_nil]; omega) (by omega)
   simp only [List.nil_append] at this
   have h1 := O.size_pos e
   exact ev_eq this (by rw [show 1 + (e.size - 1) = e.size by omega])
  have hlen : (pre ++ (O.c n e r).terms).length = pre.length + (r.terms.length + 1) := by simp [O.terms]
  have hmid : rd_T72 (pre ++ (O.c n e r).terms) (pre.length : Int) = ⟨(n : Int), e.terms⟩ := rd_T72_mid pre r.terms ⟨(n : Int), e.terms⟩
  have happ : pre ++ (O.c n e r).terms = (pre ++ [⟨(n : Int), e.terms⟩]) ++ r.terms := by simp [O.terms]
  have ew : wrap64 ((pre.length : Int) + 1) = (((pre ++ [(⟨(n : Int), e.terms⟩ : S72)]).length : Nat) : Int) := by
   rw [List.length_append, List.length_singleton]; exact wrap_nat2 pre.length 1 (by omega)
  have g1 : (pre.length : Int) < (((pre ++ (O.c n e r).terms).length : Nat) : Int) := by omega
  have hm1 : (n : Int) * ((min 1000 e.size : Nat) : Int) = ((n * min 1000 e.size : Nat) : Int) := by rw [Int.natCast_mul]
  have hm2 : n * min 1000 e.size <= 9999 * 1000 := Nat.mul_le_mul hn.2 (Nat.min_le_left _ _)
  have ih := hydraSize_l0 r hsr (pre ++ [⟨(n : Int), e.terms⟩]) (min 1000 (a + n * min 1000 e.size)) (by simp only [List.length_append, List.length_singleton]; omega) (Nat.min_le_left _ _)
  refine ev_s ?_
  simp only [impl_hydraSize.l0, if_pos g1, if_pos (show (0 : Int) <= (pre.length : Int) from Int.natCast_nonneg _), hmid]
  refine Ev.bind hE ?_
  have hacc : mn 1000 (wrap64 ((a : Int) + wrap64 ((n : Int) * ((min 1000 e.size : Nat) : Int)))) = ((min 1000 (a + n * min 1000 e.size) : Nat) : Int) := by
   rw [hm1, wrap_in (x := ((n * min 1000 e.size : Nat) : Int)) (by omega) (by omega), wrap_in (by omega) (by omega)]
   unfold mn
   split <;> omega
  rw [hacc, ew]
  rw [happ] at *
  refine ev_eq ih ?_
  have h1 := O.size_pos r
  simp only [O.size]
  by_cases h2 : e.size <= 1000
  · rw [Nat.min_eq_right h2]; omega
  ·
   rw [Nat.min_eq_left (show 1000 <= e.size by omega)]
   have h3 : 1000 <= n * 1000 := Nat.le_mul_of_pos_left _ hn.1
   have h4 : 1000 <= n * e.size := Nat.le_trans (show 1000 <= e.size by omega) (Nat.le_mul_of_pos_left _ hn.1)
   omega
theorem hydraSize_ev {o : O} (hs : o.Sm) (hb : o.row.length <= 60) : Ev (fun k => impl_hydraSize.f k o.terms) ((min 1000 o.size : Nat) : Int) := by
 have hr := O.row_length o
 refine ev_s ?_
 simp only [impl_hydraSize.f]
 have := hydraSize_l0 o hs [] 1 (by simp only [List.length_nil]; omega) (by omega)
 simp only [List.nil_append] at this
 have h1 := O.size_pos o
 exact ev_eq this (by rw [show 1 + (o.size - 1) = o.size by omega])
theorem hydraBy_l1 {e : O} (n : Nat) (hn : n <= 9999) (x7 : List S72) (x8 x9 : Int) (m : Int) (hE : Ev (fun k => impl_hydraBy.f k e.terms) (H.of e).terms) {q : List S46} : ∀ (d j : Nat) (out : List S46), j + d = n -> out.length + d <= 100000 ->
  Ev (fun k => impl_hydraBy.l0 k (out ++ (H.rep d (H.of e) .nul).terms) x7 x8 (wrap64 (x9 + 1))) q -> Ev (fun k => impl_hydraBy.l1 k out x7 x8 x9 (n : Int) (j : Int) m e.terms) q
 | 0, j, out, hj, _, h => by
  refine ev_s ?_
  simp only [impl_hydraBy.l1, if_neg (show ¬ ((j : Int) < (n : Int)) by omega)]
  simpa only [H.rep, H.terms, List.append_nil] using h
 | d + 1, j, out, hj, ho, h => by
  refine ev_s ?_
  simp only [impl_hydraBy.l1, if_pos (show (j : Int) < (n : Int) by omega)]
  refine Ev.bind hE ?_
  simp only [if_pos (show out.length < 5864062014805 by omega), show wrap64 ((j : Int) + 1) = ((j + 1 : Nat) : Int) from wrap_nat2 j 1 (by omega)]
  refine hydraBy_l1 n hn x7 x8 x9 m hE d (j + 1) (out ++ [⟨(H.of e).terms⟩]) (by omega) (by simp; omega) ?_
  simpa only [H.rep, H.terms, List.append_assoc, List.singleton_append] using h
theorem hydraBy_l0 : ∀ (r : O), r.Sm -> r.size <= 1000 -> ∀ (pre : List S72) (out : List S46), pre.length + r.body.length <= 100000 -> out.length + r.size <= 10000 ->
  Ev (fun k => impl_hydraBy.l0 k out (pre ++ r.terms) (((pre ++ r.terms).length : Nat) : Int) (pre.length : Int)) (out ++ (H.of r).terms)
 | .z, _, _, pre, out, _, _ => by
  refine ev_s ?_
  simp only [impl_hydraBy.l0, O.terms, H.of, H.terms, List.append_nil, Int.lt_irrefl, if_false]
  exact Ev.now _
 | .c n e r, hs, hz, pre, out, hp, ho => by
  obtain ⟨hn, ⟨hse, hle⟩, hsr, hhd⟩ := hs
  rw [O.body_c] at hp
  simp only [List.length_cons, List.length_append] at hp
  have hre := O.row_length e
  simp only [O.size] at hz ho
  have hne : e.size <= n * e.size := Nat.le_mul_of_pos_left _ hn.1
  have hne2 : n <= n * e.size := Nat.le_mul_of_pos_right _ (O.size_pos e)
  have hE : Ev (fun k => impl_hydraBy.f k e.terms) (H.of e).terms := by
   refine ev_s ?_
   simp only [impl_hydraBy.f]
   have := hydraBy_l0 e hse (by omega) [] [] (by simp only [List.length_nil]; omega) (by simp only [List.length_nil]; omega)
   simp only [List.nil_append] at this
   exact this
  have hlen : (pre ++ (O.c n e r).terms).length = pre.length + (r.terms.length + 1) := by simp [O.terms]
  have hmid : rd_T72 (pre ++ (O.c n e r).terms) (pre.length : Int) = ⟨(n : Int), e.terms⟩ := rd_T72_mid pre r.terms ⟨(n : Int), e.terms⟩
  have happ : pre ++ (O.c n e r).terms = (pre ++ [⟨(n : Int), e.terms⟩]) ++ r.terms := by simp [O.terms]
  have ew : wrap64 ((pre.length : Int) + 1) = (((pre ++ [(⟨(n : Int), e.terms⟩ : S72)]).length : Nat) : Int) := by
   rw [List.length_append, List.length_singleton]; exact wrap_nat2 pre.length 1 (by omega)
  have g1 : (pre.length : Int) < (((pre ++ (O.c n e r).terms).length : Nat) : Int) := by omega
  refine ev_s ?_
  simp only [impl_hydraBy.l0, if_pos g1, if_pos (show (0 : Int) <= (pre.length : Int) from Int.natCast_nonneg _), hmid]
  refine hydraBy_l1 n hn.2 _ _ _ _ hE n 0 out (by omega) (by omega) ?_
  rw [ew, happ]
  have hrl := H.rep_terms_len (H.of e) n
  have ih := hydraBy_l0 r hsr (by omega) (pre ++ [⟨(n : Int), e.terms⟩]) (out ++ (H.rep n (H.of e) .nul).terms) (by simp only [List.length_append, List.length_singleton]; omega) (by simp only [List.length_append, hrl]; omega)
  refine ev_eq ih ?_
  rw [H.of_app, H.app_terms, List.append_assoc]
theorem hydraBy_ev {o : O} (hs : o.Sm) (hb : o.row.length <= 60) (hz : o.size <= 1000) : Ev (fun k => impl_hydraBy.f k o.terms) (H.of o).terms := by
 have hr := O.row_length o
 refine ev_s ?_
 simp only [impl_hydraBy.f]
 have := hydraBy_l0 o hs hz [] [] (by simp only [List.length_nil]; omega) (by simp only [List.length_nil]; omega)
 simp only [List.nil_append] at this
 exact this
theorem impl_HydraOf_good {o : O} (hs : o.Sm) (hb : o.row.length <= 60) : Ev (fun k => impl_HydraOf.f k o.row) (if o.size <= 60 then ((H.of o).row, true) else ([], false)) := by
 simp only [impl_HydraOf.f]
 refine Ev.bind (ordOf_ev hs hb) ?_
 simp only [if_true]
 refine Ev.bind (hydraSize_ev hs hb) ?_
 refine ev_s ?_
 by_cases h60 : o.size <= 60
 ·
  simp only [decide_eq_false (show ¬ (((min 1000 o.size : Nat) : Int) > 60) by omega), impl_HydraOf.j0, Bool.false_eq_true, if_false, if_pos h60]
  refine Ev.bind (hydraBy_ev hs hb (by omega)) ?_
  have hrow : (H.of o).row.length <= 60 := by rw [H.row_size, H.of_size]; exact h60
  refine Ev.bind (grown_ev (by omega)) ?_
  simp only [if_pos hrow]
  exact Ev.now _
 ·
  simp only [decide_eq_true (show (((min 1000 o.size : Nat) : Int) > 60) by omega), impl_HydraOf.j0, if_true, if_neg h60]
  exact Ev.now _
theorem impl_HydraOf_bad {l : List Int} (h : NoOrd l) : Ev (fun k => impl_HydraOf.f k l) ([], false) := by
 obtain ⟨a, ha⟩ := impl_ordOf_bad h
 simp only [impl_HydraOf.f]
 refine Ev.bind ha ?_
 simp only [Bool.false_eq_true, if_false]
 refine ev_s ?_
 simp only [impl_HydraOf.j0, if_true]
 exact Ev.now _

-- part: hOfSpec
def ofRow (e : O) : List Int := if e.size <= 60 then (H.of e).row else []
theorem l5Of_stop : ∀ (r : O) (pn : List Int) (pe : List (List Int)) (br : List (List Int)) (long : Nat), pn.length = pe.length -> pn.length + r.len <= 1000 -> 60 < long -> (∀ e : List Int, e ∈ r.es -> ∃ q : List Int, Ev (fun k => spec_l5Of.f k e) q) ->
  Ev (fun k => spec_l5Of.l0 k (pn ++ r.ns) (pe ++ r.es) br (long : Int) (pn.length : Int)) []
 | .z, pn, pe, br, long, _, _, hl, _ => by
  refine ev_s ?_
  simp only [spec_l5Of.l0, O.ns, O.es, List.append_nil, Int.lt_irrefl, if_false, if_pos (show (long : Int) > 60 by omega)]
  exact Ev.now _
 | .c n e r, pn, pe, br, long, hpe, hp, hl, hq => by
  simp only [O.len] at hp
  obtain ⟨q, hE⟩ := hq e.row (by simp [O.es])
  have ih := l5Of_stop r (pn ++ [(n : Int)]) (pe ++ [e.row]) br long (by simp [hpe]) (by simp; omega) hl (fun e' he' => hq e' (by simp [O.es, he']))
  simp only [List.append_assoc, List.singleton_append, List.length_append, List.length_singleton] at ih
  have hrn : rd (pn ++ (n : Int) :: r.ns) (pn.length : Int) = (n : Int) := by rw [rd_eq]; simp
  have hre : rd_L1 (pe ++ e.row :: r.es) (pn.length : Int) = e.row := by rw [hpe]; exact rd_L1_at pe r.es e.row
  have hl1 : (pn ++ (n : Int) :: r.ns).length = pn.length + (r.ns.length + 1) := by simp
  have hl2 : (pe ++ e.row :: r.es).length = pn.length + (r.es.length + 1) := by simp [hpe]
  simp only [O.ns, O.es]
  generalize pn ++ (n : Int) :: r.ns = A at *
  generalize pe ++ e.row :: r.es = B at *
  refine ev_s ?_
  simp only [spec_l5Of.l0, if_pos (show (pn.length : Int) < (A.length : Int) by omega), if_pos (show (0 : Int) <= (pn.length : Int) by omega), if_pos (show (pn.length : Int) < (B.length : Int) by omega), hre]
  refine Ev.bind hE ?_
  refine ev_s ?_
  simp only [spec_l5Of.l1, if_pos (show (0 : Int) <= (pn.length : Int) by omega), if_pos (show (pn.length : Int) < (A.length : Int) by omega), hrn, show wrap64 ((pn.length : Int) + 1) = ((pn.length + 1 : Nat) : Int) from wrap_nat2 _ 1 (by omega), if_neg (show ¬ ((long : Int) <= 60) by omega)]
  by_cases h0 : (0 : Int) < (n : Int)
  · simp only [if_pos h0]; exact ih
  · simp only [if_neg h0]; exact ih
theorem l5Of_l1 {A : List Int} {B : List (List Int)} {i n : Nat} {b : H} (hA : i < A.length) (hi : i <= 100000) (hn : rd A (i : Int) = (n : Int)) (hn2 : n <= 9999) (hb : b.size <= 60) {q : List Int} (hdead : ∀ (br : List (List Int)) (long : Nat), 60 < long -> Ev (fun k => spec_l5Of.l0 k A B br (long : Int) ((i + 1 : Nat) : Int)) q \/ False) :
  ∀ (d j : Nat) (g : H), j + d = n -> g.size <= 60 -> (60 < (H.app g (H.rep d b .nul)).size \/ Ev (fun k => spec_l5Of.l0 k A B (H.app g (H.rep d b .nul)).rows ((H.app g (H.rep d b .nul)).size : Int) ((i + 1 : Nat) : Int)) q) ->
  Ev (fun k => spec_l5Of.l1 k A B g.rows (g.size : Int) (i : Int) b.row (j : Int)) q := by
 have hw : wrap64 ((i : Int) + 1) = ((i + 1 : Nat) : Int) := wrap_nat2 i 1 (by omega)
 intro d
 induction d with
 | zero =>
  intro j g hj hg h
  rw [H.rep, H.app_nul] at h
  rcases h with h | h
  · omega
  ·
   refine ev_s ?_
   simp only [spec_l5Of.l1, if_pos (show (0 : Int) <= (i : Int) by omega), if_pos (show (i : Int) < (A.length : Int) by omega), hn, if_neg (show ¬ ((j : Int) < (n : Int)) by omega), hw]
   exact h
 | succ d ih =>
  intro j g hj hg h
  have hbs := H.row_size b
  have hb1 := H.size_pos b
  have hgl := H.len_size g
  have hgr := H.rows_len g
  have hlong : wrap64 ((g.size : Int) + mx (b.row.length : Int) (60 * (1 - mn (b.row.length : Int) 1))) = ((g.size + b.size : Nat) : Int) := by
   have h1 : mn (b.row.length : Int) 1 = 1 := by unfold mn; split <;> omega
   have h2 : mx (b.row.length : Int) (60 * (1 - 1)) = (b.size : Int) := by unfold mx; split <;> omega
   rw [h1, h2, wrap_in (by omega) (by omega)]; omega
  have hwj : wrap64 ((j : Int) + 1) = ((j + 1 : Nat) : Int) := wrap_nat2 j 1 (by omega)
  refine ev_s ?_
  simp only [spec_l5Of.l1, if_pos (show (0 : Int) <= (i : Int) by omega), if_pos (show (i : Int) < (A.length : Int) by omega), hn, if_pos (show (j : Int) < (n : Int) by omega), if_pos (show (g.size : Int) <= 60 by omega), if_pos (show g.rows.length < 5864062014805 by omega), hlong, hwj]
  have hassoc : H.app g (H.rep (d + 1) b .nul) = H.app (H.app g (.cons b .nul)) (H.rep d b .nul) := by rw [H.app_assoc]; rfl
  by_cases hs : g.size + b.size <= 60
  ·
   have := ih (j + 1) (H.app g (.cons b .nul)) (by omega) (by rw [H.snoc_size]; exact hs) (by rw [<- hassoc]; exact h)
   rw [<- H.snoc_rows, H.snoc_size] at this
   exact this
  ·
   have hd := (hdead (g.rows ++ [b.row]) (g.size + b.size) (by omega)).resolve_right (fun h => h)
   refine ev_s ?_
   simp only [spec_l5Of.l1, if_pos (show (0 : Int) <= (i : Int) by omega), if_pos (show (i : Int) < (A.length : Int) by omega), hn, hw, if_neg (show ¬ (((g.size + b.size : Nat) : Int) <= 60) by omega)]
   by_cases h3 : ((j + 1 : Nat) : Int) < (n : Int)
   · simp only [if_pos h3]; exact hd
   · simp only [if_neg h3]; exact hd
theorem l5Of_nil (pn : List Int) (pe : List (List Int)) (g : H) (hg : g.size <= 60) :
  Ev (fun k => spec_l5Of.l0 k (pn ++ O.z.ns) (pe ++ O.z.es) g.rows (g.size : Int) (pn.length : Int)) (if (H.app g (H.of .z)).size <= 60 then (H.app g (H.of .z)).row else []) := by
  refine ev_s ?_
  simp only [spec_l5Of.l0, O.ns, O.es, List.append_nil, Int.lt_irrefl, if_false, if_neg (show ¬ ((g.size : Int) > 60) by omega), H.of, H.app_nul, if_pos hg]
  refine Ev.bind (l5Tree_rows (h := g) (by omega)) ?_
  exact Ev.now _
theorem l5Of_f {e : O} (hel : e.row.length <= 1000) (h : Ev (fun k => spec_l5Of.l0 k ([] ++ e.ns) ([] ++ e.es) H.nul.rows (H.nul.size : Int) (([] : List Int).length : Int)) (if (H.app .nul (H.of e)).size <= 60 then (H.app .nul (H.of e)).row else [])) : Ev (fun k => spec_l5Of.f k e.row) (ofRow e) := by
 refine ev_s ?_
 simp only [spec_l5Of.f]
 refine Ev.bind (l1Terms_ev (by omega)) ?_
 rw [ofRow]
 simp only [H.app, H.of_size] at h
 exact h
theorem O.es_all {p : List Int -> Prop} : ∀ (s : O), s.Sm -> (∀ e2 : O, e2.Sm -> e2.body.length + 1 <= s.body.length -> p e2.row) -> ∀ e' : List Int, e' ∈ s.es -> p e'
 | .z, _, _, e', he' => by simp [O.es] at he'
 | .c m f t, hs, hall, e', he' => by
  have hrf := O.row_length f
  have hb := O.body_c m f t
  have hbl : (O.c m f t).body.length = f.row.length + t.body.length + 1 := by rw [hb]; simp
  simp only [O.es, List.mem_cons] at he'
  rcases he' with rfl | he'
  · exact hall f hs.2.1.1 (by omega)
  · exact O.es_all t hs.2.2.1 (fun e2 h1 h2 => hall e2 h1 (by omega)) e' he'
theorem l5Of_go {A : List Int} {B : List (List Int)} {i n : Nat} {b : H} (hA : i < A.length) (hi : i <= 100000) (hn : rd A (i : Int) = (n : Int)) (hn2 : n <= 9999) {G : H} {q : List Int} (h1 : Ev (fun k => spec_l5Of.l0 k A B G.rows (G.size : Int) ((i + 1 : Nat) : Int)) q) :
  ∀ (d j : Nat) (g2 : H), j + d = n -> (H.app g2 (H.rep d b .nul)).size <= 60 -> H.app g2 (H.rep d b .nul) = G -> Ev (fun k => spec_l5Of.l1 k A B g2.rows (g2.size : Int) (i : Int) b.row (j : Int)) q := by
 have hw : wrap64 ((i : Int) + 1) = ((i + 1 : Nat) : Int) := wrap_nat2 i 1 (by omega)
 intro d
 induction d with
 | zero =>
  intro j g2 hj _ heq
  rw [H.rep, H.app_nul] at heq
  refine ev_s ?_
  simp only [spec_l5Of.l1, if_pos (show (0 : Int) <= (i : Int) by omega), if_pos (show (i : Int) < (A.length : Int) by omega), hn, if_neg (show ¬ ((j : Int) < (n : Int)) by omega), hw]
  rw [heq]; exact h1
 | succ d ih =>
  intro j g2 hj hs2 heq
  have hassoc : H.app g2 (H.rep (d + 1) b .nul) = H.app (H.app g2 (.cons b .nul)) (H.rep d b .nul) := by rw [H.app_assoc]; rfl
  have ihh := ih (j + 1) (H.app g2 (.cons b .nul)) (by omega) (by rw [<- hassoc]; exact hs2) (by rw [<- hassoc]; exact heq)
  have hs3 := H.app_size g2 (H.rep (d + 1) b .nul)
  have hs4 := H.rep_nul_size b (d + 1)
  have hs5 : b.size <= (d + 1) * b.size := Nat.le_mul_of_pos_left _ (by omega)
  have hbs := H.row_size b
  have hb1 := H.size_pos b
  have hgl := H.len_size g2
  have hgr := H.rows_len g2
  have hlong : wrap64 ((g2.size : Int) + mx (b.row.length : Int) (60 * (1 - mn (b.row.length : Int) 1))) = ((g2.size + b.size : Nat) : Int) := by
   have h1 : mn (b.row.length : Int) 1 = 1 := by unfold mn; split <;> omega
   have h2 : mx (b.row.length : Int) (60 * (1 - 1)) = (b.size : Int) := by unfold mx; split <;> omega
   rw [h1, h2, wrap_in (by omega) (by omega)]; omega
  refine ev_s ?_
  simp only [spec_l5Of.l1, if_pos (show (0 : Int) <= (i : Int) by omega), if_pos (show (i : Int) < (A.length : Int) by omega), hn, if_pos (show (j : Int) < (n : Int) by omega), if_pos (show (g2.size : Int) <= 60 by omega), if_pos (show g2.rows.length < 5864062014805 by omega), hlong, show wrap64 ((j : Int) + 1) = ((j + 1 : Nat) : Int) from wrap_nat2 j 1 (by omega)]
  rw [<- H.snoc_rows, H.snoc_size] at ihh
  exact ihh
theorem l5Of_over {A : List Int} {B : List (List Int)} {i n : Nat} (hA : i < A.length) (hi : i <= 100000) (hn : rd A (i : Int) = (n : Int)) (hn1 : 1 <= n) {g : H} (hg : g.size <= 60) {q : List Int}
  (hd : Ev (fun k => spec_l5Of.l0 k A B (g.rows ++ [[]]) ((g.size + 60 : Nat) : Int) ((i + 1 : Nat) : Int)) q) : Ev (fun k => spec_l5Of.l1 k A B g.rows (g.size : Int) (i : Int) [] 0) q := by
 have hg1 := H.size_pos g
 have hgl := H.len_size g
 have hgr := H.rows_len g
 have hw : wrap64 ((i : Int) + 1) = ((i + 1 : Nat) : Int) := wrap_nat2 i 1 (by omega)
 have hw1 : wrap64 ((0 : Int) + 1) = 1 := by rw [wrap_in (by omega) (by omega)]; rfl
 have hlong : wrap64 ((g.size : Int) + mx ((([] : List Int).length : Nat) : Int) (60 * (1 - mn ((([] : List Int).length : Nat) : Int) 1))) = ((g.size + 60 : Nat) : Int) := by
  have h1 : mn ((([] : List Int).length : Nat) : Int) 1 = 0 := by unfold mn; simp
  have h2 : mx ((([] : List Int).length : Nat) : Int) (60 * (1 - 0)) = 60 := by unfold mx; simp
  rw [h1, h2, wrap_in (by omega) (by omega)]; omega
 refine ev_s ?_
 simp only [spec_l5Of.l1, if_pos (show (0 : Int) <= (i : Int) by omega), if_pos (show (i : Int) < (A.length : Int) by omega), hn, if_pos (show (0 : Int) < (n : Int) by omega), if_pos (show (g.size : Int) <= 60 by omega), if_pos (show g.rows.length < 5864062014805 by omega), hlong, hw1]
 refine ev_s ?_
 simp only [spec_l5Of.l1, if_pos (show (0 : Int) <= (i : Int) by omega), if_pos (show (i : Int) < (A.length : Int) by omega), hn, hw, if_neg (show ¬ (((g.size + 60 : Nat) : Int) <= 60) by omega)]
 by_cases h4 : (1 : Int) < (n : Int)
 · simp only [if_pos h4]; exact hd
 · simp only [if_neg h4]; exact hd
theorem l5Of_l0 : ∀ (N : Nat) (r : O), r.body.length <= N -> r.Sm -> ∀ (pn : List Int) (pe : List (List Int)) (g : H), pn.length = pe.length -> pn.length + r.body.length <= 1000 -> g.size <= 60 ->
  Ev (fun k => spec_l5Of.l0 k (pn ++ r.ns) (pe ++ r.es) g.rows (g.size : Int) (pn.length : Int)) (if (H.app g (H.of r)).size <= 60 then (H.app g (H.of r)).row else []) := by
 intro N
 induction N with
 | zero =>
  intro r hN _ pn pe g _ _ hg
  cases r with
  | z => exact l5Of_nil pn pe g hg
  | c n e r => rw [O.body_c] at hN; simp at hN
 | succ N IH =>
 intro r hN hs pn pe g hpe hp hg
 cases r with
 | z => exact l5Of_nil pn pe g hg
 | c n e r =>
  obtain ⟨hn, ⟨hse, hle⟩, hsr, hhd⟩ := hs
  rw [O.body_c] at hp hN
  simp only [List.length_cons, List.length_append] at hp hN
  have hre := O.row_length e
  have hrlen := O.len_le r
  have hE : Ev (fun k => spec_l5Of.f k e.row) (ofRow e) := l5Of_f (by omega) (IH e (by omega) hse [] [] .nul rfl (by simp only [List.length_nil]; omega) (by simp [H.size]))
  have hrn : rd (pn ++ (n : Int) :: r.ns) (pn.length : Int) = (n : Int) := by rw [rd_eq]; simp
  have hre2 : rd_L1 (pe ++ e.row :: r.es) (pn.length : Int) = e.row := by rw [hpe]; exact rd_L1_at pe r.es e.row
  have hl1 : (pn ++ (n : Int) :: r.ns).length = pn.length + (r.ns.length + 1) := by simp
  have hl2 : (pe ++ e.row :: r.es).length = pn.length + (r.es.length + 1) := by simp [hpe]
  -- the others, whatever they are
  have hothers : ∀ e' : List Int, e' ∈ r.es -> ∃ q : List Int, Ev (fun k => spec_l5Of.f k e') q := by
   refine O.es_all (p := fun e' => ∃ q : List Int, Ev (fun k => spec_l5Of.f k e') q) r hsr (fun e2 he2 hb2 => ?_)
   have hre3 := O.row_length e2
   exact ⟨_, l5Of_f (by omega) (IH e2 (by omega) he2 [] [] .nul rfl (by simp only [List.length_nil]; omega) (by simp [H.size]))⟩
  have hstop : ∀ (br : List (List Int)) (long : Nat), 60 < long -> Ev (fun k => spec_l5Of.l0 k (pn ++ (n : Int) :: r.ns) (pe ++ e.row :: r.es) br (long : Int) ((pn.length + 1 : Nat) : Int)) [] := by
   intro br long hlong
   have := l5Of_stop r (pn ++ [(n : Int)]) (pe ++ [e.row]) br long (by simp [hpe]) (by simp; omega) hlong hothers
   simp only [List.append_assoc, List.singleton_append, List.length_append, List.length_singleton] at this
   exact this
  have ihr : ∀ g' : H, g'.size <= 60 -> Ev (fun k => spec_l5Of.l0 k (pn ++ (n : Int) :: r.ns) (pe ++ e.row :: r.es) g'.rows (g'.size : Int) ((pn.length + 1 : Nat) : Int)) (if (H.app g' (H.of r)).size <= 60 then (H.app g' (H.of r)).row else []) := by
   intro g' hg'
   have := IH r (by omega) hsr (pn ++ [(n : Int)]) (pe ++ [e.row]) g' (by simp [hpe]) (by simp; omega) hg'
   simp only [List.append_assoc, List.singleton_append, List.length_append, List.length_singleton] at this
   exact this
  have happ : H.app g (H.of (.c n e r)) = H.app (H.app g (H.rep n (H.of e) .nul)) (H.of r) := by rw [H.of_app, H.app_assoc]
  have hsz := H.app_size (H.app g (H.rep n (H.of e) .nul)) (H.of r)
  have hsz2 := H.app_size g (H.rep n (H.of e) .nul)
  have hr1 := H.size_pos (H.of r)
  rw [happ]
  simp only [O.ns, O.es]
  refine ev_s ?_
  simp only [spec_l5Of.l0, if_pos (show (pn.length : Int) < ((pn ++ (n : Int) :: r.ns).length : Int) by omega), if_pos (show (0 : Int) <= (pn.length : Int) by omega), if_pos (show (pn.length : Int) < ((pe ++ e.row :: r.es).length : Int) by omega), hre2]
  refine Ev.bind hE ?_
  by_cases he60 : e.size <= 60
  ·
   rw [ofRow, if_pos he60]
   by_cases hbig : 60 < (H.app g (H.rep n (H.of e) .nul)).size
   ·
    rw [if_neg (by omega)]
    exact l5Of_l1 (by omega) (by omega) hrn hn.2 (by rw [H.of_size]; exact he60) (fun br long hl => .inl (hstop br long hl)) n 0 g (by omega) hg (.inl hbig)
   ·
    have h1 := ihr _ (show (H.app g (H.rep n (H.of e) .nul)).size <= 60 by omega)
    by_cases htot : (H.app (H.app g (H.rep n (H.of e) .nul)) (H.of r)).size <= 60
    ·
     rw [if_pos htot] at h1 ⊢
     exact l5Of_go (by omega) (by omega) hrn hn.2 h1 n 0 g (by omega) (by omega) rfl
    ·
     rw [if_neg htot] at h1 ⊢
     exact l5Of_l1 (by omega) (by omega) hrn hn.2 (by rw [H.of_size]; exact he60) (fun br long hl => .inl (hstop br long hl)) n 0 g (by omega) hg (.inr h1)
  ·
   -- the exponent's own hydra is too long
   have hrs := H.rep_nul_size (H.of e) n
   have hos := H.of_size e
   have h3 : (H.of e).size <= n * (H.of e).size := Nat.le_mul_of_pos_left _ hn.1
   have hg1 := H.size_pos g
   have hgl := H.len_size g
   have hgr := H.rows_len g
   rw [ofRow, if_neg he60, if_neg (by omega)]
   exact l5Of_over (by omega) (by omega) hrn hn.1 hg (hstop (g.rows ++ [[]]) (g.size + 60) (by omega))
theorem l5Of_ev {o : O} (hs : o.Sm) (hr : o.row.length <= 60) : Ev (fun k => spec_l5Of.f k o.row) (ofRow o) := by
 have hre := O.row_length o
 exact l5Of_f (by omega) (l5Of_l0 1000 o (by omega) hs [] [] .nul rfl (by simp only [List.length_nil]; omega) (by simp [H.size]))
theorem spec_HydraOf_good {o : O} (hs : o.Sm) (hb : o.row.length <= 60) : Ev (fun k => spec_HydraOf.f k o.row) (if o.size <= 60 then ((H.of o).row, true) else ([], false)) := by
 simp only [spec_HydraOf.f]
 refine Ev.bind (OrdValid_good hs hb) ?_
 simp only [if_true]
 refine Ev.bind (l5Of_ev hs hb) ?_
 unfold ofRow
 by_cases h60 : o.size <= 60
 ·
  have hl := l5Of_ev hs hb
  unfold ofRow at hl
  simp only [if_pos h60] at hl ⊢
  have h1 := H.row_size (H.of o)
  have h2 := H.size_pos (H.of o)
  simp only [if_neg (show ¬ (((H.of o).row.length : Int) = 0) by omega)]
  exact Ev.bind hl (Ev.now _)
 ·
  simp only [if_neg h60, List.length_nil, if_pos (show ((0 : Nat) : Int) = 0 from rfl)]
  exact Ev.now _
theorem spec_HydraOf_bad {l : List Int} (h : NoOrd l) : Ev (fun k => spec_HydraOf.f k l) ([], false) := by
 simp only [spec_HydraOf.f]
 refine Ev.bind (OrdValid_bad h) ?_
 simp only [Bool.false_eq_true, if_false]
 exact Ev.now _

-- part: hCut
theorem H.zs_heads : ∀ h : H, h.zs = h.heads
 | .nul => rfl
 | .cons .nul r => by rw [H.zs_cons, H.zs_heads r]; simp [H.heads, H.len, H.zs, H.body]
 | .cons (.cons b s) r => by rw [H.zs_cons, H.zs_heads (.cons b s), H.zs_heads r]; simp [H.heads, H.len]
theorem H.rep_terms (b r : H) : ∀ n, (H.rep n b r).terms = List.replicate n (⟨b.terms⟩ : S46) ++ r.terms
 | 0 => by simp [H.rep]
 | n + 1 => by rw [H.rep, H.terms, H.rep_terms b r n, List.replicate_succ]; rfl
theorem cut_l1 {x0 : List S46} {i n : Nat} {c : List S46} {z : Int} (hn : n <= 9) (hi : i + 1 <= x0.length) (hx : x0.length <= 1000) : ∀ (d j : Nat) (out : List S46), j + d = n -> out.length + d <= 1100 ->
  Ev (fun k => impl_hydra_cut.l1 k x0 (i : Int) c out (n : Int) (j : Int) z) (out ++ List.replicate d (⟨c⟩ : S46) ++ x0.drop (i + 1), false, z)
 | 0, j, out, h, ho => by
  have hw : wrap64 ((i : Int) + 1) = ((i + 1 : Nat) : Int) := wrap_nat2 i 1 (by omega)
  refine ev_s ?_
  simp only [impl_hydra_cut.l1, if_neg (show ¬ ((j : Int) < (n : Int)) by omega), hw, if_pos (show (0 : Int) <= ((i + 1 : Nat) : Int) by omega), if_pos (show ((i + 1 : Nat) : Int) <= (x0.length : Int) by omega), Option.bind_some, Int.toNat_natCast, if_pos (show out.length + (x0.drop (i + 1)).length < 5864062014805 by simp only [List.length_drop]; omega)]
  exact ev_now (by simp)
 | d + 1, j, out, h, ho => by
  refine ev_s ?_
  simp only [impl_hydra_cut.l1, if_pos (show (j : Int) < (n : Int) by omega), if_pos (show out.length < 5864062014805 by omega), show wrap64 ((j : Int) + 1) = ((j + 1 : Nat) : Int) from wrap_nat2 j 1 (by omega)]
  refine ev_eq (cut_l1 hn hi hx d (j + 1) (out ++ [⟨c⟩]) (by omega) (by simp only [List.length_append, List.length_singleton]; omega)) ?_
  rw [List.replicate_succ]; simp
theorem cut_l0 (k0 : Nat) (hk1 : 1 <= k0) (hk9 : k0 <= 9) : ∀ (s : H) (pre : List S46) (j : Nat), pre.length + s.size <= 1000 -> j <= 1000000 ->
  Ev (fun k => impl_hydra_cut.l0 k (pre ++ s.terms) (k0 : Int) (pre ++ s.terms) (((pre ++ s.terms).length : Nat) : Int) (pre.length : Int) (j : Int)) (if j < s.heads then (pre ++ (H.cutAt k0 s j).1.terms, (H.cutAt k0 s j).2, -1) else (pre ++ s.terms, false, ((j - s.heads : Nat) : Int)))
 | .nul, pre, j, hp, hj => by
  refine ev_s ?_
  simp only [impl_hydra_cut.l0, H.terms, List.append_nil, Int.lt_irrefl, if_false]
  exact ev_now (by simp [H.heads])
 | .cons .nul r, pre, j, hp, hj => by
  simp only [H.size] at hp
  have hrs := H.len_size r
  have hrt := H.terms_len r
  have hlen : (pre ++ (H.cons .nul r).terms).length = pre.length + (r.terms.length + 1) := by simp [H.terms]
  have hmid : rd_T46 (pre ++ (H.cons .nul r).terms) (pre.length : Int) = ⟨[]⟩ := rd_T46_mid pre r.terms ⟨[]⟩
  have happ : pre ++ (H.cons .nul r).terms = (pre ++ [⟨[]⟩]) ++ r.terms := by simp [H.terms]
  have ew : wrap64 ((pre.length : Int) + 1) = (((pre ++ [(⟨[]⟩ : S46)]).length : Nat) : Int) := by
   rw [List.length_append, List.length_singleton]; exact wrap_nat2 pre.length 1 (by omega)
  have ew2 : wrap64 ((pre.length : Int) + 1) = (pre.length : Int) + 1 := by rw [wrap_in (by omega) (by omega)]
  have g1 : (pre.length : Int) < (((pre ++ (H.cons .nul r).terms).length : Nat) : Int) := by omega
  refine ev_s ?_
  simp only [impl_hydra_cut.l0, if_pos g1, if_pos (show (0 : Int) <= (pre.length : Int) from Int.natCast_nonneg _), hmid, List.length_nil, if_pos (show ((0 : Nat) : Int) = 0 from rfl)]
  cases j with
  | zero =>
   have hdel : impl_hydra_78.f (pre ++ (H.cons .nul r).terms) (pre.length : Int) ((pre.length : Int) + 1) = some (pre ++ r.terms) := by
    unfold impl_hydra_78.f
    rw [if_pos ⟨by omega, by omega, rfl, by omega⟩, Int.toNat_natCast]
    simp [H.terms, List.eraseIdx_append_of_length_le]
   simp only [if_pos (show ((0 : Nat) : Int) = 0 from rfl), ew2, hdel, Option.bind_some]
   exact ev_now (by rw [if_pos (by simp only [H.heads]; omega)]; rfl)
  | succ j =>
   simp only [if_neg (show ¬ (((j + 1 : Nat) : Int) = 0) by omega), ew, show wrap64 (((j + 1 : Nat) : Int) - 1) = (j : Int) by rw [wrap_in (by omega) (by omega)]; omega]
   rw [happ]
   refine ev_eq (cut_l0 k0 hk1 hk9 r (pre ++ [⟨[]⟩]) j (by simp only [List.length_append, List.length_singleton]; omega) (by omega)) ?_
   by_cases h : j < r.heads
   ·
    rw [if_pos h, if_pos (by simp only [H.heads]; omega)]
    simp [H.cutAt, H.terms]
   ·
    rw [if_neg h, if_neg (by simp only [H.heads]; omega)]
    simp only [H.heads, Prod.mk.injEq, true_and]; omega
 | .cons (.cons b t) r, pre, j, hp, hj => by
  simp only [show (H.cons (H.cons b t) r).size = (H.cons b t).size + r.size from rfl] at hp
  have hrs := H.len_size r
  have hrt := H.terms_len r
  have hb1 := H.size_pos (.cons b t)
  have hlen : (pre ++ (H.cons (.cons b t) r).terms).length = pre.length + (r.terms.length + 1) := by simp [H.terms]
  have hmid : rd_T46 (pre ++ (H.cons (.cons b t) r).terms) (pre.length : Int) = ⟨(H.cons b t).terms⟩ := rd_T46_mid pre r.terms ⟨(H.cons b t).terms⟩
  have happ : pre ++ (H.cons (.cons b t) r).terms = (pre ++ [⟨(H.cons b t).terms⟩]) ++ r.terms := by simp [H.terms]
  have ew : wrap64 ((pre.length : Int) + 1) = (((pre ++ [(⟨(H.cons b t).terms⟩ : S46)]).length : Nat) : Int) := by
   rw [List.length_append, List.length_singleton]; exact wrap_nat2 pre.length 1 (by omega)
  have g1 : (pre.length : Int) < (((pre ++ (H.cons (.cons b t) r).terms).length : Nat) : Int) := by omega
  have hE : Ev (fun k => impl_hydra_cut.f k (H.cons b t).terms (j : Int) (k0 : Int) false) (if j < (H.cons b t).heads then ((H.cutAt k0 (.cons b t) j).1.terms, (H.cutAt k0 (.cons b t) j).2, -1) else ((H.cons b t).terms, false, ((j - (H.cons b t).heads : Nat) : Int))) := by
   refine ev_s ?_
   simp only [impl_hydra_cut.f]
   have := cut_l0 k0 hk1 hk9 (.cons b t) [] j (by simp only [List.length_nil]; omega) hj
   simp only [List.nil_append, List.length_nil] at this
   exact this
  have hz : ¬ ((((H.cons b t).terms).length : Int) = 0) := by rw [H.terms_len]; simp only [H.len]; omega
  have ihr := cut_l0 k0 hk1 hk9 r (pre ++ [⟨(H.cons b t).terms⟩]) (j - (H.cons b t).heads) (by simp only [List.length_append, List.length_singleton]; omega) (by omega)
  refine ev_s ?_
  simp only [impl_hydra_cut.l0, if_pos g1, if_pos (show (0 : Int) <= (pre.length : Int) from Int.natCast_nonneg _), hmid, if_neg hz]
  refine Ev.bind hE ?_
  by_cases h : j < (H.cons b t).heads
  ·
   simp only [if_pos h, if_neg (show ¬ ((-1 : Int) >= 0) by decide), if_pos (show (pre.length : Int) <= (((pre ++ (H.cons (.cons b t) r).terms).length : Nat) : Int) by omega), Int.toNat_natCast, List.take_left]
   have hcl : impl_hydra_79.f pre = some pre := impl_hydra_79.ok (by omega)
   have hdrop : (pre ++ (H.cons (.cons b t) r).terms).drop (pre.length + 1) = r.terms := by
    rw [happ]; exact List.drop_left' (by simp)
   have hfin : ∀ n : Nat, n <= 9 -> Ev (fun k => impl_hydra_cut.j1 k (pre ++ (H.cons (.cons b t) r).terms) (n : Int) (pre.length : Int) (H.cutAt k0 (.cons b t) j).1.terms pre (-1)) (pre ++ (H.rep n (H.cutAt k0 (.cons b t) j).1 r).terms, false, -1) := by
    intro n hn
    refine ev_s ?_
    simp only [impl_hydra_cut.j1]
    refine ev_eq (cut_l1 hn (by omega) (by omega) n 0 pre (by omega) (by omega)) ?_
    rw [hdrop, H.rep_terms, List.append_assoc]
   rw [if_pos (show j < (H.cons (H.cons b t) r).heads by simp only [H.heads] at h ⊢; omega)]
   have hcut : H.cutAt k0 (.cons (.cons b t) r) j = (H.rep (if (H.cutAt k0 (.cons b t) j).2 = true then k0 else 1) (H.cutAt k0 (.cons b t) j).1 r, false) := by rw [H.cutAt, if_pos h]
   simp only [hcut, hcl, Option.bind_some]
   by_cases ho : (H.cutAt k0 (.cons b t) j).2 = true
   ·
    simp only [ho, if_true]
    exact hfin k0 hk9
   ·
    simp only [ho, Bool.false_eq_true, if_false]
    exact hfin 1 (by omega)
  ·
   simp only [if_neg h, if_pos (show ((j - (H.cons b t).heads : Nat) : Int) >= 0 by omega), ew]
   rw [happ]
   refine ev_eq ihr ?_
   by_cases h2 : j - (H.cons b t).heads < r.heads
   ·
    rw [if_pos h2, if_pos (show j < (H.cons (H.cons b t) r).heads by simp only [H.heads] at h h2 ⊢; omega)]
    have hcut : H.cutAt k0 (.cons (.cons b t) r) j = (.cons (.cons b t) (H.cutAt k0 r (j - H.heads (.cons b t))).1, (H.cutAt k0 r (j - H.heads (.cons b t))).2) := by rw [H.cutAt, if_neg h]
    rw [hcut]
    simp [H.terms]
   ·
    rw [if_neg h2, if_neg (show ¬ (j < (H.cons (H.cons b t) r).heads) by simp only [H.heads] at h h2 ⊢; omega)]
    simp only [show (H.cons (H.cons b t) r).heads = (H.cons b t).heads + r.heads from rfl, Prod.mk.injEq, true_and]; omega
theorem cut_ev {h : H} {k0 j : Nat} (hk1 : 1 <= k0) (hk9 : k0 <= 9) (hl : h.size <= 60) (hj : j < h.heads) (root : Bool) : Ev (fun k => impl_hydra_cut.f k h.terms (j : Int) (k0 : Int) root) ((H.cutAt k0 h j).1.terms, (H.cutAt k0 h j).2, -1) := by
 have hz := H.zs_le h
 have hb := H.row_length h
 have hr := H.row_size h
 rw [<- H.zs_heads] at hj
 have := cut_l0 k0 hk1 hk9 h [] j (by simp only [List.length_nil]; omega) (by omega)
 simp only [List.nil_append, List.length_nil] at this
 rw [H.zs_heads] at hj
 rw [if_pos hj] at this
 refine ev_s ?_
 simp only [impl_hydra_cut.f]
 exact this
def H.fit (h : H) : List Int × Bool := if h.row.length <= 60 then (h.row, true) else ([], false)
def H.cutFit (h : H) (j k : Int) : List Int × Bool := if 1 <= k /\ k <= 9 /\ 0 <= j /\ j < (h.heads : Int) then (H.cutAt k.toNat h j.toNat).1.fit else ([], false)
theorem impl_HydraCut_good {h : H} (hl : h.row.length <= 60) (j c : Int) : Ev (fun k => impl_HydraCut.f k h.row j c) (h.cutFit j c) := by
 have hz := H.row_size h
 simp only [impl_HydraCut.f]
 refine Ev.bind (impl_hydraOf_good hl) ?_
 simp only [if_true]
 by_cases h1 : c < 1
 · simp only [if_pos h1]; exact ev_now (by rw [H.cutFit, if_neg (by omega)])
 by_cases h2 : c > 9
 · simp only [if_neg h1, if_pos h2]; exact ev_now (by rw [H.cutFit, if_neg (by omega)])
 by_cases h3 : j < 0
 · simp only [if_neg h1, if_neg h2, if_pos h3]; exact ev_now (by rw [H.cutFit, if_neg (by omega)])
 simp only [if_neg h1, if_neg h2, if_neg h3]
 refine Ev.bind (heads_ev h hl) ?_
 rw [H.zs_heads]
 by_cases h4 : j >= (h.heads : Int)
 · simp only [if_pos h4]; exact ev_now (by rw [H.cutFit, if_neg (by omega)])
 simp only [if_neg h4]
 obtain ⟨n, rfl⟩ := Int.eq_ofNat_of_zero_le (show 0 <= j by omega)
 obtain ⟨m, rfl⟩ := Int.eq_ofNat_of_zero_le (show 0 <= c by omega)
 refine Ev.bind (cut_ev (by omega) (by omega) (by omega) (by omega) true) ?_
 have hb := H.cutAt_bound m (by omega) h n
 have hb2 : m * h.size <= 9 * 60 := Nat.mul_le_mul (by omega) (by omega)
 have hs := H.row_size (H.cutAt m h n).1
 have e : h.cutFit (n : Int) (m : Int) = (H.cutAt m h n).1.fit := by rw [H.cutFit, if_pos (show 1 <= (m : Int) /\ (m : Int) <= 9 /\ 0 <= (n : Int) /\ (n : Int) < (h.heads : Int) by omega)]; rfl
 refine ev_eq (grown_ev (by omega)) ?_
 rw [e]
 rfl
def H.cutO (h : H) (j c : Int) : Option H := if 1 <= c /\ c <= 9 /\ 0 <= j /\ j < (h.heads : Int) then (if (H.cutAt c.toNat h j.toNat).1.row.length <= 60 then some (H.cutAt c.toNat h j.toNat).1 else none) else none
def H.out : Option H -> List Int × Bool
 | some g => (g.row, true)
 | none => ([], false)
theorem H.cutFit_out (h : H) (j c : Int) : h.cutFit j c = H.out (h.cutO j c) := by
 unfold H.cutFit H.cutO
 split
 · unfold H.fit; split <;> rfl
 · rfl
theorem H.cutO_row {h g : H} {j c : Int} (e : h.cutO j c = some g) : g.row.length <= 60 := by
 unfold H.cutO at e
 split at e
 ·
  split at e
  · injection e with e; subst e; assumption
  · cases e
 · cases e
theorem impl_cutO {h : H} (hl : h.row.length <= 60) (j c : Int) : Ev (fun k => impl_HydraCut.f k h.row j c) (H.out (h.cutO j c)) := ev_eq (impl_HydraCut_good hl j c) (H.cutFit_out h j c)
def H.runO (c : Int) : H -> List Int -> Option H
 | h, [] => some h
 | h, j :: js => match h.cutO j c with | some g => H.runO c g js | none => none
def H.runFit (h : H) (l : List Int) (c : Int) : List Int × Bool := if l.length <= 400 /\ 1 <= c /\ c <= 9 then H.out (H.runO c h l) else ([], false)

-- part: told
def O.most : O -> Nat
 | .z => 0
 | .c n e r => max (max n (O.most e)) (O.most r)
theorem O.most_of : ∀ {x : O}, x.Sm -> x.most <= 9999
 | .z, _ => by simp [O.most]
 | .c n e r, h => by
  have h1 := O.most_of h.2.1.1
  have h2 := O.most_of h.2.2.1
  have h3 := h.1.2
  simp only [O.most]; omega
theorem sizeOf_l0 : ∀ (r : O) (pre : List S72) (a : Nat), pre.length + r.body.length <= 1000000 -> a + r.body.length <= 1000000 ->
  Ev (fun k => impl_sizeOf.l0 k (a : Int) (pre ++ r.terms) (((pre ++ r.terms).length : Nat) : Int) (pre.length : Int)) ((a + r.body.length : Nat) : Int)
 | .z, pre, a, _, _ => by
  refine ev_s ?_
  simp only [impl_sizeOf.l0, O.terms, List.append_nil, Int.lt_irrefl, if_false]
  exact Ev.now _
 | .c n e r, pre, a, hp, ha => by
  rw [O.body_c] at hp ha
  simp only [List.length_cons, List.length_append] at hp ha
  have hre := O.row_length e
  have hE : Ev (fun k => impl_sizeOf.f k e.terms) (e.row.length : Int) := by
   refine ev_s ?_
   simp only [impl_sizeOf.f]
   have := sizeOf_l0 e [] 1 (by simp only [List.length_nil]; omega) (by omega)
   simp only [List.nil_append] at this
   exact ev_eq this (by omega)
  have hlen : (pre ++ (O.c n e r).terms).length = pre.length + (r.terms.length + 1) := by simp [O.terms]
  have hmid : rd_T72 (pre ++ (O.c n e r).terms) (pre.length : Int) = ⟨(n : Int), e.terms⟩ := rd_T72_mid pre r.terms ⟨(n : Int), e.terms⟩
  have happ : pre ++ (O.c n e r).terms = (pre ++ [⟨(n : Int), e.terms⟩]) ++ r.terms := by simp [O.terms]
  have ew : wrap64 ((pre.length : Int) + 1) = (((pre ++ [(⟨(n : Int), e.terms⟩ : S72)]).length : Nat) : Int) := by
   rw [List.length_append, List.length_singleton]; exact wrap_nat2 pre.length 1 (by omega)
  have g1 : (pre.length : Int) < (((pre ++ (O.c n e r).terms).length : Nat) : Int) := by omega
  have ih := sizeOf_l0 r (pre ++ [⟨(n : Int), e.terms⟩]) (a + (1 + e.row.length)) (by simp only [List.length_append, List.length_singleton]; omega) (by omega)
  refine ev_s ?_
  simp only [impl_sizeOf.l0, if_pos g1, if_pos (show (0 : Int) <= (pre.length : Int) from Int.natCast_nonneg _), hmid]
  refine Ev.bind hE ?_
  have hacc : wrap64 ((a : Int) + wrap64 (1 + (e.row.length : Int))) = ((a + (1 + e.row.length) : Nat) : Int) := by
   rw [wrap_in (x := 1 + (e.row.length : Int)) (by omega) (by omega), wrap_in (by omega) (by omega)]; omega
  rw [hacc, ew]
  rw [happ] at *
  exact ev_eq ih (by rw [O.body_c]; simp only [List.length_cons, List.length_append]; omega)
theorem sizeOf_ev {o : O} (hb : o.row.length <= 100000) : Ev (fun k => impl_sizeOf.f k o.terms) (o.row.length : Int) := by
 have hr := O.row_length o
 refine ev_s ?_
 simp only [impl_sizeOf.f]
 have := sizeOf_l0 o [] 1 (by simp only [List.length_nil]; omega) (by omega)
 simp only [List.nil_append] at this
 exact ev_eq this (by omega)
theorem most_l0 : ∀ (r : O) (pre : List S72) (a : Nat), pre.length + r.body.length <= 1000000 ->
  Ev (fun k => impl_most.l0 k (a : Int) (pre ++ r.terms) (((pre ++ r.terms).length : Nat) : Int) (pre.length : Int)) ((max a r.most : Nat) : Int)
 | .z, pre, a, _ => by
  refine ev_s ?_
  simp only [impl_most.l0, O.terms, List.append_nil, Int.lt_irrefl, if_false, O.most]
  exact ev_now (by omega)
 | .c n e r, pre, a, hp => by
  rw [O.body_c] at hp
  simp only [List.length_cons, List.length_append] at hp
  have hre := O.row_length e
  have hE : Ev (fun k => impl_most.f k e.terms) (e.most : Int) := by
   refine ev_s ?_
   simp only [impl_most.f]
   have := most_l0 e [] 0 (by simp only [List.length_nil]; omega)
   simp only [List.nil_append] at this
   exact ev_eq this (by omega)
  have hlen : (pre ++ (O.c n e r).terms).length = pre.length + (r.terms.length + 1) := by simp [O.terms]
  have hmid : rd_T72 (pre ++ (O.c n e r).terms) (pre.length : Int) = ⟨(n : Int), e.terms⟩ := rd_T72_mid pre r.terms ⟨(n : Int), e.terms⟩
  have happ : pre ++ (O.c n e r).terms = (pre ++ [⟨(n : Int), e.terms⟩]) ++ r.terms := by simp [O.terms]
  have ew : wrap64 ((pre.length : Int) + 1) = (((pre ++ [(⟨(n : Int), e.terms⟩ : S72)]).length : Nat) : Int) := by
   rw [List.length_append, List.length_singleton]; exact wrap_nat2 pre.length 1 (by omega)
  have g1 : (pre.length : Int) < (((pre ++ (O.c n e r).terms).length : Nat) : Int) := by omega
  have ih := most_l0 r (pre ++ [⟨(n : Int), e.terms⟩]) (max (max a n) e.most) (by simp only [List.length_append, List.length_singleton]; omega)
  refine ev_s ?_
  simp only [impl_most.l0, if_pos g1, if_pos (show (0 : Int) <= (pre.length : Int) from Int.natCast_nonneg _), hmid]
  refine Ev.bind hE ?_
  have hacc : mx (mx (a : Int) (n : Int)) (e.most : Int) = ((max (max a n) e.most : Nat) : Int) := by
   unfold mx
   split <;> split <;> omega
  rw [hacc, ew]
  rw [happ] at *
  exact ev_eq ih (by simp only [O.most]; omega)
theorem most_ev {o : O} (hb : o.row.length <= 100000) : Ev (fun k => impl_most.f k o.terms) (o.most : Int) := by
 have hr := O.row_length o
 refine ev_s ?_
 simp only [impl_most.f]
 have := most_l0 o [] 0 (by simp only [List.length_nil]; omega)
 simp only [List.nil_append] at this
 exact ev_eq this (by omega)
def O.fit (x : O) : List Int × Bool := if x.row.length <= 60 /\ x.most <= 9999 then (x.row, true) else ([], false)
theorem O.fit_len (x : O) : x.fit.1.length <= 60 := by unfold O.fit; split <;> simp_all
theorem told_ev {x : O} (hb : x.row.length <= 100000) : Ev (fun k => impl_told.f k x.terms) x.fit := by
 have hr := O.row_length x
 have bad : Ev (fun k => impl_told.j0 k x.terms true) ([], false) := by
  refine ev_s ?_
  simp only [impl_told.j0, if_true]
  exact Ev.now _
 simp only [impl_told.f]
 refine Ev.bind (sizeOf_ev hb) ?_
 unfold O.fit
 by_cases h1 : x.row.length <= 60
 ·
  simp only [if_neg (show ¬ ((x.row.length : Int) > 60) by omega)]
  refine Ev.bind (most_ev hb) ?_
  by_cases h2 : x.most <= 9999
  ·
   rw [if_pos ⟨h1, h2⟩]
   simp only [decide_eq_false (show ¬ ((x.most : Int) > 9999) by omega)]
   refine ev_s ?_
   simp only [impl_told.j0, Bool.false_eq_true, if_false, slices_Clip_int_int.f, Option.bind_some]
   exact Ev.bind (rowOf_ev x.terms_is (by omega)) (Ev.now _)
  ·
   rw [if_neg (fun h => h2 h.2)]
   simp only [decide_eq_true (show (x.most : Int) > 9999 by omega)]
   exact bad
 ·
  rw [if_neg (fun h => h1 h.1)]
  simp only [if_pos (show (x.row.length : Int) > 60 by omega)]
  exact bad

-- part: hOrd
theorem O.row_le_size : ∀ {x : O}, x.NF -> x.row.length + 1 <= 2 * x.size
 | .z, _ => by simp [O.row, O.body, O.size]
 | .c n e r, h => by
  have h1 := O.row_le_size h.2.1
  have h2 := O.row_le_size h.2.2.1
  have h3 : e.size <= n * e.size := Nat.le_mul_of_pos_left _ h.1
  rw [O.row_length] at h2 ⊢
  rw [O.body_c]
  simp only [List.length_cons, List.length_append, O.size]
  omega
theorem O.num_le_size (n : Nat) (e r : O) : n + 1 <= (O.c n e r).size := by
 have h1 := O.size_pos e
 have h2 := O.size_pos r
 have h3 : n <= n * e.size := Nat.le_mul_of_pos_right _ h1
 simp only [O.size]; omega
def H.ordA : H -> O -> O
 | .nul, x => x
 | .cons b r, x => O.ins b.ord (H.ordA r x)
theorem H.ordA_NF : ∀ (h : H) {x : O}, x.NF -> (H.ordA h x).NF
 | .nul, _, hx => hx
 | .cons b r, _, hx => O.ins_NF (H.ord_NF b) (H.ordA_NF r hx)
theorem H.ordA_ins (e : O) : ∀ (h : H) {x : O}, x.NF -> H.ordA h (O.ins e x) = O.ins e (H.ordA h x)
 | .nul, _, _ => rfl
 | .cons b r, x, hx => by rw [H.ordA, H.ordA_ins e r hx, O.ins_comm _ _ _ (H.ordA_NF r hx)]; rfl
theorem H.ordA_z : ∀ h : H, H.ordA h .z = h.ord
 | .nul => rfl
 | .cons b r => by rw [H.ordA, H.ordA_z r]; rfl
theorem natural_l0 (e : O) (he : e.body.length <= 100000) : ∀ (x : O) (out : List S72), x.NF -> x.size <= 10000 -> x.body.length <= 100000 -> out.length + x.size <= 100000 ->
  Ev (fun k => impl_natural.l0 k x.terms [⟨1, e.terms⟩] out) (out ++ (O.ins e x).terms) := by
 have none_ : ∀ (x : List S72) (out : List S72), out.length + x.length <= 1000000 -> Ev (fun k => impl_natural.l0 k x [] out) (out ++ x) := by
  intro x out h
  refine ev_s ?_
  have hj : Ev (fun k => impl_natural.j1 k x [] out false) (out ++ x) := by
   refine ev_s ?_
   simp only [impl_natural.j1, Bool.false_eq_true, if_false, if_pos (show out.length + x.length < 4398046511104 by omega), Option.bind_some, List.length_append, List.length_nil, if_pos (show out.length + x.length + 0 < 4398046511104 by omega), List.append_nil]
   exact Ev.now _
  by_cases hx : (x.length : Int) > 0
  · simp only [impl_natural.l0, if_pos hx, List.length_nil, decide_eq_false (show ¬ (((0 : Nat) : Int) > 0) by omega)]; exact hj
  · simp only [impl_natural.l0, if_neg hx]; exact hj
 intro x
 induction x with
 | z =>
  intro out _ _ _ ho
  refine ev_s ?_
  simp only [impl_natural.l0, O.terms, List.length_nil, if_neg (show ¬ (((0 : Nat) : Int) > 0) by omega)]
  refine ev_s ?_
  simp only [impl_natural.j1, Bool.false_eq_true, if_false, List.length_nil, Nat.add_zero, if_pos (show out.length < 4398046511104 by omega), List.append_nil, Option.bind_some, List.length_singleton, if_pos (show out.length + 1 < 4398046511104 by omega), O.ins, O.terms]
  exact Ev.now _
 | c n f r _ ihr =>
  intro out hx hz hb ho
  have hnl := O.num_le_size n f r
  have hrow := O.row_length f
  rw [O.body_c] at hb
  simp only [List.length_cons, List.length_append] at hb
  have hsz : (O.c n f r).size = n * f.size + r.size := rfl
  have hnf : n <= n * f.size := Nat.le_mul_of_pos_right _ (O.size_pos f)
  have hr1 := O.size_pos r
  have hrl : r.terms.length <= r.body.length := by rw [O.terms_len]; exact O.len_le r
  have g1 : ((O.c n f r).terms.length : Int) > 0 := by simp [O.terms]
  have e0 : rd_T72 (O.c n f r).terms 0 = ⟨(n : Int), f.terms⟩ := by simp [O.terms, rd_T72]
  have e1 : rd_T72 [(⟨1, e.terms⟩ : S72)] 0 = ⟨1, e.terms⟩ := by simp [rd_T72]
  have ed : (O.c n f r).terms.drop 1 = r.terms := rfl
  have ed1 : [(⟨1, e.terms⟩ : S72)].drop 1 = [] := rfl
  refine ev_s ?_
  simp only [impl_natural.l0, if_pos g1, List.length_singleton, decide_eq_true (show ((1 : Nat) : Int) > 0 by omega)]
  refine ev_s ?_
  simp only [impl_natural.j1, if_true, if_pos (show (0 : Int) < ((O.c n f r).terms.length : Int) from g1), List.length_singleton, if_pos (show (0 : Int) < ((1 : Nat) : Int) by omega), e0, e1]
  refine Ev.bind (compare_ev f e (by omega) he) ?_
  have hord : O.ins e (.c n f r) = match O.cmp f e with | .gt => .c n f (O.ins e r) | .eq => .c (n + 1) f r | .lt => .c 1 e (.c n f r) := rfl
  rw [hord]
  cases hc : O.cmp f e with
  | gt =>
   simp only [ordI, if_pos (show (1 : Int) > 0 by decide), if_pos (show out.length < 4398046511104 by omega), if_pos (show (1 : Int) <= ((O.c n f r).terms.length : Int) by omega), ed]
   refine ev_eq (ihr (out ++ [⟨(n : Int), f.terms⟩]) hx.2.2.1 (by omega) (by omega) (by simp only [List.length_append, List.length_singleton]; have := hx.1; omega)) ?_
   simp [O.terms]
  | lt =>
   simp only [ordI, if_neg (show ¬ ((-1 : Int) > 0) by decide), if_pos (show (-1 : Int) < 0 by decide), if_pos (show out.length < 4398046511104 by omega), if_pos (show (1 : Int) <= ((1 : Nat) : Int) by omega), ed1]
   refine ev_eq (none_ (O.c n f r).terms (out ++ [⟨1, e.terms⟩]) (by simp [O.terms]; omega)) ?_
   simp [O.terms]
  | eq =>
   simp only [ordI, if_neg (show ¬ ((0 : Int) > 0) by decide), if_neg (show ¬ ((0 : Int) < 0) by decide), if_pos (show out.length < 4398046511104 by omega), if_pos (show (1 : Int) <= ((O.c n f r).terms.length : Int) by omega), if_pos (show (1 : Int) <= ((1 : Nat) : Int) by omega), ed, ed1, show wrap64 ((n : Int) + 1) = ((n + 1 : Nat) : Int) from wrap_nat2 n 1 (by omega)]
   refine ev_eq (none_ r.terms (out ++ [⟨((n + 1 : Nat) : Int), f.terms⟩]) (by simp; omega)) ?_
   simp [O.terms]
theorem natural_ev {e x : O} (he : e.body.length <= 100000) (hx : x.NF) (hz : x.size <= 10000) : Ev (fun k => impl_natural.f k x.terms [⟨1, e.terms⟩]) (O.ins e x).terms := by
 have h1 := O.row_le_size hx
 have h2 := O.row_length x
 simp only [impl_natural.f]
 have := natural_l0 e he x [] hx hz (by omega) (by simp only [List.length_nil]; omega)
 rw [List.nil_append] at this
 exact this
theorem hydraOrd_l0 : ∀ (s : H) (pre : List S46) (x : O), x.NF -> x.size + s.size <= 5000 -> pre.length + s.size <= 100000 ->
  Ev (fun k => impl_hydra_ord.l0 k x.terms (pre ++ s.terms) (((pre ++ s.terms).length : Nat) : Int) (pre.length : Int)) (H.ordA s x).terms
 | .nul, pre, x, _, _, _ => by
  refine ev_s ?_
  simp only [impl_hydra_ord.l0, H.terms, List.append_nil, Int.lt_irrefl, if_false, H.ordA]
  exact Ev.now _
 | .cons b r, pre, x, hx, hz, hp => by
  simp only [H.size] at hz hp
  have hb1 := H.size_pos b
  have hE : Ev (fun k => impl_hydra_ord.f k b.terms) b.ord.terms := by
   refine ev_s ?_
   simp only [impl_hydra_ord.f]
   have := hydraOrd_l0 b [] .z trivial (by simp only [O.size]; have := H.size_pos r; omega) (by simp only [List.length_nil]; omega)
   rw [List.nil_append, H.ordA_z] at this
   exact this
  have hlen : (pre ++ (H.cons b r).terms).length = pre.length + (r.terms.length + 1) := by simp [H.terms]
  have hmid : rd_T46 (pre ++ (H.cons b r).terms) (pre.length : Int) = ⟨b.terms⟩ := rd_T46_mid pre r.terms ⟨b.terms⟩
  have happ : pre ++ (H.cons b r).terms = (pre ++ [⟨b.terms⟩]) ++ r.terms := by simp [H.terms]
  have ew : wrap64 ((pre.length : Int) + 1) = (((pre ++ [(⟨b.terms⟩ : S46)]).length : Nat) : Int) := by
   rw [List.length_append, List.length_singleton]; exact wrap_nat2 pre.length 1 (by omega)
  have g1 : (pre.length : Int) < (((pre ++ (H.cons b r).terms).length : Nat) : Int) := by omega
  have hrow := O.row_le_size (H.ord_NF b)
  have hrl := O.row_length b.ord
  have hos := H.ord_size b
  refine ev_s ?_
  simp only [impl_hydra_ord.l0, if_pos g1, if_pos (show (0 : Int) <= (pre.length : Int) from Int.natCast_nonneg _), hmid]
  refine Ev.bind hE ?_
  simp only [impl_power.f, Option.bind_some]
  refine Ev.bind (natural_ev (by omega) hx (by omega)) ?_
  rw [ew, happ]
  refine ev_eq (hydraOrd_l0 r (pre ++ [⟨b.terms⟩]) (O.ins b.ord x) (O.ins_NF (H.ord_NF b) hx) (by rw [O.ins_size]; omega) (by simp only [List.length_append, List.length_singleton]; omega)) ?_
  rw [H.ordA_ins _ _ hx]; rfl
theorem hydraOrd_ev {h : H} (hs : h.size <= 1000) : Ev (fun k => impl_hydra_ord.f k h.terms) h.ord.terms := by
 refine ev_s ?_
 simp only [impl_hydra_ord.f]
 have := hydraOrd_l0 h [] .z trivial (by simp only [O.size]; omega) (by simp only [List.length_nil]; omega)
 rw [List.nil_append, H.ordA_z] at this
 exact this
theorem impl_HydraOrd_good {h : H} (hl : h.row.length <= 60) : Ev (fun k => impl_HydraOrd.f k h.row) h.ord.fit := by
 have hz := H.row_size h
 have hrow := O.row_le_size (H.ord_NF h)
 have hos := H.ord_size h
 simp only [impl_HydraOrd.f]
 refine Ev.bind (impl_hydraOf_good hl) ?_
 simp only [if_true]
 refine Ev.bind (hydraOrd_ev (by omega)) ?_
 exact Ev.bind (told_ev (by omega)) (Ev.now _)
theorem impl_HydraOrd_bad {l : List Int} (h : NoHydra l) : Ev (fun k => impl_HydraOrd.f k l) ([], false) := by
 obtain ⟨a, ha⟩ := impl_hydraOf_bad h
 simp only [impl_HydraOrd.f]
 refine Ev.bind ha ?_
 simp only [Bool.false_eq_true, if_false]
 exact Ev.now _

-- part: draw
def Bytes (b : List Int) : Prop := b.length <= 2000 /\ ∀ x ∈ b, 0 <= x /\ x <= 255
theorem u8_of_wf {x : Int} (h : (Lit.int .u8 x).wf = true) : 0 <= x /\ x <= 255 := by
 simp [Lit.wf, IntKind.min, IntKind.max, IntKind.bits, IntKind.signed] at h
 omega
theorem open_ev (l : List Int) (h : ∀ x ∈ l, (Lit.int .u8 x).wf = true) : ∃ b, Bytes b /\ spec_l20Open.f l = some (b, ((0 : Nat) : Int)) := by
 have h' : ∀ x ∈ l, 0 <= x /\ x <= 255 := fun x hx => u8_of_wf (h x hx)
 unfold spec_l20Open.f
 by_cases hl : (l.length : Int) > 2000
 ·
  rw [if_pos hl, if_pos (by omega)]
  exact ⟨l.take 2000, ⟨by simp; omega, fun x hx => h' x (List.mem_of_mem_take hx)⟩, rfl⟩
 ·
  rw [if_neg hl]
  exact ⟨l, ⟨by omega, h'⟩, rfl⟩
theorem rd_byte {b : List Int} (hb : Bytes b) {i : Int} (h0 : 0 <= i) (h1 : i < (b.length : Int)) : 0 <= rd b i /\ rd b i <= 255 := by
 obtain ⟨n, rfl⟩ := Int.eq_ofNat_of_zero_le h0
 rw [rd_get (show n < b.length by omega)]
 exact hb.2 _ (List.getElem_mem _)
theorem wraps_i64 (n : Int) (h0 : 0 <= n) (h1 : n < 2 ^ 62) : IntKind.i64.wrap n = n := by rw [IntKind.wrap_i64]; omega
theorem xor_pos (a b : Nat) (ha : a < 2 ^ 62) (hb : b < 2 ^ 62) : Go.bits .xor .i64 (a : Int) (b : Int) = ((a ^^^ b : Nat) : Int) := by
 have ha' : a % 2 ^ IntKind.i64.bits = a := Nat.mod_eq_of_lt (Nat.lt_of_lt_of_le ha (by decide))
 have hb' : b % 2 ^ IntKind.i64.bits = b := Nat.mod_eq_of_lt (Nat.lt_of_lt_of_le hb (by decide))
 simp only [bits, BitVec.ofInt_natCast, BitVec.toNat_xor, BitVec.toNat_ofNat, ha', hb']
 exact wraps_i64 _ (Int.natCast_nonneg _) (by exact_mod_cast Nat.xor_lt_two_pow ha hb)
theorem pick_sum (r1 r2 p t : Int) (h1 : 0 <= r1 /\ r1 <= 255) (h2 : 0 <= r2 /\ r2 <= 255) (hp : 0 <= p /\ p <= 1000000000000) (ht : 0 <= t /\ t <= 1000000000000) :
  wrap64 ((wrap64 ((wrap64 ((wrap64 ((wrap64 r1) * 131)) + (wrap64 ((wrap64 r2) * 1117)))) + (wrap64 (p * 29)))) + (wrap64 ((wrap64 t) * 53))) = r1 * 131 + r2 * 1117 + p * 29 + t * 53 := by
 rw [wrap_in (x := r1) (by omega) (by omega), wrap_in (x := r2) (by omega) (by omega), wrap_in (x := t) (by omega) (by omega), wrap_in (x := r1 * 131) (by omega) (by omega), wrap_in (x := r2 * 1117) (by omega) (by omega), wrap_in (x := p * 29) (by omega) (by omega), wrap_in (x := t * 53) (by omega) (by omega), wrap_in (x := r1 * 131 + r2 * 1117) (by omega) (by omega), wrap_in (x := r1 * 131 + r2 * 1117 + p * 29) (by omega) (by omega), wrap_in (by omega) (by omega)]
theorem pick_mod (x n : Int) (hx : 0 <= x) (hn : 0 < n) : 0 <= Int.tmod x n /\ Int.tmod x n < n := by
 rw [Int.tmod_eq_emod_of_nonneg hx]
 exact ⟨Int.emod_nonneg _ (by omega), Int.emod_lt_of_pos _ hn⟩
theorem pick_ev (b : List Int) (hb : Bytes b) (p : Nat) (hp : p <= 100000000000) (n : Int) : ∃ v : Int, 0 <= v /\ (v < n \/ v = 0) /\ Ev (fun k => spec_l20Rd_pick.f k b (p : Int) n) (v, ((p + 1 : Nat) : Int)) := by
 have e1 : wrap64 ((p : Int) + 1) = ((p + 1 : Nat) : Int) := by rw [wrap_in (by omega) (by omega)]; rfl
 have e2 : wrap64 (((p + 1 : Nat) : Int) - 1) = (p : Int) := by rw [wrap_in (by omega) (by omega)]; omega
 by_cases hn : n < 1
 ·
  refine ⟨0, Int.le_refl _, .inr rfl, ?_⟩
  simp only [spec_l20Rd_pick.f, if_pos hn, e1]
  refine ev_s ?_
  simp only [spec_l20Rd_pick.j0, if_true]
  exact Ev.now _
 ·
  by_cases hl : b.length = 0
  ·
   refine ⟨0, Int.le_refl _, .inr rfl, ?_⟩
   simp only [spec_l20Rd_pick.f, if_neg hn, e1, hl]
   refine ev_s ?_
   simp only [spec_l20Rd_pick.j0]
   exact Ev.now _
  ·
   by_cases hlt : (p : Int) < (b.length : Int)
   ·
    have hby := rd_byte hb (show (0 : Int) <= (p : Int) by omega) hlt
    have hm := pick_mod (rd b p) n hby.1 (by omega)
    refine ⟨Int.tmod (rd b p) n, hm.1, .inl hm.2, ?_⟩
    simp only [spec_l20Rd_pick.f, if_neg hn, e1, show ((b.length : Int) == 0) = false by simp; exact fun h => hl (by rw [h]; rfl)]
    refine ev_s ?_
    simp only [spec_l20Rd_pick.j0, Bool.false_eq_true, if_false, e2, if_pos hlt, if_pos (show (0 : Int) <= (p : Int) by omega), if_neg (show ¬ n = 0 by omega), wrap_in (x := rd b p) (by omega) (by omega)]
    exact Ev.now _
   ·
    have hl0 : ¬ ((b.length : Int) = 0) := by omega
    have m1 := pick_mod (p : Int) (b.length : Int) (by omega) (by omega)
    have m2 := pick_mod ((p : Int) * 7 + 3) (b.length : Int) (by omega) (by omega)
    have b1 := rd_byte hb m1.1 m1.2
    have b2 := rd_byte hb m2.1 m2.2
    have d1 : 0 <= Int.tdiv (p : Int) (b.length : Int) := Int.tdiv_nonneg (by omega) (by omega)
    have d2 : Int.tdiv (p : Int) (b.length : Int) <= (p : Int) := Int.tdiv_le_self _ (by omega)
    have hs := pick_sum _ _ (p : Int) (Int.tdiv (p : Int) (b.length : Int)) b1 b2 (by omega) (by omega)
    obtain ⟨X, hX⟩ : ∃ X : Int, X = rd b (Int.tmod (p : Int) (b.length : Int)) * 131 + rd b (Int.tmod ((p : Int) * 7 + 3) (b.length : Int)) * 1117 + (p : Int) * 29 + Int.tdiv (p : Int) (b.length : Int) * 53 := ⟨_, rfl⟩
    rw [<- hX] at hs
    have x0 : 0 <= X /\ X < 20000000000000 := by omega
    have t0 : 0 <= Int.tdiv X 64 := Int.tdiv_nonneg (by omega) (by omega)
    have t1 : Int.tdiv X 64 <= X := Int.tdiv_le_self _ (by omega)
    have hbit : 0 <= Go.bits .xor .i64 X (Int.tdiv X 64) := by
     obtain ⟨u, hu⟩ := Int.eq_ofNat_of_zero_le x0.1
     obtain ⟨v, hv⟩ := Int.eq_ofNat_of_zero_le t0
     rw [hv, hu]
     rw [xor_pos u v (by omega) (by omega)]
     omega
    have hm := pick_mod _ n hbit (by omega)
    refine ⟨_, hm.1, .inl hm.2, ?_⟩
    simp only [spec_l20Rd_pick.f, if_neg hn, e1, show ((b.length : Int) == 0) = false by simp; exact fun h => hl (by rw [h]; rfl)]
    refine ev_s ?_
    simp only [spec_l20Rd_pick.j0, Bool.false_eq_true, if_false, e2, if_neg hlt, if_neg hl0, wrap_in (x := (p : Int) * 7) (by omega) (by omega), wrap_in (x := (p : Int) * 7 + 3) (by omega) (by omega), if_pos m1.1, if_pos m1.2, if_pos m2.1, if_pos m2.2, if_neg (show ¬ n = 0 by omega), hs, wrap_in (x := Int.tdiv X 64) (by omega) (by omega)]
    exact Ev.now _
theorem odd_ev (b : List Int) (hb : Bytes b) (p : Nat) (hp : p <= 100000000000) (n : Int) (hn : n <= 1000000) : ∃ (v : Bool) (q : Nat), q <= p + 1 /\ Ev (fun k => spec_l20Rd_odd.f k b (p : Int) n) (v, (q : Int)) := by
 by_cases h : n > 0
 ·
  obtain ⟨v, h0, h1, he⟩ := pick_ev b hb p hp n
  refine ⟨(v == wrap64 (n - 1)), p + 1, Nat.le_refl _, ?_⟩
  simp only [spec_l20Rd_odd.f, if_pos h]
  refine Ev.bind he ?_
  exact Ev.now _
 ·
  refine ⟨false, p, by omega, ?_⟩
  simp only [spec_l20Rd_odd.f, if_neg h]
  exact Ev.now _

-- part: gTdiv
theorem tdiv_nat (n b : Nat) : Int.tdiv (n : Int) (b : Int) = ((n / b : Nat) : Int) := by
 rw [Int.tdiv_eq_ediv_of_nonneg (by omega)]; rfl

-- part: gDraw
def mkO : List (Nat × O) -> O
 | [] => .z
 | p :: r => .c p.1 p.2 (mkO r)
theorem mkO_len : ∀ P : List (Nat × O), (mkO P).len = P.length
 | [] => rfl
 | p :: r => by simp only [mkO, O.len, List.length_cons, mkO_len r]
theorem mkO_zip : ∀ P : List (Nat × O), zipB (P.map (fun p => (p.1 : Int))) (P.map (fun p => p.2.row)) = (mkO P).body
 | [] => rfl
 | p :: r => by simp only [List.map_cons, zipB, mkO, O.body_c, mkO_zip r, List.cons_append]
theorem mkO_row (P : List (Nat × O)) : ((P.length : Nat) : Int) :: zipB (P.map (fun p => (p.1 : Int))) (P.map (fun p => p.2.row)) = (mkO P).row := by
 rw [mkO_zip, O.row, mkO_len]
theorem mkO_body (R : Nat) : ∀ P : List (Nat × O), (∀ p ∈ P, p.2.row.length <= R) -> (mkO P).body.length <= P.length * (1 + R)
 | [], _ => by simp [mkO, O.body]
 | p :: r, h => by
  have h1 := h p List.mem_cons_self
  have h2 := mkO_body R r (fun q hq => h q (List.mem_cons_of_mem _ hq))
  rw [mkO, O.body_c, List.length_cons, List.length_cons, List.length_append, Nat.add_mul]
  omega
def rawL : Nat -> Nat
 | 0 => 3
 | d + 1 => 1 + 3 * (1 + rawL d)
def rawP : Nat -> Nat
 | 0 => 1
 | d + 1 => 1 + 3 * (4 + rawP d)
theorem rawL_mono {a b : Nat} (h : a <= b) : rawL a <= rawL b := by
 induction b with
 | zero =>
  have : a = 0 := by omega
  subst this; exact Nat.le_refl _
 | succ b ih =>
  by_cases e : a = b + 1
  · subst e; exact Nat.le_refl _
  · have := ih (by omega); simp only [rawL]; omega
theorem rawP_mono {a b : Nat} (h : a <= b) : rawP a <= rawP b := by
 induction b with
 | zero =>
  have : a = 0 := by omega
  subst this; exact Nat.le_refl _
 | succ b ih =>
  by_cases e : a = b + 1
  · subst e; exact Nat.le_refl _
  · have := ih (by omega); simp only [rawP]; omega
theorem rawL_le {d : Nat} (h : d <= 3) : rawL d <= 133 := Nat.le_trans (rawL_mono h) (by decide)
theorem rawP_le {d : Nat} (h : d <= 3) : rawP d <= 300 := Nat.le_trans (rawP_mono h) (by decide)
section
variable {b : List Int} {X1 : Int} {X7 : Int} {P : List (Nat × O)} {e : O}
theorem raw_l1 (hP : ∀ p ∈ P, p.2.row.length <= 1000) (he : e.row.length <= 1000) (hl : P.length <= 1000) (p : Int) (x5 : List Int) : ∀ d j : Nat, j + d = P.length -> ∃ i : Nat, i <= P.length /\ ∀ res, Ev (fun k => spec_l20Raw.j3 k X1 x5 (P.map (fun p => p.2.row)) X7 e.row (i : Int) b p) res -> Ev (fun k => spec_l20Raw.l1 k X1 x5 (P.map (fun p => p.2.row)) X7 e.row (j : Int) b p) res
 | 0, j, hj => ⟨j, by omega, fun res h => by
  refine ev_s ?_
  simp only [spec_l20Raw.l1, if_neg (show ¬ ((j : Int) < ((P.map (fun p => p.2.row)).length : Int)) by rw [List.length_map]; omega)]
  exact h⟩
 | d + 1, j, hj => by
  have hlt : j < P.length := by omega
  have hlt2 : j < (P.map (fun p => p.2.row)).length := by rw [List.length_map]; exact hlt
  have hrd : rd_L1 (P.map (fun p => p.2.row)) (j : Int) = P[j].2.row := by rw [rdL1_get hlt2, List.getElem_map]
  have hc := l1Compare_ev P[j].2 e (Nat.le_trans (hP _ (List.getElem_mem hlt)) (by omega)) (by omega)
  by_cases hg : ordI (O.cmp P[j].2 e) > 0
  ·
   obtain ⟨i, h1, h2⟩ := raw_l1 hP he hl p x5 d (j + 1) (by omega)
   refine ⟨i, h1, fun res h => ?_⟩
   refine ev_s ?_
   simp only [spec_l20Raw.l1, if_pos (show (j : Int) < ((P.map (fun p => p.2.row)).length : Int) by rw [List.length_map]; omega), if_pos (show (0 : Int) <= (j : Int) by omega), hrd]
   refine Ev.bind hc ?_
   simp only [if_pos hg, show wrap64 ((j : Int) + 1) = ((j + 1 : Nat) : Int) from wrap_nat2 j 1 (by omega)]
   exact h2 res h
  ·
   refine ⟨j, by omega, fun res h => ?_⟩
   refine ev_s ?_
   simp only [spec_l20Raw.l1, if_pos (show (j : Int) < ((P.map (fun p => p.2.row)).length : Int) by rw [List.length_map]; omega), if_pos (show (0 : Int) <= (j : Int) by omega), hrd]
   refine Ev.bind hc ?_
   simp only [if_neg hg]
   exact h
theorem raw_j3 (hP : ∀ p ∈ P, p.2.row.length <= 1000) (he : e.row.length <= 1000) (p : Int) (x5 : List Int) (i : Nat) (hi : i <= P.length) : ∃ f : Bool, (f = true -> i < P.length) /\ ∀ res, Ev (fun k => spec_l20Raw.j4 k X1 x5 (P.map (fun p => p.2.row)) X7 e.row (i : Int) f b p) res -> Ev (fun k => spec_l20Raw.j3 k X1 x5 (P.map (fun p => p.2.row)) X7 e.row (i : Int) b p) res := by
 by_cases hlt : i < P.length
 ·
  have hlt2 : i < (P.map (fun p => p.2.row)).length := by rw [List.length_map]; exact hlt
  have hrd : rd_L1 (P.map (fun p => p.2.row)) (i : Int) = P[i].2.row := by rw [rdL1_get hlt2, List.getElem_map]
  refine ⟨ordI (O.cmp P[i].2 e) == 0, fun _ => hlt, fun res h => ?_⟩
  refine ev_s ?_
  simp only [spec_l20Raw.j3, if_pos (show (i : Int) < ((P.map (fun p => p.2.row)).length : Int) by rw [List.length_map]; omega), if_pos (show (0 : Int) <= (i : Int) by omega), hrd]
  exact Ev.bind (l1Compare_ev P[i].2 e (Nat.le_trans (hP _ (List.getElem_mem hlt)) (by omega)) (by omega)) h
 ·
  refine ⟨false, fun h => (by cases h), fun res h => ?_⟩
  refine ev_s ?_
  simp only [spec_l20Raw.j3, if_neg (show ¬ ((i : Int) < ((P.map (fun p => p.2.row)).length : Int)) by rw [List.length_map]; omega)]
  exact h
end
theorem raw_sm {a c m : Nat} (ha : a <= 3) (hc : c <= 1) (hm : m <= 10) : 1 + a + c * 60 + m <= 1000 := by omega
theorem raw_a1 {a : Nat} (h : (a : Int) < 3 \/ (a : Int) = 0) : a <= 3 := by omega
theorem raw_a2 {a : Nat} (h : (a : Int) < 60 \/ (a : Int) = 0) : a / 59 <= 1 := by
 have : a < 60 := by omega
 have := Nat.div_le_div_right (c := 59) (show a <= 59 by omega)
 exact Nat.le_trans this (by decide)
theorem raw_m {a m : Nat} (h : a + m <= 10) : m <= 10 := by omega
theorem raw_v1 {a c : Nat} (ha : a <= 3) (hc : c <= 1) : wrap64 ((wrap64 (1 + (a : Int))) + (wrap64 ((wrap64 (c : Int)) * 60))) = ((1 + a + c * 60 : Nat) : Int) := by
 rw [wrap_in (x := 1 + (a : Int)) (by omega) (by omega), wrap_in (x := (c : Int)) (by omega) (by omega), wrap_in (x := (c : Int) * 60) (by omega) (by omega), wrap_in (by omega) (by omega)]; omega
theorem raw_v {a : Nat} (a2 : Nat) (ha : a <= 3) (hc : a2 / 59 <= 1) : wrap64 ((wrap64 (1 + (a : Int))) + (wrap64 ((wrap64 (Int.tdiv (a2 : Int) 59)) * 60))) = ((1 + a + a2 / 59 * 60 : Nat) : Int) := by
 rw [show Int.tdiv (a2 : Int) 59 = ((a2 / 59 : Nat) : Int) from tdiv_nat a2 59]; exact raw_v1 ha hc
theorem raw_put (b : List Int) (hb : Bytes b) (X1 : Int) (R m : Nat) (hR : R <= 1000) (P : List (Nat × O)) (e : O) (hP : ∀ p ∈ P, p.2.row.length <= R /\ p.1 + (m + 1) <= 1000) (he : e.row.length <= R) (hl : P.length + m <= 10) (p : Nat) (hp : p <= 1000000) :
  ∃ (P' : List (Nat × O)) (q : Nat), P'.length <= P.length + 1 /\ (∀ p ∈ P', p.2.row.length <= R /\ p.1 + m <= 1000) /\ q <= p + 2 /\
   ∀ res, Ev (fun k => spec_l20Raw.l0 k X1 (P'.map (fun p => (p.1 : Int))) (P'.map (fun p => p.2.row)) (m : Int) b (q : Int)) res -> Ev (fun k => spec_l20Raw.j1 k X1 (P.map (fun p => (p.1 : Int))) (P.map (fun p => p.2.row)) ((m + 1 : Nat) : Int) e.row b (p : Int)) res := by
 have hP1 : ∀ p ∈ P, p.2.row.length <= 1000 := fun q hq => Nat.le_trans (hP q hq).1 hR
 obtain ⟨i, hi, h1⟩ := raw_l1 (b := b) (X1 := X1) (X7 := ((m + 1 : Nat) : Int)) hP1 (Nat.le_trans he hR) (by omega) (p : Int) (P.map (fun p => (p.1 : Int))) P.length 0 (by omega)
 obtain ⟨f, hf, h2⟩ := raw_j3 (b := b) (X1 := X1) (X7 := ((m + 1 : Nat) : Int)) hP1 (Nat.le_trans he hR) (p : Int) (P.map (fun p => (p.1 : Int))) i hi
 have em : wrap64 (((m + 1 : Nat) : Int) - 1) = (m : Int) := by rw [wrap_in (by omega) (by omega)]; omega
 cases f with
 | true =>
  have hlt := hf rfl
  have hpi := hP _ (List.getElem_mem hlt)
  have hlt2 : i < (P.map (fun p => (p.1 : Int))).length := by rw [List.length_map]; exact hlt
  refine ⟨P.set i (P[i].1 + 1, P[i].2), p, by rw [List.length_set]; omega, fun q hq => ?_, by omega, fun res h => ?_⟩
  ·
   rcases List.mem_or_eq_of_mem_set hq with hq | rfl
   · have := hP q hq; exact ⟨this.1, by omega⟩
   · exact ⟨hpi.1, by simp only; omega⟩
  ·
   refine ev_s ?_
   simp only [spec_l20Raw.j1]
   refine h1 res (h2 res (ev_s ?_))
   simp only [spec_l20Raw.j4, if_true, if_pos (show (0 : Int) <= (i : Int) by omega), if_pos (show (i : Int) < ((P.map (fun p => (p.1 : Int))).length : Int) by rw [List.length_map]; omega), Int.toNat_natCast, rd_get hlt2, List.getElem_map, em]
   have e1 : (P.map (fun p => (p.1 : Int))).set i (wrap64 ((P[i].1 : Int) + 1)) = (P.set i (P[i].1 + 1, P[i].2)).map (fun p => (p.1 : Int)) := by
    rw [List.map_set, show wrap64 ((P[i].1 : Int) + 1) = ((P[i].1 + 1 : Nat) : Int) from wrap_nat2 P[i].1 1 (by omega)]
   have e2 : (P.set i (P[i].1 + 1, P[i].2)).map (fun p => p.2.row) = P.map (fun p => p.2.row) := by
    rw [List.map_set]
    have : P[i].2.row = (P.map (fun p => p.2.row))[i]'(by rw [List.length_map]; exact hlt) := by rw [List.getElem_map]
    rw [this, List.set_getElem_self]
   rw [e1, <- e2]
   exact h
 | false =>
  obtain ⟨v1, g1, g2, g3⟩ := pick_ev b hb p (by omega) 3
  obtain ⟨v2, g4, g5, g6⟩ := pick_ev b hb (p + 1) (by omega) 60
  obtain ⟨a1, rfl⟩ := Int.eq_ofNat_of_zero_le g1
  obtain ⟨a2, rfl⟩ := Int.eq_ofNat_of_zero_le g4
  have ha1 : a1 <= 3 := raw_a1 g2
  have h59 : a2 / 59 <= 1 := raw_a2 g5
  have hsm : 1 + a1 + a2 / 59 * 60 + m <= 1000 := raw_sm ha1 h59 (raw_m hl)
  have ev := raw_v a2 ha1 h59
  generalize 1 + a1 + a2 / 59 * 60 = y at ev hsm
  refine ⟨P.take i ++ [(y, e)] ++ P.drop i, p + 1 + 1, by simp only [List.length_append, List.length_take, List.length_drop, List.length_singleton]; omega, fun q hq => ?_, by omega, fun res h => ?_⟩
  ·
   rw [List.mem_append, List.mem_append] at hq
   rcases hq with (hq | hq) | hq
   · have := hP q (List.mem_of_mem_take hq); exact ⟨this.1, by omega⟩
   · rw [List.mem_singleton] at hq; subst hq; exact ⟨he, hsm⟩
   · have := hP q (List.mem_of_mem_drop hq); exact ⟨this.1, by omega⟩
  ·
   refine ev_s ?_
   simp only [spec_l20Raw.j1]
   refine h1 res (h2 res (ev_s ?_))
   simp only [spec_l20Raw.j4, Bool.false_eq_true, if_false, Option.bind_some, if_pos (show (0 : Int) <= (i : Int) by omega), if_pos (show (i : Int) <= ((P.map (fun p => (p.1 : Int))).length : Int) by rw [List.length_map]; omega), Int.toNat_natCast, List.nil_append, List.length_nil, List.length_take, List.length_map, List.length_append, List.length_singleton, List.length_drop,
    if_pos (show 0 + min i P.length < 17592186044416 by omega), if_pos (show (i : Int) <= (P.length : Int) by omega)]
   refine Ev.bind g3 ?_
   refine Ev.bind g6 ?_
   simp only [ev, List.length_take, List.length_map, List.length_append, List.length_singleton, List.length_drop, if_pos (show 0 + min i P.length + 1 < 17592186044416 by omega), if_pos (show 0 + min i P.length + 1 + (P.length - i) < 17592186044416 by omega), if_pos (show min i P.length + 1 < 17592186044416 by omega), if_pos (show min i P.length + 1 + (P.length - i) < 17592186044416 by omega), if_pos (show 0 + min i P.length + 1 < 5864062014805 by omega), if_pos (show 0 + min i P.length + 1 + (P.length - i) < 5864062014805 by omega), if_pos (show (i : Int) <= (P.length : Int) by omega), if_pos (show 0 + min i P.length < 5864062014805 by omega), if_pos (show min i P.length + 1 < 5864062014805 by omega), if_pos (show min i P.length + 1 + (P.length - i) < 5864062014805 by omega), em]
   simp only [List.map_append, List.map_take, List.map_drop, List.map_cons, List.map_nil] at h
   exact h
theorem OrdOf_row (n : Nat) (hn : n <= 9999) : spec_OrdOf.f (n : Int) = some (O.num n).row := by
 simp only [spec_OrdOf.f, l1In_eq, Option.bind_some, decide_eq_true (show 0 <= (n : Int) /\ (n : Int) <= 9999 by omega), if_true]
 by_cases h : n = 0
 · subst h; rfl
 · rw [if_neg (by omega)]; simp [O.num, h, O.row, O.body, O.len]
theorem l20Raw_ev (b : List Int) (hb : Bytes b) : ∀ (D d : Nat), d <= D -> D <= 3 -> ∀ p : Nat, p + rawP d <= 100000 -> ∃ (o : O) (q : Nat), o.row.length <= rawL d /\ q <= p + rawP d /\ Ev (fun k => spec_l20Raw.f k b (p : Int) (d : Int)) (o.row, (q : Int)) := by
 intro D
 induction D with
 | zero =>
  intro d hd _ p hp
  have : d = 0 := by omega
  subst this
  obtain ⟨v, hv0, hv1, he⟩ := pick_ev b hb p (by omega) 4
  obtain ⟨n, rfl⟩ := Int.eq_ofNat_of_zero_le hv0
  refine ⟨O.num n, p + 1, ?_, by simp [rawP], ?_⟩
  · unfold O.num; split <;> simp [O.row, O.body, O.len, rawL]
  ·
   refine ev_s ?_
   simp only [spec_l20Raw.f, if_pos (show ((0 : Nat) : Int) = 0 from rfl)]
   refine Ev.bind he ?_
   rw [OrdOf_row n (by omega)]
   exact Ev.now _
 | succ D IH =>
  intro d hd hD p hp
  cases d with
  | zero => exact IH 0 (by omega) (by omega) p hp
  | succ d =>
   have hRL := rawL_le (show d <= 3 by omega)
   have hloop : ∀ (m : Nat) (P : List (Nat × O)) (p : Nat), P.length + m <= 3 -> (∀ x ∈ P, x.2.row.length <= rawL d /\ x.1 + m <= 1000) -> p + m * (4 + rawP d) <= 100000 ->
     ∃ (o : O) (q : Nat), o.row.length <= rawL (d + 1) /\ q <= p + m * (4 + rawP d) /\ Ev (fun k => spec_l20Raw.l0 k ((d + 1 : Nat) : Int) (P.map (fun p => (p.1 : Int))) (P.map (fun p => p.2.row)) (m : Int) b (p : Int)) (o.row, (q : Int)) := by
    intro m
    induction m with
    | zero =>
     intro P p hl hP hp
     have hb2 := mkO_body (rawL d) P (fun q hq => (hP q hq).1)
     have h3 : P.length * (1 + rawL d) <= 3 * (1 + rawL d) := Nat.mul_le_mul_right _ (by omega)
     refine ⟨mkO P, p, by rw [O.row_length]; simp only [rawL]; omega, by omega, ?_⟩
     refine ev_s ?_
     simp only [spec_l20Raw.l0, if_neg (show ¬ (((0 : Nat) : Int) > 0) by decide)]
     refine Ev.bind (l1Make_ev _ _ (by rw [List.length_map, List.length_map]) (by rw [List.length_map]; omega) (by rw [mkO_zip]; omega)) ?_
     rw [List.length_map, mkO_row]
     exact Ev.now _
    | succ m IHm =>
     intro P p hl hP hp
     rw [Nat.succ_mul] at hp ⊢
     obtain ⟨v, hv0, hv1, he⟩ := pick_ev b hb p (by omega) 4
     have step : ∀ (e : O) (p1 : Nat), e.row.length <= rawL d -> p1 <= p + 2 + rawP d -> ∃ (o : O) (q : Nat), o.row.length <= rawL (d + 1) /\ q <= p + (m * (4 + rawP d) + (4 + rawP d)) /\ Ev (fun k => spec_l20Raw.j1 k ((d + 1 : Nat) : Int) (P.map (fun p => (p.1 : Int))) (P.map (fun p => p.2.row)) ((m + 1 : Nat) : Int) e.row b (p1 : Int)) (o.row, (q : Int)) := by
      intro e p1 hel hp1
      obtain ⟨P', q1, h1, h2, h3, h4⟩ := raw_put b hb ((d + 1 : Nat) : Int) (rawL d) m (by omega) P e hP hel (by omega) p1 (by omega)
      obtain ⟨o, q, h5, h6, h7⟩ := IHm P' q1 (by omega) h2 (by omega)
      exact ⟨o, q, h5, by omega, h4 _ h7⟩
     by_cases hv : v > 0
     ·
      obtain ⟨v2, hv2, hv3, he2⟩ := pick_ev b hb (p + 1) (by omega) ((d + 1 : Nat) : Int)
      obtain ⟨n, rfl⟩ := Int.eq_ofNat_of_zero_le hv2
      have hnd : n <= d := by omega
      have hRP := rawP_mono hnd
      obtain ⟨e, q0, h1, h2, h3⟩ := IH n (by omega) (by omega) (p + 1 + 1) (by omega)
      obtain ⟨o, q, h5, h6, h7⟩ := step e q0 (Nat.le_trans h1 (rawL_mono hnd)) (by omega)
      refine ⟨o, q, h5, h6, ev_s ?_⟩
      simp only [spec_l20Raw.l0, if_pos (show ((m + 1 : Nat) : Int) > 0 by omega)]
      refine Ev.bind he ?_
      simp only [if_pos hv]
      refine Ev.bind he2 ?_
      exact Ev.bind h3 h7
     ·
      obtain ⟨o, q, h5, h6, h7⟩ := step .z (p + 1) (by simp [O.row, O.body]; have := rawL_mono (Nat.zero_le d); simp only [rawL] at this; omega) (by omega)
      refine ⟨o, q, h5, h6, ev_s ?_⟩
      simp only [spec_l20Raw.l0, if_pos (show ((m + 1 : Nat) : Int) > 0 by omega)]
      refine Ev.bind he ?_
      simp only [if_neg hv]
      exact h7
   simp only [rawP] at hp
   obtain ⟨v, hv0, hv1, he⟩ := pick_ev b hb p (by omega) 4
   obtain ⟨n, rfl⟩ := Int.eq_ofNat_of_zero_le hv0
   have hn3 : n * (4 + rawP d) <= 3 * (4 + rawP d) := Nat.mul_le_mul_right _ (by omega)
   obtain ⟨o, q, h1, h2, h3⟩ := hloop n [] (p + 1) (by simp; omega) (fun x hx => by simp at hx) (by omega)
   refine ⟨o, q, h1, by simp only [rawP]; omega, ev_s ?_⟩
   simp only [spec_l20Raw.f, if_neg (show ¬ (((d + 1 : Nat) : Int) = 0) by omega)]
   exact Ev.bind he h3
theorem l20Ord_j1 (b : List Int) (hb : Bytes b) (n : Int) (hn : n <= 1000000) (x : List Int) (hx : x.length <= 1000) (p : Nat) (hp : p <= 100000) : ∃ (out : List Int) (q : Nat), out.length <= 1001 /\ q <= p + 2 /\ Ev (fun k => spec_l20Ord.j1 k n x b (p : Int)) (out, (q : Int)) := by
 obtain ⟨o, q, hq, he⟩ := odd_ev b hb p (by omega) n hn
 cases o with
 | false =>
  refine ⟨x, q, by omega, by omega, ev_s ?_⟩
  simp only [spec_l20Ord.j1]
  refine Ev.bind he ?_
  simp only [Bool.false_eq_true, if_false]
  exact Ev.now _
 | true =>
  obtain ⟨v, _, _, he2⟩ := pick_ev b hb q (by omega) 5
  by_cases h0 : v = 0
  ·
   refine ⟨[], q + 1, by simp, by omega, ev_s ?_⟩
   simp only [spec_l20Ord.j1]; refine Ev.bind he ?_; simp only [if_true]; refine Ev.bind he2 ?_; simp only [if_pos h0]; exact Ev.now _
  by_cases h1 : v = 1
  ·
   refine ⟨x ++ [0], q + 1, by simp; omega, by omega, ev_s ?_⟩
   simp only [spec_l20Ord.j1]; refine Ev.bind he ?_; simp only [if_true]; refine Ev.bind he2 ?_
   simp only [if_neg h0, if_pos h1, Option.bind_some, List.nil_append, List.length_nil, if_pos (show 0 + x.length < 17592186044416 by omega), if_pos (show x.length < 17592186044416 by omega)]; exact Ev.now _
  by_cases h2 : v = 2
  ·
   refine ⟨[2, 1, 0, 1, 1, 1, 0], q + 1, by simp, by omega, ev_s ?_⟩
   simp only [spec_l20Ord.j1]; refine Ev.bind he ?_; simp only [if_true]; refine Ev.bind he2 ?_; simp only [if_neg h0, if_neg h1, if_pos h2]; exact Ev.now _
  by_cases h3 : v = 3
  ·
   refine ⟨[1, 0, 0], q + 1, by simp, by omega, ev_s ?_⟩
   simp only [spec_l20Ord.j1]; refine Ev.bind he ?_; simp only [if_true]; refine Ev.bind he2 ?_; simp only [if_neg h0, if_neg h1, if_neg h2, if_pos h3]; exact Ev.now _
  ·
   refine ⟨[1, 10000, 0], q + 1, by simp, by omega, ev_s ?_⟩
   simp only [spec_l20Ord.j1]; refine Ev.bind he ?_; simp only [if_true]; refine Ev.bind he2 ?_; simp only [if_neg h0, if_neg h1, if_neg h2, if_neg h3]; exact Ev.now _
theorem l20Ord_l0 (b : List Int) (hb : Bytes b) (n : Int) (hn : n <= 1000000) : ∀ (d i : Nat) (x : List Int) (p : Nat), i + d = 4 -> x.length <= 1000 -> p + d * 300 <= 50000 -> ∃ (out : List Int) (q : Nat), out.length <= 1001 /\ q <= p + d * 300 + 2 /\ Ev (fun k => spec_l20Ord.l0 k n x (i : Int) b (p : Int)) (out, (q : Int))
 | 0, i, x, p, hi, hx, hp => by
  obtain ⟨out, q, h1, h2, h3⟩ := l20Ord_j1 b hb n hn x hx p (by omega)
  refine ⟨out, q, h1, by omega, ev_s ?_⟩
  simp only [spec_l20Ord.l0, if_neg (show ¬ ((i : Int) < 4) by omega)]
  exact h3
 | d + 1, i, x, p, hi, hx, hp => by
  by_cases h24 : (x.length : Int) > 24
  ·
   have hL := rawL_le (show 2 <= 3 by omega)
   have hP := rawP_le (show 2 <= 3 by omega)
   obtain ⟨o, q0, h1, h2, h3⟩ := l20Raw_ev b hb 3 2 (by omega) (by omega) p (by omega)
   obtain ⟨out, q, h4, h5, h6⟩ := l20Ord_l0 b hb n hn d (i + 1) o.row q0 (by omega) (by omega) (by omega)
   refine ⟨out, q, h4, by omega, ev_s ?_⟩
   simp only [spec_l20Ord.l0, if_pos (show (i : Int) < 4 by omega), if_pos h24]
   refine Ev.bind h3 ?_
   rw [show wrap64 ((i : Int) + 1) = ((i + 1 : Nat) : Int) from wrap_nat2 i 1 (by omega)]
   exact h6
  ·
   obtain ⟨out, q, h1, h2, h3⟩ := l20Ord_j1 b hb n hn x hx p (by omega)
   refine ⟨out, q, h1, by omega, ev_s ?_⟩
   simp only [spec_l20Ord.l0, if_pos (show (i : Int) < 4 by omega), if_neg h24]
   exact h3
theorem l20Ord_ev (b : List Int) (hb : Bytes b) (p : Nat) (hp : p <= 10000) (n : Int) (hn : n <= 1000000) : ∃ (out : List Int) (q : Nat), out.length <= 1001 /\ q <= p + 2000 /\ Ev (fun k => spec_l20Ord.f k b (p : Int) n) (out, (q : Int)) := by
 have hL := rawL_le (Nat.le_refl 3)
 have hP := rawP_le (Nat.le_refl 3)
 obtain ⟨o, q0, h1, h2, h3⟩ := l20Raw_ev b hb 3 3 (by omega) (by omega) p (by omega)
 obtain ⟨out, q, h4, h5, h6⟩ := l20Ord_l0 b hb n hn 4 0 o.row q0 rfl (by omega) (by omega)
 refine ⟨out, q, h4, by omega, ?_⟩
 simp only [spec_l20Ord.f]
 exact Ev.bind h3 h6

-- part: oStep
theorem O.app_terms : ∀ x y : O, (O.app x y).terms = x.terms ++ y.terms
 | .z, _ => rfl
 | .c n e r, y => by simp only [O.app, O.terms, O.app_terms r y, List.cons_append]
theorem O.last_split (k : Nat) : ∀ x : O, x ≠ .z -> ∃ (pre : List S72) (n : Nat) (e : O), x.terms = pre ++ [⟨(n : Int), e.terms⟩] /\ (x.Sm -> 1 <= n /\ n <= 9999 /\ e.Sm) /\ e.body.length + 2 + pre.length <= x.body.length /\
  O.kind x = (if e.len = 0 then 1 else 2) /\ (O.before x).terms = (if n = 1 then pre else pre ++ [⟨((n - 1 : Nat) : Int), e.terms⟩]) /\
  (O.step k x).terms = (if e.len = 0 then (O.before x).terms else if O.kind e = 2 then (O.before x).terms ++ [⟨((1 : Nat) : Int), (O.step k e).terms⟩] else if k = 0 then (O.before x).terms else (O.before x).terms ++ [⟨(k : Int), (O.before e).terms⟩])
 | .z, h => absurd rfl h
 | .c n .z .z, _ => by
  refine ⟨[], n, .z, rfl, fun h => ⟨h.1.1, h.1.2, h.2.1.1⟩, by simp [O.body], by simp [O.kind, O.len], ?_, ?_⟩
  · simp only [O.before]; split <;> simp [O.terms]
  · simp [O.step, O.len]
 | .c n (.c m f s) .z, _ => by
  refine ⟨[], n, .c m f s, rfl, fun h => ⟨h.1.1, h.1.2, h.2.1.1⟩, ?_, by simp [O.kind, O.len], ?_, ?_⟩
  · rw [O.body_c n (.c m f s) .z]; simp only [List.length_cons, List.length_append, List.length_nil, O.row_length]; omega
  · simp only [O.before]; split <;> simp [O.terms]
  ·
   have hl : ¬ (O.c m f s).len = 0 := by simp [O.len]
   rw [if_neg hl]
   simp only [O.step]
   split
   · rw [O.app_terms]; rfl
   ·
    split
    · rfl
    · rw [O.app_terms]; rfl
 | .c n e (.c m f r), _ => by
  have hz : (O.c m f r) ≠ .z := by simp
  obtain ⟨pre, n', e', h1, h2, h3, h4, h5, h6⟩ := O.last_split k (.c m f r) hz
  refine ⟨⟨(n : Int), e.terms⟩ :: pre, n', e', ?_, fun h => h2 h.2.2.1, ?_, ?_, ?_, ?_⟩
  · rw [List.cons_append, <- h1]; rfl
  · rw [O.body_c n e (.c m f r)]; simp only [List.length_cons, List.length_append]; omega
  · rw [O.kind_cons n e hz, h4]
  ·
   rw [O.before_cons n e hz]
   show ⟨(n : Int), e.terms⟩ :: (O.before (.c m f r)).terms = _
   rw [h5]; split <;> rfl
  ·
   rw [O.step_cons k n e hz, O.before_cons n e hz]
   show ⟨(n : Int), e.terms⟩ :: (O.step k (.c m f r)).terms = _
   rw [h6]
   show _ = if e'.len = 0 then ⟨(n : Int), e.terms⟩ :: (O.before (.c m f r)).terms else if O.kind e' = 2 then (⟨(n : Int), e.terms⟩ :: (O.before (.c m f r)).terms) ++ _ else if k = 0 then ⟨(n : Int), e.terms⟩ :: (O.before (.c m f r)).terms else (⟨(n : Int), e.terms⟩ :: (O.before (.c m f r)).terms) ++ _
   repeat' (first | rfl | split)
theorem O.kind_z {x : O} (h : x.body.length <= 100000) : impl_kind.f x.terms = some (O.kind x : Int) := by
 by_cases hz : x = .z
 · subst hz; rfl
 obtain ⟨pre, n, e, h1, _, h3, h4, _, _⟩ := O.last_split 0 x hz
 have hlen : x.terms.length = pre.length + 1 := by rw [h1]; simp
 have hw : wrap64 ((x.terms.length : Int) - 1) = ((pre.length : Nat) : Int) := by rw [hlen, wrap_in (by omega) (by omega)]; omega
 have hel := O.terms_len e
 simp only [impl_kind.f, if_neg (show ¬ ((x.terms.length : Int) = 0) by omega), hw, if_pos (show (0 : Int) <= ((pre.length : Nat) : Int) by omega), if_pos (show ((pre.length : Nat) : Int) < (x.terms.length : Int) by omega)]
 rw [h1, rd_T72_mid, h4]
 by_cases he : e.len = 0
 · rw [if_pos (show (e.terms.length : Int) = 0 by omega), if_pos he]; rfl
 · rw [if_neg (show ¬ ((e.terms.length : Int) = 0) by omega), if_neg he]; rfl
theorem O.before_ev {x : O} (hz : x ≠ .z) (hs : x.Sm) (h : x.body.length <= 100000) : impl_before.f x.terms = some (O.before x).terms := by
 obtain ⟨pre, n, e, h1, h2, h3, _, h5, _⟩ := O.last_split 0 x hz
 obtain ⟨hn1, hn2, _⟩ := h2 hs
 have hlen : x.terms.length = pre.length + 1 := by rw [h1]; simp
 have hw : wrap64 ((x.terms.length : Int) - 1) = ((pre.length : Nat) : Int) := by rw [hlen, wrap_in (by omega) (by omega)]; omega
 have hset : (x.terms.set ((pre.length : Nat) : Int).toNat (⟨wrap64 ((n : Int) - 1), e.terms⟩ : S72)) = pre ++ [⟨((n - 1 : Nat) : Int), e.terms⟩] := by
  rw [h1, Int.toNat_natCast, wrap_in (by omega) (by omega), show (n : Int) - 1 = ((n - 1 : Nat) : Int) by omega]; simp
 have hrd : rd_T72 x.terms ((pre.length : Nat) : Int) = ⟨(n : Int), e.terms⟩ := by rw [h1]; exact rd_T72_mid pre [] _
 simp only [impl_before.f, impl_term_91.f, if_pos (show x.terms.length < 4398046511104 by omega), Option.bind_some, hw, if_pos (show (0 : Int) <= ((pre.length : Nat) : Int) by omega), if_pos (show ((pre.length : Nat) : Int) < (x.terms.length : Int) by omega), hrd, hset, if_pos (show ((pre.length : Nat) : Int) <= (x.terms.length : Int) by omega)]
 rw [show rd_T72 (pre ++ [⟨((n - 1 : Nat) : Int), e.terms⟩]) ((pre.length : Nat) : Int) = ⟨((n - 1 : Nat) : Int), e.terms⟩ from rd_T72_mid pre [] _, h5]
 by_cases h1n : n = 1
 · rw [if_pos (show ((n - 1 : Nat) : Int) = 0 by omega), if_pos h1n]; simp
 · rw [if_neg (show ¬ (((n - 1 : Nat) : Int) = 0) by omega), if_neg h1n]
theorem O.before_body : ∀ x : O, (O.before x).body.length <= x.body.length
 | .z => Nat.le_refl _
 | .c n e .z => by simp only [O.before]; split <;> simp [O.body]
 | .c n e (.c m f r) => by
  rw [O.before_cons n e (by simp), O.body_c, O.body_c]
  have := O.before_body (.c m f r)
  simp only [List.length_cons, List.length_append]; omega
theorem O.step_body (k : Nat) : ∀ x : O, x.body.length <= 100 -> (O.step k x).body.length <= 60 * x.body.length
 | .z, _ => by simp [O.step, O.body]
 | .c n .z .z, _ => by
  have := O.before_body (.c n .z .z)
  simp only [O.step]; omega
 | .c n (.c m f s) .z, h => by
  have hb := O.before_body (.c n (.c m f s) .z)
  have hx : (O.c n (.c m f s) .z).body.length = (O.c m f s).body.length + 2 := by
   rw [O.body_c]; simp only [List.length_cons, List.length_append, O.row_length]; simp [O.body]
  have he := O.step_body k (.c m f s) (by omega)
  have hbe := O.before_body (.c m f s)
  have h1 : ∀ (j : Nat) (y : O), (O.c j y .z).body.length = y.body.length + 2 := fun j y => by
   rw [O.body_c]; simp only [List.length_cons, List.length_append, O.row_length]; simp [O.body]
  simp only [O.step]
  split
  · rw [O.app_body, List.length_append, h1]; omega
  ·
   split
   · omega
   · rw [O.app_body, List.length_append, h1]; omega
 | .c n e (.c m f r), h => by
  rw [O.step_cons k n e (by simp)]
  rw [O.body_c] at h ⊢
  rw [O.body_c n e (.c m f r)]
  simp only [List.length_cons, List.length_append] at h ⊢
  have := O.step_body k (.c m f r) (by omega)
  omega
theorem step_ev (k : Nat) : ∀ (N : Nat) (x : O), x.body.length <= N -> N <= 1000 -> x.Sm -> Ev (fun q => impl_step.f q x.terms (k : Int)) (O.step k x).terms := by
 intro N
 induction N with
 | zero =>
  intro x hN h1 hs
  cases x with
  | z =>
   refine ev_s ?_
   simp only [impl_step.f]
   exact Ev.now _
  | c n e r => rw [O.body_c] at hN; simp at hN
 | succ N IH =>
  intro x hN h1 hs
  by_cases hz : x = .z
  ·
   subst hz
   refine ev_s ?_
   simp only [impl_step.f]
   exact Ev.now _
  obtain ⟨pre, n, e, e1, h2, h3, h4, _, h6⟩ := O.last_split k x hz
  obtain ⟨hn1, hn2, hse⟩ := h2 hs
  have hlen : x.terms.length = pre.length + 1 := by rw [e1]; simp
  have hw : wrap64 ((x.terms.length : Int) - 1) = ((pre.length : Nat) : Int) := by rw [hlen, wrap_in (by omega) (by omega)]; omega
  have hrd : rd_T72 x.terms ((pre.length : Nat) : Int) = ⟨(n : Int), e.terms⟩ := by rw [e1]; exact rd_T72_mid pre [] _
  have hbf := O.before_ev hz hs (by omega)
  have hbl := O.before_body x
  have hbt := O.terms_len (O.before x)
  have hbL := O.len_le (O.before x)
  refine ev_s ?_
  simp only [impl_step.f, O.kind_z (show x.body.length <= 100000 by omega), Option.bind_some, hw, hrd, if_pos (show (0 : Int) <= ((pre.length : Nat) : Int) by omega), if_pos (show ((pre.length : Nat) : Int) < (x.terms.length : Int) by omega), hbf, O.kind_z (show e.body.length <= 100000 by omega)]
  rw [h4, h6]
  by_cases he : e.len = 0
  ·
   simp only [if_pos he]
   exact Ev.now _
  ·
   simp only [if_neg he, if_neg (show ¬ (((2 : Nat) : Int) = 0) by decide), if_neg (show ¬ (((2 : Nat) : Int) = 1) by decide)]
   have hez : e ≠ .z := by rintro rfl; exact he rfl
   by_cases hk : O.kind e = 2
   ·
    simp only [if_pos hk, if_pos (show ((O.kind e : Nat) : Int) = 2 by omega), impl_term_82.f, Option.bind_some]
    refine Ev.bind (IH e (by omega) (by omega) hse) ?_
    simp only [if_pos (show (O.before x).terms.length < 4398046511104 by omega)]
    exact Ev.now _
   ·
    simp only [if_neg hk, if_neg (show ¬ (((O.kind e : Nat) : Int) = 2) by omega)]
    by_cases h0 : k = 0
    ·
     simp only [if_pos h0, if_neg (show ¬ ((k : Int) > 0) by omega)]
     exact Ev.now _
    ·
     simp only [if_neg h0, if_pos (show (k : Int) > 0 by omega), impl_term_82.f, Option.bind_some, O.before_ev hez hse (by omega), if_pos (show (O.before x).terms.length < 4398046511104 by omega)]
     exact Ev.now _
theorem impl_OrdStep_good {x : O} (hs : x.Sm) (hr : x.row.length <= 60) {c : Nat} (hc : c <= 99) : Ev (fun k => impl_OrdStep.f k x.row (c : Int)) (O.step c x).fit := by
 have hrow := O.row_length x
 have hb := O.step_body c x (by omega)
 have hrs := O.row_length (O.step c x)
 simp only [impl_OrdStep.f]
 refine Ev.bind (ordOf_ev hs hr) ?_
 simp only [if_true, if_neg (show ¬ ((c : Int) < 0) by omega), decide_eq_false (show ¬ ((c : Int) > 99) by omega)]
 refine ev_s ?_
 simp only [impl_OrdStep.j0, Bool.false_eq_true, if_false]
 refine Ev.bind (step_ev c 60 x (by omega) (by omega) hs) ?_
 refine Ev.bind (told_ev (by omega)) ?_
 exact Ev.now _

-- part: gLittle
theorem l20Little_l0 (b : List Int) (hb : Bytes b) : ∀ (d i : Nat) (x : List Int) (p : Nat), i + d = 4 -> x.length <= 1000 -> p + d * 300 <= 50000 -> ∃ (out : List Int) (q : Nat), out.length <= 1001 /\ q <= p + d * 300 /\ Ev (fun k => spec_l20Little.l0 k x (i : Int) b (p : Int)) (out, (q : Int))
 | 0, i, x, p, hi, hx, hp => by
  refine ⟨x, p, by omega, by omega, ev_s ?_⟩
  simp only [spec_l20Little.l0, if_neg (show ¬ ((i : Int) < 4) by omega)]
  exact Ev.now _
 | d + 1, i, x, p, hi, hx, hp => by
  by_cases h16 : (x.length : Int) > 16
  ·
   have hL := rawL_le (show 1 <= 3 by omega)
   have hP := rawP_le (show 1 <= 3 by omega)
   obtain ⟨o, q0, h1, h2, h3⟩ := l20Raw_ev b hb 3 1 (by omega) (by omega) p (by omega)
   obtain ⟨out, q, h4, h5, h6⟩ := l20Little_l0 b hb d (i + 1) o.row q0 (by omega) (by omega) (by omega)
   refine ⟨out, q, h4, by omega, ev_s ?_⟩
   simp only [spec_l20Little.l0, if_pos (show (i : Int) < 4 by omega), if_pos h16]
   refine Ev.bind h3 ?_
   rw [show wrap64 ((i : Int) + 1) = ((i + 1 : Nat) : Int) from wrap_nat2 i 1 (by omega)]
   exact h6
  ·
   refine ⟨x, p, by omega, by omega, ev_s ?_⟩
   simp only [spec_l20Little.l0, if_pos (show (i : Int) < 4 by omega), if_neg h16]
   exact Ev.now _
theorem l20Little_ev (b : List Int) (hb : Bytes b) (p : Nat) (hp : p <= 5000) (n : Int) (hn : n <= 1000000) : ∃ (out : List Int) (q : Nat), out.length <= 1001 /\ q <= p + 5000 /\ Ev (fun k => spec_l20Little.f k b (p : Int) n) (out, (q : Int)) := by
 obtain ⟨o, q0, hq, he⟩ := odd_ev b hb p (by omega) n hn
 cases o with
 | true =>
  obtain ⟨out, q, h1, h2, h3⟩ := l20Ord_ev b hb q0 (by omega) 1 (by omega)
  refine ⟨out, q, h1, by omega, ?_⟩
  simp only [spec_l20Little.f]
  refine Ev.bind he ?_
  simp only [if_true]
  exact Ev.bind h3 (Ev.now _)
 | false =>
  have hL := rawL_le (show 2 <= 3 by omega)
  have hP := rawP_le (show 2 <= 3 by omega)
  obtain ⟨x, q1, h1, h2, h3⟩ := l20Raw_ev b hb 3 2 (by omega) (by omega) q0 (by omega)
  obtain ⟨out, q, h4, h5, h6⟩ := l20Little_l0 b hb 4 0 x.row q1 rfl (by omega) (by omega)
  refine ⟨out, q, h4, by omega, ?_⟩
  simp only [spec_l20Little.f]
  refine Ev.bind he ?_
  simp only [Bool.false_eq_true, if_false]
  refine Ev.bind h3 ?_
  exact h6
theorem DrawHydraOf_ev (l : List Int) (h : ∀ x ∈ l, (Lit.int .u8 x).wf = true) : ∃ out : List Int, out.length <= 1001 /\ Ev (fun k => spec_DrawHydraOf.f k l) out := by
 obtain ⟨b, hb, ho⟩ := open_ev l h
 obtain ⟨out, q, h1, h2, hE⟩ := l20Little_ev b hb 0 (by omega) 9 (by omega)
 refine ⟨out, h1, ?_⟩
 simp only [spec_DrawHydraOf.f, ho, Option.bind_some]
 exact Ev.bind hE (Ev.now _)

-- part: alive
theorem alive_ev : Ev (fun k => laws_alive.f k) true := Ev.of laws_alive.mono (k := 20) (by decide +kernel)

-- part: law_FnHydraOf
theorem FnHydraOf : laws_FnHydraOf.Pure := by
 intro l0 l1 _ _ hw hl1 _ _
 refine Ev.rounds ?_
 simp only [laws_FnHydraOf.f]
 have hbig : ∀ b : Bool, b = true -> Ev (fun k => laws_FnHydraOf.j0 k l0 l1 b) true := fun b hb => by
  subst hb
  refine ev_s ?_
  simp only [laws_FnHydraOf.j0, if_true]
  exact Ev.now _
 by_cases hb : (l0.length : Int) > 1048576
 · simp only [if_pos hb]; exact hbig _ rfl
 simp only [if_neg hb]
 by_cases hb2 : (l1.length : Int) > 1048576
 · exact hbig _ (decide_eq_true hb2)
 rw [decide_eq_false hb2]
 refine ev_s ?_
 simp only [laws_FnHydraOf.j0, Bool.false_eq_true, if_false]
 obtain ⟨l, ho, he⟩ := DrawHydraOf_ev l0 hw
 refine Ev.bind he ?_
 have hno : Ev (fun k => laws_FnHydraOf.j1 k l1 l [] false (false != false)) true := by
  refine ev_s ?_
  simp only [laws_FnHydraOf.j1, bne_self_eq_false, Bool.false_eq_true, if_false, List.length_nil, if_pos (show ((0 : Nat) : Int) = 0 from rfl)]
  exact Ev.bind alive_ev (Ev.now _)
 rcases ord_or l with ⟨x, rfl, hs, hr⟩ | h
 ·
  refine Ev.bind (impl_HydraOf_good hs hr) ?_
  refine Ev.bind (spec_HydraOf_good hs hr) ?_
  by_cases h60 : x.size <= 60
  ·
   simp only [if_pos h60]
   have hrz := H.row_size (H.of x)
   have hoz := H.of_size x
   have hr6 : (H.of x).row.length <= 60 := by omega
   refine Ev.bind (sameInts_ev _ _ (by omega)) ?_
   simp only [decide_true, if_true]
   refine ev_s ?_
   simp only [laws_FnHydraOf.j1, bne_self_eq_false, Bool.false_eq_true, if_false, if_true]
   obtain ⟨c, hc, hc1, hc3⟩ : ∃ c : Nat, 1 + ((l1.length : Int) % 3) = (c : Int) /\ 1 <= c /\ c <= 3 := ⟨1 + l1.length % 3, by omega, by omega, by omega⟩
   rw [hc]
   have hzl := H.zs_le (H.of x)
   have hrl := H.row_length (H.of x)
   have hoo := H.ord_of x hs.nf
   refine Ev.bind (impl_HydraHeads_good hr6) ?_
   rw [wrap_in (x := ((H.of x).zs : Int) - 1) (by omega) (by omega), H.zs_heads]
   refine Ev.bind (impl_cutO hr6 _ _) ?_
   refine Ev.bind (impl_OrdStep_good hs hr (show c <= 99 by omega)) ?_
   have hback : (H.of x).ord.fit = (x.row, true) := by rw [hoo, O.fit, if_pos ⟨hr, O.most_of hs⟩]
   have htail : ∀ (b : List Int × Bool) (fin : Option Bool), (H.out ((H.of x).cutO (((H.of x).heads : Int) - 1) (c : Int))).2 = false -> (if (x.row.length : Int) = 1 then (some true) else (some (decide ((c : Int) > 1))) : Option Bool) = some true := by
    intro b fin hcan
    by_cases hz : x = .z
    ·
     subst hz
     rw [if_pos (by rfl)]
    ·
     by_cases h1 : (c : Int) > 1
     · rw [decide_eq_true h1]; simp
     ·
      exfalso
      have hc1' : c = 1 := by omega
      subst hc1'
      have hnul : H.of x ≠ .nul := by
       intro e
       rw [e] at hoo
       exact hz hoo.symm
      have hh := H.heads_pos hnul
      have hsz := H.cutAt_size (H.of x) ((H.of x).heads - 1) (by omega)
      have hrz2 := H.row_size (H.cutAt 1 (H.of x) ((H.of x).heads - 1)).1
      have e1 : (((H.of x).heads : Int) - 1).toNat = (H.of x).heads - 1 := by omega
      have : (H.of x).cutO (((H.of x).heads : Int) - 1) ((1 : Nat) : Int) = some (H.cutAt 1 (H.of x) ((H.of x).heads - 1)).1 := by
       unfold H.cutO
       rw [if_pos (by omega), Int.toNat_natCast, e1, if_pos (by omega)]
      rw [this] at hcan
      simp [H.out] at hcan
   have hsame : ∀ g : H, (H.of x).cutO (((H.of x).heads : Int) - 1) (c : Int) = some g -> g.row.length <= 60 /\ g.ord.fit = (O.step c x).fit := by
    intro g hg
    refine ⟨H.cutO_row hg, ?_⟩
    unfold H.cutO at hg
    split at hg
    ·
     rename_i hcc
     split at hg
     ·
      injection hg with hg
      have e1 : (((H.of x).heads : Int) - 1).toNat = (H.of x).heads - 1 := by omega
      have hnul : H.of x ≠ .nul := by
       intro e
       rw [e] at hcc
       simp [H.heads] at hcc
      rw [Int.toNat_natCast, e1, H.cutAt_last c (H.of x) hnul] at hg
      have h2 := (H.cutLast_step c hc1 (H.of x) (H.of_sorted x hs.nf) hnul).1
      rw [hg, hoo] at h2
      rw [h2]
     · cases hg
    · cases hg
   cases hcut : (H.of x).cutO (((H.of x).heads : Int) - 1) (c : Int) with
   | none =>
    rw [hcut] at htail
    simp only [H.out]
    refine Ev.bind (impl_HydraOrd_bad (l := []) (.inr (.inl rfl))) ?_
    refine Ev.bind (impl_HydraOrd_good hr6) ?_
    refine Ev.bind (impl_HydraValid_good hr6) ?_
    rw [hback]
    simp only [if_true]
    refine Ev.bind (sameInts_ev x.row x.row (by omega)) ?_
    simp only [decide_true, if_true, Bool.false_eq_true, if_false]
    exact ev_const (htail ([], false) none rfl)
   | some g =>
    obtain ⟨hgr, hgf⟩ := hsame g hcut
    simp only [H.out]
    refine Ev.bind (impl_HydraOrd_good hgr) ?_
    refine Ev.bind (impl_HydraOrd_good hr6) ?_
    refine Ev.bind (impl_HydraValid_good hr6) ?_
    rw [hback, hgf]
    simp only [if_true]
    refine Ev.bind (sameInts_ev x.row x.row (by omega)) ?_
    simp only [decide_true, if_true]
    have hfl := O.fit_len (O.step c x)
    by_cases hq : (O.step c x).fit.2 = true
    ·
     simp only [if_pos hq]
     refine Ev.bind (sameInts_ev _ _ (by omega)) ?_
     simp only [decide_true, if_true]
     exact Ev.now _
    ·
     simp only [if_neg hq]
     exact Ev.now _
  ·
   simp only [if_neg h60]
   refine Ev.bind (sameInts_ev [] [] (by simp)) ?_
   simp only [decide_true, if_true]
   exact hno
 ·
  refine Ev.bind (impl_HydraOf_bad h) ?_
  refine Ev.bind (spec_HydraOf_bad h) ?_
  refine Ev.bind (sameInts_ev [] [] (by simp)) ?_
  simp only [decide_true, if_true]
  exact hno

end Go.Proofs.Ytahhdbjjfdjloaa.Pure

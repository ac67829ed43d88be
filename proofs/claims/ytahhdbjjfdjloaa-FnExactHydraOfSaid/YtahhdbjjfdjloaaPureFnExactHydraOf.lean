/- The law FnExactHydraOf returns true for every input that the statement lets in; no condition of our own. -/
import Derived.Test.YtahhdbjjfdjloaaHax9
namespace Go.Proofs.Ytahhdbjjfdjloaa.Pure
open Go.RowKit Go.Proofs.Ytahhdbjjfdjloaa.Ha Go.Proofs.YtahhdbjjfdjloaaW.PrintWords Go.Proofs.YtahhdbjjfdjloaaW.PrintLast
set_option linter.unusedVariables false
set_option linter.unusedSimpArgs false

-- part: base
/-! ### words of mine -/
theorem ev_s {α : Type} {g : Nat → Option α} {r : α} (h : Ev (fun k => g (k + 1)) r) : Ev g r := Ev.step (fun _ => rfl) h
theorem ev_eq {α : Type} {g : Nat → Option α} {r q : α} (h : Ev g r) (e : r = q) : Ev g q := e ▸ h
theorem ev_now {α : Type} {r q : α} (e : r = q) : Ev (fun _ => some r) q := e ▸ Ev.now r
theorem wrap_in {x : Int} (h0 : -9223372036854775808 ≤ x) (h1 : x ≤ 9223372036854775807) : wrap64 x = x := by unfold wrap64; omega
theorem rd_eq (xs : List Int) (i : Nat) : rd xs (i : Int) = xs.getD i 0 := by simp [rd]
theorem rd_get {xs : List Int} {i : Nat} (h : i < xs.length) : rd xs (i : Int) = xs[i] := by simp [rd, h]
theorem wrap_nat2 (a b : Nat) (h : a + b < 4611686018427387904) : wrap64 ((a : Int) + (b : Int)) = ((a + b : Nat) : Int) := by rw [wrap_in (by omega) (by omega)]; omega
theorem ev_const {α : Type} {x : Option α} {a : α} (h : x = some a) : Ev (fun _ => x) a := by subst h; exact Ev.now a

-- part: toIntS
theorem toIntS_l0 (l : List Int) (hl : l.length ≤ 35184372088832) : ∀ (d i : Nat) (x : List Int), i + d = l.length → x.length = l.length → x.take i = l.take i → Ev (fun k => laws_toIntS.l0 k l x i) l := by
  intro d
  induction d with
  | zero =>
    intro i x h hx ht
    refine ev_s ?_
    simp only [laws_toIntS.l0]
    rw [show i = l.length by omega] at ht ⊢
    simp only [if_neg (show ¬ ((l.length : Int) < (l.length : Int)) by omega)]
    rw [List.take_of_length_le (by omega), List.take_length] at ht
    rw [ht]; exact Ev.now _
  | succ d ih =>
    intro i x h hx ht
    refine ev_s ?_
    simp only [laws_toIntS.l0]
    simp only [if_pos (show (i : Int) < (l.length : Int) by omega), if_pos (show (0 : Int) ≤ (i : Int) by omega), if_pos (show (i : Int) < (x.length : Int) by omega), show wrap64 ((i : Int) + 1) = ((i + 1 : Nat) : Int) by rw [wrap_in (by omega) (by omega)]; rfl, Int.toNat_natCast]
    refine ih (i + 1) _ (by omega) (by simpa using hx) ?_
    rw [rd_get (show i < l.length by omega)]
    apply List.ext_getElem?
    intro j
    have := congrArg (fun z => z[j]?) ht
    simp only [List.getElem?_take] at this ⊢
    by_cases hj : j < i
    · rw [if_pos hj, if_pos hj] at this
      rw [if_pos (by omega), if_pos (by omega), List.getElem?_set_ne (by omega)]; exact this
    · by_cases hji : j = i
      · subst hji
        rw [if_pos (by omega), if_pos (by omega), List.getElem?_set_self (by omega), List.getElem?_eq_getElem (by omega)]
      · rw [if_neg (by omega), if_neg (by omega)]
theorem toIntS_ev (l : List Int) (hl : l.length ≤ 35184372088832) : Ev (fun k => laws_toIntS.f k l) l := by
  simp only [laws_toIntS.f, Int.toNat_natCast, if_pos (show (0 : Int) ≤ (l.length : Int) by omega), if_pos hl]
  exact toIntS_l0 l hl l.length 0 _ (by omega) (by simp) (by simp)

-- part: eqLoop
theorem eqIntS_l0 (F : Nat → List Int → List Int → Int → Option Bool)
    (h0 : ∀ k a b i, F (k + 1) a b i = if i < (a.length : Int) then (if 0 ≤ i then (if i < (b.length : Int) then (if (rd a i) = (rd b i) then (F k a b (wrap64 (i + 1))) else (some false)) else none) else none) else some true)
    (a b : List Int) (hl : a.length = b.length) (hb : a.length ≤ 140737488351232) : ∀ (d i : Nat), i + d = a.length → a.take i = b.take i → Ev (fun k => F k a b i) (decide (a = b)) := by
  intro d
  induction d with
  | zero =>
    intro i h ht
    refine ev_s ?_
    simp only [h0]
    simp only [if_neg (show ¬ ((i : Int) < (a.length : Int)) by omega)]
    rw [List.take_of_length_le (by omega), List.take_of_length_le (by omega)] at ht
    simp only [ht, decide_true]; exact Ev.now _
  | succ d ih =>
    intro i h ht
    refine ev_s ?_
    simp only [h0]
    simp only [if_pos (show (i : Int) < (a.length : Int) by omega), if_pos (show (0 : Int) ≤ (i : Int) by omega), if_pos (show (i : Int) < (b.length : Int) by omega), show wrap64 ((i : Int) + 1) = ((i + 1 : Nat) : Int) by rw [wrap_in (by omega) (by omega)]; rfl]
    rw [rd_get (show i < a.length by omega), rd_get (show i < b.length by omega)]
    by_cases he : a[i] = b[i]
    · simp only [if_pos he]
      refine ih (i + 1) (by omega) ?_
      rw [List.take_succ_eq_append_getElem (by omega), List.take_succ_eq_append_getElem (by omega), ht, he]
    · simp only [if_neg he]
      refine ev_now (Eq.symm (decide_eq_false (fun hab => he ?_)))
      subst hab; rfl

-- part: eqIntS
theorem eqIntS_ev (a b : List Int) (hb : a.length ≤ 140737488351232) : Ev (fun k => laws_eqIntS.f k a b) (decide (a = b)) := by
  simp only [laws_eqIntS.f]
  by_cases hl : a.length = b.length
  · simp only [if_pos (show (a.length : Int) = (b.length : Int) by omega)]
    exact eqIntS_l0 laws_eqIntS.l0 (fun _ _ _ _ => rfl) a b hl hb a.length 0 (by omega) (by simp)
  · simp only [if_neg (show ¬ ((a.length : Int) = (b.length : Int)) by omega)]
    exact ev_now (Eq.symm (decide_eq_false (fun hab => hl (by rw [hab]))))

-- part: mark
/-! ### marks -/
def marksOf (a n : Nat) : List Int := (List.range n).map (fun i => ((a + i : Nat) : Int))
theorem marksOf_length (a n : Nat) : (marksOf a n).length = n := by simp [marksOf]
theorem markIntS_l0 (a : Nat) (n : Nat) (hn : a + n ≤ 1000000000000000) : ∀ (d i : Nat) (x : List Int), i + d = n → x.length = n → x.take i = marksOf a i → Ev (fun k => laws_markIntS.l0 k x ((a + i : Nat) : Int) (i : Int)) (((a + n : Nat) : Int), marksOf a n) := by
  intro d
  induction d with
  | zero =>
    intro i x h hx ht
    refine ev_s ?_
    simp only [laws_markIntS.l0, if_neg (show ¬ ((i : Int) < (x.length : Int)) by omega)]
    rw [List.take_of_length_le (by omega)] at ht
    obtain rfl : i = n := by omega
    rw [← ht]; exact Ev.now _
  | succ d ih =>
    intro i x h hx ht
    refine ev_s ?_
    simp only [laws_markIntS.l0, if_pos (show (i : Int) < (x.length : Int) by omega), if_pos (show (0 : Int) ≤ (i : Int) by omega), Int.toNat_natCast, show wrap64 ((i : Int) + 1) = ((i + 1 : Nat) : Int) by rw [wrap_in (by omega) (by omega)]; rfl, show wrap64 (((a + i : Nat) : Int) + 1) = ((a + (i + 1) : Nat) : Int) by rw [wrap_in (by omega) (by omega)]; omega]
    refine ih (i + 1) _ (by omega) (by simpa using hx) ?_
    have e : marksOf a (i + 1) = marksOf a i ++ [((a + i : Nat) : Int)] := by simp [marksOf, List.range_succ]
    rw [e, ← ht, List.take_succ_eq_append_getElem (by simp; omega), List.getElem_set_self]
    congr 1
    rw [List.take_set_of_le (by omega)]
theorem markIntS_ev (l : List Int) (a : Nat) (hn : a + l.length ≤ 1000000000000000) : Ev (fun k => laws_markIntS.f k l (a : Int)) (((a + l.length : Nat) : Int), marksOf a l.length) :=
  markIntS_l0 a l.length hn l.length 0 l (by omega) rfl (by simp [marksOf])
theorem heldIntS_l0 (a n : Nat) (hn : a + n ≤ 1000000000000000) : ∀ (d i : Nat), i + d = n → Ev (fun k => laws_heldIntS.l0 k (marksOf a n) ((a + i : Nat) : Int) (i : Int)) ((a + n : Nat) : Int) := by
  intro d
  induction d with
  | zero =>
    intro i h
    refine ev_s ?_
    simp only [laws_heldIntS.l0, marksOf_length, if_neg (show ¬ ((i : Int) < (n : Int)) by omega)]
    exact ev_now (by rw [show i = n by omega])
  | succ d ih =>
    intro i h
    refine ev_s ?_
    have hr : rd (marksOf a n) (i : Int) = ((a + i : Nat) : Int) := by rw [rd_get (by rw [marksOf_length]; omega)]; simp [marksOf]
    simp only [laws_heldIntS.l0, marksOf_length, if_pos (show (i : Int) < (n : Int) by omega), if_pos (show (0 : Int) ≤ (i : Int) by omega), hr, if_true, show wrap64 ((i : Int) + 1) = ((i + 1 : Nat) : Int) by rw [wrap_in (by omega) (by omega)]; rfl, show wrap64 (((a + i : Nat) : Int) + 1) = ((a + (i + 1) : Nat) : Int) by rw [wrap_in (by omega) (by omega)]; omega]
    exact ih (i + 1) (by omega)
theorem heldIntS_ev (a n : Nat) (hn : a + n ≤ 1000000000000000) : Ev (fun k => laws_heldIntS.f k (marksOf a n) (a : Int)) ((a + n : Nat) : Int) :=
  heldIntS_l0 a n hn n 0 (by omega)

-- part: l1In
theorem l1In_eq (n lo hi : Int) : spec_l1In.f n lo hi = some (decide (lo ≤ n ∧ n ≤ hi)) := by
  unfold spec_l1In.f
  by_cases h : n ≥ lo
  · rw [if_pos h]; simp [show lo ≤ n from h]
  · rw [if_neg h]; simp [show ¬ lo ≤ n from h]

-- part: O
/-! ### ordinals -/
/-- An ordinal: a sum of terms w^e * n. -/
inductive O where
  | z : O
  | c (n : Nat) (e r : O) : O

-- part: oAppDef
def O.app : O → O → O
  | .z, y => y
  | .c n e r, y => .c n e (O.app r y)
theorem O.app_z : ∀ x : O, O.app x .z = x
  | .z => rfl
  | .c n e r => by rw [O.app, O.app_z r]

-- part: coreO
def O.cmp : O → O → Ordering
  | .z, .z => .eq
  | .z, .c .. => .lt
  | .c .., .z => .gt
  | .c n e r, .c m f s => ((O.cmp e f).then (compare n m)).then (O.cmp r s)

theorem O.cmp_self : ∀ a : O, O.cmp a a = .eq
  | .z => rfl
  | .c n e r => by
    have h1 := O.cmp_self e
    have h2 := O.cmp_self r
    simp [O.cmp, h1, h2]

theorem O.eq_of_cmp : ∀ a b : O, O.cmp a b = .eq → a = b
  | .z, .z => fun _ => rfl
  | .z, .c .. => fun h => by simp [O.cmp] at h
  | .c .., .z => fun h => by simp [O.cmp] at h
  | .c n e r, .c m f s => fun h => by
    simp only [O.cmp, Ordering.then_eq_eq] at h
    obtain ⟨⟨h1, h2⟩, h3⟩ := h
    rw [O.eq_of_cmp e f h1, O.eq_of_cmp r s h3, Nat.compare_eq_eq.mp h2]

theorem O.cmp_swap : ∀ a b : O, (O.cmp a b).swap = O.cmp b a
  | .z, .z => rfl
  | .z, .c .. => rfl
  | .c .., .z => rfl
  | .c n e r, .c m f s => by
    have h1 := O.cmp_swap e f
    have h2 := O.cmp_swap r s
    simp only [O.cmp, Ordering.swap_then, h1, h2, Nat.compare_swap]

theorem O.cmp_gt_iff (a b : O) : O.cmp a b = .gt ↔ O.cmp b a = .lt := by
  rw [← O.cmp_swap a b]
  cases O.cmp a b <;> simp [Ordering.swap]

theorem O.lt_trans : ∀ a b c : O, O.cmp a b = .lt → O.cmp b c = .lt → O.cmp a c = .lt
  | .z, .z, _ => fun h => by simp [O.cmp] at h
  | .c .., .z, _ => fun h => by simp [O.cmp] at h
  | .z, .c .., .z => fun _ h => by simp [O.cmp] at h
  | .z, .c .., .c .. => fun _ _ => rfl
  | .c .., .c .., .z => fun _ h => by simp [O.cmp] at h
  | .c n e r, .c m f s, .c k g t => fun h1 h2 => by
    simp only [O.cmp, Ordering.then_eq_lt] at h1 h2 ⊢
    rcases h1 with (h1 | ⟨h1, h1'⟩) | ⟨h1, h1'⟩
    · rcases h2 with (h2 | ⟨h2, h2'⟩) | ⟨h2, h2'⟩
      · exact .inl (.inl (O.lt_trans _ _ _ h1 h2))
      · rw [← O.eq_of_cmp _ _ h2]; exact .inl (.inl h1)
      · rw [Ordering.then_eq_eq] at h2; rw [← O.eq_of_cmp _ _ h2.1]; exact .inl (.inl h1)
    · have := O.eq_of_cmp _ _ h1; subst this
      rcases h2 with (h2 | ⟨h2, h2'⟩) | ⟨h2, h2'⟩
      · exact .inl (.inl h2)
      · have h3 := O.eq_of_cmp _ _ h2; subst h3
        rw [Nat.compare_eq_lt] at h1' h2'
        exact .inl (.inr ⟨h2, Nat.compare_eq_lt.mpr (by omega)⟩)
      · rw [Ordering.then_eq_eq] at h2; rw [← Nat.compare_eq_eq.mp h2.2]; exact .inl (.inr ⟨h2.1, h1'⟩)
    · rw [Ordering.then_eq_eq] at h1
      have := O.eq_of_cmp _ _ h1.1; subst this
      have := Nat.compare_eq_eq.mp h1.2; subst this
      rcases h2 with (h2 | ⟨h2, h2'⟩) | ⟨h2, h2'⟩
      · exact .inl (.inl h2)
      · exact .inl (.inr ⟨h2, h2'⟩)
      · exact .inr ⟨h2, O.lt_trans _ _ _ h1' h2'⟩

theorem O.cmp_tri (a b : O) : O.cmp a b = .lt ∨ a = b ∨ O.cmp b a = .lt := by
  cases h : O.cmp a b with
  | lt => exact .inl rfl
  | eq => exact .inr (.inl (O.eq_of_cmp _ _ h))
  | gt => exact .inr (.inr ((O.cmp_gt_iff _ _).mp h))

theorem O.lt_irrefl (a : O) : O.cmp a a ≠ .lt := by rw [O.cmp_self]; simp
theorem O.lt_asymm {a b : O} (h : O.cmp a b = .lt) : O.cmp b a ≠ .lt := fun h' => O.lt_irrefl a (O.lt_trans _ _ _ h h')

/-- The first exponent is less than e. -/
def O.hd (e : O) : O → Prop
  | .z => True
  | .c _ f _ => O.cmp f e = .lt

/-- A normal form. -/
def O.NF : O → Prop
  | .z => True
  | .c n e r => 1 ≤ n ∧ O.NF e ∧ O.NF r ∧ O.hd e r

-- part: coreIns
/-- The natural sum with w^e. -/
def O.ins (e : O) : O → O
  | .z => .c 1 e .z
  | .c n f r => match O.cmp f e with
    | .gt => .c n f (O.ins e r)
    | .eq => .c (n + 1) f r
    | .lt => .c 1 e (.c n f r)

theorem O.hd_trans {e f : O} (h : O.cmp e f = .lt) : ∀ {x : O}, O.hd e x → O.hd f x
  | .z, _ => trivial
  | .c .., h' => O.lt_trans _ _ _ h' h

theorem O.ins_hd {e g : O} (h : O.cmp e g = .lt) : ∀ {x : O}, O.hd g x → O.hd g (O.ins e x)
  | .z, _ => h
  | .c n f r, h' => by
    unfold O.ins
    cases hc : O.cmp f e with
    | gt => exact h'
    | eq => exact h'
    | lt => exact h

theorem O.ins_NF {e : O} (he : O.NF e) : ∀ {x : O}, O.NF x → O.NF (O.ins e x)
  | .z, _ => ⟨Nat.le_refl _, he, trivial, trivial⟩
  | .c n f r, h => by
    obtain ⟨h1, h2, h3, h4⟩ := h
    unfold O.ins
    cases hc : O.cmp f e with
    | gt => exact ⟨h1, h2, O.ins_NF he h3, O.ins_hd ((O.cmp_gt_iff _ _).mp hc) h4⟩
    | eq => exact ⟨by omega, h2, h3, h4⟩
    | lt => exact ⟨Nat.le_refl _, he, ⟨h1, h2, h3, h4⟩, hc⟩

theorem O.ins_big {e : O} : ∀ {x : O}, O.hd e x → O.ins e x = .c 1 e x
  | .z, _ => rfl
  | .c n f r, h => by unfold O.ins; rw [show O.cmp f e = .lt from h]

theorem O.ins_comm (e f : O) : ∀ x : O, O.NF x → O.ins e (O.ins f x) = O.ins f (O.ins e x)
  | .z, _ => by
    rcases O.cmp_tri e f with h | h | h
    · have h' := (O.cmp_gt_iff f e).mpr h
      simp [O.ins, h, h']
    · subst h; rfl
    · have h' := (O.cmp_gt_iff e f).mpr h
      simp [O.ins, h, h']
  | .c n g r, hx => by
    have ih := O.ins_comm e f r hx.2.2.1
    have hg : O.hd g r := hx.2.2.2
    rcases O.cmp_tri e g with he | he | he
    · have he' := (O.cmp_gt_iff g e).mpr he
      rcases O.cmp_tri f g with hf | hf | hf
      · have hf' := (O.cmp_gt_iff g f).mpr hf
        simp [O.ins, he', hf', ih]
      · subst hf; simp [O.ins, he', O.cmp_self]
      · simp only [O.ins, he', hf]
        rw [(O.cmp_gt_iff f e).mpr (O.lt_trans _ _ _ he hf)]
        try simp [O.ins, he']
    · subst he
      rcases O.cmp_tri f e with hf | hf | hf
      · have hf' := (O.cmp_gt_iff e f).mpr hf
        simp [O.ins, hf', O.cmp_self]
      · subst hf; rfl
      · have hf' := (O.cmp_gt_iff f e).mpr hf
        simp [O.ins, hf, hf', O.cmp_self]
    · rcases O.cmp_tri f g with hf | hf | hf
      · have hf' := (O.cmp_gt_iff g f).mpr hf
        simp only [O.ins, he, hf']
        rw [(O.cmp_gt_iff e f).mpr (O.lt_trans _ _ _ hf he)]
        try simp [O.ins, hf']
      · subst hf
        have he' := (O.cmp_gt_iff e f).mpr he
        simp [O.ins, he, he', O.cmp_self]
      · rcases O.cmp_tri e f with h | h | h
        · have h' := (O.cmp_gt_iff f e).mpr h
          simp [O.ins, he, hf, h, h']
        · subst h; rfl
        · have h' := (O.cmp_gt_iff e f).mpr h
          simp [O.ins, he, hf, h, h']

theorem O.lt_ins (e : O) : ∀ x : O, O.cmp x (O.ins e x) = .lt
  | .z => rfl
  | .c n f r => by
    unfold O.ins
    cases hc : O.cmp f e with
    | gt => simp [O.cmp, O.cmp_self, O.lt_ins e r]
    | eq => simp [O.cmp, O.cmp_self, Nat.compare_eq_lt.mpr (Nat.lt_succ_self n)]
    | lt => simp [O.cmp, hc]

/-- ins, so many times. -/
def O.insk (e : O) : Nat → O → O
  | 0, x => x
  | k + 1, x => O.ins e (O.insk e k x)

theorem O.insk_NF {e : O} (he : O.NF e) {x : O} (hx : O.NF x) : ∀ k, O.NF (O.insk e k x)
  | 0 => hx
  | k + 1 => O.ins_NF he (O.insk_NF he hx k)
theorem O.insk_hd {e g : O} (h : O.cmp e g = .lt) {x : O} (hx : O.hd g x) : ∀ k, O.hd g (O.insk e k x)
  | 0 => hx
  | k + 1 => O.ins_hd h (O.insk_hd h hx k)
theorem O.insk_low {e f : O} (h : O.cmp e f = .lt) (n : Nat) (r : O) : ∀ k, O.insk e k (.c n f r) = .c n f (O.insk e k r)
  | 0 => rfl
  | k + 1 => by simp only [O.insk, O.insk_low h n r k, O.ins, (O.cmp_gt_iff f e).mpr h]

theorem O.hd_lt {e : O} : ∀ {x : O}, O.hd e x → ∀ n r, O.cmp x (.c n e r) = .lt
  | .z, _, _, _ => rfl
  | .c _ _ _, h, _, _ => by simp [O.cmp, show O.cmp _ _ = _ from h]

/-- However many lesser ones are put in, it is less. -/
theorem O.insk_lt {e f : O} (h : O.cmp e f = .lt) (k : Nat) : ∀ x : O, O.cmp (O.insk e k x) (O.ins f x) = .lt
  | .z => O.hd_lt (O.insk_hd (x := .z) h trivial k) 1 .z
  | .c n g r => by
    rcases O.cmp_tri f g with hf | hf | hf
    · have hf' := (O.cmp_gt_iff g f).mpr hf
      rw [O.insk_low (O.lt_trans _ _ _ h hf)]
      simp [O.ins, hf', O.cmp, O.cmp_self, O.insk_lt h k r]
    · subst hf
      rw [O.insk_low h]
      simp [O.ins, O.cmp_self, O.cmp, Nat.compare_eq_lt.mpr (Nat.lt_succ_self n)]
    · have : O.ins f (.c n g r) = .c 1 f (.c n g r) := O.ins_big (x := .c n g r) hf
      rw [this]
      exact O.hd_lt (O.insk_hd h (x := .c n g r) hf k) _ _

/-- The order stays. -/
theorem O.ins_mono (e : O) : ∀ a b : O, O.NF a → O.NF b → O.cmp a b = .lt → O.cmp (O.ins e a) (O.ins e b) = .lt
  | .z, .z, _, _, h => by simp [O.cmp] at h
  | .c .., .z, _, _, h => by simp [O.cmp] at h
  | .z, .c n f r, _, _, _ => by
    unfold O.ins
    cases hc : O.cmp f e with
    | gt => simp [O.cmp, (O.cmp_gt_iff f e).mp hc]
    | eq =>
      have := O.eq_of_cmp _ _ hc; subst this
      rename_i hb _
      have h1 : 1 ≤ n := hb.1
      simp only [O.cmp, O.cmp_self, Ordering.eq_then]
      rw [Nat.compare_eq_lt.mpr (show 1 < n + 1 by omega)]; rfl
    | lt => simp [O.cmp, O.cmp_self]
  | .c n f r, .c m g s, ha, hb, h => by
    have hab := h
    rw [O.cmp, Ordering.then_eq_lt, Ordering.then_eq_lt] at h
    rcases O.cmp_tri f g with hfg | hfg | hfg
    · -- f < g
      rcases O.cmp_tri e g with heg | heg | heg
      · rw [show O.ins e (.c m g s) = .c m g (O.ins e s) by simp [O.ins, (O.cmp_gt_iff g e).mpr heg]]
        exact O.hd_lt (O.ins_hd heg (x := .c n f r) hfg) _ _
      · subst heg
        rw [O.ins_big (x := .c n f r) hfg, show O.ins e (.c m e s) = .c (m + 1) e s by simp [O.ins, O.cmp_self]]
        have h1 : 1 ≤ m := hb.1
        simp only [O.cmp, O.cmp_self, Ordering.eq_then]
        rw [Nat.compare_eq_lt.mpr (show 1 < m + 1 by omega)]; rfl
      · rw [O.ins_big (x := .c n f r) (O.lt_trans _ _ _ hfg heg), O.ins_big (x := .c m g s) heg]
        simp [O.cmp, O.cmp_self, hfg]
    · subst hfg
      have h' : n < m ∨ n = m ∧ O.cmp r s = .lt := by
        rcases h with (h | ⟨_, h⟩) | ⟨h, h'⟩
        · exact absurd h (O.lt_irrefl _)
        · exact .inl (Nat.compare_eq_lt.mp h)
        · rw [Ordering.then_eq_eq] at h; exact .inr ⟨Nat.compare_eq_eq.mp h.2, h'⟩
      rcases O.cmp_tri e f with hef | hef | hef
      · have hef' := (O.cmp_gt_iff f e).mpr hef
        rw [show O.ins e (.c n f r) = .c n f (O.ins e r) by simp [O.ins, hef'], show O.ins e (.c m f s) = .c m f (O.ins e s) by simp [O.ins, hef']]
        rcases h' with h' | ⟨h', h''⟩
        · simp [O.cmp, O.cmp_self, Nat.compare_eq_lt.mpr h']
        · subst h'
          have := O.ins_mono e r s ha.2.2.1 hb.2.2.1 h''
          simp [O.cmp, O.cmp_self, this]
      · subst hef
        rw [show O.ins e (.c n e r) = .c (n + 1) e r by simp [O.ins, O.cmp_self], show O.ins e (.c m e s) = .c (m + 1) e s by simp [O.ins, O.cmp_self]]
        rcases h' with h' | ⟨h', h''⟩
        · simp [O.cmp, O.cmp_self, Nat.compare_eq_lt.mpr (show n + 1 < m + 1 by omega)]
        · subst h'
          simp [O.cmp, O.cmp_self, h'']
      · rw [O.ins_big (x := .c n f r) hef, O.ins_big (x := .c m f s) hef]
        simpa [O.cmp, O.cmp_self] using hab
    · exfalso
      rcases h with (h | ⟨h, _⟩) | ⟨h, _⟩
      · exact O.lt_asymm h hfg
      · exact O.lt_irrefl g (by rw [O.eq_of_cmp _ _ h] at hfg; exact hfg)
      · rw [Ordering.then_eq_eq] at h
        exact O.lt_irrefl g (by rw [O.eq_of_cmp _ _ h.1] at hfg; exact hfg)

-- part: H
/-! ### hydras -/
/-- A hydra: its branches. -/
inductive H where
  | nul : H
  | cons (b r : H) : H

-- part: hRow
/-! ### hydras as rows -/
def H.len : H → Nat
  | .nul => 0
  | .cons _ r => H.len r + 1
def H.body : H → List Int
  | .nul => []
  | .cons b r => (H.len b : Int) :: (H.body b ++ H.body r)
def H.row (h : H) : List Int := (h.len : Int) :: h.body
theorem H.body_cons (b r : H) : (H.cons b r).body = b.row ++ r.body := rfl
theorem H.row_length (h : H) : h.row.length = h.body.length + 1 := by simp [H.row]
theorem H.len_le : ∀ h : H, h.len ≤ h.body.length
  | .nul => Nat.le_refl _
  | .cons b r => by have := H.len_le r; simp only [H.len, H.body, List.length_cons, List.length_append]; omega
/-- So many trees can't be read at the beginning of a row. -/
inductive BadN : Nat → List Int → Prop where
  | nil (m : Nat) : BadN (m + 1) []
  | out (m : Nat) (x : Int) (r : List Int) (h : x < 0 ∨ 60 < x) : BadN (m + 1) (x :: r)
  | deep (m : Nat) (x : Int) (r : List Int) (h0 : 0 ≤ x) (h1 : x ≤ 60) (h : BadN x.toNat r) : BadN (m + 1) (x :: r)
  | next (m : Nat) (b : H) (t : List Int) (hb : b.row.length ≤ 60) (h : BadN m t) : BadN (m + 1) (b.row ++ t)
/-- Either so many trees can be read, or not. -/
theorem read_total : ∀ (n : Nat), n ≤ 60 → ∀ (m : Nat) (l : List Int), l.length ≤ n → (∃ s t, l = H.body s ++ t ∧ s.len = m) ∨ BadN m l
  | n, hn, 0, l, _ => .inl ⟨.nul, l, rfl, rfl⟩
  | n, hn, m + 1, [], _ => .inr (.nil m)
  | 0, hn, m + 1, x :: r, h => by simp at h
  | n + 1, hn, m + 1, x :: r, h => by
    simp only [List.length_cons, Nat.add_le_add_iff_right] at h
    by_cases hx : x < 0 ∨ 60 < x
    · exact .inr (.out m x r hx)
    · rcases read_total n (by omega) x.toNat r h with ⟨s, t, hs, hl⟩ | hb
      · have hxl : x = (s.len : Int) := by omega
        have he : x :: r = s.row ++ t := by rw [hs, hxl]; rfl
        have hlr : r.length = s.body.length + t.length := by rw [hs, List.length_append]
        have hlen : t.length ≤ n := by omega
        rcases read_total n (by omega) m t hlen with ⟨s2, t2, hs2, hl2⟩ | hb
        · refine .inl ⟨.cons s s2, t2, ?_, by rw [H.len, hl2]⟩
          rw [he, hs2, H.body_cons, List.append_assoc]
        · rw [he]
          exact .inr (.next m s t (by rw [H.row_length]; omega) hb)
      · exact .inr (.deep m x r (by omega) (by omega) hb)
theorem H.body_inj : ∀ (s s' : H) (t t' : List Int), s.len = s'.len → s.body ++ t = s'.body ++ t' → s = s' ∧ t = t'
  | .nul, .nul, t, t', _, h => ⟨rfl, h⟩
  | .nul, .cons .., _, _, h, _ => by simp [H.len] at h
  | .cons .., .nul, _, _, h, _ => by simp [H.len] at h
  | .cons b r, .cons b' r', t, t', hl, h => by
    simp only [H.len, Nat.add_right_cancel_iff] at hl
    simp only [H.body, List.cons_append, List.append_assoc, List.cons.injEq] at h
    obtain ⟨h1, h2⟩ := h
    obtain ⟨h3, h4⟩ := H.body_inj b b' _ _ (by omega) h2
    obtain ⟨h5, h6⟩ := H.body_inj r r' _ _ hl h4
    exact ⟨by rw [h3, h5], h6⟩
theorem H.row_inj {g h : H} (e : g.row = h.row) : g = h := by
  simp only [H.row, List.cons.injEq] at e
  exact (H.body_inj g h [] [] (by omega) (by rw [e.2])).1

-- part: hTake
/-! ### reading rows: the program's and the reference's -/
def H.terms : H → List S46
  | .nul => []
  | .cons b r => ⟨H.terms b⟩ :: H.terms r
theorem H.terms_len : ∀ h : H, h.terms.length = h.len
  | .nul => rfl
  | .cons b r => by rw [H.terms, H.len, List.length_cons, H.terms_len r]
theorem rd_T46_mid (pre suf : List S46) (x : S46) : rd_T46 (pre ++ x :: suf) ((pre.length : Nat) : Int) = x := by simp [rd_T46]
theorem rd_cons (x : Int) (l : List Int) : rd (x :: l) 0 = x := rfl
/-! the reference -/
/-! a row is a hydra's, or not -/
theorem hydra_cases (l : List Int) : (∃ h : H, l = h.row ∧ l.length ≤ 60) ∨ (60 < l.length ∨ l = [] ∨ BadN 1 l ∨ ∃ (h : H) (x : Int) (t : List Int), l = h.row ++ x :: t) := by
  by_cases h60 : l.length ≤ 60
  · rcases read_total 60 (Nat.le_refl _) 1 l h60 with ⟨s, t, hs, hl⟩ | hb
    · rcases s with _ | ⟨b, r⟩
      · simp [H.len] at hl
      · rcases r with _ | ⟨b2, r2⟩
        · have e : l = b.row ++ t := by rw [hs, H.body_cons]; simp [H.body]
          rcases t with _ | ⟨x, t⟩
          · exact .inl ⟨b, by rw [e, List.append_nil], h60⟩
          · exact .inr (.inr (.inr (.inr ⟨b, x, t, e⟩)))
        · simp [H.len] at hl
    · exact .inr (.inr (.inr (.inl hb)))
  · exact .inr (.inl (by omega))
def NoHydra (l : List Int) : Prop := 60 < l.length ∨ l = [] ∨ BadN 1 l ∨ ∃ (h : H) (x : Int) (t : List Int), l = h.row ++ x :: t
theorem hydra_or (l : List Int) : (∃ h : H, l = h.row ∧ h.row.length ≤ 60) ∨ NoHydra l := by
  rcases hydra_cases l with ⟨h, e, hl⟩ | h
  · exact .inl ⟨h, e, e ▸ hl⟩
  · exact .inr h

-- part: l5Branches
def H.rows : H → List (List Int)
  | .nul => []
  | .cons b r => b.row :: H.rows r
theorem H.rows_len : ∀ h : H, h.rows.length = h.len
  | .nul => rfl
  | .cons b r => by rw [H.rows, H.len, List.length_cons, H.rows_len r]
theorem H.rows_flat : ∀ h : H, h.rows.flatten = h.body
  | .nul => rfl
  | .cons b r => by rw [H.rows, List.flatten_cons, H.rows_flat r, H.body_cons]
theorem rd_L1_mid (pre suf : List (List Int)) (x : List Int) : rd_L1 (pre ++ x :: suf) ((pre.length : Nat) : Int) = x := by simp [rd_L1]

-- part: hGrown
/-! ### rows of hydras, written -/
theorem row_l0 : ∀ (s : H) (pre : List S46) (a : List Int), pre.length + s.body.length ≤ 1000000 → a.length + s.body.length ≤ 1000000 →
    Ev (fun k => impl_hydra_row.l0 k a (pre ++ s.terms) (((pre ++ s.terms).length : Nat) : Int) (pre.length : Int)) (a ++ s.body)
  | .nul, pre, a, _, _ => by
    refine ev_s ?_
    simp only [impl_hydra_row.l0, H.terms, H.body, List.append_nil, Int.lt_irrefl, if_false]
    exact Ev.now _
  | .cons b r, pre, a, hp, ha => by
    have hrl := H.row_length b
    simp only [H.body, List.length_cons, List.length_append] at hp ha
    have hE : Ev (fun k => impl_hydra_row.f k b.terms) b.row := by
      refine ev_s ?_
      simp only [impl_hydra_row.f]
      have := row_l0 b [] [(b.len : Int)] (by simp; omega) (by simp; omega)
      rw [List.nil_append] at this
      simp only [H.terms_len] at this ⊢
      exact this
    have hlen : (pre ++ (H.cons b r).terms).length = pre.length + (r.terms.length + 1) := by simp [H.terms]
    have hmid : rd_T46 (pre ++ (H.cons b r).terms) (pre.length : Int) = ⟨b.terms⟩ := rd_T46_mid pre r.terms ⟨b.terms⟩
    have happ : pre ++ (H.cons b r).terms = (pre ++ [⟨b.terms⟩]) ++ r.terms := by simp [H.terms]
    have ew : wrap64 ((pre.length : Int) + 1) = (((pre ++ [(⟨b.terms⟩ : S46)]).length : Nat) : Int) := by
      rw [List.length_append, List.length_singleton]; exact wrap_nat2 pre.length 1 (by omega)
    have g1 : (pre.length : Int) < (((pre ++ (H.cons b r).terms).length : Nat) : Int) := by omega
    refine ev_s ?_
    simp only [impl_hydra_row.l0, if_pos g1, if_pos (show (0 : Int) ≤ (pre.length : Int) from Int.natCast_nonneg _), hmid]
    refine Ev.bind hE ?_
    simp only [if_pos (show a.length + b.row.length < 17592186044416 by omega), ew]
    rw [happ, H.body_cons, ← List.append_assoc]
    exact row_l0 r (pre ++ [⟨b.terms⟩]) (a ++ b.row) (by simp only [List.length_append, List.length_singleton]; omega) (by rw [List.length_append]; omega)
theorem row_ev {h : H} (hl : h.row.length ≤ 100000) : Ev (fun k => impl_hydra_row.f k h.terms) h.row := by
  rw [H.row_length] at hl
  refine ev_s ?_
  simp only [impl_hydra_row.f]
  have := row_l0 h [] [(h.len : Int)] (by simp; omega) (by simp; omega)
  rw [List.nil_append] at this
  simp only [H.terms_len] at this ⊢
  exact this
theorem grown_ev {h : H} (hl : h.row.length ≤ 100000) : Ev (fun k => impl_grown.f k h.terms) (if h.row.length ≤ 60 then (h.row, true) else ([], false)) := by
  simp only [impl_grown.f]
  refine Ev.bind (row_ev hl) ?_
  by_cases h60 : h.row.length ≤ 60
  · simp only [if_neg (show ¬ ((h.row.length : Int) > 60) by omega), if_pos h60, slices_Clip_int_int.f, Option.bind_some]
    exact Ev.now _
  · simp only [if_pos (show ((h.row.length : Int) > 60) by omega), if_neg h60]
    exact Ev.now _

-- part: oRow
def O.len : O → Nat
  | .z => 0
  | .c _ _ r => O.len r + 1
def O.body : O → List Int
  | .z => []
  | .c n e r => (n : Int) :: (O.len e : Int) :: (O.body e ++ O.body r)
def O.row (o : O) : List Int := (O.len o : Int) :: O.body o
theorem O.len_le : ∀ o : O, o.len ≤ o.body.length
  | .z => Nat.le_refl _
  | .c n e r => by have := O.len_le r; simp only [O.len, O.body, List.length_cons, List.length_append]; omega
/-- These terms are this ordinal. -/
inductive IsO : List S72 → O → Prop where
  | nil : IsO [] .z
  | cons {n : Nat} {e r : List S72} {oe or_ : O} (he : IsO e oe) (hr : IsO r or_) : IsO (⟨(n : Int), e⟩ :: r) (.c n oe or_)
theorem IsO.len {l : List S72} {o : O} (h : IsO l o) : l.length = o.len := by
  induction h with
  | nil => rfl
  | cons he hr ihe ihr => simp [O.len, ihr]
theorem rd_T72_mid (pre suf : List S72) (x : S72) : rd_T72 (pre ++ x :: suf) ((pre.length : Nat) : Int) = x := by simp [rd_T72]
def O.num (n : Nat) : O := if n = 0 then .z else .c n .z .z

-- part: oTerms
/-! ### reading ordinals back -/
/-- The terms of an ordinal. -/
def O.terms : O → List S72
  | .z => []
  | .c n e r => ⟨(n : Int), O.terms e⟩ :: O.terms r
theorem O.terms_is : ∀ o : O, IsO o.terms o
  | .z => .nil
  | .c n e r => .cons (O.terms_is e) (O.terms_is r)
theorem IsO.terms {l : List S72} {o : O} (h : IsO l o) : l = o.terms := by
  induction h with
  | nil => rfl
  | cons _ _ h1 h2 => rw [O.terms, h1, h2]
theorem O.terms_len (o : O) : o.terms.length = o.len := IsO.len o.terms_is
def ordI : Ordering → Int
  | .lt => -1
  | .eq => 0
  | .gt => 1
theorem ordI_swap (o : Ordering) : ordI o.swap = -ordI o := by cases o <;> rfl
theorem ordI_zero {o : Ordering} : ordI o = 0 ↔ o = .eq := by cases o <;> decide
theorem ordI_neg {o : Ordering} : ordI o < 0 ↔ o = .lt := by cases o <;> decide
theorem cmpInt_nat (x y : Nat) : cmp_Compare_int.f (x : Int) (y : Int) = some (ordI (compare x y)) := by
  simp only [cmp_Compare_int.f, cmp_isNaN_int.f, Option.bind_some, bne_self_eq_false, Bool.false_eq_true, if_false]
  by_cases h1 : x < y
  · rw [if_pos (show (x : Int) < (y : Int) by omega), Nat.compare_eq_lt.mpr h1]; rfl
  · by_cases h2 : y < x
    · rw [if_neg (show ¬ ((x : Int) < (y : Int)) by omega), if_pos (show (x : Int) > (y : Int) by omega), Nat.compare_eq_gt.mpr h2]; rfl
    · rw [if_neg (show ¬ ((x : Int) < (y : Int)) by omega), if_neg (show ¬ ((x : Int) > (y : Int)) by omega), Nat.compare_eq_eq.mpr (by omega)]; rfl
theorem ordI_then (a b : Ordering) : ordI (a.then b) = if ordI a = 0 then ordI b else ordI a := by cases a <;> rfl
theorem compare_step (n m : Nat) (e r f s : O) (pa pb : List S72) (hp : pa.length = pb.length) (hb : pa.length ≤ 1000000) (h1 : Ev (fun k => impl_compare.f k e.terms f.terms) (ordI (O.cmp e f)))
    (h2 : Ev (fun k => impl_compare.l0 k (pa ++ ((⟨(n : Int), O.terms e⟩ : S72) :: O.terms r)) (pb ++ ((⟨(m : Int), O.terms f⟩ : S72) :: O.terms s)) ((pa.length + 1 : Nat) : Int)) (ordI (O.cmp r s))) :
    Ev (fun k => impl_compare.l0 k (pa ++ ((⟨(n : Int), O.terms e⟩ : S72) :: O.terms r)) (pb ++ ((⟨(m : Int), O.terms f⟩ : S72) :: O.terms s)) (pa.length : Int)) (ordI (O.cmp (.c n e r) (.c m f s))) := by
  have hla : (pa ++ ((⟨(n : Int), O.terms e⟩ : S72) :: O.terms r)).length = pa.length + (r.terms.length + 1) := by simp
  have hlb : (pb ++ ((⟨(m : Int), O.terms f⟩ : S72) :: O.terms s)).length = pb.length + (s.terms.length + 1) := by simp
  have ea : rd_T72 (pa ++ ((⟨(n : Int), O.terms e⟩ : S72) :: O.terms r)) (pa.length : Int) = ⟨(n : Int), O.terms e⟩ := rd_T72_mid pa r.terms ⟨(n : Int), O.terms e⟩
  have eb : rd_T72 (pb ++ ((⟨(m : Int), O.terms f⟩ : S72) :: O.terms s)) (pa.length : Int) = ⟨(m : Int), O.terms f⟩ := by rw [hp]; exact rd_T72_mid pb s.terms ⟨(m : Int), O.terms f⟩
  generalize pa ++ ((⟨(n : Int), O.terms e⟩ : S72) :: O.terms r) = A at *
  generalize pb ++ ((⟨(m : Int), O.terms f⟩ : S72) :: O.terms s) = B at *
  have ew : wrap64 ((pa.length : Int) + 1) = ((pa.length + 1 : Nat) : Int) := wrap_nat2 pa.length 1 (by omega)
  have g1 : (pa.length : Int) < (A.length : Int) := by omega
  have g2 : (pa.length : Int) < (B.length : Int) := by omega
  refine ev_s ?_
  simp only [impl_compare.l0, if_pos g1, decide_eq_true g2]
  refine ev_s ?_
  simp only [impl_compare.j1, if_true, if_pos (show (0 : Int) ≤ (pa.length : Int) from Int.natCast_nonneg _), if_pos g1, if_pos g2, ea, eb, ew]
  refine Ev.bind h1 ?_
  rw [O.cmp, ordI_then, ordI_then]
  by_cases q1 : ordI (O.cmp e f) = 0
  · simp only [if_pos q1, cmpInt_nat, Option.bind_some]
    by_cases q2 : ordI (compare n m) = 0
    · simp only [if_pos q2]
      exact h2
    · simp only [if_neg q2]
      exact Ev.now _
  · simp only [if_neg q1]
    exact Ev.now _
theorem compare_l0 : ∀ (x y : O) (pa pb : List S72), pa.length = pb.length → pa.length + x.body.length ≤ 1000000 → pb.length + y.body.length ≤ 1000000 →
    Ev (fun k => impl_compare.l0 k (pa ++ x.terms) (pb ++ y.terms) (pa.length : Int)) (ordI (O.cmp x y))
  | .z, .z, pa, pb, hp, _, _ => by
    refine ev_s ?_
    simp only [impl_compare.l0, O.terms, List.append_nil, if_neg (show ¬ ((pa.length : Int) < (pa.length : Int)) by omega)]
    refine ev_s ?_
    simp only [impl_compare.j1, Bool.false_eq_true, if_false, cmpInt_nat, Option.bind_some, hp, Nat.compare_eq_eq.mpr]
    exact Ev.now _
  | .z, .c m f s, pa, pb, hp, _, _ => by
    refine ev_s ?_
    simp only [impl_compare.l0, O.terms, List.append_nil, if_neg (show ¬ ((pa.length : Int) < (pa.length : Int)) by omega)]
    refine ev_s ?_
    have hl : (pb ++ (⟨(m : Int), O.terms f⟩ :: O.terms s : List S72)).length = pb.length + (s.terms.length + 1) := by simp
    simp only [impl_compare.j1, Bool.false_eq_true, if_false, cmpInt_nat, Option.bind_some, hl, Nat.compare_eq_lt.mpr (show pa.length < pb.length + (s.terms.length + 1) by omega)]
    exact Ev.now _
  | .c n e r, .z, pa, pb, hp, _, _ => by
    refine ev_s ?_
    have hl : (pa ++ (⟨(n : Int), O.terms e⟩ :: O.terms r : List S72)).length = pa.length + (r.terms.length + 1) := by simp
    simp only [impl_compare.l0, O.terms, List.append_nil, hl, if_pos (show (pa.length : Int) < ((pa.length + (r.terms.length + 1) : Nat) : Int) by omega), decide_eq_false (show ¬ ((pa.length : Int) < (pb.length : Int)) by omega)]
    refine ev_s ?_
    simp only [impl_compare.j1, Bool.false_eq_true, if_false, hl, cmpInt_nat, Option.bind_some, Nat.compare_eq_gt.mpr (show pb.length < pa.length + (r.terms.length + 1) by omega)]
    exact Ev.now _
  | .c n e r, .c m f s, pa, pb, hp, ha, hb => by
    simp only [O.body, List.length_cons, List.length_append] at ha hb
    have ih1 : Ev (fun k => impl_compare.f k e.terms f.terms) (ordI (O.cmp e f)) := by
      have := compare_l0 e f [] [] rfl (by simp only [List.length_nil]; omega) (by simp only [List.length_nil]; omega)
      rw [List.nil_append, List.nil_append] at this
      refine ev_s ?_
      simp only [impl_compare.f]
      exact this
    have ih2 := compare_l0 r s (pa ++ [⟨(n : Int), e.terms⟩]) (pb ++ [⟨(m : Int), f.terms⟩]) (by simp only [List.length_append, List.length_singleton, hp]) (by simp only [List.length_append, List.length_singleton]; omega) (by simp only [List.length_append, List.length_singleton]; omega)
    simp only [List.append_assoc, List.singleton_append, List.length_append, List.length_singleton] at ih2
    exact compare_step n m e r f s pa pb hp (by omega) ih1 ih2
theorem compare_ev (x y : O) (hx : x.body.length ≤ 100000) (hy : y.body.length ≤ 100000) : Ev (fun k => impl_compare.f k x.terms y.terms) (ordI (O.cmp x y)) := by
  have := compare_l0 x y [] [] rfl (by simp; omega) (by simp; omega)
  rw [List.nil_append, List.nil_append] at this
  refine ev_s ?_
  simp only [impl_compare.f]
  exact this
/-- In reach of the reader: each sum has 60 terms at most, each number is in 1..9999, the exponents fall. -/
def O.Sm : O → Prop
  | .z => True
  | .c n e r => (1 ≤ n ∧ n ≤ 9999) ∧ (O.Sm e ∧ e.len ≤ 60) ∧ O.Sm r ∧ O.hd e r
theorem O.Sm.nf : ∀ {o : O}, o.Sm → o.NF
  | .z, _ => trivial
  | .c n e r, h => ⟨h.1.1, O.Sm.nf h.2.1.1, O.Sm.nf h.2.2.1, h.2.2.2⟩
/-- What stands last ahead: nothing, or a term with this exponent. -/
def LastE (pa : List S72) (r : O) : Prop := pa = [] ∨ ∃ pb m f, pa = pb ++ [⟨m, O.terms f⟩] ∧ f.body.length ≤ 100000 ∧ O.hd f r
theorem takeOrd_l0 : ∀ (r : O), r.Sm → ∀ (pa : List S72) (t : List Int), pa.length + r.len ≤ 60 → r.body.length ≤ 100000 → LastE pa r →
    Ev (fun k => impl_takeOrd.l0 k (r.body ++ t) pa ((pa.length + r.len : Nat) : Int) (pa.length : Int)) (pa ++ r.terms, t, true)
  | .z, _, pa, t, _, _, _ => by
    refine ev_s ?_
    simp only [impl_takeOrd.l0, O.len, O.body, O.terms, Nat.add_zero, List.nil_append, List.append_nil, Int.lt_irrefl, if_false]
    exact Ev.now _
  | .c n e r, hs, pa, t, hl, hb, hlast => by
    obtain ⟨hn, ⟨hse, hle⟩, hsr, hhd⟩ := hs
    simp only [O.len] at hl
    simp only [O.body, List.length_cons, List.length_append] at hb
    have ihr := takeOrd_l0 r hsr (pa ++ [⟨(n : Int), e.terms⟩]) t (by simp; omega) (by omega) (.inr ⟨pa, n, e, rfl, by omega, hhd⟩)
    have ihe : Ev (fun k => impl_takeOrd.f k ((e.len : Int) :: (e.body ++ (r.body ++ t)))) (e.terms, r.body ++ t, true) := by
      have := takeOrd_l0 e hse [] (r.body ++ t) (by simpa using hle) (by omega) (.inl rfl)
      simp only [List.length_nil, Nat.zero_add, List.nil_append] at this
      refine ev_s ?_
      have hc : rd ((e.len : Int) :: (e.body ++ (r.body ++ t))) 0 = (e.len : Int) := rfl
      simp only [impl_takeOrd.f, List.length_cons, if_neg (show ¬ (((e.body ++ (r.body ++ t)).length + 1 : Nat) : Int) = 0 by omega), if_pos (show (0 : Int) < (((e.body ++ (r.body ++ t)).length + 1 : Nat) : Int) by omega), if_pos (show (1 : Int) ≤ (((e.body ++ (r.body ++ t)).length + 1 : Nat) : Int) by omega), Option.bind_some, hc, List.drop_succ_cons, List.drop_zero, if_neg (show ¬ ((e.len : Int) < 0) by omega), decide_eq_false (show ¬ ((e.len : Int) > 60) by omega)]
      refine ev_s ?_
      simp only [impl_takeOrd.j0, Bool.false_eq_true, if_false]
      exact this
    have hbody : (O.c n e r).body ++ t = (n : Int) :: ((e.len : Int) :: (e.body ++ (r.body ++ t))) := by simp [O.body]
    have hc : rd ((n : Int) :: ((e.len : Int) :: (e.body ++ (r.body ++ t)))) 0 = (n : Int) := rfl
    have hw : wrap64 ((pa.length : Int) + 1) = (((pa ++ [(⟨(n : Int), e.terms⟩ : S72)]).length : Nat) : Int) := by
      rw [List.length_append, List.length_singleton]; exact wrap_nat2 pa.length 1 (by omega)
    have hcnt : ((pa.length + (O.c n e r).len : Nat) : Int) = (((pa ++ [(⟨(n : Int), e.terms⟩ : S72)]).length + r.len : Nat) : Int) := by
      simp only [O.len, List.length_append, List.length_singleton]; omega
    have hres : pa ++ (O.c n e r).terms = pa ++ [(⟨(n : Int), e.terms⟩ : S72)] ++ r.terms := by simp [O.terms]
    rw [hbody, hres]
    refine ev_s ?_
    simp only [impl_takeOrd.l0, List.length_cons, if_pos (show (pa.length : Int) < ((pa.length + (O.c n e r).len : Nat) : Int) by simp only [O.len]; omega), hc]
    have hlen : (((e.len : Int) :: (e.body ++ (r.body ++ t))).length : Nat) = (e.body ++ (r.body ++ t)).length + 1 := by simp
    simp only [if_neg (show ¬ ((((e.body ++ (r.body ++ t)).length + 1 + 1 : Nat) : Int) = 0) by omega), if_pos (show (0 : Int) < (((e.body ++ (r.body ++ t)).length + 1 + 1 : Nat) : Int) by omega), if_neg (show ¬ ((n : Int) < 1) by omega), decide_eq_false (show ¬ ((n : Int) > 9999) by omega)]
    refine ev_s ?_
    simp only [impl_takeOrd.j2, Bool.false_eq_true, if_false, List.length_cons, if_pos (show (1 : Int) ≤ (((e.body ++ (r.body ++ t)).length + 1 + 1 : Nat) : Int) by omega), List.drop_succ_cons, List.drop_zero]
    refine Ev.bind ihe ?_
    simp only [if_true, if_pos (show (0 : Int) < (((e.body ++ (r.body ++ t)).length + 1 + 1 : Nat) : Int) by omega), hc, if_pos (show pa.length < 4398046511104 by omega), hw, hcnt]
    rcases hlast with h0 | ⟨pb, m, f, hpa, hfb, hfd⟩
    · simp only [if_neg (show ¬ ((pa.length : Int) > 0) by rw [h0]; simp)]
      exact ihr
    · have hpl : pa.length = pb.length + 1 := by rw [hpa]; simp
      have hw1 : wrap64 ((pa.length : Int) - 1) = (pb.length : Int) := by rw [wrap_in (by omega) (by omega)]; omega
      have hrd : rd_T72 pa (pb.length : Int) = ⟨m, O.terms f⟩ := by rw [hpa]; exact rd_T72_mid pb [] ⟨m, O.terms f⟩
      simp only [if_pos (show (pa.length : Int) > 0 by omega), hw1, if_pos (show (0 : Int) ≤ (pb.length : Int) by omega), if_pos (show (pb.length : Int) < (pa.length : Int) by omega), hrd]
      refine Ev.bind (compare_ev e f (by omega) hfb) ?_
      have : ordI (O.cmp e f) = -1 := by rw [show O.cmp e f = .lt from hfd]; rfl
      simp only [this, if_neg (show ¬ ((-1 : Int) ≥ 0) by decide)]
      exact ihr
theorem takeOrd_ev {o : O} (hs : o.Sm) (hl : o.len ≤ 60) (hb : o.body.length ≤ 100000) (t : List Int) : Ev (fun k => impl_takeOrd.f k (o.row ++ t)) (o.terms, t, true) := by
  have := takeOrd_l0 o hs [] t (by simpa using hl) hb (.inl rfl)
  simp only [List.length_nil, Nat.zero_add, List.nil_append] at this
  refine ev_s ?_
  have hc : rd ((o.len : Int) :: (o.body ++ t)) 0 = (o.len : Int) := rfl
  simp only [O.row, List.cons_append, impl_takeOrd.f, List.length_cons, if_neg (show ¬ (((o.body ++ t).length + 1 : Nat) : Int) = 0 by omega), if_pos (show (0 : Int) < (((o.body ++ t).length + 1 : Nat) : Int) by omega), if_pos (show (1 : Int) ≤ (((o.body ++ t).length + 1 : Nat) : Int) by omega), Option.bind_some, hc, List.drop_succ_cons, List.drop_zero, if_neg (show ¬ ((o.len : Int) < 0) by omega), decide_eq_false (show ¬ ((o.len : Int) > 60) by omega)]
  refine ev_s ?_
  simp only [impl_takeOrd.j0, Bool.false_eq_true, if_false]
  exact this
theorem ordOf_ev {o : O} (hs : o.Sm) (hb : o.row.length ≤ 60) : Ev (fun k => impl_ordOf.f k o.row) (o.terms, true) := by
  have hlb := O.len_le o
  have hr : o.row.length = o.body.length + 1 := by simp [O.row]
  have h := takeOrd_ev hs (by omega) (by omega) []
  rw [List.append_nil] at h
  simp only [impl_ordOf.f, if_neg (show ¬ ((o.row.length : Int) < 1) by omega), if_neg (show ¬ ((o.row.length : Int) > 60) by omega)]
  refine Ev.bind h ?_
  simp only [if_true]
  exact ev_now (by simp)

-- part: oSpec
/-! ### the reference's ordinals -/
theorem O.row_length (o : O) : o.row.length = o.body.length + 1 := by simp [O.row]
theorem O.body_c (n : Nat) (e r : O) : (O.c n e r).body = (n : Int) :: (e.row ++ r.body) := by simp [O.body, O.row]
def O.ns : O → List Int
  | .z => []
  | .c n _ r => (n : Int) :: O.ns r
def O.es : O → List (List Int)
  | .z => []
  | .c _ e r => e.row :: O.es r
theorem O.ns_len : ∀ o : O, o.ns.length = o.len
  | .z => rfl
  | .c n e r => by simp only [O.ns, O.len, List.length_cons, O.ns_len r]
theorem O.es_len : ∀ o : O, o.es.length = o.len
  | .z => rfl
  | .c n e r => by simp only [O.es, O.len, List.length_cons, O.es_len r]
theorem rd_L1_at (pre suf : List (List Int)) (x : List Int) : rd_L1 (pre ++ x :: suf) ((pre.length : Nat) : Int) = x := by simp [rd_L1]
theorem l1Span_l0 : ∀ (s : O) (pre t l : List Int) (i : Nat), l = pre ++ s.body ++ t → l.length ≤ 1000000 → i + s.body.length ≤ 1000000 →
    Ev (fun k => spec_l1Span.l0 k l (pre.length : Int) ((i + s.len : Nat) : Int) (i : Int)) ((pre.length + s.body.length : Nat) : Int)
  | .z, pre, t, l, i, _, _, _ => by
    refine ev_s ?_
    simp only [spec_l1Span.l0, O.len, O.body, Nat.add_zero, Int.lt_irrefl, if_false, List.length_nil]
    exact Ev.now _
  | .c n e r, pre, t, l, i, hl, hb, hi => by
    have hrl := O.row_length e
    have hbl := O.len_le e
    have hlen : l.length = pre.length + (e.body.length + r.body.length + 2) + t.length := by rw [hl, O.body_c]; simp; omega
    rw [O.body_c] at hi
    simp only [List.length_cons, List.length_append] at hi
    have he : Ev (fun k => spec_l1Span.f k l ((pre.length + 1 : Nat) : Int)) ((pre.length + 1 + e.row.length : Nat) : Int) := by
      have hp : pre.length + 1 < l.length := by omega
      have hx : rd l ((pre.length + 1 : Nat) : Int) = (e.len : Int) := by
        rw [rd_get hp]
        subst hl
        simp [O.body_c, O.row]
      have ih := l1Span_l0 e (pre ++ [(n : Int), (e.len : Int)]) (r.body ++ t) l 0 (by rw [hl]; simp [O.body_c, O.row]) hb (by omega)
      simp only [List.length_append, List.length_cons, List.length_nil, Nat.zero_add] at ih
      refine ev_s ?_
      simp only [spec_l1Span.f, if_pos (show (0 : Int) ≤ ((pre.length + 1 : Nat) : Int) by omega), if_pos (show ((pre.length + 1 : Nat) : Int) < (l.length : Int) by omega), hx, show wrap64 (((pre.length + 1 : Nat) : Int) + 1) = ((pre.length + (0 + 1 + 1) : Nat) : Int) by rw [wrap_in (by omega) (by omega)]; omega]
      exact ev_eq ih (by omega)
    have ihr := l1Span_l0 r (pre ++ (n : Int) :: e.row) t l (i + 1) (by rw [hl, O.body_c]; simp) hb (by omega)
    have hpl : (pre ++ (n : Int) :: e.row).length = pre.length + 1 + e.row.length := by simp; omega
    rw [hpl] at ihr
    refine ev_s ?_
    simp only [spec_l1Span.l0, if_pos (show (i : Int) < ((i + (O.c n e r).len : Nat) : Int) by simp only [O.len]; omega), show wrap64 ((pre.length : Int) + 1) = ((pre.length + 1 : Nat) : Int) from wrap_nat2 _ 1 (by omega), show wrap64 ((i : Int) + 1) = ((i + 1 : Nat) : Int) from wrap_nat2 i 1 (by omega)]
    refine Ev.bind he ?_
    rw [show ((i + (O.c n e r).len : Nat) : Int) = ((i + 1 + r.len : Nat) : Int) by simp only [O.len]; omega]
    exact ev_eq ihr (by rw [O.body_c]; simp only [List.length_cons, List.length_append]; omega)
theorem l1Span_row {e : O} (pre t : List Int) (hb : (pre ++ e.row ++ t).length ≤ 1000000) : Ev (fun k => spec_l1Span.f k (pre ++ e.row ++ t) (pre.length : Int)) ((pre.length + e.row.length : Nat) : Int) := by
  have hrl := O.row_length e
  have hl : (pre ++ e.row ++ t).length = pre.length + e.row.length + t.length := by simp only [List.length_append]
  have hp : pre.length < (pre ++ e.row ++ t).length := by omega
  have hx : rd (pre ++ e.row ++ t) ((pre.length : Nat) : Int) = (e.len : Int) := by rw [rd_get hp]; simp [O.row]
  have ih := l1Span_l0 e (pre ++ [(e.len : Int)]) t (pre ++ e.row ++ t) 0 (by simp [O.row]) hb (by omega)
  simp only [List.length_append, List.length_singleton, Nat.zero_add] at ih
  refine ev_s ?_
  simp only [spec_l1Span.f, if_pos (show (0 : Int) ≤ (pre.length : Int) by omega), if_pos (show (pre.length : Int) < ((pre ++ e.row ++ t).length : Int) by omega), hx, show wrap64 ((pre.length : Int) + 1) = ((pre.length + 1 : Nat) : Int) from wrap_nat2 _ 1 (by omega)]
  exact ev_eq ih (by omega)
theorem l1Terms_l0 : ∀ (s : O) (pre : List Int) (ns : List Int) (es : List (List Int)), (pre ++ s.body).length ≤ 1000000 → ns.length + s.len ≤ 1000000 → es.length + s.len ≤ 1000000 →
    Ev (fun k => spec_l1Terms.l0 k (pre ++ s.body) ns es (pre.length : Int)) (ns ++ s.ns, es ++ s.es)
  | .z, pre, ns, es, _, _, _ => by
    refine ev_s ?_
    simp only [spec_l1Terms.l0, O.body, O.ns, O.es, List.append_nil, Int.lt_irrefl, if_false]
    exact Ev.now _
  | .c n e r, pre, ns, es, hb, hn, he => by
    simp only [O.len] at hn he
    have hrl := O.row_length e
    have e0 : pre ++ (O.c n e r).body = (pre ++ [(n : Int)]) ++ e.row ++ r.body := by rw [O.body_c]; simp
    have hlen : (pre ++ (O.c n e r).body).length = pre.length + 1 + e.row.length + r.body.length := by rw [e0]; simp; omega
    have hsp := l1Span_row (e := e) (pre ++ [(n : Int)]) r.body (by rw [← e0]; exact hb)
    have hpl : (pre ++ [(n : Int)]).length = pre.length + 1 := by simp
    have hcut : (((pre ++ [(n : Int)]) ++ e.row ++ r.body).take (pre.length + 1 + e.row.length)).drop (pre.length + 1) = e.row := by
      rw [show pre.length + 1 + e.row.length = ((pre ++ [(n : Int)]) ++ e.row).length by simp; omega, List.take_left', List.drop_left' (by simp)]
      rfl
    have hx : rd ((pre ++ [(n : Int)]) ++ e.row ++ r.body) ((pre.length : Nat) : Int) = (n : Int) := by rw [rd_get (by rw [← e0]; omega)]; simp
    have ihr := l1Terms_l0 r ((pre ++ [(n : Int)]) ++ e.row) (ns ++ [(n : Int)]) (es ++ [e.row]) (by rw [← e0]; exact hb) (by simp; omega) (by simp; omega)
    have hpl2 : ((pre ++ [(n : Int)]) ++ e.row).length = pre.length + 1 + e.row.length := by simp; omega
    rw [hpl2] at ihr
    rw [hpl] at hsp
    rw [e0] at hb hlen ⊢
    generalize (pre ++ [(n : Int)]) ++ e.row ++ r.body = l at *
    refine ev_s ?_
    simp only [spec_l1Terms.l0, if_pos (show (pre.length : Int) < (l.length : Int) by omega), show wrap64 ((pre.length : Int) + 1) = ((pre.length + 1 : Nat) : Int) from wrap_nat2 _ 1 (by omega)]
    refine Ev.bind hsp ?_
    simp only [if_pos (show (0 : Int) ≤ (pre.length : Int) by omega), if_pos (show ns.length < 17592186044416 by omega), if_pos (show (0 : Int) ≤ ((pre.length + 1 : Nat) : Int) by omega), if_pos (show ((pre.length + 1 : Nat) : Int) ≤ ((pre.length + 1 + e.row.length : Nat) : Int) by omega), if_pos (show ((pre.length + 1 + e.row.length : Nat) : Int) ≤ (l.length : Int) by omega), if_pos (show es.length < 5864062014805 by omega), hx, Int.toNat_natCast, hcut]
    refine ev_eq ihr ?_
    simp [O.ns, O.es]
theorem l1Terms_ev {o : O} (hl : o.row.length ≤ 100000) : Ev (fun k => spec_l1Terms.f k o.row) (o.ns, o.es) := by
  have hr := O.row_length o
  have hle := O.len_le o
  have := l1Terms_l0 o [(o.len : Int)] [] [] (by simp; omega) (by simp; omega) (by simp; omega)
  simp only [spec_l1Terms.f]
  exact this
theorem l1Compare_l0 : ∀ (x y : O) (pa pb : List Int) (qa qb : List (List Int)), pa.length = pb.length → pa.length = qa.length → pa.length = qb.length → pa.length + x.body.length ≤ 100000 → pb.length + y.body.length ≤ 100000 →
    Ev (fun k => spec_l1Compare.l0 k (pa ++ x.ns) (qa ++ x.es) (pb ++ y.ns) (qb ++ y.es) (pa.length : Int)) (ordI (O.cmp x y))
  | .z, .z, pa, pb, qa, qb, h1, h2, h3, _, _ => by
    refine ev_s ?_
    simp only [spec_l1Compare.l0, O.ns, O.es, List.append_nil, Int.lt_irrefl, if_false]
    refine ev_s ?_
    simp only [spec_l1Compare.j1, Bool.false_eq_true, if_false, h1, Int.lt_irrefl, if_neg (show ¬ ((pb.length : Int) > (pb.length : Int)) by omega)]
    exact Ev.now _
  | .z, .c m f s, pa, pb, qa, qb, h1, h2, h3, _, _ => by
    refine ev_s ?_
    simp only [spec_l1Compare.l0, O.ns, O.es, List.append_nil, Int.lt_irrefl, if_false]
    refine ev_s ?_
    simp only [spec_l1Compare.j1, Bool.false_eq_true, if_false, if_pos (show (pa.length : Int) < ((pb ++ (m : Int) :: s.ns).length : Int) by simp; omega)]
    exact Ev.now _
  | .c n e r, .z, pa, pb, qa, qb, h1, h2, h3, _, _ => by
    refine ev_s ?_
    simp only [spec_l1Compare.l0, O.ns, O.es, List.append_nil, if_pos (show (pa.length : Int) < ((pa ++ (n : Int) :: r.ns).length : Int) by simp; omega), decide_eq_false (show ¬ ((pa.length : Int) < (pb.length : Int)) by omega)]
    refine ev_s ?_
    simp only [spec_l1Compare.j1, Bool.false_eq_true, if_false, if_neg (show ¬ (((pa ++ (n : Int) :: r.ns).length : Int) < (pb.length : Int)) by simp; omega), if_pos (show (((pa ++ (n : Int) :: r.ns).length : Int) > (pb.length : Int)) by simp; omega)]
    exact Ev.now _
  | .c n e r, .c m f s, pa, pb, qa, qb, h1, h2, h3, ha, hb => by
    rw [O.body_c] at ha hb
    simp only [List.length_cons, List.length_append] at ha hb
    have hre := O.row_length e
    have hrf := O.row_length f
    have ih1 : Ev (fun k => spec_l1Compare.f k e.row f.row) (ordI (O.cmp e f)) := by
      have := l1Compare_l0 e f [] [] [] [] rfl rfl rfl (by simp only [List.length_nil]; omega) (by simp only [List.length_nil]; omega)
      simp only [List.nil_append] at this
      refine ev_s ?_
      simp only [spec_l1Compare.f]
      refine Ev.bind (l1Terms_ev (by omega)) ?_
      exact Ev.bind (l1Terms_ev (by omega)) this
    have ih2 := l1Compare_l0 r s (pa ++ [(n : Int)]) (pb ++ [(m : Int)]) (qa ++ [e.row]) (qb ++ [f.row]) (by simp [h1]) (by simp [h2]) (by simp [h3]) (by simp; omega) (by simp; omega)
    simp only [List.append_assoc, List.singleton_append, List.length_append, List.length_singleton] at ih2
    simp only [O.ns, O.es]
    have ea : rd (pa ++ (n : Int) :: r.ns) (pa.length : Int) = (n : Int) := by rw [rd_eq]; simp
    have eb : rd (pb ++ (m : Int) :: s.ns) (pa.length : Int) = (m : Int) := by rw [h1, rd_eq]; simp
    have ec : rd_L1 (qa ++ e.row :: r.es) (pa.length : Int) = e.row := by rw [h2]; exact rd_L1_at qa r.es e.row
    have ed : rd_L1 (qb ++ f.row :: s.es) (pa.length : Int) = f.row := by rw [h3]; exact rd_L1_at qb s.es f.row
    have g1 : (pa.length : Int) < ((pa ++ (n : Int) :: r.ns).length : Int) := by simp; omega
    have g2 : (pa.length : Int) < ((pb ++ (m : Int) :: s.ns).length : Int) := by simp; omega
    have g3 : (pa.length : Int) < ((qa ++ e.row :: r.es).length : Int) := by simp; omega
    have g4 : (pa.length : Int) < ((qb ++ f.row :: s.es).length : Int) := by simp; omega
    refine ev_s ?_
    simp only [spec_l1Compare.l0, if_pos g1, decide_eq_true g2]
    refine ev_s ?_
    simp only [spec_l1Compare.j1, if_true, if_pos (show (0 : Int) ≤ (pa.length : Int) from Int.natCast_nonneg _), if_pos g1, if_pos g2, if_pos g3, if_pos g4, ea, eb, ec, ed, show wrap64 ((pa.length : Int) + 1) = ((pa.length + 1 : Nat) : Int) from wrap_nat2 _ 1 (by omega)]
    refine Ev.bind ih1 ?_
    rw [O.cmp, ordI_then, ordI_then]
    by_cases q1 : ordI (O.cmp e f) = 0
    · simp only [if_pos q1]
      rcases Nat.lt_trichotomy n m with h | h | h
      · simp only [if_neg (show ¬ ((n : Int) = (m : Int)) by omega), if_pos (show (n : Int) < (m : Int) by omega), Nat.compare_eq_lt.mpr h, ordI, show ¬ ((-1 : Int) = 0) by decide, if_false]
        exact Ev.now _
      · subst h
        simp only [if_true, Nat.compare_eq_eq.mpr, ordI]
        exact ih2
      · simp only [if_neg (show ¬ ((n : Int) = (m : Int)) by omega), if_neg (show ¬ ((n : Int) < (m : Int)) by omega), Nat.compare_eq_gt.mpr h, ordI, show ¬ ((1 : Int) = 0) by decide, if_false]
        exact Ev.now _
    · simp only [if_neg q1]
      exact Ev.now _
theorem l1Compare_ev (x y : O) (hx : x.row.length ≤ 50000) (hy : y.row.length ≤ 50000) : Ev (fun k => spec_l1Compare.f k x.row y.row) (ordI (O.cmp x y)) := by
  have hrx := O.row_length x
  have hry := O.row_length y
  have := l1Compare_l0 x y [] [] [] [] rfl rfl rfl (by simp; omega) (by simp; omega)
  simp only [List.nil_append] at this
  refine ev_s ?_
  simp only [spec_l1Compare.f]
  refine Ev.bind (l1Terms_ev (by omega)) ?_
  exact Ev.bind (l1Terms_ev (by omega)) this

-- part: oValid
/-! ### rows that are ordinals, and rows that are none -/
/-- What may stand behind a term with this exponent. -/
def O.fol : Option O → O → Prop
  | none, _ => True
  | some f, e => O.cmp e f = .lt
def O.folr (L : Option O) : O → Prop
  | .z => True
  | .c _ e _ => O.fol L e
theorem O.folr_hd {e : O} : ∀ {r : O}, O.folr (some e) r → O.hd e r
  | .z, _ => trivial
  | .c _ _ _, h => h
/-- So many terms can't be read at the beginning of a row. -/
inductive BadO : Nat → Option O → List Int → Prop where
  | nil (m : Nat) (L : Option O) : BadO (m + 1) L []
  | out (m : Nat) (L : Option O) (x : Int) (r : List Int) (h : x < 1 ∨ 9999 < x) : BadO (m + 1) L (x :: r)
  | head (m : Nat) (L : Option O) (x : Int) (r : List Int) (h1 : 1 ≤ x) (h2 : x ≤ 9999) (h : r = [] ∨ ∃ y t, r = y :: t ∧ (y < 0 ∨ 60 < y)) : BadO (m + 1) L (x :: r)
  | deep (m : Nat) (L : Option O) (x y : Int) (r : List Int) (h1 : 1 ≤ x) (h2 : x ≤ 9999) (h3 : 0 ≤ y) (h4 : y ≤ 60) (h : BadO y.toNat none r) : BadO (m + 1) L (x :: y :: r)
  | order (m : Nat) (f e : O) (x : Int) (t : List Int) (h1 : 1 ≤ x) (h2 : x ≤ 9999) (he : e.Sm) (hl : e.len ≤ 60) (hb : e.row.length ≤ 60) (h : O.cmp e f ≠ .lt) : BadO (m + 1) (some f) (x :: (e.row ++ t))
  | next (m : Nat) (L : Option O) (e : O) (x : Int) (t : List Int) (h1 : 1 ≤ x) (h2 : x ≤ 9999) (he : e.Sm) (hl : e.len ≤ 60) (hb : e.row.length ≤ 60) (hf : O.fol L e) (h : BadO m (some e) t) : BadO (m + 1) L (x :: (e.row ++ t))
theorem ord_total : ∀ (n : Nat), n ≤ 60 → ∀ (m : Nat) (L : Option O) (l : List Int), l.length ≤ n → (∃ r t, l = O.body r ++ t ∧ r.len = m ∧ r.Sm ∧ O.folr L r) ∨ BadO m L l
  | n, hn, 0, L, l, _ => .inl ⟨.z, l, rfl, rfl, trivial, trivial⟩
  | n, hn, m + 1, L, [], _ => .inr (.nil m L)
  | 0, hn, m + 1, L, x :: r, h => by simp at h
  | n + 1, hn, m + 1, L, x :: r, h => by
    simp only [List.length_cons, Nat.add_le_add_iff_right] at h
    by_cases hx : x < 1 ∨ 9999 < x
    · exact .inr (.out m L x r hx)
    · match r, h with
      | [], _ => exact .inr (.head m L x [] (by omega) (by omega) (.inl rfl))
      | y :: r, h =>
        simp only [List.length_cons] at h
        by_cases hy : y < 0 ∨ 60 < y
        · exact .inr (.head m L x _ (by omega) (by omega) (.inr ⟨y, r, rfl, hy⟩))
        · rcases ord_total n (by omega) y.toNat none r (by omega) with ⟨s, t, hs, hl, hsm, _⟩ | hb
          · have hyl : y = (s.len : Int) := by omega
            have he : y :: r = s.row ++ t := by rw [hs, hyl]; rfl
            have hsl := O.row_length s
            have hlr : r.length = s.body.length + t.length := by rw [hs, List.length_append]
            rw [he]
            by_cases hf : O.fol L s
            · rcases ord_total n (by omega) m (some s) t (by omega) with ⟨r2, t2, hs2, hl2, hsm2, hf2⟩ | hb
              · refine .inl ⟨.c x.toNat s r2, t2, ?_, by rw [O.len, hl2], ⟨⟨by omega, by omega⟩, ⟨hsm, by omega⟩, hsm2, O.folr_hd hf2⟩, hf⟩
                rw [O.body_c, hs2, show ((x.toNat : Nat) : Int) = x by omega]; simp
              · exact .inr (.next m L s x t (by omega) (by omega) hsm (by omega) (by omega) hf hb)
            · cases L with
              | none => exact absurd trivial hf
              | some f => exact .inr (.order m f s x t (by omega) (by omega) hsm (by omega) (by omega) hf)
          · exact .inr (.deep m L x y r (by omega) (by omega) (by omega) (by omega) hb)
theorem O.body_inj : ∀ (s s' : O) (t t' : List Int), s.len = s'.len → s.body ++ t = s'.body ++ t' → s = s' ∧ t = t'
  | .z, .z, t, t', _, h => ⟨rfl, h⟩
  | .z, .c .., _, _, h, _ => by simp [O.len] at h
  | .c .., .z, _, _, h, _ => by simp [O.len] at h
  | .c n e r, .c m f s, t, t', hl, h => by
    simp only [O.len, Nat.add_right_cancel_iff] at hl
    simp only [O.body, List.cons_append, List.append_assoc, List.cons.injEq] at h
    obtain ⟨h0, h1, h2⟩ := h
    obtain ⟨h3, h4⟩ := O.body_inj e f _ _ (by omega) h2
    obtain ⟨h5, h6⟩ := O.body_inj r s _ _ hl h4
    exact ⟨by rw [h3, h5, show n = m by omega], h6⟩
theorem O.row_inj {a b : O} (e : a.row = b.row) : a = b := by
  simp only [O.row, List.cons.injEq] at e
  exact (O.body_inj a b [] [] (by omega) (by rw [e.2])).1
def NoOrd (l : List Int) : Prop := 60 < l.length ∨ l = [] ∨ (∃ y r, l = y :: r ∧ (y < 0 ∨ 60 < y)) ∨ (∃ y r, l = y :: r ∧ 0 ≤ y ∧ y ≤ 60 ∧ BadO y.toNat none r) ∨ ∃ (o : O) (x : Int) (t : List Int), l = o.row ++ x :: t ∧ o.Sm ∧ o.len ≤ 60
theorem ord_or (l : List Int) : (∃ o : O, l = o.row ∧ o.Sm ∧ o.row.length ≤ 60) ∨ NoOrd l := by
  by_cases h60 : 60 < l.length
  · exact .inr (.inl h60)
  · match l, h60 with
    | [], _ => exact .inr (.inr (.inl rfl))
    | y :: r, h60 =>
      simp only [List.length_cons] at h60
      by_cases hy : y < 0 ∨ 60 < y
      · exact .inr (.inr (.inr (.inl ⟨y, r, rfl, hy⟩)))
      · rcases ord_total 60 (Nat.le_refl _) y.toNat none r (by omega) with ⟨s, t, hs, hl, hsm, _⟩ | hb
        · have hyl : y = (s.len : Int) := by omega
          have he : y :: r = s.row ++ t := by rw [hs, hyl]; rfl
          cases t with
          | nil =>
            rw [List.append_nil] at he
            exact .inl ⟨s, he, hsm, by rw [← he, List.length_cons]; omega⟩
          | cons x t => exact .inr (.inr (.inr (.inr (.inr ⟨s, x, t, he, hsm, by omega⟩))))
        · exact .inr (.inr (.inr (.inr (.inl ⟨y, r, rfl, by omega, by omega, hb⟩))))
/-! the program -/
theorem takeOrd_in {y : Int} {r : List Int} (h0 : 0 ≤ y) (h1 : y ≤ 60) {q : (List S72) × List Int × Bool} (h : Ev (fun k => impl_takeOrd.l0 k r [] y 0) q) : Ev (fun k => impl_takeOrd.f k (y :: r)) q := by
  have hc : rd (y :: r) 0 = y := rfl
  refine ev_s ?_
  simp only [impl_takeOrd.f, hc, if_neg (show ¬ (((y :: r).length : Int) = 0) by simp only [List.length_cons]; omega), if_pos (show (0 : Int) < ((y :: r).length : Int) by simp only [List.length_cons]; omega), if_pos (show (1 : Int) ≤ ((y :: r).length : Int) by simp only [List.length_cons]; omega), Option.bind_some, List.drop_succ_cons, List.drop_zero, if_neg (show ¬ (y < 0) by omega), decide_eq_false (show ¬ (y > 60) by omega)]
  refine ev_s ?_
  simp only [impl_takeOrd.j0, Bool.false_eq_true, if_false]
  exact h
theorem takeOrd_out {l : List Int} (h : l = [] ∨ ∃ y r, l = y :: r ∧ (y < 0 ∨ 60 < y)) : Ev (fun k => impl_takeOrd.f k l) ([], [], false) := by
  refine ev_s ?_
  rcases h with rfl | ⟨y, r, rfl, hy⟩
  · simp only [impl_takeOrd.f, List.length_nil, if_pos (show ((0 : Nat) : Int) = 0 from rfl)]
    exact Ev.now _
  · have hc : rd (y :: r) 0 = y := rfl
    have hj : Ev (fun k => impl_takeOrd.j0 k r y [] true) ([], [], false) := by
      refine ev_s ?_
      simp only [impl_takeOrd.j0, if_true]
      exact Ev.now _
    simp only [impl_takeOrd.f, hc, if_neg (show ¬ (((y :: r).length : Int) = 0) by simp only [List.length_cons]; omega), if_pos (show (0 : Int) < ((y :: r).length : Int) by simp only [List.length_cons]; omega), if_pos (show (1 : Int) ≤ ((y :: r).length : Int) by simp only [List.length_cons]; omega), Option.bind_some, List.drop_succ_cons, List.drop_zero]
    by_cases h0 : y < 0
    · simp only [if_pos h0]; exact hj
    · simp only [if_neg h0, decide_eq_true (show y > 60 by omega)]; exact hj
/-- What stands last ahead. -/
def LastO (pa : List S72) : Option O → Prop
  | none => pa = []
  | some f => ∃ pb n, pa = pb ++ [⟨n, O.terms f⟩] ∧ f.row.length ≤ 60
theorem takeOrd_bad {m : Nat} {L : Option O} {l : List Int} (h : BadO m L l) : ∀ (pa : List S72), LastO pa L → pa.length + m ≤ 1000 → Ev (fun k => impl_takeOrd.l0 k l pa ((pa.length + m : Nat) : Int) (pa.length : Int)) ([], [], false) := by
  -- a term whose number is out of bounds, or that is not there
  have j2 : ∀ (l : List Int) (pa : List S72) (i n j : Int), Ev (fun k => impl_takeOrd.j2 k l pa i n j true) ([], [], false) := by
    intro l pa i n j
    refine ev_s ?_
    simp only [impl_takeOrd.j2, if_true]
    exact Ev.now _
  -- a term whose exponent is read, or not
  have term : ∀ (m : Nat) (x : Int) (r : List Int) (pa : List S72) (q : (List S72) × List Int × Bool), 1 ≤ x → x ≤ 9999 → Ev (fun k => impl_takeOrd.j2 k (x :: r) pa (pa.length : Int) ((pa.length + (m + 1) : Nat) : Int) (pa.length : Int) false) q → Ev (fun k => impl_takeOrd.l0 k (x :: r) pa ((pa.length + (m + 1) : Nat) : Int) (pa.length : Int)) q := by
    intro m x r pa q h1 h2 hj
    have hc : rd (x :: r) 0 = x := rfl
    refine ev_s ?_
    simp only [impl_takeOrd.l0, if_pos (show (pa.length : Int) < ((pa.length + (m + 1) : Nat) : Int) by omega), if_neg (show ¬ (((x :: r).length : Int) = 0) by simp only [List.length_cons]; omega), if_pos (show (0 : Int) < ((x :: r).length : Int) by simp only [List.length_cons]; omega), hc, if_neg (show ¬ (x < 1) by omega), decide_eq_false (show ¬ (x > 9999) by omega)]
    exact hj
  have fall : ∀ (m : Nat) (x : Int) (r : List Int) (pa : List S72) {a : List S72} {t : List Int}, 1 ≤ x → x ≤ 9999 → Ev (fun k => impl_takeOrd.f k r) (a, t, false) → Ev (fun k => impl_takeOrd.l0 k (x :: r) pa ((pa.length + (m + 1) : Nat) : Int) (pa.length : Int)) ([], [], false) := by
    intro m x r pa a t h1 h2 hf
    refine term m x r pa _ h1 h2 ?_
    refine ev_s ?_
    simp only [impl_takeOrd.j2, Bool.false_eq_true, if_false, if_pos (show (1 : Int) ≤ ((x :: r).length : Int) by simp only [List.length_cons]; omega), List.drop_succ_cons, List.drop_zero]
    refine Ev.bind hf ?_
    simp only [Bool.false_eq_true, if_false]
    exact Ev.now _
  induction h with
  | nil m L =>
    intro pa _ _
    refine ev_s ?_
    simp only [impl_takeOrd.l0, if_pos (show (pa.length : Int) < ((pa.length + (m + 1) : Nat) : Int) by omega), List.length_nil, if_pos (show ((0 : Nat) : Int) = 0 from rfl)]
    exact j2 _ _ _ _ _
  | out m L x r h =>
    intro pa _ _
    have hc : rd (x :: r) 0 = x := rfl
    refine ev_s ?_
    simp only [impl_takeOrd.l0, if_pos (show (pa.length : Int) < ((pa.length + (m + 1) : Nat) : Int) by omega), if_neg (show ¬ (((x :: r).length : Int) = 0) by simp only [List.length_cons]; omega), if_pos (show (0 : Int) < ((x :: r).length : Int) by simp only [List.length_cons]; omega), hc]
    by_cases h0 : x < 1
    · simp only [if_pos h0]; exact j2 _ _ _ _ _
    · simp only [if_neg h0, decide_eq_true (show x > 9999 by omega)]; exact j2 _ _ _ _ _
  | head m L x r h1 h2 h => intro pa _ _; exact fall m x r pa h1 h2 (takeOrd_out h)
  | deep m L x y r h1 h2 h3 h4 h ih =>
    intro pa _ _
    have := ih [] rfl (by simp only [List.length_nil]; omega)
    simp only [List.length_nil, Nat.zero_add, Int.toNat_of_nonneg h3] at this
    exact fall m x _ pa h1 h2 (takeOrd_in h3 h4 this)
  | order m f e x t h1 h2 he hl hb h =>
    intro pa hL _
    obtain ⟨pb, n, hpa, hfb⟩ := hL
    have hrl := O.row_length e
    have hfl := O.row_length f
    refine term m x _ pa _ h1 h2 ?_
    refine ev_s ?_
    simp only [impl_takeOrd.j2, Bool.false_eq_true, if_false, if_pos (show (1 : Int) ≤ ((x :: (e.row ++ t)).length : Int) by simp only [List.length_cons]; omega), List.drop_succ_cons, List.drop_zero]
    refine Ev.bind (takeOrd_ev he hl (by omega) t) ?_
    have hpl : pa.length = pb.length + 1 := by rw [hpa]; simp
    have hw1 : wrap64 ((pa.length : Int) - 1) = (pb.length : Int) := by rw [wrap_in (by omega) (by omega)]; omega
    have hrd : rd_T72 pa (pb.length : Int) = ⟨n, O.terms f⟩ := by rw [hpa]; exact rd_T72_mid pb [] ⟨n, O.terms f⟩
    simp only [if_true, if_pos (show (pa.length : Int) > 0 by omega), hw1, if_pos (show (0 : Int) ≤ (pb.length : Int) by omega), if_pos (show (pb.length : Int) < (pa.length : Int) by omega), hrd]
    refine Ev.bind (compare_ev e f (by omega) (by omega)) ?_
    have hge : ordI (O.cmp e f) ≥ 0 := by
      have : ¬ ordI (O.cmp e f) < 0 := fun h' => h (ordI_neg.mp h')
      omega
    simp only [if_pos hge]
    exact Ev.now _
  | next m L e x t h1 h2 he hl hb hf h ih =>
    intro pa hL hp
    have hrl := O.row_length e
    have hw : wrap64 ((pa.length : Int) + 1) = (((pa ++ [(⟨x, e.terms⟩ : S72)]).length : Nat) : Int) := by
      rw [List.length_append, List.length_singleton]; exact wrap_nat2 pa.length 1 (by omega)
    have hcnt : ((pa.length + (m + 1) : Nat) : Int) = (((pa ++ [(⟨x, e.terms⟩ : S72)]).length + m : Nat) : Int) := by
      simp only [List.length_append, List.length_singleton]; omega
    have hc : rd (x :: (e.row ++ t)) 0 = x := rfl
    have ih := ih (pa ++ [⟨x, e.terms⟩]) ⟨pa, x, rfl, hb⟩ (by simp only [List.length_append, List.length_singleton]; omega)
    refine term m x _ pa _ h1 h2 ?_
    refine ev_s ?_
    simp only [impl_takeOrd.j2, Bool.false_eq_true, if_false, if_pos (show (1 : Int) ≤ ((x :: (e.row ++ t)).length : Int) by simp only [List.length_cons]; omega), List.drop_succ_cons, List.drop_zero]
    refine Ev.bind (takeOrd_ev he hl (by omega) t) ?_
    simp only [if_true, if_pos (show (0 : Int) < ((x :: (e.row ++ t)).length : Int) by simp only [List.length_cons]; omega), hc, if_pos (show pa.length < 4398046511104 by omega), hw, hcnt]
    cases L with
    | none =>
      have hpa : pa = [] := hL
      simp only [if_neg (show ¬ ((pa.length : Int) > 0) by rw [hpa]; simp)]
      exact ih
    | some f =>
      obtain ⟨pb, n, hpa, hfb⟩ := hL
      have hfl := O.row_length f
      have hpl : pa.length = pb.length + 1 := by rw [hpa]; simp
      have hw1 : wrap64 ((pa.length : Int) - 1) = (pb.length : Int) := by rw [wrap_in (by omega) (by omega)]; omega
      have hrd : rd_T72 pa (pb.length : Int) = ⟨n, O.terms f⟩ := by rw [hpa]; exact rd_T72_mid pb [] ⟨n, O.terms f⟩
      simp only [if_pos (show (pa.length : Int) > 0 by omega), hw1, if_pos (show (0 : Int) ≤ (pb.length : Int) by omega), if_pos (show (pb.length : Int) < (pa.length : Int) by omega), hrd]
      refine Ev.bind (compare_ev e f (by omega) (by omega)) ?_
      have hlt : ordI (O.cmp e f) = -1 := by rw [show O.cmp e f = .lt from hf]; rfl
      simp only [hlt, if_neg (show ¬ ((-1 : Int) ≥ 0) by decide)]
      exact ih
theorem impl_ordOf_bad {l : List Int} (h : NoOrd l) : ∃ a, Ev (fun k => impl_ordOf.f k l) (a, false) := by
  by_cases h0 : (l.length : Int) < 1
  · exact ⟨[], by simp only [impl_ordOf.f, if_pos h0]; exact Ev.now _⟩
  by_cases h60 : (l.length : Int) > 60
  · exact ⟨[], by simp only [impl_ordOf.f, if_neg h0, if_pos h60]; exact Ev.now _⟩
  have fin : ∀ {a : List S72} {t : List Int} {b : Bool}, (b = true → t ≠ []) → Ev (fun k => impl_takeOrd.f k l) (a, t, b) → ∃ a, Ev (fun k => impl_ordOf.f k l) (a, false) := by
    intro a t b hb ht
    refine ⟨a, ?_⟩
    simp only [impl_ordOf.f, if_neg h0, if_neg h60]
    refine Ev.bind ht ?_
    cases b with
    | false => simp only [Bool.false_eq_true, if_false]; exact Ev.now _
    | true =>
      simp only [if_true]
      refine ev_now ?_
      have := List.length_pos_iff.mpr (hb rfl)
      rw [beq_eq_false_iff_ne.mpr (show (t.length : Int) ≠ 0 by omega)]
  rcases h with h | rfl | ⟨y, r, rfl, hy⟩ | ⟨y, r, rfl, h1, h2, hb⟩ | ⟨o, x, t, rfl, hs, hl⟩
  · exact absurd h (by omega)
  · simp at h0
  · exact fin (fun h => by cases h) (takeOrd_out (.inr ⟨y, r, rfl, hy⟩))
  · have := takeOrd_bad hb [] rfl (by simp only [List.length_nil]; omega)
    simp only [List.length_nil, Nat.zero_add, Int.toNat_of_nonneg h1] at this
    exact fin (fun h => by cases h) (takeOrd_in h1 h2 this)
  · have hrl := O.row_length o
    simp only [List.length_append, List.length_cons] at h60
    exact fin (fun _ => by simp) (takeOrd_ev hs hl (by omega) (x :: t))

-- part: oValidSpec
/-! the reference -/
theorem l1End_in {l : List Int} {p : Nat} (hp : p < l.length) (hb : l.length ≤ 1000000) (h0 : 0 ≤ l[p]) (h1 : l[p] ≤ 60) {q : Int} (h : Ev (fun k => spec_l1End.l0 k l ((p + 1 : Nat) : Int) l[p] [] 0) q) : Ev (fun k => spec_l1End.f k l (p : Int)) q := by
  refine ev_s ?_
  simp only [spec_l1End.f, if_neg (show ¬ ((p : Int) ≥ (l.length : Int)) by omega), if_pos (show (0 : Int) ≤ (p : Int) by omega), if_pos (show (p : Int) < (l.length : Int) by omega), l1In_eq, Option.bind_some, rd_get hp, decide_eq_true (show 0 ≤ l[p] ∧ l[p] ≤ 60 from ⟨h0, h1⟩), Bool.not_true]
  refine ev_s ?_
  simp only [spec_l1End.j0, Bool.false_eq_true, if_false, if_pos (show (0 : Int) ≤ (p : Int) by omega), if_pos (show (p : Int) < (l.length : Int) by omega), rd_get hp, show wrap64 ((p : Int) + 1) = ((p + 1 : Nat) : Int) from wrap_nat2 p 1 (by omega)]
  exact h
theorem l1End_out {l : List Int} {p : Nat} (h : l.length ≤ p ∨ ∃ hp : p < l.length, l[p] < 0 ∨ 60 < l[p]) : Ev (fun k => spec_l1End.f k l (p : Int)) (-1) := by
  have hj : Ev (fun k => spec_l1End.j0 k l (p : Int) true) (-1) := by
    refine ev_s ?_
    simp only [spec_l1End.j0, if_true]
    exact Ev.now _
  refine ev_s ?_
  rcases h with h | ⟨hp, hx⟩
  · simp only [spec_l1End.f, if_pos (show ((p : Int) ≥ (l.length : Int)) by omega)]
    exact hj
  · simp only [spec_l1End.f, if_neg (show ¬ ((p : Int) ≥ (l.length : Int)) by omega), if_pos (show (0 : Int) ≤ (p : Int) by omega), if_pos (show (p : Int) < (l.length : Int) by omega), l1In_eq, Option.bind_some, rd_get hp, decide_eq_false (show ¬ (0 ≤ l[p] ∧ l[p] ≤ 60) by omega), Bool.not_false]
    exact hj
/-- A term whose number is in bounds. -/
theorem l1End_term {l : List Int} {p i n : Nat} {la : List Int} (hp : p < l.length) (h0 : 1 ≤ l[p]) (h1 : l[p] ≤ 9999) (hi : i < n) {q : Int} (h : Ev (fun k => spec_l1End.j2 k l (p : Int) (n : Int) la (i : Int) false) q) : Ev (fun k => spec_l1End.l0 k l (p : Int) (n : Int) la (i : Int)) q := by
  refine ev_s ?_
  simp only [spec_l1End.l0, if_pos (show (i : Int) < (n : Int) by omega), if_neg (show ¬ ((p : Int) ≥ (l.length : Int)) by omega), if_pos (show (0 : Int) ≤ (p : Int) by omega), if_pos (show (p : Int) < (l.length : Int) by omega), l1In_eq, Option.bind_some, rd_get hp, decide_eq_true (show 1 ≤ l[p] ∧ l[p] ≤ 9999 from ⟨h0, h1⟩), Bool.not_true]
  exact h
theorem l1End_noterm {l : List Int} {p i n : Nat} {la : List Int} (hi : i < n) (h : l.length ≤ p ∨ ∃ hp : p < l.length, l[p] < 1 ∨ 9999 < l[p]) : Ev (fun k => spec_l1End.l0 k l (p : Int) (n : Int) la (i : Int)) (-1) := by
  have hj : Ev (fun k => spec_l1End.j2 k l (p : Int) (n : Int) la (i : Int) true) (-1) := by
    refine ev_s ?_
    simp only [spec_l1End.j2, if_true]
    exact Ev.now _
  refine ev_s ?_
  rcases h with h | ⟨hp, hx⟩
  · simp only [spec_l1End.l0, if_pos (show (i : Int) < (n : Int) by omega), if_pos (show ((p : Int) ≥ (l.length : Int)) by omega)]
    exact hj
  · simp only [spec_l1End.l0, if_pos (show (i : Int) < (n : Int) by omega), if_neg (show ¬ ((p : Int) ≥ (l.length : Int)) by omega), if_pos (show (0 : Int) ≤ (p : Int) by omega), if_pos (show (p : Int) < (l.length : Int) by omega), l1In_eq, Option.bind_some, rd_get hp, decide_eq_false (show ¬ (1 ≤ l[p] ∧ l[p] ≤ 9999) by omega), Bool.not_false]
    exact hj
/-- The exponent is read: it is compared with the one before, if there is one. -/
def LastS (la : List Int) (i : Nat) : Option O → Prop
  | none => i = 0
  | some f => 0 < i ∧ la = f.row ∧ f.row.length ≤ 60
theorem l1End_exp {pre t l la : List Int} {x : Int} {e : O} {L : Option O} {i n : Nat} (hl : l = pre ++ x :: (e.row ++ t)) (hb : l.length ≤ 1000000) (hi : i < n) (hn : n ≤ 1000) (he : e.row.length ≤ 60) (hL : LastS la i L)
    (hE : Ev (fun k => spec_l1End.f k l ((pre.length + 1 : Nat) : Int)) ((pre.length + 1 + e.row.length : Nat) : Int)) {q : Int}
    (hok : O.fol L e → Ev (fun k => spec_l1End.l0 k l ((pre.length + 1 + e.row.length : Nat) : Int) (n : Int) e.row ((i + 1 : Nat) : Int)) q) (hno : ¬ O.fol L e → q = -1) : Ev (fun k => spec_l1End.j2 k l (pre.length : Int) (n : Int) la (i : Int) false) q := by
  have hlen : l.length = pre.length + 1 + e.row.length + t.length := by rw [hl]; simp; omega
  have hcut : ((l.take (pre.length + 1 + e.row.length)).drop (pre.length + 1)) = e.row := by
    have e0 : l = (pre ++ [x]) ++ e.row ++ t := by rw [hl]; simp
    rw [e0, show pre.length + 1 + e.row.length = ((pre ++ [x]) ++ e.row).length by simp; omega, List.take_left', List.drop_left' (by simp)]
    rfl
  have hw : wrap64 ((pre.length : Int) + 1) = ((pre.length + 1 : Nat) : Int) := wrap_nat2 _ 1 (by omega)
  have hwi : wrap64 ((i : Int) + 1) = ((i + 1 : Nat) : Int) := wrap_nat2 _ 1 (by omega)
  refine ev_s ?_
  simp only [spec_l1End.j2, Bool.false_eq_true, if_false, hw]
  refine Ev.bind hE ?_
  simp only [if_neg (show ¬ (((pre.length + 1 + e.row.length : Nat) : Int) < 0) by omega), if_pos (show (0 : Int) ≤ ((pre.length + 1 : Nat) : Int) by omega), if_pos (show ((pre.length + 1 : Nat) : Int) ≤ ((pre.length + 1 + e.row.length : Nat) : Int) by omega), if_pos (show ((pre.length + 1 + e.row.length : Nat) : Int) ≤ (l.length : Int) by omega), Int.toNat_natCast, hcut, hwi]
  cases L with
  | none =>
    have h0 : i = 0 := hL
    simp only [if_neg (show ¬ ((i : Int) > 0) by omega)]
    exact hok trivial
  | some f =>
    obtain ⟨h0, hla, hf⟩ := hL
    simp only [if_pos (show (i : Int) > 0 by omega), hla]
    refine Ev.bind (l1Compare_ev e f (by omega) (by omega)) ?_
    by_cases h : O.cmp e f = .lt
    · have hlt : ordI (O.cmp e f) = -1 := by rw [h]; rfl
      simp only [hlt, if_neg (show ¬ ((-1 : Int) ≥ 0) by decide)]
      exact hok h
    · have hge : ordI (O.cmp e f) ≥ 0 := by
        have : ¬ ordI (O.cmp e f) < 0 := fun h' => h (ordI_neg.mp h')
        omega
      simp only [if_pos hge]
      exact ev_now (hno h).symm
theorem l1End_l0 : ∀ (r : O), r.Sm → ∀ (pre t l la : List Int) (L : Option O) (i : Nat), l = pre ++ r.body ++ t → l.length ≤ 1000000 → r.body.length ≤ 60 → i + r.len ≤ 1000 → O.folr L r → LastS la i L →
    Ev (fun k => spec_l1End.l0 k l (pre.length : Int) ((i + r.len : Nat) : Int) la (i : Int)) ((pre.length + r.body.length : Nat) : Int)
  | .z, _, pre, t, l, la, L, i, _, _, _, _, _, _ => by
    refine ev_s ?_
    simp only [spec_l1End.l0, O.len, O.body, Nat.add_zero, Int.lt_irrefl, if_false, List.length_nil]
    exact Ev.now _
  | .c n e r, hs, pre, t, l, la, L, i, hl, hb, hr, hi, hf, hL => by
    obtain ⟨hn, ⟨hse, hle⟩, hsr, hhd⟩ := hs
    have hrl := O.row_length e
    have hel := O.len_le e
    have hbc := O.body_c n e r
    have hblen : (O.c n e r).body.length = 1 + e.row.length + r.body.length := by rw [hbc]; simp; omega
    have hl2 : l = pre ++ (n : Int) :: (e.row ++ (r.body ++ t)) := by rw [hl, hbc]; simp
    have hlen : l.length = pre.length + 1 + e.row.length + r.body.length + t.length := by rw [hl2]; simp; omega
    have hp : pre.length < l.length := by omega
    have hx : l[pre.length] = (n : Int) := by subst hl2; simp
    have hp1 : pre.length + 1 < l.length := by omega
    have hx1 : l[pre.length + 1] = (e.len : Int) := by
      have : l[pre.length + 1]? = some (e.len : Int) := by
        rw [hl2, List.getElem?_append_right (by omega)]; simp [O.row]
      exact (List.getElem?_eq_some_iff.mp this).2
    have hE : Ev (fun k => spec_l1End.f k l ((pre.length + 1 : Nat) : Int)) ((pre.length + 1 + e.row.length : Nat) : Int) := by
      refine l1End_in hp1 hb (by rw [hx1]; omega) (by rw [hx1]; omega) ?_
      rw [hx1]
      have := l1End_l0 e hse (pre ++ [(n : Int), (e.len : Int)]) (r.body ++ t) l [] none 0 (by rw [hl2]; simp [O.row]) hb (by omega) (by omega) (by cases e <;> trivial) rfl
      simp only [List.length_append, List.length_cons, List.length_nil, Nat.zero_add] at this
      exact ev_eq this (by omega)
    rw [show i + (O.c n e r).len = i + 1 + r.len by simp only [O.len]; omega]
    refine l1End_term hp (by rw [hx]; omega) (by rw [hx]; omega) (by omega) ?_
    refine l1End_exp hl2 hb (by omega) (by simp only [O.len] at hi; omega) (by omega) hL hE (fun _ => ?_) (fun h => absurd hf h)
    have ih := l1End_l0 r hsr (pre ++ (n : Int) :: e.row) t l e.row (some e) (i + 1) (by rw [hl2]; simp) hb (by omega) (by simp only [O.len] at hi; omega) (by cases r with | z => trivial | c _ _ _ => exact hhd) ⟨by omega, rfl, by omega⟩
    have hpl : (pre ++ (n : Int) :: e.row).length = pre.length + 1 + e.row.length := by simp; omega
    rw [hpl] at ih
    exact ev_eq ih (by omega)
theorem l1End_bad {m : Nat} {L : Option O} {r : List Int} (h : BadO m L r) : ∀ (pre l la : List Int) (i : Nat), l = pre ++ r → l.length ≤ 1000000 → i + m ≤ 1000 → LastS la i L → Ev (fun k => spec_l1End.l0 k l (pre.length : Int) ((i + m : Nat) : Int) la (i : Int)) (-1) := by
  -- an exponent that can't be read
  have fall : ∀ (m : Nat) (x : Int) (r pre l la : List Int) (i : Nat), l = pre ++ x :: r → l.length ≤ 1000000 → 1 ≤ x → x ≤ 9999 → Ev (fun k => spec_l1End.f k l ((pre.length + 1 : Nat) : Int)) (-1) → Ev (fun k => spec_l1End.l0 k l (pre.length : Int) ((i + (m + 1) : Nat) : Int) la (i : Int)) (-1) := by
    intro m x r pre l la i hl hb h1 h2 hE
    have hp : pre.length < l.length := by rw [hl]; simp
    have hx : l[pre.length] = x := by subst hl; simp
    refine l1End_term hp (by omega) (by omega) (by omega) ?_
    refine ev_s ?_
    simp only [spec_l1End.j2, Bool.false_eq_true, if_false, show wrap64 ((pre.length : Int) + 1) = ((pre.length + 1 : Nat) : Int) from wrap_nat2 _ 1 (by omega)]
    refine Ev.bind hE ?_
    simp only [if_pos (show (-1 : Int) < 0 by decide)]
    exact Ev.now _
  have good : ∀ (pre t l : List Int) (x : Int) (e : O), l = pre ++ x :: (e.row ++ t) → l.length ≤ 1000000 → e.Sm → e.len ≤ 60 → e.row.length ≤ 60 → Ev (fun k => spec_l1End.f k l ((pre.length + 1 : Nat) : Int)) ((pre.length + 1 + e.row.length : Nat) : Int) := by
    intro pre t l x e hl hb hse hle hr
    have hrl := O.row_length e
    have hp1 : pre.length + 1 < l.length := by rw [hl]; simp; omega
    have hx1 : l[pre.length + 1] = (e.len : Int) := by
      have : l[pre.length + 1]? = some (e.len : Int) := by
        rw [hl, List.getElem?_append_right (by omega)]; simp [O.row]
      exact (List.getElem?_eq_some_iff.mp this).2
    refine l1End_in hp1 hb (by rw [hx1]; omega) (by rw [hx1]; omega) ?_
    rw [hx1]
    have := l1End_l0 e hse (pre ++ [x, (e.len : Int)]) t l [] none 0 (by rw [hl]; simp [O.row]) hb (by omega) (by omega) (by cases e <;> trivial) rfl
    simp only [List.length_append, List.length_cons, List.length_nil, Nat.zero_add] at this
    exact ev_eq this (by omega)
  induction h with
  | nil m L => intro pre l la i hl _ _ _; exact l1End_noterm (by omega) (.inl (by rw [hl]; simp))
  | out m L x r h =>
    intro pre l la i hl _ _ _
    have hp : pre.length < l.length := by rw [hl]; simp
    have hx : l[pre.length] = x := by subst hl; simp
    exact l1End_noterm (by omega) (.inr ⟨hp, by rw [hx]; exact h⟩)
  | head m L x r h1 h2 h =>
    intro pre l la i hl hb _ _
    refine fall m x r pre l la i hl hb h1 h2 (l1End_out ?_)
    rcases h with rfl | ⟨y, t, rfl, hy⟩
    · exact .inl (by rw [hl]; simp)
    · have hp1 : pre.length + 1 < l.length := by rw [hl]; simp
      have hx1 : l[pre.length + 1] = y := by
        have : l[pre.length + 1]? = some y := by rw [hl, List.getElem?_append_right (by omega)]; simp
        exact (List.getElem?_eq_some_iff.mp this).2
      exact .inr ⟨hp1, by rw [hx1]; exact hy⟩
  | deep m L x y r h1 h2 h3 h4 h ih =>
    intro pre l la i hl hb _ _
    have hp1 : pre.length + 1 < l.length := by rw [hl]; simp
    have hx1 : l[pre.length + 1] = y := by
      have : l[pre.length + 1]? = some y := by rw [hl, List.getElem?_append_right (by omega)]; simp
      exact (List.getElem?_eq_some_iff.mp this).2
    refine fall m x _ pre l la i hl hb h1 h2 (l1End_in hp1 hb (by omega) (by omega) ?_)
    have := ih (pre ++ [x, y]) l [] 0 (by rw [hl]; simp) hb (by omega) rfl
    rw [hx1]
    simp only [List.length_append, List.length_cons, List.length_nil, Nat.zero_add, Int.toNat_of_nonneg h3] at this
    exact this
  | order m f e x t h1 h2 he hle hr h =>
    intro pre l la i hl hb hi hL
    have hp : pre.length < l.length := by rw [hl]; simp
    have hx : l[pre.length] = x := by subst hl; simp
    refine l1End_term hp (by omega) (by omega) (by omega) ?_
    exact l1End_exp hl hb (by omega) (by omega) hr hL (good pre t l x e hl hb he hle hr) (fun h' => absurd h' h) (fun _ => rfl)
  | next m L e x t h1 h2 he hle hr hf h ih =>
    intro pre l la i hl hb hi hL
    have hp : pre.length < l.length := by rw [hl]; simp
    have hx : l[pre.length] = x := by subst hl; simp
    refine l1End_term hp (by omega) (by omega) (by omega) ?_
    refine l1End_exp hl hb (by omega) (by omega) hr hL (good pre t l x e hl hb he hle hr) (fun _ => ?_) (fun h' => absurd hf h')
    have := ih (pre ++ x :: e.row) l e.row (i + 1) (by rw [hl]; simp) hb (by omega) ⟨by omega, rfl, hr⟩
    rw [show (pre ++ x :: e.row).length = pre.length + 1 + e.row.length by simp; omega, show i + 1 + m = i + (m + 1) by omega] at this
    exact this
theorem OrdValid_good {o : O} (hs : o.Sm) (hr : o.row.length ≤ 60) : Ev (fun k => spec_OrdValid.f k o.row) true := by
  have hrl := O.row_length o
  have hle := O.len_le o
  have hE : Ev (fun k => spec_l1End.f k o.row ((0 : Nat) : Int)) (o.row.length : Int) := by
    refine l1End_in (p := 0) (by omega) (by omega) (by simp [O.row]) (by simp [O.row]; omega) ?_
    have := l1End_l0 o hs [(o.len : Int)] [] o.row [] none 0 (by simp [O.row]) (by omega) (by omega) (by omega) (by cases o <;> trivial) rfl
    simp only [List.length_singleton, Nat.zero_add] at this
    exact ev_eq this (by omega)
  simp only [spec_OrdValid.f, l1In_eq, Option.bind_some, decide_eq_true (show 1 ≤ (o.row.length : Int) ∧ (o.row.length : Int) ≤ 60 by omega), if_true]
  refine Ev.bind hE ?_
  exact ev_now (by simp)
theorem OrdValid_bad {l : List Int} (h : NoOrd l) : Ev (fun k => spec_OrdValid.f k l) false := by
  by_cases h0 : 1 ≤ (l.length : Int) ∧ (l.length : Int) ≤ 60
  · simp only [spec_OrdValid.f, l1In_eq, Option.bind_some, decide_eq_true h0, if_true]
    have fin : ∀ {q : Int}, q ≠ (l.length : Int) → Ev (fun k => spec_l1End.f k l ((0 : Nat) : Int)) q → Ev (fun k => (spec_l1End.f k l 0).bind fun t167 => some (t167 == (l.length : Int))) false := by
      intro q hq hE
      refine Ev.bind hE ?_
      exact ev_now (beq_eq_false_iff_ne.mpr hq)
    rcases h with h | rfl | ⟨y, r, rfl, hy⟩ | ⟨y, r, rfl, h1, h2, hb⟩ | ⟨o, x, t, rfl, hs, hl⟩
    · omega
    · simp at h0
    · exact fin (q := -1) (by omega) (l1End_out (.inr ⟨by simp, hy⟩))
    · refine fin (q := -1) (by omega) (l1End_in (p := 0) (by simp) (by omega) h1 h2 ?_)
      have := l1End_bad hb [y] (y :: r) [] 0 rfl (by omega) (by omega) rfl
      simp only [List.length_singleton, Nat.zero_add, Int.toNat_of_nonneg h1] at this
      exact this
    · have hrl := O.row_length o
      have hlen : (o.row ++ x :: t).length = o.row.length + (t.length + 1) := by simp
      refine fin (q := (o.row.length : Int)) (by omega) (l1End_in (p := 0) (by omega) (by omega) (by simp [O.row]) (by simp [O.row]; omega) ?_)
      have := l1End_l0 o hs [(o.len : Int)] (x :: t) (o.row ++ x :: t) [] none 0 (by simp [O.row]) (by omega) (by omega) (by omega) (by cases o <;> trivial) rfl
      simp only [List.length_singleton, Nat.zero_add] at this
      have e1 : (o.row ++ x :: t)[0]'(by omega) = (o.len : Int) := by simp [O.row]
      rw [e1]
      exact ev_eq this (by omega)
  · simp only [spec_OrdValid.f, l1In_eq, Option.bind_some, decide_eq_false h0, Bool.false_eq_true, if_false]
    exact Ev.now _

-- part: coreStep
/-! ### steps down -/
def O.kind : O → Nat
  | .z => 0
  | .c _ .z .z => 1
  | .c _ (.c ..) .z => 2
  | .c _ _ (.c n e r) => O.kind (.c n e r)
/-- One less of the last term. -/
def O.before : O → O
  | .z => .z
  | .c n e .z => if n = 1 then .z else .c (n - 1) e .z
  | .c n e (.c m f r) => .c n e (O.before (.c m f r))
def O.step (k : Nat) : O → O
  | .z => .z
  | .c n .z .z => O.before (.c n .z .z)
  | .c n (.c m f r) .z =>
    if O.kind (.c m f r) = 2 then O.app (O.before (.c n (.c m f r) .z)) (.c 1 (O.step k (.c m f r)) .z)
    else if k = 0 then O.before (.c n (.c m f r) .z)
    else O.app (O.before (.c n (.c m f r) .z)) (.c k (O.before (.c m f r)) .z)
  | .c n e (.c m f r) => .c n e (O.step k (.c m f r))

-- part: coreH
/-! ### hydras -/
def H.ord : H → O
  | .nul => .z
  | .cons b r => O.ins (H.ord b) (H.ord r)
def H.size : H → Nat
  | .nul => 1
  | .cons b r => H.size b + H.size r
theorem H.size_pos : ∀ h : H, 1 ≤ h.size
  | .nul => Nat.le_refl _
  | .cons b r => by have := H.size_pos r; simp only [H.size]; omega
theorem H.ord_NF : ∀ h : H, O.NF h.ord
  | .nul => trivial
  | .cons b r => O.ins_NF (H.ord_NF b) (H.ord_NF r)
theorem H.ord_z : ∀ h : H, h.ord = .z ↔ h = .nul
  | .nul => by simp [H.ord]
  | .cons b r => by
    simp only [H.ord, reduceCtorEq, iff_false]
    intro h
    have := O.lt_ins b.ord r.ord
    rw [h] at this
    cases h' : r.ord <;> rw [h'] at this <;> simp [O.cmp] at this

/-- The first branch's ordinal is not greater. -/
def H.le (e : O) : H → Prop
  | .nul => True
  | .cons b _ => O.cmp b.ord e ≠ .gt
def H.sorted : H → Prop
  | .nul => True
  | .cons b r => H.sorted b ∧ H.sorted r ∧ H.le b.ord r
def H.rep : Nat → H → H → H
  | 0, _, r => r
  | k + 1, b, r => .cons b (H.rep k b r)
def H.of : O → H
  | .z => .nul
  | .c n e r => H.rep n (H.of e) (H.of r)
def O.size : O → Nat
  | .z => 1
  | .c n e r => n * O.size e + O.size r

theorem H.rep_size (b r : H) : ∀ k, (H.rep k b r).size = k * b.size + r.size
  | 0 => by simp [H.rep]
  | k + 1 => by simp only [H.rep, H.size, H.rep_size b r k, Nat.add_mul]; omega
theorem H.of_size : ∀ o : O, (H.of o).size = o.size
  | .z => rfl
  | .c n e r => by rw [H.of, H.rep_size, H.of_size e, H.of_size r]; rfl
theorem O.ins_size (e : O) : ∀ x : O, (O.ins e x).size = e.size + x.size
  | .z => by simp [O.ins, O.size]
  | .c n f r => by
    unfold O.ins
    cases hc : O.cmp f e with
    | gt => simp only [O.size, O.ins_size e r]; omega
    | eq => rw [← O.eq_of_cmp _ _ hc]; simp only [O.size, Nat.add_mul]; omega
    | lt => simp only [O.size]; omega
theorem H.ord_size : ∀ h : H, h.ord.size = h.size
  | .nul => rfl
  | .cons b r => by rw [H.ord, O.ins_size, H.ord_size b, H.ord_size r]; rfl

theorem H.rep_ord (b r : H) : ∀ k, (H.rep k b r).ord = O.insk b.ord k r.ord
  | 0 => rfl
  | k + 1 => by simp only [H.rep, H.ord, H.rep_ord b r k, O.insk]
theorem O.insk_big {e x : O} (h : O.hd e x) : ∀ k, 1 ≤ k → O.insk e k x = .c k e x
  | 1, _ => O.ins_big h
  | k + 2, _ => by rw [O.insk, O.insk_big h (k + 1) (by omega)]; simp [O.ins, O.cmp_self]
theorem H.ord_of : ∀ o : O, O.NF o → (H.of o).ord = o
  | .z, _ => rfl
  | .c n e r, h => by
    rw [H.of, H.rep_ord, H.ord_of e h.2.1, H.ord_of r h.2.2.1, O.insk_big h.2.2.2 n h.1]
theorem H.le_of_hd {e : O} : ∀ {o : O}, O.NF o → O.hd e o → H.le e (H.of o)
  | .z, _, _ => trivial
  | .c n f r, hn, h => by
    obtain ⟨m, rfl⟩ : ∃ m, n = m + 1 := ⟨n - 1, by have := hn.1; omega⟩
    simp only [H.of, H.rep, H.le]
    rw [H.ord_of f hn.2.1, show O.cmp f e = .lt from h]; simp
theorem H.rep_sorted {b r : H} (hb : b.sorted) (hr : r.sorted) (h : H.le b.ord r) : ∀ k, (H.rep k b r).sorted
  | 0 => hr
  | k + 1 => ⟨hb, H.rep_sorted hb hr h k, by
    cases k with
    | zero => exact h
    | succ k => simp [H.rep, H.le, O.cmp_self]⟩
theorem H.of_sorted : ∀ o : O, O.NF o → (H.of o).sorted
  | .z, _ => trivial
  | .c n e r, h => H.rep_sorted (H.of_sorted e h.2.1) (H.of_sorted r h.2.2.1) (by rw [H.ord_of e h.2.1]; exact H.le_of_hd h.2.2.1 h.2.2.2) n


theorem H.ord_head : ∀ {b r : H}, (H.cons b r).sorted → ∃ n s, (H.cons b r).ord = .c n b.ord s
  | b, .nul, _ => ⟨1, .z, rfl⟩
  | b, .cons b' r', h => by
    obtain ⟨n, s, hs⟩ := H.ord_head h.2.1
    have hle : O.cmp b'.ord b.ord ≠ .gt := h.2.2
    rw [H.ord, hs]
    cases hc : O.cmp b'.ord b.ord with
    | gt => exact absurd hc hle
    | eq => exact ⟨n + 1, s, by rw [O.ins, hc, O.eq_of_cmp _ _ hc]⟩
    | lt => exact ⟨1, _, by rw [O.ins, hc]⟩
theorem H.ord_le {b r : H} (h : (H.cons b r).sorted) : O.hd b.ord r.ord ∨ ∃ n s, r.ord = .c n b.ord s := by
  cases r with
  | nul => exact .inl trivial
  | cons b' r' =>
    obtain ⟨n, s, hs⟩ := H.ord_head h.2.1
    have hle : O.cmp b'.ord b.ord ≠ .gt := h.2.2
    rw [hs]
    cases hc : O.cmp b'.ord b.ord with
    | gt => exact absurd hc hle
    | eq => exact .inr ⟨n, s, by rw [O.eq_of_cmp _ _ hc]⟩
    | lt => exact .inl hc
theorem H.of_ins {e x : O} (h : O.hd e x ∨ ∃ n s, x = .c n e s) : H.of (O.ins e x) = .cons (H.of e) (H.of x) := by
  rcases h with h | ⟨n, s, rfl⟩
  · rw [O.ins_big h]; rfl
  · simp [O.ins, O.cmp_self, H.of, H.rep]
theorem H.of_ord : ∀ h : H, h.sorted → H.of h.ord = h
  | .nul, _ => rfl
  | .cons b r, h => by rw [H.ord, H.of_ins (H.ord_le h), H.of_ord b h.1, H.of_ord r h.2.1]

/-- All branches in order. -/
def H.isort (h : H) : H := H.of h.ord
theorem H.isort_sorted (h : H) : h.isort.sorted := H.of_sorted _ h.ord_NF
theorem H.isort_ord (h : H) : h.isort.ord = h.ord := H.ord_of _ h.ord_NF
theorem H.isort_size (h : H) : h.isort.size = h.size := by rw [H.isort, H.of_size, H.ord_size]
theorem H.isort_of_sorted {h : H} (hs : h.sorted) : h.isort = h := H.of_ord h hs
theorem H.isort_unique {g h : H} (hg : g.sorted) (he : g.ord = h.ord) : g = h.isort := by rw [H.isort, ← he, H.of_ord g hg]
theorem H.isort_eq_iff (g h : H) : g.isort = h.isort ↔ g.ord = h.ord := ⟨fun e => by rw [← g.isort_ord, e, h.isort_ord], fun e => by rw [H.isort, e]; rfl⟩

/-! ### steps and last heads -/
theorem O.before_hd {g : O} : ∀ {x : O}, O.hd g x → O.hd g (O.before x)
  | .z, _ => trivial
  | .c n e .z, h => by
    unfold O.before; split
    · trivial
    · exact h
  | .c n e (.c m f r), h => h
theorem O.kind_step (k : Nat) : ∀ x : O, O.kind x = 1 → O.step k x = O.before x
  | .z, h => by simp [O.kind] at h
  | .c n .z .z, _ => by simp [O.step]
  | .c n (.c ..) .z, h => by simp [O.kind] at h
  | .c n .z (.c m f r), h => by
    have := O.kind_step k (.c m f r) (by simpa [O.kind] using h)
    simp only [O.step, O.before, this]
  | .c n (.c a b d) (.c m f r), h => by
    have := O.kind_step k (.c m f r) (by simpa [O.kind] using h)
    simp only [O.step, O.before, this]
theorem O.kind_cons (n : Nat) (e : O) {r : O} (h : r ≠ .z) : O.kind (.c n e r) = O.kind r := by
  cases r with
  | z => exact absurd rfl h
  | c m f s => cases e <;> rfl
theorem O.step_cons (k n : Nat) (e : O) {r : O} (h : r ≠ .z) : O.step k (.c n e r) = .c n e (O.step k r) := by
  cases r with
  | z => exact absurd rfl h
  | c m f s => cases e <;> rfl
theorem O.before_cons (n : Nat) (e : O) {r : O} (h : r ≠ .z) : O.before (.c n e r) = .c n e (O.before r) := by
  cases r with
  | z => exact absurd rfl h
  | c m f s => rfl
theorem O.kind_pos : ∀ x : O, x ≠ .z → O.kind x = 1 ∨ O.kind x = 2
  | .z, h => absurd rfl h
  | .c n e r, _ => by
    by_cases hr : r = .z
    · subst hr; cases e <;> simp [O.kind]
    · rw [O.kind_cons n e hr]; exact O.kind_pos r hr

/-- What stands behind the terms of a last exponent e that is not 0. -/
def O.tail (k : Nat) (e : O) : O := if O.kind e = 2 then .c 1 (O.step k e) .z else if k = 0 then .z else .c k (O.before e) .z
theorem O.step_last (k n : Nat) {e : O} (he : e ≠ .z) : O.step k (.c n e .z) = O.app (O.before (.c n e .z)) (O.tail k e) := by
  cases e with
  | z => exact absurd rfl he
  | c m f r =>
    simp only [O.step, O.tail]
    split
    · rfl
    · split
      · rw [O.app_z]
      · rfl

theorem O.tail_hd_of (k : Nat) (e : O) (hz : e ≠ .z) (h : O.cmp (O.step k e) e = .lt) : O.hd e (O.tail k e) := by
  unfold O.tail
  split
  · exact h
  · split
    · trivial
    · rename_i h1 _
      have h2 : O.kind e = 1 := by rcases O.kind_pos e hz with h | h; exact h; exact absurd h h1
      show O.cmp (O.before e) e = .lt
      rw [← O.kind_step k e h2]
      exact h
theorem O.step_lt (k : Nat) : ∀ x : O, O.NF x → x ≠ .z → O.cmp (O.step k x) x = .lt
  | .z, _, h => absurd rfl h
  | .c n e r, hx, _ => by
    have h1 : 1 ≤ n := hx.1
    have hr' := O.step_lt k r hx.2.2.1
    have he' := O.step_lt k e hx.2.1
    by_cases hr : r = .z
    · subst hr
      by_cases he : e = .z
      · subst he
        simp only [O.step, O.before]
        split
        · rfl
        · simp [O.cmp, Nat.compare_eq_lt.mpr (show n - 1 < n by omega)]
      · rw [O.step_last k n he]
        have ht := O.tail_hd_of k e he (he' he)
        simp only [O.before]
        split
        · simp only [O.app]; exact O.hd_lt ht _ _
        · simp [O.app, O.cmp, O.cmp_self, Nat.compare_eq_lt.mpr (show n - 1 < n by omega)]
    · rw [O.step_cons k n e hr]
      simp [O.cmp, O.cmp_self, hr' hr]
theorem O.tail_hd (k : Nat) (e : O) (he : O.NF e) (hz : e ≠ .z) : O.hd e (O.tail k e) := O.tail_hd_of k e hz (O.step_lt k e he hz)
theorem O.step_hd (k : Nat) {e R : O} (hR : O.NF R) (h : O.hd e R) : O.hd e (O.step k R) := by
  by_cases hz : R = .z
  · subst hz; exact trivial
  · have hlt := O.step_lt k R hR hz
    cases R with
    | z => exact absurd rfl hz
    | c n f r =>
      cases hs : O.step k (.c n f r) with
      | z => trivial
      | c m g s =>
        rw [hs] at hlt
        simp only [O.cmp, Ordering.then_eq_lt] at hlt
        rcases hlt with (hlt | ⟨hlt, _⟩) | ⟨hlt, _⟩
        · exact O.lt_trans _ _ _ hlt h
        · show O.cmp g e = .lt; rw [O.eq_of_cmp _ _ hlt]; exact h
        · rw [Ordering.then_eq_eq] at hlt; show O.cmp g e = .lt; rw [O.eq_of_cmp _ _ hlt.1]; exact h
theorem O.step_one (k : Nat) {e : O} (he : e ≠ .z) : O.step k (.c 1 e .z) = O.tail k e := by
  rw [O.step_last k 1 he]; simp [O.before, O.app]
theorem O.ins_step (k : Nat) {e R : O} (hR : O.NF R) (hz : R ≠ .z) (h : O.hd e R ∨ ∃ n s, R = .c n e s) : O.step k (O.ins e R) = O.ins e (O.step k R) := by
  rcases h with h | ⟨n, s, rfl⟩
  · rw [O.ins_big h, O.step_cons k 1 e hz, O.ins_big (O.step_hd k hR h)]
  · have hi : O.ins e (.c n e s) = .c (n + 1) e s := by simp [O.ins, O.cmp_self]
    rw [hi]
    have h1 : 1 ≤ n := hR.1
    by_cases hs : s = .z
    · subst hs
      by_cases he : e = .z
      · subst he
        simp only [O.step, O.before]
        by_cases hn : n = 1
        · subst hn; rfl
        · rw [if_neg (by omega), if_neg hn]; simp only [O.ins, O.cmp]; rw [show n - 1 + 1 = n + 1 - 1 by omega]
      · rw [O.step_last k _ he, O.step_last k _ he]
        have ht := O.tail_hd k e hR.2.1 he
        simp only [O.before]
        rw [if_neg (by omega)]
        by_cases hn : n = 1
        · subst hn; simp only [if_true, O.app, O.ins_big ht]
        · rw [if_neg hn]; simp only [O.app, O.ins, O.cmp_self]; rw [show n - 1 + 1 = n + 1 - 1 by omega]
    · rw [O.step_cons k _ e hs, O.step_cons k _ e hs]
      simp [O.ins, O.cmp_self]

/-- The last head cut off; was it a branch of this one? -/
def H.cutLast (k : Nat) : H → H × Bool
  | .nul => (.nul, false)
  | .cons .nul .nul => (.nul, true)
  | .cons (.cons b s) .nul => (H.rep (if (H.cutLast k (.cons b s)).2 = true then k else 1) (H.cutLast k (.cons b s)).1 .nul, false)
  | .cons b (.cons b' r) => (.cons b (H.cutLast k (.cons b' r)).1, (H.cutLast k (.cons b' r)).2)

theorem H.le_trans' {e f : O} (h : O.cmp e f = .lt) : ∀ {r : H}, H.le e r → H.le f r
  | .nul, _ => trivial
  | .cons b r, h' => by
    have h'' : O.cmp b.ord e ≠ .gt := h'
    show O.cmp b.ord f ≠ .gt
    cases hc : O.cmp b.ord e with
    | gt => exact absurd hc h''
    | eq => rw [O.eq_of_cmp _ _ hc, h]; simp
    | lt => rw [O.lt_trans _ _ _ hc h]; simp
theorem H.le_of_ord {e : O} : ∀ {r : H}, r.sorted → (O.hd e r.ord ∨ ∃ n s, r.ord = .c n e s) → H.le e r
  | .nul, _, _ => trivial
  | .cons b r, hs, h => by
    obtain ⟨n, s, ho⟩ := H.ord_head hs
    show O.cmp b.ord e ≠ .gt
    rw [ho] at h
    rcases h with h | ⟨m, t, h⟩
    · rw [show O.cmp b.ord e = .lt from h]; simp
    · injection h with _ h _; rw [h, O.cmp_self]; simp
theorem O.step_hd' (k : Nat) {e R : O} (hR : O.NF R) (h : O.hd e R ∨ ∃ n s, R = .c n e s) : O.hd e (O.step k R) ∨ ∃ n s, O.step k R = .c n e s := by
  rcases h with h | ⟨n, s, rfl⟩
  · exact .inl (O.step_hd k hR h)
  · have hlt := O.step_lt k _ hR (by simp)
    cases hs : O.step k (.c n e s) with
    | z => exact .inl trivial
    | c m g t =>
      rw [hs] at hlt
      simp only [O.cmp, Ordering.then_eq_lt] at hlt
      rcases hlt with (hlt | ⟨hlt, _⟩) | ⟨hlt, _⟩
      · exact .inl hlt
      · rw [O.eq_of_cmp _ _ hlt]; exact .inr ⟨m, t, rfl⟩
      · rw [Ordering.then_eq_eq] at hlt; rw [O.eq_of_cmp _ _ hlt.1]; exact .inr ⟨m, t, rfl⟩

/-- Cutting the last head of a sorted hydra is a step down, and it stays sorted. -/
theorem H.cutLast_step (k : Nat) (hk : 1 ≤ k) : ∀ h : H, h.sorted → h ≠ .nul → (H.cutLast k h).1.ord = O.step k h.ord ∧ (H.cutLast k h).1.sorted ∧ ((H.cutLast k h).2 = true ↔ O.kind h.ord = 1)
  | .nul, _, hz => absurd rfl hz
  | .cons .nul .nul, _, _ => by simp [H.cutLast, H.ord, O.ins, O.step, O.before, H.sorted, O.kind]
  | .cons (.cons b s) .nul, hs, _ => by
    obtain ⟨h1, h2, h3⟩ := H.cutLast_step k hk (.cons b s) hs.1 (by simp)
    have hz : (H.cons b s).ord ≠ .z := by rw [Ne, H.ord_z]; simp
    generalize hc : H.cutLast k (.cons b s) = c at *
    obtain ⟨b', own⟩ := c
    simp only [H.cutLast, hc]
    refine ⟨?_, H.rep_sorted (r := .nul) h2 trivial trivial _, ?_⟩
    · rw [H.rep_ord]
      show _ = O.step k (O.ins (H.cons b s).ord .z)
      rw [show O.ins (H.cons b s).ord .z = .c 1 (H.cons b s).ord .z from rfl, O.step_one k hz]
      simp only at h1 h3
      unfold O.tail
      rcases O.kind_pos _ hz with h4 | h4
      · rw [if_pos (h3.mpr h4), if_neg (by omega), if_neg (by omega), show (H.nul).ord = .z from rfl, O.insk_big (x := .z) trivial k hk, h1, O.kind_step k _ h4]
      · rw [if_neg (by rw [h3]; omega), if_pos h4, h1]; rfl
    · simp only [Bool.false_eq_true, false_iff]
      show O.kind (O.c 1 (H.cons b s).ord .z) ≠ 1
      cases ho : (H.cons b s).ord with
      | z => exact absurd ho hz
      | c n e r => simp [O.kind]
  | .cons b (.cons b' r), hs, _ => by
    obtain ⟨h1, h2, h3⟩ := H.cutLast_step k hk (.cons b' r) hs.2.1 (by simp)
    have hz : (H.cons b' r).ord ≠ .z := by rw [Ne, H.ord_z]; simp
    have hle := H.ord_le hs
    have hst := O.ins_step k (H.ord_NF (.cons b' r)) hz hle
    simp only [H.cutLast]
    refine ⟨?_, ⟨hs.1, h2, H.le_of_ord h2 ?_⟩, ?_⟩
    · show O.ins b.ord _ = O.step k (O.ins b.ord (H.cons b' r).ord)
      rw [hst, h1]
    · rw [h1]; exact O.step_hd' k (H.ord_NF _) hle
    · rw [h3]
      show _ ↔ O.kind (O.ins b.ord (H.cons b' r).ord) = 1
      generalize (H.cons b' r).ord = R at *
      rcases hle with hle | ⟨n, t, rfl⟩
      · rw [O.ins_big hle, O.kind_cons _ _ hz]
      · have hi : O.ins b.ord (.c n b.ord t) = .c (n + 1) b.ord t := by simp [O.ins, O.cmp_self]
        rw [hi]
        by_cases ht : t = .z
        · subst ht; cases b.ord <;> simp [O.kind]
        · rw [O.kind_cons _ _ ht, O.kind_cons _ _ ht]

/-! ### any head -/
def H.heads : H → Nat
  | .nul => 0
  | .cons .nul r => 1 + H.heads r
  | .cons (.cons b s) r => H.heads (.cons b s) + H.heads r
def H.cutAt (k : Nat) : H → Nat → H × Bool
  | .nul, _ => (.nul, false)
  | .cons .nul r, 0 => (r, true)
  | .cons .nul r, j + 1 => (.cons .nul (H.cutAt k r j).1, (H.cutAt k r j).2)
  | .cons (.cons b s) r, j =>
    if j < H.heads (.cons b s) then (H.rep (if (H.cutAt k (.cons b s) j).2 = true then k else 1) (H.cutAt k (.cons b s) j).1 r, false)
    else (.cons (.cons b s) (H.cutAt k r (j - H.heads (.cons b s))).1, (H.cutAt k r (j - H.heads (.cons b s))).2)
theorem H.heads_pos : ∀ {h : H}, h ≠ .nul → 1 ≤ h.heads
  | .nul, hz => absurd rfl hz
  | .cons .nul r, _ => by simp only [H.heads]; omega
  | .cons (.cons b s) r, _ => by have := H.heads_pos (h := .cons b s) (by simp); simp only [H.heads]; omega
theorem H.cutAt_lt (k : Nat) : ∀ (h : H) (j : Nat), j < h.heads → O.cmp (H.cutAt k h j).1.ord h.ord = .lt
  | .nul, _, hj => by simp [H.heads] at hj
  | .cons .nul r, 0, _ => by simp only [H.cutAt, H.ord]; exact O.lt_ins _ _
  | .cons .nul r, j + 1, hj => by
    have := H.cutAt_lt k r j (by simp only [H.heads] at hj; omega)
    simp only [H.cutAt, H.ord]
    exact O.ins_mono _ _ _ (H.ord_NF _) (H.ord_NF _) this
  | .cons (.cons b s) r, j, hj => by
    rw [H.cutAt]
    split
    · rename_i h1
      have := H.cutAt_lt k (.cons b s) j h1
      simp only [H.rep_ord]
      exact O.insk_lt this _ _
    · rename_i h1
      have := H.cutAt_lt k r (j - H.heads (.cons b s)) (by simp only [H.heads] at hj; omega)
      exact O.ins_mono _ _ _ (H.ord_NF _) (H.ord_NF _) this
theorem H.cutAt_size : ∀ (h : H) (j : Nat), j < h.heads → (H.cutAt 1 h j).1.size + 1 = h.size
  | .nul, _, hj => by simp [H.heads] at hj
  | .cons .nul r, 0, _ => by simp only [H.cutAt, H.size]; omega
  | .cons .nul r, j + 1, hj => by
    have := H.cutAt_size r j (by simp only [H.heads] at hj; omega)
    simp only [H.cutAt, H.size]; omega
  | .cons (.cons b s) r, j, hj => by
    rw [H.cutAt]
    split
    · rename_i h1
      have := H.cutAt_size (.cons b s) j h1
      rw [H.rep_size]
      simp only [H.size] at *
      rw [show (if (H.cutAt 1 (H.cons b s) j).2 = true then 1 else 1) = 1 by split <;> rfl]; omega
    · rename_i h1
      have := H.cutAt_size r (j - H.heads (.cons b s)) (by simp only [H.heads] at hj; omega)
      simp only [H.size] at *; omega
theorem H.cutAt_last (k : Nat) : ∀ h : H, h ≠ .nul → H.cutAt k h (h.heads - 1) = H.cutLast k h
  | .nul, hz => absurd rfl hz
  | .cons .nul .nul, _ => rfl
  | .cons .nul (.cons b r), _ => by
    have ih := H.cutAt_last k (.cons b r) (by simp)
    have hp := H.heads_pos (h := .cons b r) (by simp)
    rw [show (H.cons .nul (.cons b r)).heads - 1 = ((H.cons b r).heads - 1) + 1 by simp only [H.heads]; omega]
    simp only [H.cutAt, H.cutLast, ih]
  | .cons (.cons b s) .nul, _ => by
    have ih := H.cutAt_last k (.cons b s) (by simp)
    have hp := H.heads_pos (h := .cons b s) (by simp)
    have he : (H.cons (.cons b s) .nul).heads - 1 = (H.cons b s).heads - 1 := by simp [H.heads]
    rw [he]
    simp only [H.cutAt, H.cutLast]
    rw [if_pos (by omega), ih]
  | .cons (.cons b s) (.cons b' r), _ => by
    have ih := H.cutAt_last k (.cons b' r) (by simp)
    have hp := H.heads_pos (h := .cons b' r) (by simp)
    have he : (H.cons (.cons b s) (.cons b' r)).heads - 1 = (H.cons b s).heads + ((H.cons b' r).heads - 1) := by simp only [H.heads]; omega
    rw [he]
    simp only [H.cutAt, H.cutLast]
    rw [if_neg (by omega), show (H.cons b s).heads + ((H.cons b' r).heads - 1) - (H.cons b s).heads = (H.cons b' r).heads - 1 by omega, ih]

-- part: l5Tree
theorem rd_L1_get {x : List (List Int)} {i : Nat} (h : i < x.length) : rd_L1 x (i : Int) = x[i] := by simp [rd_L1, h]
theorem l5Tree_l0 (x : List (List Int)) (hx : x.length ≤ 1000000) : ∀ (d i : Nat) (out : List Int), i + d = x.length → out.length + (x.drop i).flatten.length ≤ 1000000 → Ev (fun k => spec_l5Tree.l0 k x out (i : Int)) (out ++ (x.drop i).flatten)
  | 0, i, out, h, _ => by
    refine ev_s ?_
    simp only [spec_l5Tree.l0, if_neg (show ¬ ((i : Int) < (x.length : Int)) by omega)]
    rw [List.drop_eq_nil_of_le (by omega)]
    exact ev_now (by simp)
  | d + 1, i, out, h, hl => by
    have hi : i < x.length := by omega
    rw [List.drop_eq_getElem_cons hi, List.flatten_cons] at hl ⊢
    simp only [List.length_append] at hl
    refine ev_s ?_
    simp only [spec_l5Tree.l0, if_pos (show (i : Int) < (x.length : Int) by omega), if_pos (show 0 ≤ (i : Int) by omega), rd_L1_get hi, if_pos (show out.length + x[i].length < 17592186044416 by omega), show wrap64 ((i : Int) + 1) = ((i + 1 : Nat) : Int) from wrap_nat2 i 1 (by omega)]
    exact ev_eq (l5Tree_l0 x hx d (i + 1) (out ++ x[i]) (by omega) (by simp only [List.length_append]; omega)) (by simp)
theorem l5Tree_ev (x : List (List Int)) (hx : x.length ≤ 1000000) (hl : x.flatten.length ≤ 999999) : Ev (fun k => spec_l5Tree.f k x) ((x.length : Int) :: x.flatten) := by
  have := l5Tree_l0 x hx x.length 0 [(x.length : Int)] (by omega) (by simp only [List.drop_zero, List.length_singleton]; omega)
  exact ev_eq this (by simp)

-- part: hOf
/-! ### hydras of ordinals -/
theorem H.row_size : ∀ h : H, h.row.length = h.size
  | .nul => rfl
  | .cons b r => by
    have h1 := H.row_size b
    have h2 := H.row_size r
    rw [H.row_length] at h2 ⊢
    rw [H.body_cons, List.length_append, H.size]; omega
/-- Branches behind branches. -/
def H.app : H → H → H
  | .nul, h => h
  | .cons b r, h => .cons b (H.app r h)
theorem H.app_nul : ∀ g : H, H.app g .nul = g
  | .nul => rfl
  | .cons b r => by rw [H.app, H.app_nul r]
theorem H.app_assoc : ∀ a b c : H, H.app (H.app a b) c = H.app a (H.app b c)
  | .nul, _, _ => rfl
  | .cons x r, b, c => by simp only [H.app, H.app_assoc r b c]
theorem H.app_size : ∀ g h : H, (H.app g h).size + 1 = g.size + h.size
  | .nul, h => by simp only [H.app, H.size]; omega
  | .cons b r, h => by have := H.app_size r h; simp only [H.app, H.size]; omega
theorem H.app_rows : ∀ g h : H, (H.app g h).rows = g.rows ++ h.rows
  | .nul, _ => rfl
  | .cons b r, h => by simp only [H.app, H.rows, H.app_rows r h, List.cons_append]
theorem H.app_terms : ∀ g h : H, (H.app g h).terms = g.terms ++ h.terms
  | .nul, _ => rfl
  | .cons b r, h => by simp only [H.app, H.terms, H.app_terms r h, List.cons_append]
theorem H.rep_app (b r : H) : ∀ k, H.rep k b r = H.app (H.rep k b .nul) r
  | 0 => rfl
  | k + 1 => by simp only [H.rep, H.app, ← H.rep_app b r k]
theorem H.of_app (n : Nat) (e r : O) : H.of (.c n e r) = H.app (H.rep n (H.of e) .nul) (H.of r) := by rw [H.of]; exact H.rep_app _ _ n
theorem H.rep_terms_len (b : H) : ∀ n, (H.rep n b .nul).terms.length = n
  | 0 => rfl
  | n + 1 => by simp only [H.rep, H.terms, List.length_cons, H.rep_terms_len b n]
theorem H.len_size (h : H) : h.len + 1 ≤ h.size := by have := H.len_le h; have := H.row_size h; have := H.row_length h; omega
theorem O.size_pos : ∀ o : O, 1 ≤ o.size
  | .z => Nat.le_refl _
  | .c n e r => by have := O.size_pos r; simp only [O.size]; omega
/-! the program -/
theorem hydraSize_l0 : ∀ (r : O), r.Sm → ∀ (pre : List S72) (a : Nat), pre.length + r.body.length ≤ 100000 → a ≤ 1000 →
    Ev (fun k => impl_hydraSize.l0 k (a : Int) (pre ++ r.terms) (((pre ++ r.terms).length : Nat) : Int) (pre.length : Int)) ((min 1000 (a + (r.size - 1)) : Nat) : Int)
  | .z, _, pre, a, _, ha => by
    refine ev_s ?_
    simp only [impl_hydraSize.l0, O.terms, List.append_nil, Int.lt_irrefl, if_false]
    exact ev_now (by simp only [O.size]; omega)
  | .c n e r, hs, pre, a, hp, ha => by
    obtain ⟨hn, ⟨hse, hle⟩, hsr, hhd⟩ := hs
    rw [O.body_c] at hp
    simp only [List.length_cons, List.length_append] at hp
    have hre := O.row_length e
    have hE : Ev (fun k => impl_hydraSize.f k e.terms) ((min 1000 e.size : Nat) : Int) := by
      refine ev_s ?_
      simp only [impl_hydraSize.f]
      have := hydraSize_l0 e hse [] 1 (by simp only [List.length_nil]; omega) (by omega)
      simp only [List.nil_append] at this
      have h1 := O.size_pos e
      exact ev_eq this (by rw [show 1 + (e.size - 1) = e.size by omega])
    have hlen : (pre ++ (O.c n e r).terms).length = pre.length + (r.terms.length + 1) := by simp [O.terms]
    have hmid : rd_T72 (pre ++ (O.c n e r).terms) (pre.length : Int) = ⟨(n : Int), e.terms⟩ := rd_T72_mid pre r.terms ⟨(n : Int), e.terms⟩
    have happ : pre ++ (O.c n e r).terms = (pre ++ [⟨(n : Int), e.terms⟩]) ++ r.terms := by simp [O.terms]
    have ew : wrap64 ((pre.length : Int) + 1) = (((pre ++ [(⟨(n : Int), e.terms⟩ : S72)]).length : Nat) : Int) := by
      rw [List.length_append, List.length_singleton]; exact wrap_nat2 pre.length 1 (by omega)
    have g1 : (pre.length : Int) < (((pre ++ (O.c n e r).terms).length : Nat) : Int) := by omega
    have hm1 : (n : Int) * ((min 1000 e.size : Nat) : Int) = ((n * min 1000 e.size : Nat) : Int) := by rw [Int.natCast_mul]
    have hm2 : n * min 1000 e.size ≤ 9999 * 1000 := Nat.mul_le_mul hn.2 (Nat.min_le_left _ _)
    have ih := hydraSize_l0 r hsr (pre ++ [⟨(n : Int), e.terms⟩]) (min 1000 (a + n * min 1000 e.size)) (by simp only [List.length_append, List.length_singleton]; omega) (Nat.min_le_left _ _)
    refine ev_s ?_
    simp only [impl_hydraSize.l0, if_pos g1, if_pos (show (0 : Int) ≤ (pre.length : Int) from Int.natCast_nonneg _), hmid]
    refine Ev.bind hE ?_
    have hacc : mn 1000 (wrap64 ((a : Int) + wrap64 ((n : Int) * ((min 1000 e.size : Nat) : Int)))) = ((min 1000 (a + n * min 1000 e.size) : Nat) : Int) := by
      rw [hm1, wrap_in (x := ((n * min 1000 e.size : Nat) : Int)) (by omega) (by omega), wrap_in (by omega) (by omega)]
      unfold mn
      split <;> omega
    rw [hacc, ew]
    rw [happ] at *
    refine ev_eq ih ?_
    have h1 := O.size_pos r
    simp only [O.size]
    by_cases h2 : e.size ≤ 1000
    · rw [Nat.min_eq_right h2]; omega
    · rw [Nat.min_eq_left (show 1000 ≤ e.size by omega)]
      have h3 : 1000 ≤ n * 1000 := Nat.le_mul_of_pos_left _ hn.1
      have h4 : 1000 ≤ n * e.size := Nat.le_trans (show 1000 ≤ e.size by omega) (Nat.le_mul_of_pos_left _ hn.1)
      omega
theorem hydraSize_ev {o : O} (hs : o.Sm) (hb : o.row.length ≤ 60) : Ev (fun k => impl_hydraSize.f k o.terms) ((min 1000 o.size : Nat) : Int) := by
  have hr := O.row_length o
  refine ev_s ?_
  simp only [impl_hydraSize.f]
  have := hydraSize_l0 o hs [] 1 (by simp only [List.length_nil]; omega) (by omega)
  simp only [List.nil_append] at this
  have h1 := O.size_pos o
  exact ev_eq this (by rw [show 1 + (o.size - 1) = o.size by omega])
theorem hydraBy_l1 {e : O} (n : Nat) (hn : n ≤ 9999) (x7 : List S72) (x8 x9 : Int) (m : Int) (hE : Ev (fun k => impl_hydraBy.f k e.terms) (H.of e).terms) {q : List S46} : ∀ (d j : Nat) (out : List S46), j + d = n → out.length + d ≤ 100000 →
    Ev (fun k => impl_hydraBy.l0 k (out ++ (H.rep d (H.of e) .nul).terms) x7 x8 (wrap64 (x9 + 1))) q → Ev (fun k => impl_hydraBy.l1 k out x7 x8 x9 (n : Int) (j : Int) m e.terms) q
  | 0, j, out, hj, _, h => by
    refine ev_s ?_
    simp only [impl_hydraBy.l1, if_neg (show ¬ ((j : Int) < (n : Int)) by omega)]
    simpa only [H.rep, H.terms, List.append_nil] using h
  | d + 1, j, out, hj, ho, h => by
    refine ev_s ?_
    simp only [impl_hydraBy.l1, if_pos (show (j : Int) < (n : Int) by omega)]
    refine Ev.bind hE ?_
    simp only [if_pos (show out.length < 5864062014805 by omega), show wrap64 ((j : Int) + 1) = ((j + 1 : Nat) : Int) from wrap_nat2 j 1 (by omega)]
    refine hydraBy_l1 n hn x7 x8 x9 m hE d (j + 1) (out ++ [⟨(H.of e).terms⟩]) (by omega) (by simp; omega) ?_
    simpa only [H.rep, H.terms, List.append_assoc, List.singleton_append] using h
theorem hydraBy_l0 : ∀ (r : O), r.Sm → r.size ≤ 1000 → ∀ (pre : List S72) (out : List S46), pre.length + r.body.length ≤ 100000 → out.length + r.size ≤ 10000 →
    Ev (fun k => impl_hydraBy.l0 k out (pre ++ r.terms) (((pre ++ r.terms).length : Nat) : Int) (pre.length : Int)) (out ++ (H.of r).terms)
  | .z, _, _, pre, out, _, _ => by
    refine ev_s ?_
    simp only [impl_hydraBy.l0, O.terms, H.of, H.terms, List.append_nil, Int.lt_irrefl, if_false]
    exact Ev.now _
  | .c n e r, hs, hz, pre, out, hp, ho => by
    obtain ⟨hn, ⟨hse, hle⟩, hsr, hhd⟩ := hs
    rw [O.body_c] at hp
    simp only [List.length_cons, List.length_append] at hp
    have hre := O.row_length e
    simp only [O.size] at hz ho
    have hne : e.size ≤ n * e.size := Nat.le_mul_of_pos_left _ hn.1
    have hne2 : n ≤ n * e.size := Nat.le_mul_of_pos_right _ (O.size_pos e)
    have hE : Ev (fun k => impl_hydraBy.f k e.terms) (H.of e).terms := by
      refine ev_s ?_
      simp only [impl_hydraBy.f]
      have := hydraBy_l0 e hse (by omega) [] [] (by simp only [List.length_nil]; omega) (by simp only [List.length_nil]; omega)
      simp only [List.nil_append] at this
      exact this
    have hlen : (pre ++ (O.c n e r).terms).length = pre.length + (r.terms.length + 1) := by simp [O.terms]
    have hmid : rd_T72 (pre ++ (O.c n e r).terms) (pre.length : Int) = ⟨(n : Int), e.terms⟩ := rd_T72_mid pre r.terms ⟨(n : Int), e.terms⟩
    have happ : pre ++ (O.c n e r).terms = (pre ++ [⟨(n : Int), e.terms⟩]) ++ r.terms := by simp [O.terms]
    have ew : wrap64 ((pre.length : Int) + 1) = (((pre ++ [(⟨(n : Int), e.terms⟩ : S72)]).length : Nat) : Int) := by
      rw [List.length_append, List.length_singleton]; exact wrap_nat2 pre.length 1 (by omega)
    have g1 : (pre.length : Int) < (((pre ++ (O.c n e r).terms).length : Nat) : Int) := by omega
    refine ev_s ?_
    simp only [impl_hydraBy.l0, if_pos g1, if_pos (show (0 : Int) ≤ (pre.length : Int) from Int.natCast_nonneg _), hmid]
    refine hydraBy_l1 n hn.2 _ _ _ _ hE n 0 out (by omega) (by omega) ?_
    rw [ew, happ]
    have hrl := H.rep_terms_len (H.of e) n
    have ih := hydraBy_l0 r hsr (by omega) (pre ++ [⟨(n : Int), e.terms⟩]) (out ++ (H.rep n (H.of e) .nul).terms) (by simp only [List.length_append, List.length_singleton]; omega) (by simp only [List.length_append, hrl]; omega)
    refine ev_eq ih ?_
    rw [H.of_app, H.app_terms, List.append_assoc]
theorem hydraBy_ev {o : O} (hs : o.Sm) (hb : o.row.length ≤ 60) (hz : o.size ≤ 1000) : Ev (fun k => impl_hydraBy.f k o.terms) (H.of o).terms := by
  have hr := O.row_length o
  refine ev_s ?_
  simp only [impl_hydraBy.f]
  have := hydraBy_l0 o hs hz [] [] (by simp only [List.length_nil]; omega) (by simp only [List.length_nil]; omega)
  simp only [List.nil_append] at this
  exact this
theorem impl_HydraOf_good {o : O} (hs : o.Sm) (hb : o.row.length ≤ 60) : Ev (fun k => impl_HydraOf.f k o.row) (if o.size ≤ 60 then ((H.of o).row, true) else ([], false)) := by
  simp only [impl_HydraOf.f]
  refine Ev.bind (ordOf_ev hs hb) ?_
  simp only [if_true]
  refine Ev.bind (hydraSize_ev hs hb) ?_
  refine ev_s ?_
  by_cases h60 : o.size ≤ 60
  · simp only [decide_eq_false (show ¬ (((min 1000 o.size : Nat) : Int) > 60) by omega), impl_HydraOf.j0, Bool.false_eq_true, if_false, if_pos h60]
    refine Ev.bind (hydraBy_ev hs hb (by omega)) ?_
    have hrow : (H.of o).row.length ≤ 60 := by rw [H.row_size, H.of_size]; exact h60
    refine Ev.bind (grown_ev (by omega)) ?_
    simp only [if_pos hrow]
    exact Ev.now _
  · simp only [decide_eq_true (show (((min 1000 o.size : Nat) : Int) > 60) by omega), impl_HydraOf.j0, if_true, if_neg h60]
    exact Ev.now _
theorem impl_HydraOf_bad {l : List Int} (h : NoOrd l) : Ev (fun k => impl_HydraOf.f k l) ([], false) := by
  obtain ⟨a, ha⟩ := impl_ordOf_bad h
  simp only [impl_HydraOf.f]
  refine Ev.bind ha ?_
  simp only [Bool.false_eq_true, if_false]
  refine ev_s ?_
  simp only [impl_HydraOf.j0, if_true]
  exact Ev.now _

-- part: hOfSpec
/-! the reference -/
theorem H.rows_flat' (h : H) : ((h.rows.length : Nat) : Int) :: h.rows.flatten = h.row := by rw [H.rows_len, H.rows_flat]; rfl
theorem l5Tree_rows {h : H} (hs : h.size ≤ 1000) : Ev (fun k => spec_l5Tree.f k h.rows) h.row := by
  have h1 := H.row_size h
  have h2 := H.row_length h
  have h3 := H.len_le h
  have h4 := H.rows_len h
  have h5 := H.rows_flat h
  refine ev_eq (l5Tree_ev h.rows (by omega) (by rw [h5]; omega)) (H.rows_flat' h)
def ofRow (e : O) : List Int := if e.size ≤ 60 then (H.of e).row else []
/-- Too long already. -/
theorem l5Of_stop : ∀ (r : O) (pn : List Int) (pe : List (List Int)) (br : List (List Int)) (long : Nat), pn.length = pe.length → pn.length + r.len ≤ 1000 → 60 < long → (∀ e : List Int, e ∈ r.es → ∃ q : List Int, Ev (fun k => spec_l5Of.f k e) q) →
    Ev (fun k => spec_l5Of.l0 k (pn ++ r.ns) (pe ++ r.es) br (long : Int) (pn.length : Int)) []
  | .z, pn, pe, br, long, _, _, hl, _ => by
    refine ev_s ?_
    simp only [spec_l5Of.l0, O.ns, O.es, List.append_nil, Int.lt_irrefl, if_false, if_pos (show (long : Int) > 60 by omega)]
    exact Ev.now _
  | .c n e r, pn, pe, br, long, hpe, hp, hl, hq => by
    simp only [O.len] at hp
    obtain ⟨q, hE⟩ := hq e.row (by simp [O.es])
    have ih := l5Of_stop r (pn ++ [(n : Int)]) (pe ++ [e.row]) br long (by simp [hpe]) (by simp; omega) hl (fun e' he' => hq e' (by simp [O.es, he']))
    simp only [List.append_assoc, List.singleton_append, List.length_append, List.length_singleton] at ih
    have hrn : rd (pn ++ (n : Int) :: r.ns) (pn.length : Int) = (n : Int) := by rw [rd_eq]; simp
    have hre : rd_L1 (pe ++ e.row :: r.es) (pn.length : Int) = e.row := by rw [hpe]; exact rd_L1_at pe r.es e.row
    have hl1 : (pn ++ (n : Int) :: r.ns).length = pn.length + (r.ns.length + 1) := by simp
    have hl2 : (pe ++ e.row :: r.es).length = pn.length + (r.es.length + 1) := by simp [hpe]
    simp only [O.ns, O.es]
    generalize pn ++ (n : Int) :: r.ns = A at *
    generalize pe ++ e.row :: r.es = B at *
    refine ev_s ?_
    simp only [spec_l5Of.l0, if_pos (show (pn.length : Int) < (A.length : Int) by omega), if_pos (show (0 : Int) ≤ (pn.length : Int) by omega), if_pos (show (pn.length : Int) < (B.length : Int) by omega), hre]
    refine Ev.bind hE ?_
    refine ev_s ?_
    simp only [spec_l5Of.l1, if_pos (show (0 : Int) ≤ (pn.length : Int) by omega), if_pos (show (pn.length : Int) < (A.length : Int) by omega), hrn, show wrap64 ((pn.length : Int) + 1) = ((pn.length + 1 : Nat) : Int) from wrap_nat2 _ 1 (by omega), if_neg (show ¬ ((long : Int) ≤ 60) by omega)]
    by_cases h0 : (0 : Int) < (n : Int)
    · simp only [if_pos h0]; exact ih
    · simp only [if_neg h0]; exact ih
theorem H.snoc_rows (g b : H) : g.rows ++ [b.row] = (H.app g (.cons b .nul)).rows := by rw [H.app_rows]; rfl
theorem H.snoc_size (g b : H) : (H.app g (.cons b .nul)).size = g.size + b.size := by have := H.app_size g (.cons b .nul); simp only [H.size] at this; omega
theorem H.rep_nul_size (b : H) (k : Nat) : (H.rep k b .nul).size = k * b.size + 1 := by rw [H.rep_size]; rfl
/-- So many branches more. -/
theorem l5Of_l1 {A : List Int} {B : List (List Int)} {i n : Nat} {b : H} (hA : i < A.length) (hi : i ≤ 100000) (hn : rd A (i : Int) = (n : Int)) (hn2 : n ≤ 9999) (hb : b.size ≤ 60) {q : List Int} (hdead : ∀ (br : List (List Int)) (long : Nat), 60 < long → Ev (fun k => spec_l5Of.l0 k A B br (long : Int) ((i + 1 : Nat) : Int)) q ∨ False) :
    ∀ (d j : Nat) (g : H), j + d = n → g.size ≤ 60 → (60 < (H.app g (H.rep d b .nul)).size ∨ Ev (fun k => spec_l5Of.l0 k A B (H.app g (H.rep d b .nul)).rows ((H.app g (H.rep d b .nul)).size : Int) ((i + 1 : Nat) : Int)) q) →
    Ev (fun k => spec_l5Of.l1 k A B g.rows (g.size : Int) (i : Int) b.row (j : Int)) q := by
  have hw : wrap64 ((i : Int) + 1) = ((i + 1 : Nat) : Int) := wrap_nat2 i 1 (by omega)
  intro d
  induction d with
  | zero =>
    intro j g hj hg h
    rw [H.rep, H.app_nul] at h
    rcases h with h | h
    · omega
    · refine ev_s ?_
      simp only [spec_l5Of.l1, if_pos (show (0 : Int) ≤ (i : Int) by omega), if_pos (show (i : Int) < (A.length : Int) by omega), hn, if_neg (show ¬ ((j : Int) < (n : Int)) by omega), hw]
      exact h
  | succ d ih =>
    intro j g hj hg h
    have hbs := H.row_size b
    have hb1 := H.size_pos b
    have hgl := H.len_size g
    have hgr := H.rows_len g
    have hlong : wrap64 ((g.size : Int) + mx (b.row.length : Int) (60 * (1 - mn (b.row.length : Int) 1))) = ((g.size + b.size : Nat) : Int) := by
      have h1 : mn (b.row.length : Int) 1 = 1 := by unfold mn; split <;> omega
      have h2 : mx (b.row.length : Int) (60 * (1 - 1)) = (b.size : Int) := by unfold mx; split <;> omega
      rw [h1, h2, wrap_in (by omega) (by omega)]; omega
    have hwj : wrap64 ((j : Int) + 1) = ((j + 1 : Nat) : Int) := wrap_nat2 j 1 (by omega)
    refine ev_s ?_
    simp only [spec_l5Of.l1, if_pos (show (0 : Int) ≤ (i : Int) by omega), if_pos (show (i : Int) < (A.length : Int) by omega), hn, if_pos (show (j : Int) < (n : Int) by omega), if_pos (show (g.size : Int) ≤ 60 by omega), if_pos (show g.rows.length < 5864062014805 by omega), hlong, hwj]
    have hassoc : H.app g (H.rep (d + 1) b .nul) = H.app (H.app g (.cons b .nul)) (H.rep d b .nul) := by rw [H.app_assoc]; rfl
    by_cases hs : g.size + b.size ≤ 60
    · have := ih (j + 1) (H.app g (.cons b .nul)) (by omega) (by rw [H.snoc_size]; exact hs) (by rw [← hassoc]; exact h)
      rw [← H.snoc_rows, H.snoc_size] at this
      exact this
    · have hd := (hdead (g.rows ++ [b.row]) (g.size + b.size) (by omega)).resolve_right (fun h => h)
      refine ev_s ?_
      simp only [spec_l5Of.l1, if_pos (show (0 : Int) ≤ (i : Int) by omega), if_pos (show (i : Int) < (A.length : Int) by omega), hn, hw, if_neg (show ¬ (((g.size + b.size : Nat) : Int) ≤ 60) by omega)]
      by_cases h3 : ((j + 1 : Nat) : Int) < (n : Int)
      · simp only [if_pos h3]; exact hd
      · simp only [if_neg h3]; exact hd
theorem l5Of_nil (pn : List Int) (pe : List (List Int)) (g : H) (hg : g.size ≤ 60) :
    Ev (fun k => spec_l5Of.l0 k (pn ++ O.z.ns) (pe ++ O.z.es) g.rows (g.size : Int) (pn.length : Int)) (if (H.app g (H.of .z)).size ≤ 60 then (H.app g (H.of .z)).row else []) := by
    refine ev_s ?_
    simp only [spec_l5Of.l0, O.ns, O.es, List.append_nil, Int.lt_irrefl, if_false, if_neg (show ¬ ((g.size : Int) > 60) by omega), H.of, H.app_nul, if_pos hg]
    refine Ev.bind (l5Tree_rows (h := g) (by omega)) ?_
    exact Ev.now _
theorem l5Of_f {e : O} (hel : e.row.length ≤ 1000) (h : Ev (fun k => spec_l5Of.l0 k ([] ++ e.ns) ([] ++ e.es) H.nul.rows (H.nul.size : Int) (([] : List Int).length : Int)) (if (H.app .nul (H.of e)).size ≤ 60 then (H.app .nul (H.of e)).row else [])) : Ev (fun k => spec_l5Of.f k e.row) (ofRow e) := by
  refine ev_s ?_
  simp only [spec_l5Of.f]
  refine Ev.bind (l1Terms_ev (by omega)) ?_
  rw [ofRow]
  simp only [H.app, H.of_size] at h
  exact h
theorem O.es_all {p : List Int → Prop} : ∀ (s : O), s.Sm → (∀ e2 : O, e2.Sm → e2.body.length + 1 ≤ s.body.length → p e2.row) → ∀ e' : List Int, e' ∈ s.es → p e'
  | .z, _, _, e', he' => by simp [O.es] at he'
  | .c m f t, hs, hall, e', he' => by
    have hrf := O.row_length f
    have hb := O.body_c m f t
    have hbl : (O.c m f t).body.length = f.row.length + t.body.length + 1 := by rw [hb]; simp
    simp only [O.es, List.mem_cons] at he'
    rcases he' with rfl | he'
    · exact hall f hs.2.1.1 (by omega)
    · exact O.es_all t hs.2.2.1 (fun e2 h1 h2 => hall e2 h1 (by omega)) e' he'
/-- Nothing falls out: one branch at a time. -/
theorem l5Of_go {A : List Int} {B : List (List Int)} {i n : Nat} {b : H} (hA : i < A.length) (hi : i ≤ 100000) (hn : rd A (i : Int) = (n : Int)) (hn2 : n ≤ 9999) {G : H} {q : List Int} (h1 : Ev (fun k => spec_l5Of.l0 k A B G.rows (G.size : Int) ((i + 1 : Nat) : Int)) q) :
    ∀ (d j : Nat) (g2 : H), j + d = n → (H.app g2 (H.rep d b .nul)).size ≤ 60 → H.app g2 (H.rep d b .nul) = G → Ev (fun k => spec_l5Of.l1 k A B g2.rows (g2.size : Int) (i : Int) b.row (j : Int)) q := by
  have hw : wrap64 ((i : Int) + 1) = ((i + 1 : Nat) : Int) := wrap_nat2 i 1 (by omega)
  intro d
  induction d with
  | zero =>
    intro j g2 hj _ heq
    rw [H.rep, H.app_nul] at heq
    refine ev_s ?_
    simp only [spec_l5Of.l1, if_pos (show (0 : Int) ≤ (i : Int) by omega), if_pos (show (i : Int) < (A.length : Int) by omega), hn, if_neg (show ¬ ((j : Int) < (n : Int)) by omega), hw]
    rw [heq]; exact h1
  | succ d ih =>
    intro j g2 hj hs2 heq
    have hassoc : H.app g2 (H.rep (d + 1) b .nul) = H.app (H.app g2 (.cons b .nul)) (H.rep d b .nul) := by rw [H.app_assoc]; rfl
    have ihh := ih (j + 1) (H.app g2 (.cons b .nul)) (by omega) (by rw [← hassoc]; exact hs2) (by rw [← hassoc]; exact heq)
    have hs3 := H.app_size g2 (H.rep (d + 1) b .nul)
    have hs4 := H.rep_nul_size b (d + 1)
    have hs5 : b.size ≤ (d + 1) * b.size := Nat.le_mul_of_pos_left _ (by omega)
    have hbs := H.row_size b
    have hb1 := H.size_pos b
    have hgl := H.len_size g2
    have hgr := H.rows_len g2
    have hlong : wrap64 ((g2.size : Int) + mx (b.row.length : Int) (60 * (1 - mn (b.row.length : Int) 1))) = ((g2.size + b.size : Nat) : Int) := by
      have h1 : mn (b.row.length : Int) 1 = 1 := by unfold mn; split <;> omega
      have h2 : mx (b.row.length : Int) (60 * (1 - 1)) = (b.size : Int) := by unfold mx; split <;> omega
      rw [h1, h2, wrap_in (by omega) (by omega)]; omega
    refine ev_s ?_
    simp only [spec_l5Of.l1, if_pos (show (0 : Int) ≤ (i : Int) by omega), if_pos (show (i : Int) < (A.length : Int) by omega), hn, if_pos (show (j : Int) < (n : Int) by omega), if_pos (show (g2.size : Int) ≤ 60 by omega), if_pos (show g2.rows.length < 5864062014805 by omega), hlong, show wrap64 ((j : Int) + 1) = ((j + 1 : Nat) : Int) from wrap_nat2 j 1 (by omega)]
    rw [← H.snoc_rows, H.snoc_size] at ihh
    exact ihh
/-- A branch that is too long itself. -/
theorem l5Of_over {A : List Int} {B : List (List Int)} {i n : Nat} (hA : i < A.length) (hi : i ≤ 100000) (hn : rd A (i : Int) = (n : Int)) (hn1 : 1 ≤ n) {g : H} (hg : g.size ≤ 60) {q : List Int}
    (hd : Ev (fun k => spec_l5Of.l0 k A B (g.rows ++ [[]]) ((g.size + 60 : Nat) : Int) ((i + 1 : Nat) : Int)) q) : Ev (fun k => spec_l5Of.l1 k A B g.rows (g.size : Int) (i : Int) [] 0) q := by
  have hg1 := H.size_pos g
  have hgl := H.len_size g
  have hgr := H.rows_len g
  have hw : wrap64 ((i : Int) + 1) = ((i + 1 : Nat) : Int) := wrap_nat2 i 1 (by omega)
  have hw1 : wrap64 ((0 : Int) + 1) = 1 := by rw [wrap_in (by omega) (by omega)]; rfl
  have hlong : wrap64 ((g.size : Int) + mx ((([] : List Int).length : Nat) : Int) (60 * (1 - mn ((([] : List Int).length : Nat) : Int) 1))) = ((g.size + 60 : Nat) : Int) := by
    have h1 : mn ((([] : List Int).length : Nat) : Int) 1 = 0 := by unfold mn; simp
    have h2 : mx ((([] : List Int).length : Nat) : Int) (60 * (1 - 0)) = 60 := by unfold mx; simp
    rw [h1, h2, wrap_in (by omega) (by omega)]; omega
  refine ev_s ?_
  simp only [spec_l5Of.l1, if_pos (show (0 : Int) ≤ (i : Int) by omega), if_pos (show (i : Int) < (A.length : Int) by omega), hn, if_pos (show (0 : Int) < (n : Int) by omega), if_pos (show (g.size : Int) ≤ 60 by omega), if_pos (show g.rows.length < 5864062014805 by omega), hlong, hw1]
  refine ev_s ?_
  simp only [spec_l5Of.l1, if_pos (show (0 : Int) ≤ (i : Int) by omega), if_pos (show (i : Int) < (A.length : Int) by omega), hn, hw, if_neg (show ¬ (((g.size + 60 : Nat) : Int) ≤ 60) by omega)]
  by_cases h4 : (1 : Int) < (n : Int)
  · simp only [if_pos h4]; exact hd
  · simp only [if_neg h4]; exact hd
theorem l5Of_l0 : ∀ (N : Nat) (r : O), r.body.length ≤ N → r.Sm → ∀ (pn : List Int) (pe : List (List Int)) (g : H), pn.length = pe.length → pn.length + r.body.length ≤ 1000 → g.size ≤ 60 →
    Ev (fun k => spec_l5Of.l0 k (pn ++ r.ns) (pe ++ r.es) g.rows (g.size : Int) (pn.length : Int)) (if (H.app g (H.of r)).size ≤ 60 then (H.app g (H.of r)).row else []) := by
  intro N
  induction N with
  | zero =>
    intro r hN _ pn pe g _ _ hg
    cases r with
    | z => exact l5Of_nil pn pe g hg
    | c n e r => rw [O.body_c] at hN; simp at hN
  | succ N IH =>
  intro r hN hs pn pe g hpe hp hg
  cases r with
  | z => exact l5Of_nil pn pe g hg
  | c n e r =>
    obtain ⟨hn, ⟨hse, hle⟩, hsr, hhd⟩ := hs
    rw [O.body_c] at hp hN
    simp only [List.length_cons, List.length_append] at hp hN
    have hre := O.row_length e
    have hrlen := O.len_le r
    have hE : Ev (fun k => spec_l5Of.f k e.row) (ofRow e) := l5Of_f (by omega) (IH e (by omega) hse [] [] .nul rfl (by simp only [List.length_nil]; omega) (by simp [H.size]))
    have hrn : rd (pn ++ (n : Int) :: r.ns) (pn.length : Int) = (n : Int) := by rw [rd_eq]; simp
    have hre2 : rd_L1 (pe ++ e.row :: r.es) (pn.length : Int) = e.row := by rw [hpe]; exact rd_L1_at pe r.es e.row
    have hl1 : (pn ++ (n : Int) :: r.ns).length = pn.length + (r.ns.length + 1) := by simp
    have hl2 : (pe ++ e.row :: r.es).length = pn.length + (r.es.length + 1) := by simp [hpe]
    -- the others, whatever they are
    have hothers : ∀ e' : List Int, e' ∈ r.es → ∃ q : List Int, Ev (fun k => spec_l5Of.f k e') q := by
      refine O.es_all (p := fun e' => ∃ q : List Int, Ev (fun k => spec_l5Of.f k e') q) r hsr (fun e2 he2 hb2 => ?_)
      have hre3 := O.row_length e2
      exact ⟨_, l5Of_f (by omega) (IH e2 (by omega) he2 [] [] .nul rfl (by simp only [List.length_nil]; omega) (by simp [H.size]))⟩
    have hstop : ∀ (br : List (List Int)) (long : Nat), 60 < long → Ev (fun k => spec_l5Of.l0 k (pn ++ (n : Int) :: r.ns) (pe ++ e.row :: r.es) br (long : Int) ((pn.length + 1 : Nat) : Int)) [] := by
      intro br long hlong
      have := l5Of_stop r (pn ++ [(n : Int)]) (pe ++ [e.row]) br long (by simp [hpe]) (by simp; omega) hlong hothers
      simp only [List.append_assoc, List.singleton_append, List.length_append, List.length_singleton] at this
      exact this
    have ihr : ∀ g' : H, g'.size ≤ 60 → Ev (fun k => spec_l5Of.l0 k (pn ++ (n : Int) :: r.ns) (pe ++ e.row :: r.es) g'.rows (g'.size : Int) ((pn.length + 1 : Nat) : Int)) (if (H.app g' (H.of r)).size ≤ 60 then (H.app g' (H.of r)).row else []) := by
      intro g' hg'
      have := IH r (by omega) hsr (pn ++ [(n : Int)]) (pe ++ [e.row]) g' (by simp [hpe]) (by simp; omega) hg'
      simp only [List.append_assoc, List.singleton_append, List.length_append, List.length_singleton] at this
      exact this
    have happ : H.app g (H.of (.c n e r)) = H.app (H.app g (H.rep n (H.of e) .nul)) (H.of r) := by rw [H.of_app, H.app_assoc]
    have hsz := H.app_size (H.app g (H.rep n (H.of e) .nul)) (H.of r)
    have hsz2 := H.app_size g (H.rep n (H.of e) .nul)
    have hr1 := H.size_pos (H.of r)
    rw [happ]
    simp only [O.ns, O.es]
    refine ev_s ?_
    simp only [spec_l5Of.l0, if_pos (show (pn.length : Int) < ((pn ++ (n : Int) :: r.ns).length : Int) by omega), if_pos (show (0 : Int) ≤ (pn.length : Int) by omega), if_pos (show (pn.length : Int) < ((pe ++ e.row :: r.es).length : Int) by omega), hre2]
    refine Ev.bind hE ?_
    by_cases he60 : e.size ≤ 60
    · rw [ofRow, if_pos he60]
      by_cases hbig : 60 < (H.app g (H.rep n (H.of e) .nul)).size
      · rw [if_neg (by omega)]
        exact l5Of_l1 (by omega) (by omega) hrn hn.2 (by rw [H.of_size]; exact he60) (fun br long hl => .inl (hstop br long hl)) n 0 g (by omega) hg (.inl hbig)
      · have h1 := ihr _ (show (H.app g (H.rep n (H.of e) .nul)).size ≤ 60 by omega)
        by_cases htot : (H.app (H.app g (H.rep n (H.of e) .nul)) (H.of r)).size ≤ 60
        · rw [if_pos htot] at h1 ⊢
          exact l5Of_go (by omega) (by omega) hrn hn.2 h1 n 0 g (by omega) (by omega) rfl
        · rw [if_neg htot] at h1 ⊢
          exact l5Of_l1 (by omega) (by omega) hrn hn.2 (by rw [H.of_size]; exact he60) (fun br long hl => .inl (hstop br long hl)) n 0 g (by omega) hg (.inr h1)
    · -- the exponent's own hydra is too long
      have hrs := H.rep_nul_size (H.of e) n
      have hos := H.of_size e
      have h3 : (H.of e).size ≤ n * (H.of e).size := Nat.le_mul_of_pos_left _ hn.1
      have hg1 := H.size_pos g
      have hgl := H.len_size g
      have hgr := H.rows_len g
      rw [ofRow, if_neg he60, if_neg (by omega)]
      exact l5Of_over (by omega) (by omega) hrn hn.1 hg (hstop (g.rows ++ [[]]) (g.size + 60) (by omega))
theorem l5Of_ev {o : O} (hs : o.Sm) (hr : o.row.length ≤ 60) : Ev (fun k => spec_l5Of.f k o.row) (ofRow o) := by
  have hre := O.row_length o
  exact l5Of_f (by omega) (l5Of_l0 1000 o (by omega) hs [] [] .nul rfl (by simp only [List.length_nil]; omega) (by simp [H.size]))
theorem spec_HydraOf_good {o : O} (hs : o.Sm) (hb : o.row.length ≤ 60) : Ev (fun k => spec_HydraOf.f k o.row) (if o.size ≤ 60 then ((H.of o).row, true) else ([], false)) := by
  simp only [spec_HydraOf.f]
  refine Ev.bind (OrdValid_good hs hb) ?_
  simp only [if_true]
  refine Ev.bind (l5Of_ev hs hb) ?_
  unfold ofRow
  by_cases h60 : o.size ≤ 60
  · have hl := l5Of_ev hs hb
    unfold ofRow at hl
    simp only [if_pos h60] at hl ⊢
    have h1 := H.row_size (H.of o)
    have h2 := H.size_pos (H.of o)
    simp only [if_neg (show ¬ (((H.of o).row.length : Int) = 0) by omega)]
    exact Ev.bind hl (Ev.now _)
  · simp only [if_neg h60, List.length_nil, if_pos (show ((0 : Nat) : Int) = 0 from rfl)]
    exact Ev.now _
theorem spec_HydraOf_bad {l : List Int} (h : NoOrd l) : Ev (fun k => spec_HydraOf.f k l) ([], false) := by
  simp only [spec_HydraOf.f]
  refine Ev.bind (OrdValid_bad h) ?_
  simp only [Bool.false_eq_true, if_false]
  exact Ev.now _

-- part: law_FnExactHydraOf
theorem HydraOf_both (l : List Int) : ∃ (r : List Int) (b : Bool), r.length ≤ 60 ∧ Ev (fun k => spec_HydraOf.f k l) (r, b) ∧ Ev (fun k => impl_HydraOf.f k l) (r, b) := by
  rcases ord_or l with ⟨o, rfl, hs, hr⟩ | h
  · have h1 := spec_HydraOf_good hs hr
    have h2 := impl_HydraOf_good hs hr
    by_cases h60 : o.size ≤ 60
    · rw [if_pos h60] at h1 h2
      exact ⟨_, _, by rw [H.row_size, H.of_size]; exact h60, h1, h2⟩
    · rw [if_neg h60] at h1 h2
      exact ⟨_, _, by simp, h1, h2⟩
  · exact ⟨_, _, by simp, spec_HydraOf_bad h, impl_HydraOf_bad h⟩
theorem FnExactHydraOf : laws_FnExactHydraOf.Pure := by
  intro l0 _ hl _
  refine Ev.rounds ?_
  simp only [laws_FnExactHydraOf.f]
  by_cases hb : (l0.length : Int) > 1048576
  · simp only [if_pos hb]; exact Ev.now _
  · simp only [if_neg hb]
    have ht := toIntS_ev l0 (by omega)
    obtain ⟨r, b, hr, hs, hi⟩ := HydraOf_both l0
    have heq : Ev (fun k => laws_eqIntS.f k r r) true := ev_eq (eqIntS_ev _ _ (by omega)) (by simp)
    have hheld := heldIntS_ev 1 r.length (by omega)
    refine Ev.bind ht ?_
    refine Ev.bind hs ?_
    refine Ev.bind ht ?_
    refine Ev.bind hi ?_
    refine Ev.bind heq ?_
    simp only [if_true]
    refine ev_s ?_
    simp only [laws_FnExactHydraOf.j0, bne_self_eq_false, Bool.false_eq_true, if_false]
    refine Ev.bind ht ?_
    refine Ev.bind (eqIntS_ev l0 l0 (by omega)) ?_
    simp only [decide_true, if_true]
    refine Ev.bind (markIntS_ev l0 1 (by omega)) ?_
    simp only [if_neg (show ¬ (((1 + l0.length : Nat) : Int) < 0) by omega)]
    refine Ev.bind heq ?_
    simp only [if_true]
    refine ev_s ?_
    simp only [laws_FnExactHydraOf.j1, Bool.false_eq_true, if_false]
    refine Ev.bind (markIntS_ev r 1 (by omega)) ?_
    refine Ev.bind hheld ?_
    simp only [if_neg (show ¬ (((1 + r.length : Nat) : Int) < 0) by omega), if_true]
    refine Ev.bind ht ?_
    refine Ev.bind hi ?_
    refine Ev.bind heq ?_
    simp only [if_true]
    refine ev_s ?_
    simp only [laws_FnExactHydraOf.j2, bne_self_eq_false, Bool.false_eq_true, if_false]
    refine Ev.bind hheld ?_
    simp only [if_neg (show ¬ (((1 + r.length : Nat) : Int) < 0) by omega), if_true]
    exact Ev.now _

end Go.Proofs.Ytahhdbjjfdjloaa.Pure

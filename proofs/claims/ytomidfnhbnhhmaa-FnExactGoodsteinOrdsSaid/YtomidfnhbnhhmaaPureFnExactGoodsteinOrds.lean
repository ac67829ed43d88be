/- The law FnExactGoodsteinOrds returns true for every input that the statement lets in; no condition of our own. -/
import Derived.Test.YtomidfnhbnhhmaaKyx90
namespace Go.Proofs.Ytomidfnhbnhhmaa.Pure
open Go.RowKit Go.Proofs.Ytomidfnhbnhhmaa.Ky Go.Proofs.YtomidfnhbnhhmaaW.PrintWords Go.Proofs.YtomidfnhbnhhmaaW.PrintLast
set_option linter.unusedVariables false
set_option linter.unusedSimpArgs false

-- part: base
/-! ### words of mine -/
theorem ev_s {α : Type} {g : Nat → Option α} {r : α} (h : Ev (fun k => g (k + 1)) r) : Ev g r := Ev.step (fun _ => rfl) h
theorem ev_eq {α : Type} {g : Nat → Option α} {r q : α} (h : Ev g r) (e : r = q) : Ev g q := e ▸ h
theorem ev_now {α : Type} {r q : α} (e : r = q) : Ev (fun _ => some r) q := e ▸ Ev.now r
theorem wrap_in {x : Int} (h0 : -9223372036854775808 ≤ x) (h1 : x ≤ 9223372036854775807) : wrap64 x = x := by unfold wrap64; omega
theorem rd_eq (xs : List Int) (i : Nat) : rd xs (i : Int) = xs.getD i 0 := by simp [rd]
theorem rd_get {xs : List Int} {i : Nat} (h : i < xs.length) : rd xs (i : Int) = xs[i] := by simp [rd, h]
theorem wrap_nat2 (a b : Nat) (h : a + b < 4611686018427387904) : wrap64 ((a : Int) + (b : Int)) = ((a + b : Nat) : Int) := by rw [wrap_in (by omega) (by omega)]; omega
theorem eqIntS_l0 (F : Nat → List Int → List Int → Int → Option Bool)
    (h0 : ∀ k a b i, F (k + 1) a b i = if i < (a.length : Int) then (if 0 ≤ i then (if i < (b.length : Int) then (if (rd a i) = (rd b i) then (F k a b (wrap64 (i + 1))) else (some false)) else none) else none) else some true)
    (a b : List Int) (hl : a.length = b.length) (hb : a.length ≤ 140737488351232) : ∀ (d i : Nat), i + d = a.length → a.take i = b.take i → Ev (fun k => F k a b i) (decide (a = b)) := by
  intro d
  induction d with
  | zero =>
    intro i h ht
    refine ev_s ?_
    simp only [h0]
    simp only [if_neg (show ¬ ((i : Int) < (a.length : Int)) by omega)]
    rw [List.take_of_length_le (by omega), List.take_of_length_le (by omega)] at ht
    simp only [ht, decide_true]; exact Ev.now _
  | succ d ih =>
    intro i h ht
    refine ev_s ?_
    simp only [h0]
    simp only [if_pos (show (i : Int) < (a.length : Int) by omega), if_pos (show (0 : Int) ≤ (i : Int) by omega), if_pos (show (i : Int) < (b.length : Int) by omega), show wrap64 ((i : Int) + 1) = ((i + 1 : Nat) : Int) by rw [wrap_in (by omega) (by omega)]; rfl]
    rw [rd_get (show i < a.length by omega), rd_get (show i < b.length by omega)]
    by_cases he : a[i] = b[i]
    · simp only [if_pos he]
      refine ih (i + 1) (by omega) ?_
      rw [List.take_succ_eq_append_getElem (by omega), List.take_succ_eq_append_getElem (by omega), ht, he]
    · simp only [if_neg he]
      refine ev_now (Eq.symm (decide_eq_false (fun hab => he ?_)))
      subst hab; rfl

-- part: eqIntS
theorem eqIntS_ev (a b : List Int) (hb : a.length ≤ 140737488351232) : Ev (fun k => laws_eqIntS.f k a b) (decide (a = b)) := by
  simp only [laws_eqIntS.f]
  by_cases hl : a.length = b.length
  · simp only [if_pos (show (a.length : Int) = (b.length : Int) by omega)]
    exact eqIntS_l0 laws_eqIntS.l0 (fun _ _ _ _ => rfl) a b hl hb a.length 0 (by omega) (by simp)
  · simp only [if_neg (show ¬ ((a.length : Int) = (b.length : Int)) by omega)]
    exact ev_now (Eq.symm (decide_eq_false (fun hab => hl (by rw [hab]))))

-- part: mark
/-! ### marks -/
def marksOf (a n : Nat) : List Int := (List.range n).map (fun i => ((a + i : Nat) : Int))
theorem marksOf_length (a n : Nat) : (marksOf a n).length = n := by simp [marksOf]
theorem markIntS_l0 (a : Nat) (n : Nat) (hn : a + n ≤ 1000000000000000) : ∀ (d i : Nat) (x : List Int), i + d = n → x.length = n → x.take i = marksOf a i → Ev (fun k => laws_markIntS.l0 k x ((a + i : Nat) : Int) (i : Int)) (((a + n : Nat) : Int), marksOf a n) := by
  intro d
  induction d with
  | zero =>
    intro i x h hx ht
    refine ev_s ?_
    simp only [laws_markIntS.l0, if_neg (show ¬ ((i : Int) < (x.length : Int)) by omega)]
    rw [List.take_of_length_le (by omega)] at ht
    obtain rfl : i = n := by omega
    rw [← ht]; exact Ev.now _
  | succ d ih =>
    intro i x h hx ht
    refine ev_s ?_
    simp only [laws_markIntS.l0, if_pos (show (i : Int) < (x.length : Int) by omega), if_pos (show (0 : Int) ≤ (i : Int) by omega), Int.toNat_natCast, show wrap64 ((i : Int) + 1) = ((i + 1 : Nat) : Int) by rw [wrap_in (by omega) (by omega)]; rfl, show wrap64 (((a + i : Nat) : Int) + 1) = ((a + (i + 1) : Nat) : Int) by rw [wrap_in (by omega) (by omega)]; omega]
    refine ih (i + 1) _ (by omega) (by simpa using hx) ?_
    have e : marksOf a (i + 1) = marksOf a i ++ [((a + i : Nat) : Int)] := by simp [marksOf, List.range_succ]
    rw [e, ← ht, List.take_succ_eq_append_getElem (by simp; omega), List.getElem_set_self]
    congr 1
    rw [List.take_set_of_le (by omega)]
theorem markIntS_ev (l : List Int) (a : Nat) (hn : a + l.length ≤ 1000000000000000) : Ev (fun k => laws_markIntS.f k l (a : Int)) (((a + l.length : Nat) : Int), marksOf a l.length) :=
  markIntS_l0 a l.length hn l.length 0 l (by omega) rfl (by simp [marksOf])
theorem heldIntS_l0 (a n : Nat) (hn : a + n ≤ 1000000000000000) : ∀ (d i : Nat), i + d = n → Ev (fun k => laws_heldIntS.l0 k (marksOf a n) ((a + i : Nat) : Int) (i : Int)) ((a + n : Nat) : Int) := by
  intro d
  induction d with
  | zero =>
    intro i h
    refine ev_s ?_
    simp only [laws_heldIntS.l0, marksOf_length, if_neg (show ¬ ((i : Int) < (n : Int)) by omega)]
    exact ev_now (by rw [show i = n by omega])
  | succ d ih =>
    intro i h
    refine ev_s ?_
    have hr : rd (marksOf a n) (i : Int) = ((a + i : Nat) : Int) := by rw [rd_get (by rw [marksOf_length]; omega)]; simp [marksOf]
    simp only [laws_heldIntS.l0, marksOf_length, if_pos (show (i : Int) < (n : Int) by omega), if_pos (show (0 : Int) ≤ (i : Int) by omega), hr, if_true, show wrap64 ((i : Int) + 1) = ((i + 1 : Nat) : Int) by rw [wrap_in (by omega) (by omega)]; rfl, show wrap64 (((a + i : Nat) : Int) + 1) = ((a + (i + 1) : Nat) : Int) by rw [wrap_in (by omega) (by omega)]; omega]
    exact ih (i + 1) (by omega)
theorem heldIntS_ev (a n : Nat) (hn : a + n ≤ 1000000000000000) : Ev (fun k => laws_heldIntS.f k (marksOf a n) (a : Int)) ((a + n : Nat) : Int) :=
  heldIntS_l0 a n hn n 0 (by omega)

-- part: l1In
theorem l1In_eq (n lo hi : Int) : spec_l1In.f n lo hi = some (decide (lo ≤ n ∧ n ≤ hi)) := by
  unfold spec_l1In.f
  by_cases h : n ≥ lo
  · rw [if_pos h]; simp [show lo ≤ n from h]
  · rw [if_neg h]; simp [show ¬ lo ≤ n from h]

-- part: O
/-! ### ordinals -/
/-- An ordinal: a sum of terms w^e * n. -/
inductive O where
  | z : O
  | c (n : Nat) (e r : O) : O

-- part: oAppDef
def O.app : O → O → O
  | .z, y => y
  | .c n e r, y => .c n e (O.app r y)
def O.cmp : O → O → Ordering
  | .z, .z => .eq
  | .z, .c .. => .lt
  | .c .., .z => .gt
  | .c n e r, .c m f s => ((O.cmp e f).then (compare n m)).then (O.cmp r s)

theorem O.cmp_self : ∀ a : O, O.cmp a a = .eq
  | .z => rfl
  | .c n e r => by
    have h1 := O.cmp_self e
    have h2 := O.cmp_self r
    simp [O.cmp, h1, h2]

theorem O.eq_of_cmp : ∀ a b : O, O.cmp a b = .eq → a = b
  | .z, .z => fun _ => rfl
  | .z, .c .. => fun h => by simp [O.cmp] at h
  | .c .., .z => fun h => by simp [O.cmp] at h
  | .c n e r, .c m f s => fun h => by
    simp only [O.cmp, Ordering.then_eq_eq] at h
    obtain ⟨⟨h1, h2⟩, h3⟩ := h
    rw [O.eq_of_cmp e f h1, O.eq_of_cmp r s h3, Nat.compare_eq_eq.mp h2]

theorem O.cmp_swap : ∀ a b : O, (O.cmp a b).swap = O.cmp b a
  | .z, .z => rfl
  | .z, .c .. => rfl
  | .c .., .z => rfl
  | .c n e r, .c m f s => by
    have h1 := O.cmp_swap e f
    have h2 := O.cmp_swap r s
    simp only [O.cmp, Ordering.swap_then, h1, h2, Nat.compare_swap]

theorem O.cmp_gt_iff (a b : O) : O.cmp a b = .gt ↔ O.cmp b a = .lt := by
  rw [← O.cmp_swap a b]
  cases O.cmp a b <;> simp [Ordering.swap]

theorem O.lt_trans : ∀ a b c : O, O.cmp a b = .lt → O.cmp b c = .lt → O.cmp a c = .lt
  | .z, .z, _ => fun h => by simp [O.cmp] at h
  | .c .., .z, _ => fun h => by simp [O.cmp] at h
  | .z, .c .., .z => fun _ h => by simp [O.cmp] at h
  | .z, .c .., .c .. => fun _ _ => rfl
  | .c .., .c .., .z => fun _ h => by simp [O.cmp] at h
  | .c n e r, .c m f s, .c k g t => fun h1 h2 => by
    simp only [O.cmp, Ordering.then_eq_lt] at h1 h2 ⊢
    rcases h1 with (h1 | ⟨h1, h1'⟩) | ⟨h1, h1'⟩
    · rcases h2 with (h2 | ⟨h2, h2'⟩) | ⟨h2, h2'⟩
      · exact .inl (.inl (O.lt_trans _ _ _ h1 h2))
      · rw [← O.eq_of_cmp _ _ h2]; exact .inl (.inl h1)
      · rw [Ordering.then_eq_eq] at h2; rw [← O.eq_of_cmp _ _ h2.1]; exact .inl (.inl h1)
    · have := O.eq_of_cmp _ _ h1; subst this
      rcases h2 with (h2 | ⟨h2, h2'⟩) | ⟨h2, h2'⟩
      · exact .inl (.inl h2)
      · have h3 := O.eq_of_cmp _ _ h2; subst h3
        rw [Nat.compare_eq_lt] at h1' h2'
        exact .inl (.inr ⟨h2, Nat.compare_eq_lt.mpr (by omega)⟩)
      · rw [Ordering.then_eq_eq] at h2; rw [← Nat.compare_eq_eq.mp h2.2]; exact .inl (.inr ⟨h2.1, h1'⟩)
    · rw [Ordering.then_eq_eq] at h1
      have := O.eq_of_cmp _ _ h1.1; subst this
      have := Nat.compare_eq_eq.mp h1.2; subst this
      rcases h2 with (h2 | ⟨h2, h2'⟩) | ⟨h2, h2'⟩
      · exact .inl (.inl h2)
      · exact .inl (.inr ⟨h2, h2'⟩)
      · exact .inr ⟨h2, O.lt_trans _ _ _ h1' h2'⟩

theorem O.cmp_tri (a b : O) : O.cmp a b = .lt ∨ a = b ∨ O.cmp b a = .lt := by
  cases h : O.cmp a b with
  | lt => exact .inl rfl
  | eq => exact .inr (.inl (O.eq_of_cmp _ _ h))
  | gt => exact .inr (.inr ((O.cmp_gt_iff _ _).mp h))

theorem O.lt_irrefl (a : O) : O.cmp a a ≠ .lt := by rw [O.cmp_self]; simp
/-- The first exponent is less than e. -/
def O.hd (e : O) : O → Prop
  | .z => True
  | .c _ f _ => O.cmp f e = .lt

/-- A normal form. -/
def O.NF : O → Prop
  | .z => True
  | .c n e r => 1 ≤ n ∧ O.NF e ∧ O.NF r ∧ O.hd e r

-- part: coreIns
/-- The natural sum with w^e. -/
def O.ins (e : O) : O → O
  | .z => .c 1 e .z
  | .c n f r => match O.cmp f e with
    | .gt => .c n f (O.ins e r)
    | .eq => .c (n + 1) f r
    | .lt => .c 1 e (.c n f r)

theorem O.hd_trans {e f : O} (h : O.cmp e f = .lt) : ∀ {x : O}, O.hd e x → O.hd f x
  | .z, _ => trivial
  | .c .., h' => O.lt_trans _ _ _ h' h

/-- ins, so many times. -/
def O.insk (e : O) : Nat → O → O
  | 0, x => x
  | k + 1, x => O.ins e (O.insk e k x)

theorem O.hd_lt {e : O} : ∀ {x : O}, O.hd e x → ∀ n r, O.cmp x (.c n e r) = .lt
  | .z, _, _, _ => rfl
  | .c _ _ _, h, _, _ => by simp [O.cmp, show O.cmp _ _ = _ from h]

/-! ### values in a base -/
def O.val (b : Nat) : O → Nat
  | .z => 0
  | .c n e r => n * b ^ O.val b e + O.val b r
/-- All numbers are less than b. -/
def O.small (b : Nat) : O → Prop
  | .z => True
  | .c n e r => n < b ∧ O.small b e ∧ O.small b r

theorem O.val_pos {b : Nat} (hb : 2 ≤ b) {n : Nat} {e r : O} (h : 1 ≤ n) : b ^ O.val b e ≤ O.val b (.c n e r) := by
  have : b ^ O.val b e ≤ n * b ^ O.val b e := Nat.le_mul_of_pos_left _ h
  simp only [O.val]; omega

/-- By the size of both: what is before b^(val e) .. -/
theorem O.val_mono_aux {b : Nat} (hb : 2 ≤ b) : ∀ N : Nat, ∀ x y : O, SizeOf.sizeOf x + SizeOf.sizeOf y ≤ N → O.NF x → O.NF y → O.small b x → O.small b y → O.cmp x y = .lt → O.val b x < O.val b y := by
  intro N
  induction N with
  | zero => intro x y h; cases x <;> simp at h <;> omega
  | succ N ih =>
    -- a tail is less than its power
    have tail : ∀ (r e : O), SizeOf.sizeOf r + SizeOf.sizeOf e ≤ N → O.NF r → O.NF e → O.small b r → O.small b e → O.hd e r → O.val b r < b ^ O.val b e := by
      intro r
      induction r with
      | z => intro e _ _ _ _ _ _; exact Nat.pow_pos (by omega)
      | c n f s _ ihs =>
        intro e hN hr he hsr hse hd
        simp only [O.c.sizeOf_spec] at hN
        have h1 : O.val b f < O.val b e := ih f e (by omega) hr.2.1 he hsr.2.1 hse hd
        have h2 : O.val b s < b ^ O.val b f := ihs f (by omega) hr.2.2.1 hr.2.1 hsr.2.2 hsr.2.1 hr.2.2.2
        have h3 : n + 1 ≤ b := hsr.1
        have h4 : (n + 1) * b ^ O.val b f ≤ b * b ^ O.val b f := Nat.mul_le_mul_right _ h3
        have h5 : b * b ^ O.val b f = b ^ (O.val b f + 1) := by rw [Nat.pow_succ, Nat.mul_comm]
        have h6 : b ^ (O.val b f + 1) ≤ b ^ O.val b e := Nat.pow_le_pow_right (by omega) h1
        rw [Nat.add_mul, Nat.one_mul] at h4
        simp only [O.val]
        omega
    intro x y hN hx hy hsx hsy h
    match x, y with
    | .z, .z => simp [O.cmp] at h
    | .c .., .z => simp [O.cmp] at h
    | .z, .c n e r =>
      have := O.val_pos (b := b) hb (e := e) (r := r) hy.1
      have h2 : 0 < b ^ O.val b e := Nat.pow_pos (by omega)
      show 0 < _; omega
    | .c n e r, .c m f s =>
      simp only [O.c.sizeOf_spec] at hN
      simp only [O.cmp, Ordering.then_eq_lt, Ordering.then_eq_eq] at h
      have tr : O.val b r < b ^ O.val b e := tail r e (by omega) hx.2.2.1 hx.2.1 hsx.2.2 hsx.2.1 hx.2.2.2
      rcases h with (h | ⟨h, h'⟩) | ⟨⟨h, h'⟩, h''⟩
      · have h1 : O.val b e < O.val b f := ih e f (by omega) hx.2.1 hy.2.1 hsx.2.1 hsy.2.1 h
        have h3 : n + 1 ≤ b := hsx.1
        have h4 : (n + 1) * b ^ O.val b e ≤ b * b ^ O.val b e := Nat.mul_le_mul_right _ h3
        have h5 : b * b ^ O.val b e = b ^ (O.val b e + 1) := by rw [Nat.pow_succ, Nat.mul_comm]
        have h6 : b ^ (O.val b e + 1) ≤ b ^ O.val b f := Nat.pow_le_pow_right (by omega) h1
        have h7 := O.val_pos (b := b) hb (e := f) (r := s) hy.1
        rw [Nat.add_mul, Nat.one_mul] at h4
        simp only [O.val] at h7 ⊢
        omega
      · have := O.eq_of_cmp _ _ h; subst this
        rw [Nat.compare_eq_lt] at h'
        have h4 : (n + 1) * b ^ O.val b e ≤ m * b ^ O.val b e := Nat.mul_le_mul_right _ h'
        rw [Nat.add_mul, Nat.one_mul] at h4
        simp only [O.val]
        omega
      · have := O.eq_of_cmp _ _ h; subst this
        rw [Nat.compare_eq_eq] at h'; subst h'
        have := ih r s (by omega) hx.2.2.1 hy.2.2.1 hsx.2.2 hsy.2.2 h''
        simp only [O.val]
        omega

theorem O.val_mono {b : Nat} (hb : 2 ≤ b) {x y : O} (hx : O.NF x) (hy : O.NF y) (hsx : O.small b x) (hsy : O.small b y) (h : O.cmp x y = .lt) : O.val b x < O.val b y :=
  O.val_mono_aux hb _ x y (Nat.le_refl _) hx hy hsx hsy h
theorem O.val_lt {b : Nat} (hb : 2 ≤ b) {x y : O} (hx : O.NF x) (hy : O.NF y) (hsx : O.small b x) (hsy : O.small b y) (h : O.val b x < O.val b y) : O.cmp x y = .lt := by
  rcases O.cmp_tri x y with h' | h' | h'
  · exact h'
  · subst h'; omega
  · have := O.val_mono hb hy hx hsy hsx h'; omega


-- part: coreBase
/-! ### numbers in a base -/
/-- What stands below the place e. -/
def O.pos (b : Nat) : Nat → Nat → O
  | 0, _ => .z
  | e + 1, n => if n / b ^ e = 0 then O.pos b e n else .c (n / b ^ e) (O.pos b e e) (O.pos b e (n % b ^ e))
/-- The ordinal of a number in a base. -/
def O.inb (b n : Nat) : O := O.pos b n n
theorem pow_big {b : Nat} (hb : 2 ≤ b) (e : Nat) : e < b ^ e := Nat.lt_of_lt_of_le (Nat.lt_two_pow_self) (Nat.pow_le_pow_left hb e)
theorem O.pos_up {b : Nat} (hb : 2 ≤ b) {e n : Nat} (h : n < b ^ e) : ∀ j, O.pos b (e + j) n = O.pos b e n
  | 0 => rfl
  | j + 1 => by
    rw [← Nat.add_assoc, O.pos, if_pos (Nat.div_eq_of_lt (Nat.lt_of_lt_of_le h (Nat.pow_le_pow_right (by omega) (Nat.le_add_right _ _))))]
    exact O.pos_up hb h j
theorem O.pos_eq {b : Nat} (hb : 2 ≤ b) {e n : Nat} (h : n < b ^ e) : O.pos b e n = O.inb b n := by
  have h1 := O.pos_up hb h n
  have h2 := O.pos_up hb (pow_big hb n) e
  rw [Nat.add_comm, h1] at h2
  exact h2
theorem O.inb_zero (b : Nat) : O.inb b 0 = .z := rfl
/-- The first term. -/
theorem O.inb_top {b : Nat} (hb : 2 ≤ b) {e n : Nat} (h0 : b ^ e ≤ n) (h1 : n < b ^ (e + 1)) : O.inb b n = .c (n / b ^ e) (O.inb b e) (O.inb b (n % b ^ e)) := by
  have hp : 0 < b ^ e := Nat.pow_pos (by omega)
  rw [← O.pos_eq hb h1, O.pos, if_neg (by have := Nat.div_pos h0 hp; omega), O.pos_eq hb (Nat.mod_lt _ hp)]
  rfl
theorem O.pos_all {b : Nat} (hb : 2 ≤ b) : ∀ N e n : Nat, e ≤ N → n < b ^ e → O.val b (O.pos b e n) = n ∧ O.NF (O.pos b e n) ∧ O.small b (O.pos b e n) ∧ O.hd (O.pos b e e) (O.pos b e n)
  | N, 0, n, _, h => by
    have : n = 0 := by rw [Nat.pow_zero] at h; omega
    subst this
    exact ⟨rfl, trivial, trivial, trivial⟩
  | 0, e + 1, _, h, _ => by omega
  | N + 1, e + 1, n, hN, h => by
    have hp : 0 < b ^ e := Nat.pow_pos (by omega)
    obtain ⟨e1, e2, e3, e4⟩ := O.pos_all hb N e e (by omega) (pow_big hb e)
    -- the place's own ordinal, one place up
    have hq : O.pos b (e + 1) (e + 1) = O.inb b (e + 1) := O.pos_eq hb (pow_big hb _)
    have hlt : O.cmp (O.pos b e e) (O.pos b (e + 1) (e + 1)) = .lt := by
      by_cases hz : e + 1 < b ^ e
      · have h1 : O.pos b (e + 1) (e + 1) = O.pos b e (e + 1) := by rw [O.pos, if_pos (Nat.div_eq_of_lt hz)]
        obtain ⟨f1, f2, f3, f4⟩ := O.pos_all hb N e (e + 1) (by omega) hz
        rw [h1]
        exact O.val_lt hb e2 f2 e3 f3 (by rw [e1, f1]; omega)
      · have hd : (e + 1) / b ^ e ≠ 0 := by have := Nat.div_pos (by omega : b ^ e ≤ e + 1) hp; omega
        rw [O.pos, if_neg hd]
        exact O.hd_lt e4 _ _
    by_cases hd : n / b ^ e = 0
    · have hn : n < b ^ e := by
        rcases Nat.lt_or_ge n (b ^ e) with h1 | h1
        · exact h1
        · have := Nat.div_pos h1 hp; omega
      obtain ⟨f1, f2, f3, f4⟩ := O.pos_all hb N e n (by omega) hn
      rw [O.pos, if_pos hd]
      exact ⟨f1, f2, f3, O.hd_trans hlt f4⟩
    · obtain ⟨f1, f2, f3, f4⟩ := O.pos_all hb N e (n % b ^ e) (by omega) (Nat.mod_lt _ hp)
      have hdb : n / b ^ e < b := by rw [Nat.div_lt_iff_lt_mul hp, Nat.mul_comm, ← Nat.pow_succ]; exact h
      rw [show O.pos b (e + 1) n = .c (n / b ^ e) (O.pos b e e) (O.pos b e (n % b ^ e)) by rw [O.pos, if_neg hd]]
      refine ⟨?_, ⟨Nat.pos_of_ne_zero hd, e2, f2, f4⟩, ⟨hdb, e3, f3⟩, hlt⟩
      simp only [O.val, e1, f1]
      rw [Nat.mul_comm]; exact Nat.div_add_mod n (b ^ e)
theorem O.inb_NF {b : Nat} (hb : 2 ≤ b) (n : Nat) : O.NF (O.inb b n) := (O.pos_all hb n n n (Nat.le_refl _) (pow_big hb n)).2.1
theorem O.inb_small {b : Nat} (hb : 2 ≤ b) (n : Nat) : O.small b (O.inb b n) := (O.pos_all hb n n n (Nat.le_refl _) (pow_big hb n)).2.2.1
def O.len : O → Nat
  | .z => 0
  | .c _ _ r => O.len r + 1
def O.body : O → List Int
  | .z => []
  | .c n e r => (n : Int) :: (O.len e : Int) :: (O.body e ++ O.body r)
def O.row (o : O) : List Int := (O.len o : Int) :: O.body o
theorem O.len_le : ∀ o : O, o.len ≤ o.body.length
  | .z => Nat.le_refl _
  | .c n e r => by have := O.len_le r; simp only [O.len, O.body, List.length_cons, List.length_append]; omega
/-- These terms are this ordinal. -/
inductive IsO : List S67 → O → Prop where
  | nil : IsO [] .z
  | cons {n : Nat} {e r : List S67} {oe or_ : O} (he : IsO e oe) (hr : IsO r or_) : IsO (⟨(n : Int), e⟩ :: r) (.c n oe or_)
theorem IsO.len {l : List S67} {o : O} (h : IsO l o) : l.length = o.len := by
  induction h with
  | nil => rfl
  | cons he hr ihe ihr => simp [O.len, ihr]
theorem rd_T67_mid (pre suf : List S67) (x : S67) : rd_T67 (pre ++ x :: suf) ((pre.length : Nat) : Int) = x := by simp [rd_T67]
def O.num (n : Nat) : O := if n = 0 then .z else .c n .z .z
theorem rowOf_l0 {suf : List S67} {o : O} (h : IsO suf o) : ∀ (pre : List S67) (out : List Int), pre.length + suf.length ≤ 1000000 → out.length + o.body.length ≤ 1000000 → Ev (fun k => impl_rowOf.l0 k out (pre ++ suf) (((pre ++ suf).length : Nat) : Int) (pre.length : Int)) (out ++ o.body) := by
  induction h with
  | nil =>
    intro pre out _ _
    refine ev_s ?_
    simp only [impl_rowOf.l0, List.append_nil, if_neg (show ¬ ((pre.length : Int) < (pre.length : Int)) by omega), O.body]
    exact Ev.now _
  | @cons n e r oe or_ he hr ihe ihr =>
    intro pre out hp ho
    simp only [List.length_cons] at hp
    simp only [O.body, List.length_cons, List.length_append] at ho
    have hlen : ((pre ++ (⟨(n : Int), e⟩ : S67) :: r).length : Nat) = pre.length + (r.length + 1) := by simp
    have he1 := IsO.len he
    have hel := O.len_le oe
    have hE : Ev (fun k => impl_rowOf.f k e) oe.row := by
      refine ev_s ?_
      simp only [impl_rowOf.f]
      have := ihe [] [(e.length : Int)] (by simp; omega) (by simp; omega)
      rw [List.nil_append] at this
      refine ev_eq this ?_
      rw [O.row, ← he1]; rfl
    refine ev_s ?_
    simp only [impl_rowOf.l0, rd_T67_mid, hlen, if_pos (show (pre.length : Int) < ((pre.length + (r.length + 1) : Nat) : Int) by omega), if_pos (show (0 : Int) ≤ (pre.length : Int) by omega), if_pos (show out.length < 17592186044416 by omega), Option.bind_some]
    refine Ev.bind hE ?_
    have hrow : oe.row.length = oe.body.length + 1 := by simp [O.row]
    simp only [List.length_append, List.length_singleton, hrow, if_pos (show out.length + 1 + (oe.body.length + 1) < 17592186044416 by omega), show wrap64 ((pre.length : Int) + 1) = ((pre.length + 1 : Nat) : Int) by rw [wrap_in (by omega) (by omega)]; rfl]
    have := ihr (pre ++ [⟨(n : Int), e⟩]) (out ++ [(n : Int)] ++ oe.row) (by simp; omega) (by simp [hrow]; omega)
    simp only [List.append_assoc, List.singleton_append, List.length_append, List.length_cons, List.length_nil] at this
    refine ev_eq ?_ (show out ++ ((n : Int) :: (oe.row ++ or_.body)) = out ++ (O.c n oe or_).body by simp [O.body, O.row])
    simp only [List.append_assoc, List.singleton_append]
    exact this
theorem rowOf_ev {l : List S67} {o : O} (h : IsO l o) (ho : o.body.length ≤ 100000) : Ev (fun k => impl_rowOf.f k l) o.row := by
  have hl := IsO.len h
  have := O.len_le o
  refine ev_s ?_
  simp only [impl_rowOf.f]
  have := rowOf_l0 h [] [(l.length : Int)] (by simp; omega) (by simp; omega)
  rw [List.nil_append] at this
  refine ev_eq this ?_
  rw [O.row, ← hl]; rfl

-- part: oTerms
/-! ### reading ordinals back -/
/-- The terms of an ordinal. -/
def O.terms : O → List S67
  | .z => []
  | .c n e r => ⟨(n : Int), O.terms e⟩ :: O.terms r
theorem O.terms_is : ∀ o : O, IsO o.terms o
  | .z => .nil
  | .c n e r => .cons (O.terms_is e) (O.terms_is r)
theorem IsO.terms {l : List S67} {o : O} (h : IsO l o) : l = o.terms := by
  induction h with
  | nil => rfl
  | cons _ _ h1 h2 => rw [O.terms, h1, h2]
def ordI : Ordering → Int
  | .lt => -1
  | .eq => 0
  | .gt => 1
theorem cmpInt_nat (x y : Nat) : cmp_Compare_int.f (x : Int) (y : Int) = some (ordI (compare x y)) := by
  simp only [cmp_Compare_int.f, cmp_isNaN_int.f, Option.bind_some, bne_self_eq_false, Bool.false_eq_true, if_false]
  by_cases h1 : x < y
  · rw [if_pos (show (x : Int) < (y : Int) by omega), Nat.compare_eq_lt.mpr h1]; rfl
  · by_cases h2 : y < x
    · rw [if_neg (show ¬ ((x : Int) < (y : Int)) by omega), if_pos (show (x : Int) > (y : Int) by omega), Nat.compare_eq_gt.mpr h2]; rfl
    · rw [if_neg (show ¬ ((x : Int) < (y : Int)) by omega), if_neg (show ¬ ((x : Int) > (y : Int)) by omega), Nat.compare_eq_eq.mpr (by omega)]; rfl
theorem ordI_then (a b : Ordering) : ordI (a.then b) = if ordI a = 0 then ordI b else ordI a := by cases a <;> rfl
theorem compare_step (n m : Nat) (e r f s : O) (pa pb : List S67) (hp : pa.length = pb.length) (hb : pa.length ≤ 1000000) (h1 : Ev (fun k => impl_compare.f k e.terms f.terms) (ordI (O.cmp e f)))
    (h2 : Ev (fun k => impl_compare.l0 k (pa ++ ((⟨(n : Int), O.terms e⟩ : S67) :: O.terms r)) (pb ++ ((⟨(m : Int), O.terms f⟩ : S67) :: O.terms s)) ((pa.length + 1 : Nat) : Int)) (ordI (O.cmp r s))) :
    Ev (fun k => impl_compare.l0 k (pa ++ ((⟨(n : Int), O.terms e⟩ : S67) :: O.terms r)) (pb ++ ((⟨(m : Int), O.terms f⟩ : S67) :: O.terms s)) (pa.length : Int)) (ordI (O.cmp (.c n e r) (.c m f s))) := by
  have hla : (pa ++ ((⟨(n : Int), O.terms e⟩ : S67) :: O.terms r)).length = pa.length + (r.terms.length + 1) := by simp
  have hlb : (pb ++ ((⟨(m : Int), O.terms f⟩ : S67) :: O.terms s)).length = pb.length + (s.terms.length + 1) := by simp
  have ea : rd_T67 (pa ++ ((⟨(n : Int), O.terms e⟩ : S67) :: O.terms r)) (pa.length : Int) = ⟨(n : Int), O.terms e⟩ := rd_T67_mid pa r.terms ⟨(n : Int), O.terms e⟩
  have eb : rd_T67 (pb ++ ((⟨(m : Int), O.terms f⟩ : S67) :: O.terms s)) (pa.length : Int) = ⟨(m : Int), O.terms f⟩ := by rw [hp]; exact rd_T67_mid pb s.terms ⟨(m : Int), O.terms f⟩
  generalize pa ++ ((⟨(n : Int), O.terms e⟩ : S67) :: O.terms r) = A at *
  generalize pb ++ ((⟨(m : Int), O.terms f⟩ : S67) :: O.terms s) = B at *
  have ew : wrap64 ((pa.length : Int) + 1) = ((pa.length + 1 : Nat) : Int) := wrap_nat2 pa.length 1 (by omega)
  have g1 : (pa.length : Int) < (A.length : Int) := by omega
  have g2 : (pa.length : Int) < (B.length : Int) := by omega
  refine ev_s ?_
  simp only [impl_compare.l0, if_pos g1, decide_eq_true g2]
  refine ev_s ?_
  simp only [impl_compare.j1, if_true, if_pos (show (0 : Int) ≤ (pa.length : Int) from Int.natCast_nonneg _), if_pos g1, if_pos g2, ea, eb, ew]
  refine Ev.bind h1 ?_
  rw [O.cmp, ordI_then, ordI_then]
  by_cases q1 : ordI (O.cmp e f) = 0
  · simp only [if_pos q1, cmpInt_nat, Option.bind_some]
    by_cases q2 : ordI (compare n m) = 0
    · simp only [if_pos q2]
      exact h2
    · simp only [if_neg q2]
      exact Ev.now _
  · simp only [if_neg q1]
    exact Ev.now _
theorem compare_l0 : ∀ (x y : O) (pa pb : List S67), pa.length = pb.length → pa.length + x.body.length ≤ 1000000 → pb.length + y.body.length ≤ 1000000 →
    Ev (fun k => impl_compare.l0 k (pa ++ x.terms) (pb ++ y.terms) (pa.length : Int)) (ordI (O.cmp x y))
  | .z, .z, pa, pb, hp, _, _ => by
    refine ev_s ?_
    simp only [impl_compare.l0, O.terms, List.append_nil, if_neg (show ¬ ((pa.length : Int) < (pa.length : Int)) by omega)]
    refine ev_s ?_
    simp only [impl_compare.j1, Bool.false_eq_true, if_false, cmpInt_nat, Option.bind_some, hp, Nat.compare_eq_eq.mpr]
    exact Ev.now _
  | .z, .c m f s, pa, pb, hp, _, _ => by
    refine ev_s ?_
    simp only [impl_compare.l0, O.terms, List.append_nil, if_neg (show ¬ ((pa.length : Int) < (pa.length : Int)) by omega)]
    refine ev_s ?_
    have hl : (pb ++ (⟨(m : Int), O.terms f⟩ :: O.terms s : List S67)).length = pb.length + (s.terms.length + 1) := by simp
    simp only [impl_compare.j1, Bool.false_eq_true, if_false, cmpInt_nat, Option.bind_some, hl, Nat.compare_eq_lt.mpr (show pa.length < pb.length + (s.terms.length + 1) by omega)]
    exact Ev.now _
  | .c n e r, .z, pa, pb, hp, _, _ => by
    refine ev_s ?_
    have hl : (pa ++ (⟨(n : Int), O.terms e⟩ :: O.terms r : List S67)).length = pa.length + (r.terms.length + 1) := by simp
    simp only [impl_compare.l0, O.terms, List.append_nil, hl, if_pos (show (pa.length : Int) < ((pa.length + (r.terms.length + 1) : Nat) : Int) by omega), decide_eq_false (show ¬ ((pa.length : Int) < (pb.length : Int)) by omega)]
    refine ev_s ?_
    simp only [impl_compare.j1, Bool.false_eq_true, if_false, hl, cmpInt_nat, Option.bind_some, Nat.compare_eq_gt.mpr (show pb.length < pa.length + (r.terms.length + 1) by omega)]
    exact Ev.now _
  | .c n e r, .c m f s, pa, pb, hp, ha, hb => by
    simp only [O.body, List.length_cons, List.length_append] at ha hb
    have ih1 : Ev (fun k => impl_compare.f k e.terms f.terms) (ordI (O.cmp e f)) := by
      have := compare_l0 e f [] [] rfl (by simp only [List.length_nil]; omega) (by simp only [List.length_nil]; omega)
      rw [List.nil_append, List.nil_append] at this
      refine ev_s ?_
      simp only [impl_compare.f]
      exact this
    have ih2 := compare_l0 r s (pa ++ [⟨(n : Int), e.terms⟩]) (pb ++ [⟨(m : Int), f.terms⟩]) (by simp only [List.length_append, List.length_singleton, hp]) (by simp only [List.length_append, List.length_singleton]; omega) (by simp only [List.length_append, List.length_singleton]; omega)
    simp only [List.append_assoc, List.singleton_append, List.length_append, List.length_singleton] at ih2
    exact compare_step n m e r f s pa pb hp (by omega) ih1 ih2
theorem compare_ev (x y : O) (hx : x.body.length ≤ 100000) (hy : y.body.length ≤ 100000) : Ev (fun k => impl_compare.f k x.terms y.terms) (ordI (O.cmp x y)) := by
  have := compare_l0 x y [] [] rfl (by simp; omega) (by simp; omega)
  rw [List.nil_append, List.nil_append] at this
  refine ev_s ?_
  simp only [impl_compare.f]
  exact this
/-- In reach of the reader: each sum has 60 terms at most, each number is in 1..9999, the exponents fall. -/
def O.Sm : O → Prop
  | .z => True
  | .c n e r => (1 ≤ n ∧ n ≤ 9999) ∧ (O.Sm e ∧ e.len ≤ 60) ∧ O.Sm r ∧ O.hd e r
/-- What stands last ahead: nothing, or a term with this exponent. -/
def LastE (pa : List S67) (r : O) : Prop := pa = [] ∨ ∃ pb m f, pa = pb ++ [⟨m, O.terms f⟩] ∧ f.body.length ≤ 100000 ∧ O.hd f r
theorem takeOrd_l0 : ∀ (r : O), r.Sm → ∀ (pa : List S67) (t : List Int), pa.length + r.len ≤ 60 → r.body.length ≤ 100000 → LastE pa r →
    Ev (fun k => impl_takeOrd.l0 k (r.body ++ t) pa ((pa.length + r.len : Nat) : Int) (pa.length : Int)) (pa ++ r.terms, t, true)
  | .z, _, pa, t, _, _, _ => by
    refine ev_s ?_
    simp only [impl_takeOrd.l0, O.len, O.body, O.terms, Nat.add_zero, List.nil_append, List.append_nil, Int.lt_irrefl, if_false]
    exact Ev.now _
  | .c n e r, hs, pa, t, hl, hb, hlast => by
    obtain ⟨hn, ⟨hse, hle⟩, hsr, hhd⟩ := hs
    simp only [O.len] at hl
    simp only [O.body, List.length_cons, List.length_append] at hb
    have ihr := takeOrd_l0 r hsr (pa ++ [⟨(n : Int), e.terms⟩]) t (by simp; omega) (by omega) (.inr ⟨pa, n, e, rfl, by omega, hhd⟩)
    have ihe : Ev (fun k => impl_takeOrd.f k ((e.len : Int) :: (e.body ++ (r.body ++ t)))) (e.terms, r.body ++ t, true) := by
      have := takeOrd_l0 e hse [] (r.body ++ t) (by simpa using hle) (by omega) (.inl rfl)
      simp only [List.length_nil, Nat.zero_add, List.nil_append] at this
      refine ev_s ?_
      have hc : rd ((e.len : Int) :: (e.body ++ (r.body ++ t))) 0 = (e.len : Int) := rfl
      simp only [impl_takeOrd.f, List.length_cons, if_neg (show ¬ (((e.body ++ (r.body ++ t)).length + 1 : Nat) : Int) = 0 by omega), if_pos (show (0 : Int) < (((e.body ++ (r.body ++ t)).length + 1 : Nat) : Int) by omega), if_pos (show (1 : Int) ≤ (((e.body ++ (r.body ++ t)).length + 1 : Nat) : Int) by omega), Option.bind_some, hc, List.drop_succ_cons, List.drop_zero, if_neg (show ¬ ((e.len : Int) < 0) by omega), decide_eq_false (show ¬ ((e.len : Int) > 60) by omega)]
      refine ev_s ?_
      simp only [impl_takeOrd.j0, Bool.false_eq_true, if_false]
      exact this
    have hbody : (O.c n e r).body ++ t = (n : Int) :: ((e.len : Int) :: (e.body ++ (r.body ++ t))) := by simp [O.body]
    have hc : rd ((n : Int) :: ((e.len : Int) :: (e.body ++ (r.body ++ t)))) 0 = (n : Int) := rfl
    have hw : wrap64 ((pa.length : Int) + 1) = (((pa ++ [(⟨(n : Int), e.terms⟩ : S67)]).length : Nat) : Int) := by
      rw [List.length_append, List.length_singleton]; exact wrap_nat2 pa.length 1 (by omega)
    have hcnt : ((pa.length + (O.c n e r).len : Nat) : Int) = (((pa ++ [(⟨(n : Int), e.terms⟩ : S67)]).length + r.len : Nat) : Int) := by
      simp only [O.len, List.length_append, List.length_singleton]; omega
    have hres : pa ++ (O.c n e r).terms = pa ++ [(⟨(n : Int), e.terms⟩ : S67)] ++ r.terms := by simp [O.terms]
    rw [hbody, hres]
    refine ev_s ?_
    simp only [impl_takeOrd.l0, List.length_cons, if_pos (show (pa.length : Int) < ((pa.length + (O.c n e r).len : Nat) : Int) by simp only [O.len]; omega), hc]
    have hlen : (((e.len : Int) :: (e.body ++ (r.body ++ t))).length : Nat) = (e.body ++ (r.body ++ t)).length + 1 := by simp
    simp only [if_neg (show ¬ ((((e.body ++ (r.body ++ t)).length + 1 + 1 : Nat) : Int) = 0) by omega), if_pos (show (0 : Int) < (((e.body ++ (r.body ++ t)).length + 1 + 1 : Nat) : Int) by omega), if_neg (show ¬ ((n : Int) < 1) by omega), decide_eq_false (show ¬ ((n : Int) > 9999) by omega)]
    refine ev_s ?_
    simp only [impl_takeOrd.j2, Bool.false_eq_true, if_false, List.length_cons, if_pos (show (1 : Int) ≤ (((e.body ++ (r.body ++ t)).length + 1 + 1 : Nat) : Int) by omega), List.drop_succ_cons, List.drop_zero]
    refine Ev.bind ihe ?_
    simp only [if_true, if_pos (show (0 : Int) < (((e.body ++ (r.body ++ t)).length + 1 + 1 : Nat) : Int) by omega), hc, if_pos (show pa.length < 4398046511104 by omega), hw, hcnt]
    rcases hlast with h0 | ⟨pb, m, f, hpa, hfb, hfd⟩
    · simp only [if_neg (show ¬ ((pa.length : Int) > 0) by rw [h0]; simp)]
      exact ihr
    · have hpl : pa.length = pb.length + 1 := by rw [hpa]; simp
      have hw1 : wrap64 ((pa.length : Int) - 1) = (pb.length : Int) := by rw [wrap_in (by omega) (by omega)]; omega
      have hrd : rd_T67 pa (pb.length : Int) = ⟨m, O.terms f⟩ := by rw [hpa]; exact rd_T67_mid pb [] ⟨m, O.terms f⟩
      simp only [if_pos (show (pa.length : Int) > 0 by omega), hw1, if_pos (show (0 : Int) ≤ (pb.length : Int) by omega), if_pos (show (pb.length : Int) < (pa.length : Int) by omega), hrd]
      refine Ev.bind (compare_ev e f (by omega) hfb) ?_
      have : ordI (O.cmp e f) = -1 := by rw [show O.cmp e f = .lt from hfd]; rfl
      simp only [this, if_neg (show ¬ ((-1 : Int) ≥ 0) by decide)]
      exact ihr
theorem takeOrd_ev {o : O} (hs : o.Sm) (hl : o.len ≤ 60) (hb : o.body.length ≤ 100000) (t : List Int) : Ev (fun k => impl_takeOrd.f k (o.row ++ t)) (o.terms, t, true) := by
  have := takeOrd_l0 o hs [] t (by simpa using hl) hb (.inl rfl)
  simp only [List.length_nil, Nat.zero_add, List.nil_append] at this
  refine ev_s ?_
  have hc : rd ((o.len : Int) :: (o.body ++ t)) 0 = (o.len : Int) := rfl
  simp only [O.row, List.cons_append, impl_takeOrd.f, List.length_cons, if_neg (show ¬ (((o.body ++ t).length + 1 : Nat) : Int) = 0 by omega), if_pos (show (0 : Int) < (((o.body ++ t).length + 1 : Nat) : Int) by omega), if_pos (show (1 : Int) ≤ (((o.body ++ t).length + 1 : Nat) : Int) by omega), Option.bind_some, hc, List.drop_succ_cons, List.drop_zero, if_neg (show ¬ ((o.len : Int) < 0) by omega), decide_eq_false (show ¬ ((o.len : Int) > 60) by omega)]
  refine ev_s ?_
  simp only [impl_takeOrd.j0, Bool.false_eq_true, if_false]
  exact this
theorem ordOf_ev {o : O} (hs : o.Sm) (hb : o.row.length ≤ 60) : Ev (fun k => impl_ordOf.f k o.row) (o.terms, true) := by
  have hlb := O.len_le o
  have hr : o.row.length = o.body.length + 1 := by simp [O.row]
  have h := takeOrd_ev hs (by omega) (by omega) []
  rw [List.append_nil] at h
  simp only [impl_ordOf.f, if_neg (show ¬ ((o.row.length : Int) < 1) by omega), if_neg (show ¬ ((o.row.length : Int) > 60) by omega)]
  refine Ev.bind h ?_
  simp only [if_true]
  exact ev_now (by simp)

-- part: l1Make
/-- Numbers and exponents, one behind the other. -/
def zipB : List Int → List (List Int) → List Int
  | t :: ts, e :: es => t :: e ++ zipB ts es
  | _, _ => []
theorem zipB_drop {t : List Int} {e : List (List Int)} {i : Nat} (ht : i < t.length) (he : i < e.length) : zipB (t.drop i) (e.drop i) = t[i] :: e[i] ++ zipB (t.drop (i + 1)) (e.drop (i + 1)) := by
  rw [List.drop_eq_getElem_cons ht, List.drop_eq_getElem_cons he]; rfl
theorem rdL1_get {xs : List (List Int)} {i : Nat} (h : i < xs.length) : rd_L1 xs (i : Int) = xs[i] := by simp [rd_L1, h]
theorem l1Make_l0 (t : List Int) (e : List (List Int)) (hl : t.length = e.length) (hb : t.length ≤ 1000000) : ∀ (d i : Nat) (out : List Int), i + d = t.length → out.length + (zipB (t.drop i) (e.drop i)).length ≤ 1000000 → Ev (fun k => spec_l1Make.l0 k t e out (i : Int)) (out ++ zipB (t.drop i) (e.drop i)) := by
  intro d
  induction d with
  | zero =>
    intro i out h _
    refine ev_s ?_
    simp only [spec_l1Make.l0, if_neg (show ¬ ((i : Int) < (t.length : Int)) by omega)]
    rw [List.drop_of_length_le (by omega)]
    exact ev_now (by simp [zipB])
  | succ d ih =>
    intro i out h ho
    rw [zipB_drop (show i < t.length by omega) (show i < e.length by omega)] at ho
    simp only [List.length_append, List.length_cons] at ho
    refine ev_s ?_
    simp only [spec_l1Make.l0, if_pos (show (i : Int) < (t.length : Int) by omega), if_pos (show (0 : Int) ≤ (i : Int) by omega), if_pos (show (i : Int) < (e.length : Int) by omega), if_pos (show out.length < 17592186044416 by omega), Option.bind_some, rdL1_get (show i < e.length by omega), rd_get (show i < t.length by omega), show wrap64 ((i : Int) + 1) = ((i + 1 : Nat) : Int) by rw [wrap_in (by omega) (by omega)]; rfl, List.length_append, List.length_singleton, if_pos (show out.length + 1 + e[i].length < 17592186044416 by omega)]
    refine ev_eq (ih (i + 1) _ (by omega) (by simp; omega)) ?_
    rw [zipB_drop (show i < t.length by omega) (show i < e.length by omega)]
    simp
theorem l1Make_ev (t : List Int) (e : List (List Int)) (hl : t.length = e.length) (hb : t.length ≤ 100000) (hz : (zipB t e).length ≤ 100000) : Ev (fun k => spec_l1Make.f k t e) ((t.length : Int) :: zipB t e) := by
  simp only [spec_l1Make.f]
  exact l1Make_l0 t e hl (by omega) t.length 0 [(t.length : Int)] (by omega) (by simp; omega)

-- part: oSpec
/-! ### the reference's ordinals -/
theorem O.row_length (o : O) : o.row.length = o.body.length + 1 := by simp [O.row]
theorem O.body_c (n : Nat) (e r : O) : (O.c n e r).body = (n : Int) :: (e.row ++ r.body) := by simp [O.body, O.row]
def O.ns : O → List Int
  | .z => []
  | .c n _ r => (n : Int) :: O.ns r
def O.es : O → List (List Int)
  | .z => []
  | .c _ e r => e.row :: O.es r
theorem O.ns_len : ∀ o : O, o.ns.length = o.len
  | .z => rfl
  | .c n e r => by simp only [O.ns, O.len, List.length_cons, O.ns_len r]
theorem O.es_len : ∀ o : O, o.es.length = o.len
  | .z => rfl
  | .c n e r => by simp only [O.es, O.len, List.length_cons, O.es_len r]
theorem rd_L1_at (pre suf : List (List Int)) (x : List Int) : rd_L1 (pre ++ x :: suf) ((pre.length : Nat) : Int) = x := by simp [rd_L1]
theorem l1Span_l0 : ∀ (s : O) (pre t l : List Int) (i : Nat), l = pre ++ s.body ++ t → l.length ≤ 1000000 → i + s.body.length ≤ 1000000 →
    Ev (fun k => spec_l1Span.l0 k l (pre.length : Int) ((i + s.len : Nat) : Int) (i : Int)) ((pre.length + s.body.length : Nat) : Int)
  | .z, pre, t, l, i, _, _, _ => by
    refine ev_s ?_
    simp only [spec_l1Span.l0, O.len, O.body, Nat.add_zero, Int.lt_irrefl, if_false, List.length_nil]
    exact Ev.now _
  | .c n e r, pre, t, l, i, hl, hb, hi => by
    have hrl := O.row_length e
    have hbl := O.len_le e
    have hlen : l.length = pre.length + (e.body.length + r.body.length + 2) + t.length := by rw [hl, O.body_c]; simp; omega
    rw [O.body_c] at hi
    simp only [List.length_cons, List.length_append] at hi
    have he : Ev (fun k => spec_l1Span.f k l ((pre.length + 1 : Nat) : Int)) ((pre.length + 1 + e.row.length : Nat) : Int) := by
      have hp : pre.length + 1 < l.length := by omega
      have hx : rd l ((pre.length + 1 : Nat) : Int) = (e.len : Int) := by
        rw [rd_get hp]
        subst hl
        simp [O.body_c, O.row]
      have ih := l1Span_l0 e (pre ++ [(n : Int), (e.len : Int)]) (r.body ++ t) l 0 (by rw [hl]; simp [O.body_c, O.row]) hb (by omega)
      simp only [List.length_append, List.length_cons, List.length_nil, Nat.zero_add] at ih
      refine ev_s ?_
      simp only [spec_l1Span.f, if_pos (show (0 : Int) ≤ ((pre.length + 1 : Nat) : Int) by omega), if_pos (show ((pre.length + 1 : Nat) : Int) < (l.length : Int) by omega), hx, show wrap64 (((pre.length + 1 : Nat) : Int) + 1) = ((pre.length + (0 + 1 + 1) : Nat) : Int) by rw [wrap_in (by omega) (by omega)]; omega]
      exact ev_eq ih (by omega)
    have ihr := l1Span_l0 r (pre ++ (n : Int) :: e.row) t l (i + 1) (by rw [hl, O.body_c]; simp) hb (by omega)
    have hpl : (pre ++ (n : Int) :: e.row).length = pre.length + 1 + e.row.length := by simp; omega
    rw [hpl] at ihr
    refine ev_s ?_
    simp only [spec_l1Span.l0, if_pos (show (i : Int) < ((i + (O.c n e r).len : Nat) : Int) by simp only [O.len]; omega), show wrap64 ((pre.length : Int) + 1) = ((pre.length + 1 : Nat) : Int) from wrap_nat2 _ 1 (by omega), show wrap64 ((i : Int) + 1) = ((i + 1 : Nat) : Int) from wrap_nat2 i 1 (by omega)]
    refine Ev.bind he ?_
    rw [show ((i + (O.c n e r).len : Nat) : Int) = ((i + 1 + r.len : Nat) : Int) by simp only [O.len]; omega]
    exact ev_eq ihr (by rw [O.body_c]; simp only [List.length_cons, List.length_append]; omega)
theorem l1Span_row {e : O} (pre t : List Int) (hb : (pre ++ e.row ++ t).length ≤ 1000000) : Ev (fun k => spec_l1Span.f k (pre ++ e.row ++ t) (pre.length : Int)) ((pre.length + e.row.length : Nat) : Int) := by
  have hrl := O.row_length e
  have hl : (pre ++ e.row ++ t).length = pre.length + e.row.length + t.length := by simp only [List.length_append]
  have hp : pre.length < (pre ++ e.row ++ t).length := by omega
  have hx : rd (pre ++ e.row ++ t) ((pre.length : Nat) : Int) = (e.len : Int) := by rw [rd_get hp]; simp [O.row]
  have ih := l1Span_l0 e (pre ++ [(e.len : Int)]) t (pre ++ e.row ++ t) 0 (by simp [O.row]) hb (by omega)
  simp only [List.length_append, List.length_singleton, Nat.zero_add] at ih
  refine ev_s ?_
  simp only [spec_l1Span.f, if_pos (show (0 : Int) ≤ (pre.length : Int) by omega), if_pos (show (pre.length : Int) < ((pre ++ e.row ++ t).length : Int) by omega), hx, show wrap64 ((pre.length : Int) + 1) = ((pre.length + 1 : Nat) : Int) from wrap_nat2 _ 1 (by omega)]
  exact ev_eq ih (by omega)
theorem l1Terms_l0 : ∀ (s : O) (pre : List Int) (ns : List Int) (es : List (List Int)), (pre ++ s.body).length ≤ 1000000 → ns.length + s.len ≤ 1000000 → es.length + s.len ≤ 1000000 →
    Ev (fun k => spec_l1Terms.l0 k (pre ++ s.body) ns es (pre.length : Int)) (ns ++ s.ns, es ++ s.es)
  | .z, pre, ns, es, _, _, _ => by
    refine ev_s ?_
    simp only [spec_l1Terms.l0, O.body, O.ns, O.es, List.append_nil, Int.lt_irrefl, if_false]
    exact Ev.now _
  | .c n e r, pre, ns, es, hb, hn, he => by
    simp only [O.len] at hn he
    have hrl := O.row_length e
    have e0 : pre ++ (O.c n e r).body = (pre ++ [(n : Int)]) ++ e.row ++ r.body := by rw [O.body_c]; simp
    have hlen : (pre ++ (O.c n e r).body).length = pre.length + 1 + e.row.length + r.body.length := by rw [e0]; simp; omega
    have hsp := l1Span_row (e := e) (pre ++ [(n : Int)]) r.body (by rw [← e0]; exact hb)
    have hpl : (pre ++ [(n : Int)]).length = pre.length + 1 := by simp
    have hcut : (((pre ++ [(n : Int)]) ++ e.row ++ r.body).take (pre.length + 1 + e.row.length)).drop (pre.length + 1) = e.row := by
      rw [show pre.length + 1 + e.row.length = ((pre ++ [(n : Int)]) ++ e.row).length by simp; omega, List.take_left', List.drop_left' (by simp)]
      rfl
    have hx : rd ((pre ++ [(n : Int)]) ++ e.row ++ r.body) ((pre.length : Nat) : Int) = (n : Int) := by rw [rd_get (by rw [← e0]; omega)]; simp
    have ihr := l1Terms_l0 r ((pre ++ [(n : Int)]) ++ e.row) (ns ++ [(n : Int)]) (es ++ [e.row]) (by rw [← e0]; exact hb) (by simp; omega) (by simp; omega)
    have hpl2 : ((pre ++ [(n : Int)]) ++ e.row).length = pre.length + 1 + e.row.length := by simp; omega
    rw [hpl2] at ihr
    rw [hpl] at hsp
    rw [e0] at hb hlen ⊢
    generalize (pre ++ [(n : Int)]) ++ e.row ++ r.body = l at *
    refine ev_s ?_
    simp only [spec_l1Terms.l0, if_pos (show (pre.length : Int) < (l.length : Int) by omega), show wrap64 ((pre.length : Int) + 1) = ((pre.length + 1 : Nat) : Int) from wrap_nat2 _ 1 (by omega)]
    refine Ev.bind hsp ?_
    simp only [if_pos (show (0 : Int) ≤ (pre.length : Int) by omega), if_pos (show ns.length < 17592186044416 by omega), if_pos (show (0 : Int) ≤ ((pre.length + 1 : Nat) : Int) by omega), if_pos (show ((pre.length + 1 : Nat) : Int) ≤ ((pre.length + 1 + e.row.length : Nat) : Int) by omega), if_pos (show ((pre.length + 1 + e.row.length : Nat) : Int) ≤ (l.length : Int) by omega), if_pos (show es.length < 5864062014805 by omega), hx, Int.toNat_natCast, hcut]
    refine ev_eq ihr ?_
    simp [O.ns, O.es]
theorem l1Terms_ev {o : O} (hl : o.row.length ≤ 100000) : Ev (fun k => spec_l1Terms.f k o.row) (o.ns, o.es) := by
  have hr := O.row_length o
  have hle := O.len_le o
  have := l1Terms_l0 o [(o.len : Int)] [] [] (by simp; omega) (by simp; omega) (by simp; omega)
  simp only [spec_l1Terms.f]
  exact this

-- part: oSize
/-! ### sizes of ordinals -/
def O.size : O → Nat
  | .z => 1
  | .c n e r => n * O.size e + O.size r
theorem O.row_le_size : ∀ {x : O}, x.NF → x.row.length + 1 ≤ 2 * x.size
  | .z, _ => by simp [O.row, O.body, O.size]
  | .c n e r, h => by
    have h1 := O.row_le_size h.2.1
    have h2 := O.row_le_size h.2.2.1
    have h3 : e.size ≤ n * e.size := Nat.le_mul_of_pos_left _ h.1
    rw [O.row_length] at h2 ⊢
    rw [O.body_c]
    simp only [List.length_cons, List.length_append, O.size]
    omega

-- part: oValid
/-! ### rows that are ordinals, and rows that are none -/
/-- What may stand behind a term with this exponent. -/
def O.fol : Option O → O → Prop
  | none, _ => True
  | some f, e => O.cmp e f = .lt
def O.folr (L : Option O) : O → Prop
  | .z => True
  | .c _ e _ => O.fol L e
/-- So many terms can't be read at the beginning of a row. -/
inductive BadO : Nat → Option O → List Int → Prop where
  | nil (m : Nat) (L : Option O) : BadO (m + 1) L []
  | out (m : Nat) (L : Option O) (x : Int) (r : List Int) (h : x < 1 ∨ 9999 < x) : BadO (m + 1) L (x :: r)
  | head (m : Nat) (L : Option O) (x : Int) (r : List Int) (h1 : 1 ≤ x) (h2 : x ≤ 9999) (h : r = [] ∨ ∃ y t, r = y :: t ∧ (y < 0 ∨ 60 < y)) : BadO (m + 1) L (x :: r)
  | deep (m : Nat) (L : Option O) (x y : Int) (r : List Int) (h1 : 1 ≤ x) (h2 : x ≤ 9999) (h3 : 0 ≤ y) (h4 : y ≤ 60) (h : BadO y.toNat none r) : BadO (m + 1) L (x :: y :: r)
  | order (m : Nat) (f e : O) (x : Int) (t : List Int) (h1 : 1 ≤ x) (h2 : x ≤ 9999) (he : e.Sm) (hl : e.len ≤ 60) (hb : e.row.length ≤ 60) (h : O.cmp e f ≠ .lt) : BadO (m + 1) (some f) (x :: (e.row ++ t))
  | next (m : Nat) (L : Option O) (e : O) (x : Int) (t : List Int) (h1 : 1 ≤ x) (h2 : x ≤ 9999) (he : e.Sm) (hl : e.len ≤ 60) (hb : e.row.length ≤ 60) (hf : O.fol L e) (h : BadO m (some e) t) : BadO (m + 1) L (x :: (e.row ++ t))
def NoOrd (l : List Int) : Prop := 60 < l.length ∨ l = [] ∨ (∃ y r, l = y :: r ∧ (y < 0 ∨ 60 < y)) ∨ (∃ y r, l = y :: r ∧ 0 ≤ y ∧ y ≤ 60 ∧ BadO y.toNat none r) ∨ ∃ (o : O) (x : Int) (t : List Int), l = o.row ++ x :: t ∧ o.Sm ∧ o.len ≤ 60
/-! the program -/
/-- What stands last ahead. -/
def LastO (pa : List S67) : Option O → Prop
  | none => pa = []
  | some f => ∃ pb n, pa = pb ++ [⟨n, O.terms f⟩] ∧ f.row.length ≤ 60
/-! ### an ordinal told, if it is valid -/
def O.most : O → Nat
  | .z => 0
  | .c n e r => max (max n (O.most e)) (O.most r)
theorem O.Sm_of : ∀ {x : O}, x.NF → x.most ≤ 9999 → x.row.length ≤ 60 → x.Sm
  | .z, _, _, _ => trivial
  | .c n e r, h, hm, hl => by
    have h1 := O.row_length e
    have h2 := O.row_length r
    have h3 := O.len_le e
    rw [O.row_length, O.body_c] at hl
    simp only [List.length_cons, List.length_append] at hl
    simp only [O.most] at hm
    exact ⟨⟨h.1, by omega⟩, ⟨O.Sm_of h.2.1 (by omega) (by omega), by omega⟩, O.Sm_of h.2.2.1 (by omega) (by omega), h.2.2.2⟩
theorem sizeOf_l0 : ∀ (r : O) (pre : List S67) (a : Nat), pre.length + r.body.length ≤ 1000000 → a + r.body.length ≤ 1000000 →
    Ev (fun k => impl_sizeOf.l0 k (a : Int) (pre ++ r.terms) (((pre ++ r.terms).length : Nat) : Int) (pre.length : Int)) ((a + r.body.length : Nat) : Int)
  | .z, pre, a, _, _ => by
    refine ev_s ?_
    simp only [impl_sizeOf.l0, O.terms, List.append_nil, Int.lt_irrefl, if_false]
    exact Ev.now _
  | .c n e r, pre, a, hp, ha => by
    rw [O.body_c] at hp ha
    simp only [List.length_cons, List.length_append] at hp ha
    have hre := O.row_length e
    have hE : Ev (fun k => impl_sizeOf.f k e.terms) (e.row.length : Int) := by
      refine ev_s ?_
      simp only [impl_sizeOf.f]
      have := sizeOf_l0 e [] 1 (by simp only [List.length_nil]; omega) (by omega)
      simp only [List.nil_append] at this
      exact ev_eq this (by omega)
    have hlen : (pre ++ (O.c n e r).terms).length = pre.length + (r.terms.length + 1) := by simp [O.terms]
    have hmid : rd_T67 (pre ++ (O.c n e r).terms) (pre.length : Int) = ⟨(n : Int), e.terms⟩ := rd_T67_mid pre r.terms ⟨(n : Int), e.terms⟩
    have happ : pre ++ (O.c n e r).terms = (pre ++ [⟨(n : Int), e.terms⟩]) ++ r.terms := by simp [O.terms]
    have ew : wrap64 ((pre.length : Int) + 1) = (((pre ++ [(⟨(n : Int), e.terms⟩ : S67)]).length : Nat) : Int) := by
      rw [List.length_append, List.length_singleton]; exact wrap_nat2 pre.length 1 (by omega)
    have g1 : (pre.length : Int) < (((pre ++ (O.c n e r).terms).length : Nat) : Int) := by omega
    have ih := sizeOf_l0 r (pre ++ [⟨(n : Int), e.terms⟩]) (a + (1 + e.row.length)) (by simp only [List.length_append, List.length_singleton]; omega) (by omega)
    refine ev_s ?_
    simp only [impl_sizeOf.l0, if_pos g1, if_pos (show (0 : Int) ≤ (pre.length : Int) from Int.natCast_nonneg _), hmid]
    refine Ev.bind hE ?_
    have hacc : wrap64 ((a : Int) + wrap64 (1 + (e.row.length : Int))) = ((a + (1 + e.row.length) : Nat) : Int) := by
      rw [wrap_in (x := 1 + (e.row.length : Int)) (by omega) (by omega), wrap_in (by omega) (by omega)]; omega
    rw [hacc, ew]
    rw [happ] at *
    exact ev_eq ih (by rw [O.body_c]; simp only [List.length_cons, List.length_append]; omega)
theorem sizeOf_ev {o : O} (hb : o.row.length ≤ 100000) : Ev (fun k => impl_sizeOf.f k o.terms) (o.row.length : Int) := by
  have hr := O.row_length o
  refine ev_s ?_
  simp only [impl_sizeOf.f]
  have := sizeOf_l0 o [] 1 (by simp only [List.length_nil]; omega) (by omega)
  simp only [List.nil_append] at this
  exact ev_eq this (by omega)
theorem most_l0 : ∀ (r : O) (pre : List S67) (a : Nat), pre.length + r.body.length ≤ 1000000 →
    Ev (fun k => impl_most.l0 k (a : Int) (pre ++ r.terms) (((pre ++ r.terms).length : Nat) : Int) (pre.length : Int)) ((max a r.most : Nat) : Int)
  | .z, pre, a, _ => by
    refine ev_s ?_
    simp only [impl_most.l0, O.terms, List.append_nil, Int.lt_irrefl, if_false, O.most]
    exact ev_now (by omega)
  | .c n e r, pre, a, hp => by
    rw [O.body_c] at hp
    simp only [List.length_cons, List.length_append] at hp
    have hre := O.row_length e
    have hE : Ev (fun k => impl_most.f k e.terms) (e.most : Int) := by
      refine ev_s ?_
      simp only [impl_most.f]
      have := most_l0 e [] 0 (by simp only [List.length_nil]; omega)
      simp only [List.nil_append] at this
      exact ev_eq this (by omega)
    have hlen : (pre ++ (O.c n e r).terms).length = pre.length + (r.terms.length + 1) := by simp [O.terms]
    have hmid : rd_T67 (pre ++ (O.c n e r).terms) (pre.length : Int) = ⟨(n : Int), e.terms⟩ := rd_T67_mid pre r.terms ⟨(n : Int), e.terms⟩
    have happ : pre ++ (O.c n e r).terms = (pre ++ [⟨(n : Int), e.terms⟩]) ++ r.terms := by simp [O.terms]
    have ew : wrap64 ((pre.length : Int) + 1) = (((pre ++ [(⟨(n : Int), e.terms⟩ : S67)]).length : Nat) : Int) := by
      rw [List.length_append, List.length_singleton]; exact wrap_nat2 pre.length 1 (by omega)
    have g1 : (pre.length : Int) < (((pre ++ (O.c n e r).terms).length : Nat) : Int) := by omega
    have ih := most_l0 r (pre ++ [⟨(n : Int), e.terms⟩]) (max (max a n) e.most) (by simp only [List.length_append, List.length_singleton]; omega)
    refine ev_s ?_
    simp only [impl_most.l0, if_pos g1, if_pos (show (0 : Int) ≤ (pre.length : Int) from Int.natCast_nonneg _), hmid]
    refine Ev.bind hE ?_
    have hacc : mx (mx (a : Int) (n : Int)) (e.most : Int) = ((max (max a n) e.most : Nat) : Int) := by
      unfold mx
      split <;> split <;> omega
    rw [hacc, ew]
    rw [happ] at *
    exact ev_eq ih (by simp only [O.most]; omega)
theorem most_ev {o : O} (hb : o.row.length ≤ 100000) : Ev (fun k => impl_most.f k o.terms) (o.most : Int) := by
  have hr := O.row_length o
  refine ev_s ?_
  simp only [impl_most.f]
  have := most_l0 o [] 0 (by simp only [List.length_nil]; omega)
  simp only [List.nil_append] at this
  exact ev_eq this (by omega)
/-- What is told of an ordinal: its row, if it is valid. -/
def O.fit (x : O) : List Int × Bool := if x.row.length ≤ 60 ∧ x.most ≤ 9999 then (x.row, true) else ([], false)
theorem told_ev {x : O} (hb : x.row.length ≤ 100000) : Ev (fun k => impl_told.f k x.terms) x.fit := by
  have hr := O.row_length x
  have bad : Ev (fun k => impl_told.j0 k x.terms true) ([], false) := by
    refine ev_s ?_
    simp only [impl_told.j0, if_true]
    exact Ev.now _
  simp only [impl_told.f]
  refine Ev.bind (sizeOf_ev hb) ?_
  unfold O.fit
  by_cases h1 : x.row.length ≤ 60
  · simp only [if_neg (show ¬ ((x.row.length : Int) > 60) by omega)]
    refine Ev.bind (most_ev hb) ?_
    by_cases h2 : x.most ≤ 9999
    · rw [if_pos ⟨h1, h2⟩]
      simp only [decide_eq_false (show ¬ ((x.most : Int) > 9999) by omega)]
      refine ev_s ?_
      simp only [impl_told.j0, Bool.false_eq_true, if_false, slices_Clip_int_int.f, Option.bind_some]
      exact Ev.bind (rowOf_ev x.terms_is (by omega)) (Ev.now _)
    · rw [if_neg (fun h => h2 h.2)]
      simp only [decide_eq_true (show (x.most : Int) > 9999 by omega)]
      exact bad
  · rw [if_neg (fun h => h1 h.1)]
    simp only [if_pos (show (x.row.length : Int) > 60 by omega)]
    exact bad

-- part: gBase
/-! ### numbers in a base: the program's -/
theorem tdiv_nat (n b : Nat) : Int.tdiv (n : Int) (b : Int) = ((n / b : Nat) : Int) := by
  rw [Int.tdiv_eq_ediv_of_nonneg (by omega)]; rfl
theorem tmod_nat (n b : Nat) : Int.tmod (n : Int) (b : Int) = ((n % b : Nat) : Int) := by
  rw [Int.tmod_eq_emod_of_nonneg (by omega)]; rfl
/-- The digits of a number, the last one first. -/
def digs (b : Nat) : Nat → Nat → List Int
  | 0, _ => []
  | f + 1, n => if n = 0 then [] else ((n % b : Nat) : Int) :: digs b f (n / b)
theorem digs_len (b : Nat) : ∀ f n, (digs b f n).length ≤ f
  | 0, _ => Nat.le_refl _
  | f + 1, n => by
    rw [digs]
    split
    · simp
    · have := digs_len b f (n / b); simp only [List.length_cons]; omega
theorem digs_lt {b : Nat} (hb : 2 ≤ b) : ∀ f n, n ≤ f → n < b ^ (digs b f n).length
  | 0, n, h => by simp [digs]; omega
  | f + 1, n, h => by
    rw [digs]
    split
    · rename_i h0; subst h0; simp
    · rename_i h0
      have hd : n / b < n := Nat.div_lt_self (by omega) (by omega)
      have ih := digs_lt hb f (n / b) (by omega)
      rw [List.length_cons, Nat.pow_succ]
      exact (Nat.div_lt_iff_lt_mul (by omega)).mp ih
theorem digs_get {b : Nat} (hb : 2 ≤ b) : ∀ f n i (h : i < (digs b f n).length), n ≤ f → (digs b f n)[i] = ((n / b ^ i % b : Nat) : Int)
  | 0, n, i, h, hf => by simp [digs] at h
  | f + 1, n, i, h, hf => by
    by_cases h0 : n = 0
    · subst h0; simp [digs] at h
    · have e : digs b (f + 1) n = ((n % b : Nat) : Int) :: digs b f (n / b) := by rw [digs, if_neg h0]
      have hd : n / b < n := Nat.div_lt_self (by omega) (by omega)
      have h' : i < (((n % b : Nat) : Int) :: digs b f (n / b)).length := by rw [← e]; exact h
      have e2 : (digs b (f + 1) n)[i] = (((n % b : Nat) : Int) :: digs b f (n / b))[i] := by simp only [e]
      rw [e2]
      cases i with
      | zero => simp
      | succ i =>
        rw [List.getElem_cons_succ, digs_get hb f (n / b) i (by simpa using h') (by omega), Nat.div_div_eq_div_mul, Nat.pow_succ, Nat.mul_comm b]
theorem digits_l0 {b : Nat} (hb : 2 ≤ b) (hb2 : b ≤ 1000) : ∀ f n (out : List Int), n ≤ f → n ≤ 4000000000 → out.length + f ≤ 10000000000 → Ev (fun k => impl_digits.l0 k (n : Int) (b : Int) out) (out ++ digs b f n)
  | 0, n, out, h, hn, ho => by
    refine ev_s ?_
    simp only [impl_digits.l0, if_neg (show ¬ ((n : Int) > 0) by omega), digs, List.append_nil]
    exact Ev.now _
  | f + 1, n, out, h, hn, ho => by
    by_cases h0 : n = 0
    · subst h0
      refine ev_s ?_
      simp only [impl_digits.l0, if_neg (show ¬ (((0 : Nat) : Int) > 0) by decide), digs, if_true, List.append_nil]
      exact Ev.now _
    · have hd : n / b < n := Nat.div_lt_self (by omega) (by omega)
      have hw : wrap64 ((n / b : Nat) : Int) = ((n / b : Nat) : Int) := by
        generalize n / b = q at hd ⊢
        exact wrap_in (by omega) (by omega)
      refine ev_s ?_
      simp only [impl_digits.l0, if_pos (show (n : Int) > 0 by omega), if_neg (show ¬ ((b : Int) = 0) by omega), if_pos (show out.length < 17592186044416 by omega), tdiv_nat, tmod_nat, hw]
      refine ev_eq (digits_l0 hb hb2 f (n / b) (out ++ [((n % b : Nat) : Int)]) (by omega) (by omega) (by simp only [List.length_append, List.length_singleton]; omega)) ?_
      rw [digs, if_neg h0]; simp
theorem digits_ev {b n : Nat} (hb : 2 ≤ b) (hb2 : b ≤ 1000) (hn : n ≤ 4000000000) : Ev (fun k => impl_digits.f k (n : Int) (b : Int)) (digs b n n) := by
  simp only [impl_digits.f]
  exact ev_eq (digits_l0 hb hb2 n n [] (Nat.le_refl _) hn (by simp; omega)) (by simp)
theorem O.pos_skip {b e n : Nat} (h : n % b ^ (e + 1) / b ^ e = 0) (hb : 2 ≤ b) : O.pos b (e + 1) (n % b ^ (e + 1)) = O.pos b e (n % b ^ e) := by
  have hp : 0 < b ^ e := Nat.pow_pos (by omega)
  rw [O.pos, if_pos h]
  have h1 : n % b ^ (e + 1) < b ^ e := by
    rcases Nat.lt_or_ge (n % b ^ (e + 1)) (b ^ e) with h1 | h1
    · exact h1
    · have := Nat.div_pos h1 hp; omega
  have h2 : n % b ^ (e + 1) = n % b ^ e := by
    have := Nat.mod_mod_of_dvd n (show b ^ e ∣ b ^ (e + 1) from ⟨b, by rw [Nat.pow_succ]⟩)
    rw [Nat.mod_eq_of_lt h1] at this
    exact this
  rw [h2]
theorem O.pos_here {b e n : Nat} (h : n % b ^ (e + 1) / b ^ e ≠ 0) : O.pos b (e + 1) (n % b ^ (e + 1)) = .c (n / b ^ e % b) (O.inb b e) (O.pos b e (n % b ^ e)) := by
  rw [O.pos, if_neg h]
  have h2 : n % b ^ (e + 1) % b ^ e = n % b ^ e := Nat.mod_mod_of_dvd n ⟨b, by rw [Nat.pow_succ]⟩
  have h3 : n % b ^ (e + 1) / b ^ e = n / b ^ e % b := by rw [Nat.pow_succ, Nat.mod_mul_right_div_self]
  rw [h2, h3]; rfl
theorem dig_eq {b e n : Nat} : n % b ^ (e + 1) / b ^ e = n / b ^ e % b := by rw [Nat.pow_succ, Nat.mod_mul_right_div_self]
theorem inBase_l0 {b n : Nat} (hb : 2 ≤ b) (hb2 : b ≤ 1000) (hn : n ≤ 4000000000) (IH : ∀ e, e < n → Ev (fun k => impl_inBase.f k (e : Int) (b : Int)) (O.inb b e).terms) : ∀ (e : Nat) (out : List S67), e ≤ (digs b n n).length → out.length + e ≤ 4000000000 →
    Ev (fun k => impl_inBase.l0 k (b : Int) out (digs b n n) ((e : Int) - 1)) (out ++ (O.pos b e (n % b ^ e)).terms)
  | 0, out, he, ho => by
    refine ev_s ?_
    simp only [impl_inBase.l0, if_neg (show ¬ (((0 : Nat) : Int) - 1 ≥ 0) by decide)]
    exact ev_now (by simp [O.pos, O.terms])
  | e + 1, out, he, ho => by
    have hl := digs_len b n n
    have hlt : e < (digs b n n).length := by omega
    have hg := digs_get hb n n e hlt (Nat.le_refl _)
    have e1 : ((e + 1 : Nat) : Int) - 1 = (e : Int) := by omega
    rw [e1]
    refine ev_s ?_
    simp only [impl_inBase.l0, if_pos (show (e : Int) ≥ 0 by omega), if_pos (show (0 : Int) ≤ (e : Int) by omega), if_pos (show (e : Int) < ((digs b n n).length : Int) by omega), rd_get hlt, hg, wrap_in (x := (e : Int) - 1) (by omega) (by omega)]
    by_cases h0 : n / b ^ e % b = 0
    · simp only [if_neg (show ¬ (((n / b ^ e % b : Nat) : Int) > 0) by omega)]
      rw [O.pos_skip (by rw [dig_eq]; exact h0) hb]
      exact inBase_l0 hb hb2 hn IH e out (by omega) (by omega)
    · simp only [if_pos (show ((n / b ^ e % b : Nat) : Int) > 0 by omega)]
      refine Ev.bind (IH e (by omega)) ?_
      simp only [if_pos (show out.length < 4398046511104 by omega)]
      rw [O.pos_here (by rw [dig_eq]; exact h0)]
      refine ev_eq (inBase_l0 hb hb2 hn IH e (out ++ [⟨((n / b ^ e % b : Nat) : Int), (O.inb b e).terms⟩]) (by omega) (by simp only [List.length_append, List.length_singleton]; omega)) ?_
      simp [O.terms]
theorem inBase_ev {b : Nat} (hb : 2 ≤ b) (hb2 : b ≤ 1000) : ∀ (N n : Nat), n < N → n ≤ 1000000000 → Ev (fun k => impl_inBase.f k (n : Int) (b : Int)) (O.inb b n).terms
  | 0, n, h, _ => by omega
  | N + 1, n, h, hn => by
    have hl := digs_len b n n
    refine ev_s ?_
    simp only [impl_inBase.f]
    refine Ev.bind (digits_ev hb hb2 (by omega)) ?_
    rw [wrap_in (x := ((digs b n n).length : Int) - 1) (by omega) (by omega)]
    refine ev_eq (inBase_l0 hb hb2 (by omega) (fun e he => inBase_ev hb hb2 N e (by omega) (by omega)) (digs b n n).length [] (Nat.le_refl _) (by simp; omega)) ?_
    have hlt := digs_lt hb n n (Nat.le_refl _)
    rw [Nat.mod_eq_of_lt hlt, O.pos_eq hb hlt]; rfl
/-! sizes -/
theorem O.pos_size {b : Nat} (hb : 2 ≤ b) : ∀ e n, (∀ i, i < e → (O.inb b i).size ≤ i + 1) → n < b ^ e → (O.pos b e n).size ≤ n + 1
  | 0, n, _, _ => by simp only [O.pos, O.size]; omega
  | e + 1, n, hI, h => by
    have hp : 0 < b ^ e := Nat.pow_pos (by omega)
    rw [O.pos]
    split
    · rename_i h0
      have hn : n < b ^ e := by
        rcases Nat.lt_or_ge n (b ^ e) with h1 | h1
        · exact h1
        · have := Nat.div_pos h1 hp; omega
      exact O.pos_size hb e n (fun i hi => hI i (by omega)) hn
    · have h1 := O.pos_size hb e (n % b ^ e) (fun i hi => hI i (by omega)) (Nat.mod_lt _ hp)
      have h2 := hI e (by omega)
      have h3 := pow_big hb e
      have h4 : n / b ^ e * (O.inb b e).size ≤ n / b ^ e * b ^ e := Nat.mul_le_mul_left _ (by omega)
      have h5 := Nat.div_add_mod n (b ^ e)
      rw [Nat.mul_comm] at h5
      have h6 : (O.pos b e e).size = (O.inb b e).size := rfl
      simp only [O.size]
      rw [h6]; omega
theorem O.inb_size {b : Nat} (hb : 2 ≤ b) : ∀ N n, n < N → (O.inb b n).size ≤ n + 1
  | 0, n, h => by omega
  | N + 1, n, h => by
    have hp := O.pos_size hb
    rw [← O.pos_eq hb (pow_big hb n)]
    exact hp n n (fun i hi => O.inb_size hb N i (by omega)) (pow_big hb n)
theorem O.pos_row {b : Nat} (hb : 2 ≤ b) : ∀ e n, (O.pos b e n).body.length ≤ e * (2 * e + 3)
  | 0, n => by simp [O.pos, O.body]
  | e + 1, n => by
    have h1 : ∀ m, (O.pos b e m).body.length ≤ e * (2 * e + 3) := O.pos_row hb e
    have h2 := O.row_le_size (O.inb_NF hb e)
    have h3 := O.inb_size hb (e + 1) e (by omega)
    have h4 : e * (2 * e + 3) + (2 * e + 3) ≤ (e + 1) * (2 * (e + 1) + 3) := by
      have : e * (2 * e + 3) ≤ e * (2 * (e + 1) + 3) := Nat.mul_le_mul_left _ (by omega)
      rw [Nat.add_mul, Nat.one_mul]; omega
    rw [O.pos]
    split
    · have := h1 n; omega
    · have h5 := h1 (n % b ^ e)
      rw [O.body_c]
      have h6 : (O.pos b e e).row.length = (O.inb b e).row.length := rfl
      simp only [List.length_cons, List.length_append]
      omega
theorem O.inb_row {b n : Nat} (hb : 2 ≤ b) (hn : n ≤ 1000000000) : (O.inb b n).row.length ≤ 3000 := by
  have h1 : n < b ^ 30 := by
    have h2 : 2 ^ 30 ≤ b ^ 30 := Nat.pow_le_pow_left hb 30
    have h3 : (2 : Nat) ^ 30 = 1073741824 := by decide
    omega
  have h4 := O.pos_row hb 30 n
  rw [← O.pos_eq hb h1]
  simp only [O.row, List.length_cons]
  omega
def inbFit (n base : Int) : List Int := if 0 ≤ n ∧ n ≤ 1000000000 ∧ 2 ≤ base ∧ base ≤ 90 then (O.inb base.toNat n.toNat).fit.1 else []
theorem impl_OrdInBase_no (n b : Int) : Ev (fun k => impl_OrdInBase.j0 k n b true) [] := by
  refine ev_s ?_
  simp only [impl_OrdInBase.j0, if_true]
  exact Ev.now _
theorem impl_OrdInBase_ev (n b : Int) : Ev (fun k => impl_OrdInBase.f k n b) (inbFit n b) := by
  simp only [impl_OrdInBase.f]
  by_cases h1 : n < 0
  · simp only [if_pos h1]; rw [inbFit, if_neg (by omega)]; exact impl_OrdInBase_no _ _
  by_cases h2 : n > 1000000000
  · simp only [if_neg h1, if_pos h2]; rw [inbFit, if_neg (by omega)]; exact impl_OrdInBase_no _ _
  by_cases h3 : b < 2
  · simp only [if_neg h1, if_neg h2, if_pos h3]; rw [inbFit, if_neg (by omega)]; exact impl_OrdInBase_no _ _
  by_cases h4 : b > 90
  · simp only [if_neg h1, if_neg h2, if_neg h3, decide_eq_true h4]; rw [inbFit, if_neg (by omega)]; exact impl_OrdInBase_no _ _
  simp only [if_neg h1, if_neg h2, if_neg h3, decide_eq_false h4]
  rw [inbFit, if_pos (by omega)]
  obtain ⟨m, rfl⟩ := Int.eq_ofNat_of_zero_le (show 0 ≤ n by omega)
  obtain ⟨c, rfl⟩ := Int.eq_ofNat_of_zero_le (show 0 ≤ b by omega)
  have hr := O.inb_row (b := c) (n := m) (by omega) (by omega)
  refine ev_s ?_
  simp only [impl_OrdInBase.j0, Bool.false_eq_true, if_false, Int.toNat_natCast]
  refine Ev.bind (inBase_ev (by omega) (by omega) (m + 1) m (by omega) (by omega)) ?_
  exact Ev.bind (told_ev (by omega)) (Ev.now _)

-- part: gRun
/-! ### values, exactly; numbers in a base, the reference's -/
def cap (n : Nat) : Int := if n ≤ 1000000000 then (n : Int) else -1
theorem cap_pos {n : Nat} (h : n ≤ 1000000000) : cap n = (n : Int) := if_pos h
theorem cap_neg {n : Nat} (h : 1000000000 < n) : cap n = -1 := if_neg (by omega)
theorem slowx_l1 {b : Nat} (hb : 2 ≤ b) (hb2 : b ≤ 99) {L : List S67} {s : Nat} {len i : Int} {v e : Nat} {res : Int} (hneg : 1000000000 < s + v * b ^ e → res = -1)
    (hgo : ∀ q : Nat, q = v * b ^ e → s + q ≤ 1000000000 → Ev (fun k => impl_slow.l0 k (b : Int) ((s + q : Nat) : Int) L len (wrap64 (i + 1))) res) (hs : s ≤ 1000000000) (hv : v ≤ 1000000000) :
    ∀ (d j w : Nat), j + d = e → w = v * b ^ j → w ≤ 1000000000 → e ≤ 1000000000 → Ev (fun k => impl_slow.l1 k (b : Int) (s : Int) (w : Int) L len i (e : Int) (j : Int)) res
  | 0, j, w, hj, hw, hwl, he => by
    have : j = e := by omega
    subst this
    by_cases h : s + w ≤ 1000000000
    · have h2 := hgo w hw h
      refine ev_s ?_
      simp only [impl_slow.l1, Int.lt_irrefl, if_false, wrap_in (x := (s : Int) + (w : Int)) (by omega) (by omega), if_neg (show ¬ ((s : Int) + (w : Int) > 1000000000) by omega)]
      rw [show (s : Int) + (w : Int) = ((s + w : Nat) : Int) by omega]
      exact h2
    · rw [hneg (by rw [← hw]; omega)]
      refine ev_s ?_
      simp only [impl_slow.l1, Int.lt_irrefl, if_false, wrap_in (x := (s : Int) + (w : Int)) (by omega) (by omega), if_pos (show ((s : Int) + (w : Int) > 1000000000) by omega)]
      exact Ev.now _
  | d + 1, j, w, hj, hw, hwl, he => by
    have hm : w * b ≤ 1000000000 * 99 := Nat.mul_le_mul hwl hb2
    have hc : (w : Int) * (b : Int) = ((w * b : Nat) : Int) := (Int.natCast_mul w b).symm
    by_cases h : w * b ≤ 1000000000
    · have h2 := slowx_l1 hb hb2 hneg hgo hs hv d (j + 1) (w * b) (by omega) (by rw [hw, Nat.pow_succ, Nat.mul_assoc]) h he
      refine ev_s ?_
      simp only [impl_slow.l1, if_pos (show (j : Int) < (e : Int) by omega), hc, wrap_in (x := ((w * b : Nat) : Int)) (by omega) (by omega), if_neg (show ¬ (((w * b : Nat) : Int) > 1000000000) by omega), show wrap64 ((j : Int) + 1) = ((j + 1 : Nat) : Int) from wrap_nat2 j 1 (by omega)]
      exact h2
    · have hge : w * b ≤ v * b ^ e := by
        rw [hw, Nat.mul_assoc, ← Nat.pow_succ]
        exact Nat.mul_le_mul_left _ (Nat.pow_le_pow_right (by omega) (by omega))
      rw [hneg (by omega)]
      refine ev_s ?_
      simp only [impl_slow.l1, if_pos (show (j : Int) < (e : Int) by omega), hc, wrap_in (x := ((w * b : Nat) : Int)) (by omega) (by omega), if_pos (show (((w * b : Nat) : Int) > 1000000000) by omega)]
      exact Ev.now _
theorem slowx_l0 {b : Nat} (hb : 2 ≤ b) (hb2 : b ≤ 99) : ∀ (x : O), x.Sm → ∀ (pre : List S67) (s : Nat), s ≤ 1000000000 → pre.length + x.body.length ≤ 100000 →
    Ev (fun k => impl_slow.l0 k (b : Int) (s : Int) (pre ++ x.terms) (((pre ++ x.terms).length : Nat) : Int) (pre.length : Int)) (cap (s + O.val b x))
  | .z, _, pre, s, hs, hp => by
    refine ev_s ?_
    simp only [impl_slow.l0, O.terms, List.append_nil, Int.lt_irrefl, if_false, O.val, Nat.add_zero, cap_pos hs]
    exact Ev.now _
  | .c n e r, hx, pre, s, hs, hp => by
    rw [O.body_c] at hp
    simp only [List.length_cons, List.length_append] at hp
    have hrow := O.row_length e
    have hmid : rd_T67 (pre ++ (O.c n e r).terms) (pre.length : Int) = ⟨(n : Int), e.terms⟩ := rd_T67_mid pre r.terms ⟨(n : Int), e.terms⟩
    have happ : pre ++ (O.c n e r).terms = (pre ++ [⟨(n : Int), e.terms⟩]) ++ r.terms := by simp [O.terms]
    have hlen : (pre ++ (O.c n e r).terms).length = pre.length + (r.terms.length + 1) := by simp [O.terms]
    have ew : wrap64 ((pre.length : Int) + 1) = (((pre ++ [(⟨(n : Int), e.terms⟩ : S67)]).length : Nat) : Int) := by
      rw [List.length_append, List.length_singleton]; exact wrap_nat2 pre.length 1 (by omega)
    have he := slowx_l0 hb hb2 e hx.2.1.1 [] 0 (by omega) (by simp only [List.length_nil]; omega)
    simp only [List.nil_append, List.length_nil, Nat.zero_add] at he
    have hE : Ev (fun k => impl_slow.f k e.terms (b : Int)) (cap (O.val b e)) := by
      refine ev_s ?_
      simp only [impl_slow.f]
      exact he
    have hn1 := hx.1.1
    have hpw : b ^ O.val b e ≤ n * b ^ O.val b e := Nat.le_mul_of_pos_left _ hn1
    by_cases hle : O.val b e ≤ 1000000000
    · have hn2 := hx.1.2
      have h2 := slowx_l1 (b := b) hb hb2 (L := pre ++ (O.c n e r).terms) (s := s) (len := (((pre ++ (O.c n e r).terms).length : Nat) : Int)) (i := (pre.length : Int)) (v := n) (e := O.val b e)
        (res := cap (s + O.val b (.c n e r))) (fun h => cap_neg (by simp only [O.val]; omega))
        (fun q hq hsq => by
          have g2 := slowx_l0 hb hb2 r hx.2.2.1 (pre ++ [⟨(n : Int), e.terms⟩]) (s + q) hsq (by simp only [List.length_append, List.length_singleton]; omega)
          have hval : O.val b (.c n e r) = q + O.val b r := by rw [hq]; rfl
          rw [hval, ← Nat.add_assoc, ew, happ]; exact g2) hs (by omega) (O.val b e) 0 n (by omega) (by simp) (by omega) hle
      refine ev_s ?_
      simp only [impl_slow.l0, if_pos (show (pre.length : Int) < (((pre ++ (O.c n e r).terms).length : Nat) : Int) by omega), if_pos (show (0 : Int) ≤ (pre.length : Int) from Int.natCast_nonneg _), hmid]
      refine Ev.bind hE ?_
      simp only [cap_pos hle, if_neg (show ¬ (((O.val b e : Nat) : Int) < 0) by omega), if_pos (show (b : Int) > 1 by omega)]
      exact h2
    · have hbig := pow_big hb (O.val b e)
      rw [cap_neg (show 1000000000 < s + O.val b (.c n e r) by simp only [O.val]; omega)]
      refine ev_s ?_
      simp only [impl_slow.l0, if_pos (show (pre.length : Int) < (((pre ++ (O.c n e r).terms).length : Nat) : Int) by omega), if_pos (show (0 : Int) ≤ (pre.length : Int) from Int.natCast_nonneg _), hmid]
      refine Ev.bind hE ?_
      simp only [cap_neg (show 1000000000 < O.val b e by omega), if_pos (show (-1 : Int) < 0 by decide)]
      exact Ev.now _
theorem impl_SlowValue_cap {x : O} (hx : x.Sm) (hr : x.row.length ≤ 60) {b : Nat} (hb : 2 ≤ b) (hb2 : b ≤ 99) : Ev (fun k => impl_SlowValue.f k x.row (b : Int)) (cap (O.val b x)) := by
  have hrow := O.row_length x
  have h2 := slowx_l0 hb hb2 x hx [] 0 (by omega) (by simp only [List.length_nil]; omega)
  simp only [List.nil_append, List.length_nil, Nat.zero_add] at h2
  simp only [impl_SlowValue.f]
  refine Ev.bind (ordOf_ev hx hr) ?_
  simp only [if_true, if_neg (show ¬ ((b : Int) < 1) by omega), if_neg (show ¬ ((b : Int) > 99) by omega)]
  refine Ev.bind (ev_s (g := fun k => impl_slow.f k x.terms (b : Int)) (r := cap (O.val b x)) ?_) (Ev.now _)
  simp only [impl_slow.f]
  exact h2
/-! the reference's value -/
theorem l3Raise_l0 {b e : Nat} (hb : 2 ≤ b) (hb2 : b ≤ 99) : ∀ (d j : Nat), j + d = e → b ^ j ≤ 1000000000 → e ≤ 1000000000 → Ev (fun k => spec_l3Raise.l0 k (b : Int) (e : Int) ((b ^ j : Nat) : Int) (j : Int)) (cap (b ^ e))
  | 0, j, hj, hw, he => by
    have : j = e := by omega
    subst this
    refine ev_s ?_
    simp only [spec_l3Raise.l0, Int.lt_irrefl, if_false, cap_pos hw]
    exact Ev.now _
  | d + 1, j, hj, hw, he => by
    have hm : b ^ j * b ≤ 1000000000 * 99 := Nat.mul_le_mul hw hb2
    have hc : ((b ^ j : Nat) : Int) * (b : Int) = ((b ^ j * b : Nat) : Int) := (Int.natCast_mul _ b).symm
    by_cases h : b ^ j * b ≤ 1000000000
    · have h2 := l3Raise_l0 (e := e) hb hb2 d (j + 1) (by omega) (by rw [Nat.pow_succ]; exact h) he
      rw [Nat.pow_succ] at h2
      refine ev_s ?_
      simp only [spec_l3Raise.l0, if_pos (show (j : Int) < (e : Int) by omega), hc, wrap_in (x := ((b ^ j * b : Nat) : Int)) (by omega) (by omega), if_neg (show ¬ (((b ^ j * b : Nat) : Int) > 1000000000) by omega), if_neg (show ¬ ((b : Int) < 2) by omega), show wrap64 ((j : Int) + 1) = ((j + 1 : Nat) : Int) from wrap_nat2 j 1 (by omega)]
      exact h2
    · have hge : b ^ (j + 1) ≤ b ^ e := Nat.pow_le_pow_right (by omega) (by omega)
      rw [Nat.pow_succ] at hge
      rw [cap_neg (show 1000000000 < b ^ e by omega)]
      refine ev_s ?_
      simp only [spec_l3Raise.l0, if_pos (show (j : Int) < (e : Int) by omega), hc, wrap_in (x := ((b ^ j * b : Nat) : Int)) (by omega) (by omega), if_pos (show (((b ^ j * b : Nat) : Int) > 1000000000) by omega)]
      exact Ev.now _
theorem l3Raise_ev {b e : Nat} (hb : 2 ≤ b) (hb2 : b ≤ 99) (he : e ≤ 1000000000) : Ev (fun k => spec_l3Raise.f k (b : Int) (e : Int)) (cap (b ^ e)) := by
  simp only [spec_l3Raise.f]
  have := l3Raise_l0 (e := e) hb hb2 e 0 (by omega) (by simp) he
  simp only [Nat.pow_zero] at this
  exact this
theorem l3Value_l0 {b : Nat} (hb : 2 ≤ b) (hb2 : b ≤ 99) : ∀ (N : Nat) (s : O), s.body.length ≤ N → s.Sm → ∀ (pn : List Int) (pe : List (List Int)) (a : Nat), pn.length = pe.length → pn.length + s.body.length ≤ 1000 → a ≤ 1000000000 →
    Ev (fun k => spec_l3Value.l0 k (b : Int) (pn ++ s.ns) (pe ++ s.es) (a : Int) (pn.length : Int)) (cap (a + O.val b s)) := by
  intro N
  induction N with
  | zero =>
    intro s hN hs pn pe a hpe hp ha
    cases s with
    | z =>
      refine ev_s ?_
      simp only [spec_l3Value.l0, O.ns, List.append_nil, Int.lt_irrefl, if_false, O.val, Nat.add_zero, cap_pos ha]
      exact Ev.now _
    | c n e r => rw [O.body_c] at hN; simp at hN
  | succ N IH =>
    intro s hN hs pn pe a hpe hp ha
    cases s with
    | z =>
      refine ev_s ?_
      simp only [spec_l3Value.l0, O.ns, List.append_nil, Int.lt_irrefl, if_false, O.val, Nat.add_zero, cap_pos ha]
      exact Ev.now _
    | c n e r =>
      rw [O.body_c] at hN hp
      simp only [List.length_cons, List.length_append] at hN hp
      have hrow := O.row_length e
      have hrn : rd (pn ++ (n : Int) :: r.ns) (pn.length : Int) = (n : Int) := by rw [rd_eq]; simp
      have hre : rd_L1 (pe ++ e.row :: r.es) (pn.length : Int) = e.row := by rw [hpe]; exact rd_L1_at pe r.es e.row
      have hl1 : (pn ++ (n : Int) :: r.ns).length = pn.length + (r.ns.length + 1) := by simp
      have hl2 : (pe ++ e.row :: r.es).length = pn.length + (r.es.length + 1) := by simp [hpe]
      have hE : Ev (fun k => spec_l3Value.f k e.row (b : Int)) (cap (O.val b e)) := by
        refine ev_s ?_
        simp only [spec_l3Value.f]
        refine Ev.bind (l1Terms_ev (by omega)) ?_
        have := IH e (by omega) hs.2.1.1 [] [] 0 rfl (by simp; omega) (by omega)
        simp only [List.nil_append, List.length_nil, Nat.zero_add] at this
        exact this
      have hn1 := hs.1.1
      have hn2 := hs.1.2
      have hpw : b ^ O.val b e ≤ n * b ^ O.val b e := Nat.le_mul_of_pos_left _ hn1
      simp only [O.ns, O.es]
      have hv : O.val b (.c n e r) = n * b ^ O.val b e + O.val b r := rfl
      refine ev_s ?_
      simp only [spec_l3Value.l0, if_pos (show (pn.length : Int) < ((pn ++ (n : Int) :: r.ns).length : Int) by omega), if_pos (show (0 : Int) ≤ (pn.length : Int) by omega), if_pos (show (pn.length : Int) < ((pe ++ e.row :: r.es).length : Int) by omega), hrn, hre]
      refine Ev.bind hE ?_
      by_cases hle : O.val b e ≤ 1000000000
      · simp only [cap_pos hle, if_neg (show ¬ (((O.val b e : Nat) : Int) < 0) by omega)]
        refine Ev.bind (l3Raise_ev hb hb2 hle) ?_
        generalize b ^ O.val b e = w at hpw hv
        by_cases hw : w ≤ 1000000000
        · have hm : n * w ≤ 9999 * 1000000000 := Nat.mul_le_mul hn2 hw
          have hc : (n : Int) * (w : Int) = ((n * w : Nat) : Int) := (Int.natCast_mul n w).symm
          generalize n * w = q at hm hc hv hpw
          simp only [cap_pos hw, if_neg (show ¬ ((w : Int) < 0) by omega), hc, wrap_in (x := (q : Int)) (by omega) (by omega), wrap_in (x := (a : Int) + (q : Int)) (by omega) (by omega)]
          by_cases hs2 : a + q ≤ 1000000000
          · have ih := IH r (by omega) hs.2.2.1 (pn ++ [(n : Int)]) (pe ++ [e.row]) (a + q) (by simp [hpe]) (by simp; omega) hs2
            simp only [List.append_assoc, List.singleton_append, List.length_append, List.length_singleton] at ih
            simp only [if_neg (show ¬ ((a : Int) + (q : Int) > 1000000000) by omega)]
            rw [show wrap64 ((pn.length : Int) + 1) = ((pn.length + 1 : Nat) : Int) from wrap_nat2 _ 1 (by omega), show (a : Int) + (q : Int) = ((a + q : Nat) : Int) by omega, hv, ← Nat.add_assoc]
            exact ih
          · simp only [if_pos (show ((a : Int) + (q : Int) > 1000000000) by omega)]
            rw [cap_neg (show 1000000000 < a + O.val b (.c n e r) by omega)]
            exact Ev.now _
        · simp only [cap_neg (show 1000000000 < w by omega), if_pos (show (-1 : Int) < 0 by decide)]
          rw [cap_neg (show 1000000000 < a + O.val b (.c n e r) by omega)]
          exact Ev.now _
      · have hbig := pow_big hb (O.val b e)
        simp only [cap_neg (show 1000000000 < O.val b e by omega), if_pos (show (-1 : Int) < 0 by decide)]
        rw [cap_neg (show 1000000000 < a + O.val b (.c n e r) by omega)]
        exact Ev.now _
theorem l3Value_ev {b : Nat} (hb : 2 ≤ b) (hb2 : b ≤ 99) {x : O} (hx : x.Sm) (hr : x.row.length ≤ 60) : Ev (fun k => spec_l3Value.f k x.row (b : Int)) (cap (O.val b x)) := by
  have hrow := O.row_length x
  refine ev_s ?_
  simp only [spec_l3Value.f]
  refine Ev.bind (l1Terms_ev (by omega)) ?_
  have := l3Value_l0 hb hb2 60 x (by omega) hx [] [] 0 rfl (by simp; omega) (by omega)
  simp only [List.nil_append, List.length_nil, Nat.zero_add] at this
  exact this
/-! the reference's ordinal of a number -/
theorem exp_of {b : Nat} (hb : 2 ≤ b) : ∀ N m : Nat, m ≤ N → 1 ≤ m → ∃ e, b ^ e ≤ m ∧ m < b ^ (e + 1) := by
  intro N
  induction N with
  | zero => intro m h1 h2; omega
  | succ N IH =>
    intro m h1 h2
    by_cases h : m < b
    · exact ⟨0, by simpa using h2, by simpa using h⟩
    · have hd : m / b < m := Nat.div_lt_self (by omega) (by omega)
      have h3 : 1 ≤ m / b := (Nat.le_div_iff_mul_le (by omega)).mpr (by omega)
      obtain ⟨e, h4, h5⟩ := IH (m / b) (by omega) h3
      exact ⟨e + 1, by rw [Nat.pow_succ]; exact (Nat.le_div_iff_mul_le (by omega)).mp h4, by rw [Nat.pow_succ]; exact (Nat.div_lt_iff_lt_mul (by omega)).mp h5⟩
theorem zipB_nses : ∀ o : O, zipB o.ns o.es = o.body
  | .z => rfl
  | .c n e r => by simp only [O.ns, O.es, zipB, O.body_c, zipB_nses r, List.cons_append]
theorem wrap_nat (n : Nat) (h : n ≤ 1000000000) : wrap64 (n : Int) = (n : Int) := wrap_in (by omega) (by omega)
theorem l4Ord_l1 {b m e : Nat} (hb : 2 ≤ b) (hb2 : b ≤ 1000) (hm : m ≤ 1000000000) (h1 : b ^ e ≤ m) (h2 : m < b ^ (e + 1)) {pn : List Int} {pe : List (List Int)} (hpn : pn.length ≤ 1000000) (hpe : pe.length ≤ 1000000) {er : List Int} {res : List Int}
    (hE : Ev (fun k => spec_l4Ord.f k (e : Int) (b : Int)) er) (hgo : Ev (fun k => spec_l4Ord.l0 k ((m % b ^ e : Nat) : Int) (b : Int) (pn ++ [((m / b ^ e : Nat) : Int)]) (pe ++ [er])) res) :
    ∀ d j : Nat, j + d = e → Ev (fun k => spec_l4Ord.l1 k (m : Int) (b : Int) pn pe ((b ^ j : Nat) : Int) (j : Int)) res
  | 0, j, hj => by
    have : j = e := by omega
    subst this
    have hno : ¬ b ^ j ≤ m / b := fun h => by have := (Nat.le_div_iff_mul_le (show 0 < b by omega)).mp h; rw [Nat.pow_succ] at h2; omega
    have hdb : m / b ≤ m := Nat.div_le_self _ _
    have hdp : m / b ^ j ≤ m := Nat.div_le_self _ _
    have hpos : 0 < b ^ j := Nat.pow_pos (by omega)
    refine ev_s ?_
    simp only [spec_l4Ord.l1, if_neg (show ¬ ((b : Int) = 0) by omega), tdiv_nat, tmod_nat, wrap_nat (m / b) (by omega), wrap_nat (m / b ^ j) (by omega), if_neg (show ¬ (((b ^ j : Nat) : Int) ≤ ((m / b : Nat) : Int)) from fun h => hno (Int.ofNat_le.mp h)), if_neg (show ¬ (((b ^ j : Nat) : Int) = 0) from fun h => by have := Int.natCast_eq_zero.mp h; omega), if_pos (show pn.length < 17592186044416 by omega), if_pos (show pe.length < 5864062014805 by omega)]
    exact Ev.bind hE hgo
  | d + 1, j, hj => by
    have hle : b ^ (j + 1) ≤ m := Nat.le_trans (Nat.pow_le_pow_right (by omega) (by omega)) h1
    rw [Nat.pow_succ] at hle
    have hyes : b ^ j ≤ m / b := (Nat.le_div_iff_mul_le (show 0 < b by omega)).mpr hle
    have hdb : m / b ≤ m := Nat.div_le_self _ _
    have hc : ((b ^ j : Nat) : Int) * (b : Int) = ((b ^ j * b : Nat) : Int) := (Int.natCast_mul _ b).symm
    have ih := l4Ord_l1 hb hb2 hm h1 h2 hpn hpe hE hgo d (j + 1) (by omega)
    rw [Nat.pow_succ] at ih
    have hbe := pow_big hb e
    refine ev_s ?_
    simp only [spec_l4Ord.l1, if_neg (show ¬ ((b : Int) = 0) by omega), tdiv_nat, wrap_nat (m / b) (by omega), if_pos (show (((b ^ j : Nat) : Int) ≤ ((m / b : Nat) : Int)) from Int.ofNat_le.mpr hyes), hc, wrap_nat (b ^ j * b) (by omega), show wrap64 ((j : Int) + 1) = ((j + 1 : Nat) : Int) from wrap_nat2 j 1 (by omega)]
    exact ih
theorem l4Ord_l0 {b n : Nat} (hb : 2 ≤ b) (hb2 : b ≤ 1000) (hn : n ≤ 1000000000) (IH : ∀ e, e < n → Ev (fun k => spec_l4Ord.f k (e : Int) (b : Int)) (O.inb b e).row) : ∀ (M m : Nat), m < M → m ≤ n → ∀ (pn : List Int) (pe : List (List Int)) (res : List Int), pn.length + (O.inb b m).len ≤ 1000000 → pe.length + (O.inb b m).len ≤ 1000000 →
    Ev (fun k => spec_l1Make.f k (pn ++ (O.inb b m).ns) (pe ++ (O.inb b m).es)) res → Ev (fun k => spec_l4Ord.l0 k (m : Int) (b : Int) pn pe) res := by
  intro M
  induction M with
  | zero => intro m h; omega
  | succ M IM =>
    intro m hM hmn pn pe res hpn hpe h
    by_cases h0 : m = 0
    · subst h0
      rw [O.inb_zero] at h
      simp only [O.ns, O.es, List.append_nil] at h
      refine ev_s ?_
      simp only [spec_l4Ord.l0, if_neg (show ¬ (((0 : Nat) : Int) > 0) by decide)]
      exact Ev.bind h (Ev.now _)
    · obtain ⟨e, h1, h2⟩ := exp_of hb m m (Nat.le_refl _) (by omega)
      have hbe := pow_big hb e
      have hmod : m % b ^ e < b ^ e := Nat.mod_lt _ (Nat.pow_pos (by omega))
      have htop := O.inb_top hb h1 h2
      rw [htop] at h hpn hpe
      simp only [O.len] at hpn hpe
      simp only [O.ns, O.es] at h
      refine ev_s ?_
      simp only [spec_l4Ord.l0, if_pos (show ((m : Nat) : Int) > 0 by omega)]
      have := l4Ord_l1 hb hb2 (show m ≤ 1000000000 by omega) h1 h2 (pn := pn) (pe := pe) (by omega) (by omega) (IH e (by omega)) (res := res) (IM (m % b ^ e) (by omega) (by omega) _ _ res (by simp; omega) (by simp; omega) (by simp only [List.append_assoc, List.singleton_append]; exact h)) e 0 (by omega)
      simp only [Nat.pow_zero] at this
      exact this
theorem l4Ord_ev {b : Nat} (hb : 2 ≤ b) (hb2 : b ≤ 1000) : ∀ (N n : Nat), n < N → n ≤ 1000000000 → Ev (fun k => spec_l4Ord.f k (n : Int) (b : Int)) (O.inb b n).row := by
  intro N
  induction N with
  | zero => intro n h; omega
  | succ N IH =>
    intro n h hn
    have hr := O.inb_row (b := b) (n := n) hb hn
    have hrow := O.row_length (O.inb b n)
    have hle := O.len_le (O.inb b n)
    refine ev_s ?_
    simp only [spec_l4Ord.f]
    refine l4Ord_l0 hb hb2 hn (fun e he => IH e (by omega) (by omega)) (n + 1) n (by omega) (Nat.le_refl _) [] [] _ (by simp; omega) (by simp; omega) ?_
    simp only [List.nil_append]
    refine ev_eq (l1Make_ev _ _ (by rw [O.ns_len, O.es_len]) (by rw [O.ns_len]; omega) (by rw [zipB_nses]; omega)) ?_
    rw [zipB_nses, O.ns_len]
    rfl
theorem O.most_small {b : Nat} (hb : 1 ≤ b) : ∀ {x : O}, O.small b x → x.most < b
  | .z, _ => by simp only [O.most]; omega
  | .c n e r, h => by
    have h1 := O.most_small hb h.2.1
    have h2 := O.most_small hb h.2.2
    have h3 := h.1
    simp only [O.most]; omega
theorem inb_fit {b n : Nat} (hb : 2 ≤ b) (hb2 : b ≤ 90) : (O.inb b n).fit.1 = if (O.inb b n).row.length ≤ 60 then (O.inb b n).row else [] := by
  have h := O.most_small (by omega) (O.inb_small hb n)
  unfold O.fit
  by_cases h1 : (O.inb b n).row.length ≤ 60
  · rw [if_pos ⟨h1, by omega⟩, if_pos h1]
  · rw [if_neg (fun h => h1 h.1), if_neg h1]
theorem inb_Sm {b n : Nat} (hb : 2 ≤ b) (hb2 : b ≤ 90) (h : (O.inb b n).row.length ≤ 60) : (O.inb b n).Sm :=
  O.Sm_of (O.inb_NF hb n) (by have := O.most_small (by omega) (O.inb_small hb n); omega) h
theorem spec_OrdInBase_ev (n b : Int) : Ev (fun k => spec_OrdInBase.f k n b) (inbFit n b) := by
  simp only [spec_OrdInBase.f, l1In_eq, Option.bind_some]
  by_cases h1 : 0 ≤ n ∧ n ≤ 1000000000
  · simp only [decide_eq_true h1, if_true]
    by_cases h2 : 2 ≤ b ∧ b ≤ 90
    · simp only [decide_eq_true h2, if_true]
      rw [inbFit, if_pos ⟨h1.1, h1.2, h2.1, h2.2⟩]
      obtain ⟨m, rfl⟩ := Int.eq_ofNat_of_zero_le h1.1
      obtain ⟨c, rfl⟩ := Int.eq_ofNat_of_zero_le (show 0 ≤ b by omega)
      simp only [Int.toNat_natCast]
      rw [inb_fit (by omega) (by omega)]
      have hE := l4Ord_ev (b := c) (by omega) (by omega) (m + 1) m (by omega) (by omega)
      refine Ev.bind hE ?_
      by_cases h3 : (O.inb c m).row.length ≤ 60
      · simp only [if_pos h3, if_neg (show ¬ (((O.inb c m).row.length : Int) > 60) by omega)]
        exact Ev.bind hE (Ev.now _)
      · simp only [if_neg h3, if_pos (show (((O.inb c m).row.length : Int) > 60) by omega)]
        exact Ev.now _
    · simp only [decide_eq_false h2, Bool.false_eq_true, if_false]
      rw [inbFit, if_neg (fun h => h2 ⟨h.2.2.1, h.2.2.2⟩)]
      exact Ev.now _
  · simp only [decide_eq_false h1, Bool.false_eq_true, if_false]
    rw [inbFit, if_neg (fun h => h1 ⟨h.1, h.2.1⟩)]
    exact Ev.now _
/-! changing the base -/
def chB (n b c : Int) : Int := if (inbFit n b).length = 0 ∨ ¬ (2 ≤ c ∧ c ≤ 90) then -1 else cap (O.val c.toNat (O.inb b.toNat n.toNat))
theorem inbFit_some {n b : Int} (h : ¬ (inbFit n b).length = 0) : (0 ≤ n ∧ n ≤ 1000000000 ∧ 2 ≤ b ∧ b ≤ 90) ∧ (O.inb b.toNat n.toNat).row.length ≤ 60 ∧ inbFit n b = (O.inb b.toNat n.toNat).row := by
  unfold inbFit at h ⊢
  by_cases h1 : 0 ≤ n ∧ n ≤ 1000000000 ∧ 2 ≤ b ∧ b ≤ 90
  · rw [if_pos h1] at h ⊢
    rw [inb_fit (by omega) (by omega)] at h ⊢
    by_cases h2 : (O.inb b.toNat n.toNat).row.length ≤ 60
    · exact ⟨h1, h2, if_pos h2⟩
    · rw [if_neg h2] at h; exact absurd rfl h
  · rw [if_neg h1] at h; exact absurd rfl h
theorem impl_ChangeBase_ev (n b c : Int) : Ev (fun k => impl_ChangeBase.f k n b c) (chB n b c) := by
  simp only [impl_ChangeBase.f]
  refine Ev.bind (impl_OrdInBase_ev n b) ?_
  by_cases h0 : (inbFit n b).length = 0
  · simp only [if_pos h0]; rw [chB, if_pos (.inl h0)]; exact Ev.now _
  simp only [if_neg h0]
  by_cases h1 : c < 2
  · simp only [if_pos h1]; rw [chB, if_pos (.inr (by omega))]; exact Ev.now _
  by_cases h2 : c > 90
  · simp only [if_neg h1, if_pos h2]; rw [chB, if_pos (.inr (by omega))]; exact Ev.now _
  simp only [if_neg h1, if_neg h2]
  rw [chB, if_neg (by omega)]
  obtain ⟨h3, h4, h5⟩ := inbFit_some h0
  rw [h5]
  obtain ⟨d, rfl⟩ := Int.eq_ofNat_of_zero_le (show 0 ≤ c by omega)
  rw [Int.toNat_natCast]
  exact Ev.bind (impl_SlowValue_cap (inb_Sm (by omega) (by omega) h4) h4 (by omega) (by omega)) (Ev.now _)
theorem spec_ChangeBase_ev (n b c : Int) : Ev (fun k => spec_ChangeBase.f k n b c) (chB n b c) := by
  simp only [spec_ChangeBase.f]
  refine Ev.bind (spec_OrdInBase_ev n b) ?_
  by_cases h0 : (inbFit n b).length = 0
  · simp only [if_pos (show ((inbFit n b).length : Int) = 0 by omega)]; rw [chB, if_pos (.inl h0)]; exact Ev.now _
  simp only [if_neg (show ¬ ((inbFit n b).length : Int) = 0 by omega), l1In_eq, Option.bind_some]
  by_cases h1 : 2 ≤ c ∧ c ≤ 90
  · simp only [decide_eq_true h1, if_true]
    rw [chB, if_neg (by omega)]
    obtain ⟨h3, h4, h5⟩ := inbFit_some h0
    rw [h5]
    obtain ⟨d, rfl⟩ := Int.eq_ofNat_of_zero_le (show 0 ≤ c by omega)
    rw [Int.toNat_natCast]
    exact Ev.bind (l3Value_ev (by omega) (by omega) (inb_Sm (by omega) (by omega) h4) h4) (Ev.now _)
  · simp only [decide_eq_false h1, Bool.false_eq_true, if_false]
    rw [chB, if_pos (.inr h1)]
    exact Ev.now _
theorem chB_le (n b c : Int) : -1 ≤ chB n b c ∧ chB n b c ≤ 1000000000 := by
  unfold chB cap
  split
  · omega
  · split <;> omega
/-! the next number, and the run -/
def gnext (n b : Int) : Int := if n < 1 ∨ b < 2 ∨ 90 ≤ b then -1 else if chB n b (b + 1) < 0 then -1 else chB n b (b + 1) - 1
theorem impl_Next_no (n b : Int) : Ev (fun k => impl_GoodsteinNext.j0 k n b true) (-1) := by
  refine ev_s ?_
  simp only [impl_GoodsteinNext.j0, if_true]
  exact Ev.now _
theorem impl_Next_ev (n b : Int) : Ev (fun k => impl_GoodsteinNext.f k n b) (gnext n b) := by
  simp only [impl_GoodsteinNext.f]
  by_cases h1 : n < 1
  · simp only [if_pos h1]; rw [gnext, if_pos (.inl h1)]; exact impl_Next_no _ _
  by_cases h2 : b < 2
  · simp only [if_neg h1, if_pos h2]; rw [gnext, if_pos (.inr (.inl h2))]; exact impl_Next_no _ _
  by_cases h3 : b ≥ 90
  · simp only [if_neg h1, if_neg h2, decide_eq_true h3]; rw [gnext, if_pos (.inr (.inr h3))]; exact impl_Next_no _ _
  simp only [if_neg h1, if_neg h2, decide_eq_false h3]
  rw [gnext, if_neg (by omega)]
  have hc := chB_le n b (b + 1)
  refine ev_s ?_
  simp only [impl_GoodsteinNext.j0, Bool.false_eq_true, if_false, wrap_in (x := b + 1) (by omega) (by omega)]
  refine Ev.bind (impl_ChangeBase_ev _ _ _) ?_
  by_cases h4 : chB n b (b + 1) < 0
  · simp only [if_pos h4]; exact Ev.now _
  · simp only [if_neg h4, wrap_in (x := chB n b (b + 1) - 1) (by omega) (by omega)]; exact Ev.now _
theorem spec_Next_ev (n b : Int) : Ev (fun k => spec_GoodsteinNext.f k n b) (gnext n b) := by
  simp only [spec_GoodsteinNext.f, l1In_eq, Option.bind_some]
  by_cases h1 : n < 1
  · simp only [if_pos h1]; rw [gnext, if_pos (.inl h1)]; exact Ev.now _
  simp only [if_neg h1]
  by_cases h2 : 2 ≤ b ∧ b ≤ 89
  · simp only [decide_eq_true h2, if_true]
    rw [gnext, if_neg (by omega)]
    have hc := chB_le n b (b + 1)
    simp only [wrap_in (x := b + 1) (by omega) (by omega)]
    refine Ev.bind (spec_ChangeBase_ev _ _ _) ?_
    by_cases h4 : chB n b (b + 1) < 0
    · simp only [if_pos h4]; exact Ev.now _
    · simp only [if_neg h4]
      refine Ev.bind (spec_ChangeBase_ev _ _ _) ?_
      simp only [wrap_in (x := chB n b (b + 1) - 1) (by omega) (by omega)]; exact Ev.now _
  · simp only [decide_eq_false h2, Bool.false_eq_true, if_false]
    rw [gnext, if_pos (by omega)]
    exact Ev.now _
def grl : Nat → Int → Int → List Int
  | 0, _, _ => []
  | d + 1, x, b => if x = 0 then [] else if gnext x b < 0 then [] else gnext x b :: grl d (gnext x b) (b + 1)
def grun (n : Int) : List Int := if 0 ≤ n ∧ n ≤ 1000000000 then n :: grl 59 n 2 else []
theorem rd_last (pre : List Int) (x : Int) : rd (pre ++ [x]) (pre.length : Int) = x := by rw [rd_eq]; simp
theorem impl_run_l0 : ∀ (d : Nat) (pre : List Int) (x : Int) (b : Nat), pre.length + 1 + d = 60 → b ≤ 1000 → Ev (fun k => impl_GoodsteinRun.l0 k (pre ++ [x]) (b : Int)) ((pre ++ [x]) ++ grl d x (b : Int))
  | 0, pre, x, b, hd, hb => by
    have hl : (pre ++ [x]).length = pre.length + 1 := by simp
    refine ev_s ?_
    simp only [impl_GoodsteinRun.l0, if_neg (show ¬ (((pre ++ [x]).length : Int) < 60) by omega)]
    refine ev_s ?_
    simp only [impl_GoodsteinRun.j2, Bool.false_eq_true, if_false, grl, List.append_nil]
    exact Ev.now _
  | d + 1, pre, x, b, hd, hb => by
    have hl : (pre ++ [x]).length = pre.length + 1 := by simp
    have hlw : wrap64 ((((pre ++ [x]).length : Nat) : Int) - 1) = (pre.length : Int) := by rw [wrap_in (by omega) (by omega)]; omega
    refine ev_s ?_
    simp only [impl_GoodsteinRun.l0, if_pos (show (((pre ++ [x]).length : Int) < 60) by omega), hlw, if_pos (show (0 : Int) ≤ (pre.length : Int) by omega), if_pos (show (pre.length : Int) < ((pre ++ [x]).length : Int) by omega), rd_last]
    refine ev_s ?_
    by_cases h0 : x = 0
    · simp only [impl_GoodsteinRun.j2, show (x != 0) = false from bne_eq_false_iff_eq.mpr h0, Bool.false_eq_true, if_false, grl, if_pos h0, List.append_nil]
      exact Ev.now _
    · simp only [impl_GoodsteinRun.j2, show (x != 0) = true from bne_iff_ne.mpr h0, if_true, grl, if_neg h0, hlw, if_pos (show (0 : Int) ≤ (pre.length : Int) by omega), if_pos (show (pre.length : Int) < ((pre ++ [x]).length : Int) by omega), rd_last]
      refine Ev.bind (impl_Next_ev _ _) ?_
      by_cases h1 : gnext x (b : Int) < 0
      · simp only [if_pos h1, List.append_nil]; exact Ev.now _
      · have ih := impl_run_l0 d (pre ++ [x]) (gnext x (b : Int)) (b + 1) (by simp; omega)
        simp only [if_neg h1, if_pos (show (pre ++ [x]).length < 17592186044416 by omega), show wrap64 ((b : Int) + 1) = ((b + 1 : Nat) : Int) from wrap_nat2 b 1 (by omega)]
        by_cases hb3 : b + 1 ≤ 1000
        · have ih := ih hb3
          rw [List.append_assoc (pre ++ [x])] at ih
          exact ih
        · exfalso
          have : gnext x (b : Int) = -1 := by rw [gnext, if_pos (.inr (.inr (by omega)))]
          omega
theorem impl_Run_ev (n : Int) : Ev (fun k => impl_GoodsteinRun.f k n) (grun n) := by
  simp only [impl_GoodsteinRun.f]
  have hno : Ev (fun k => impl_GoodsteinRun.j0 k n true) [] := by
    refine ev_s ?_
    simp only [impl_GoodsteinRun.j0, if_true]
    exact Ev.now _
  by_cases h1 : n < 0
  · simp only [if_pos h1]; rw [grun, if_neg (by omega)]; exact hno
  by_cases h2 : n > 1000000000
  · simp only [if_neg h1, decide_eq_true h2]; rw [grun, if_neg (by omega)]; exact hno
  simp only [if_neg h1, decide_eq_false h2]
  rw [grun, if_pos (by omega)]
  refine ev_s ?_
  simp only [impl_GoodsteinRun.j0, Bool.false_eq_true, if_false]
  exact impl_run_l0 59 [] n 2 rfl (by omega)
theorem spec_run_l0 : ∀ (d : Nat) (out : List Int) (x : Int) (b : Nat), 0 ≤ x → out.length + d = 60 → b ≤ 1000 → Ev (fun k => spec_GoodsteinRun.l0 k x out (b : Int)) (out ++ grl d x (b : Int))
  | 0, out, x, b, hx, hd, hb => by
    have hend : Ev (fun k => spec_GoodsteinRun.j1 k x out (b : Int) false) (out ++ grl 0 x (b : Int)) := by
      refine ev_s ?_
      simp only [spec_GoodsteinRun.j1, Bool.false_eq_true, if_false, grl, List.append_nil]
      exact Ev.now _
    refine ev_s ?_
    simp only [spec_GoodsteinRun.l0, decide_eq_false (show ¬ ((out.length : Int) < 60) by omega), ite_self]
    exact hend
  | d + 1, out, x, b, hx, hd, hb => by
    refine ev_s ?_
    by_cases h0 : x = 0
    · subst h0
      simp only [spec_GoodsteinRun.l0, if_neg (show ¬ ((0 : Int) > 0) by decide)]
      refine ev_s ?_
      simp only [spec_GoodsteinRun.j1, Bool.false_eq_true, if_false, grl, if_true, List.append_nil]
      exact Ev.now _
    · simp only [spec_GoodsteinRun.l0, if_pos (show x > 0 by omega), decide_eq_true (show ((out.length : Int) < 60) by omega)]
      refine ev_s ?_
      simp only [spec_GoodsteinRun.j1, if_true, grl, if_neg h0]
      refine Ev.bind (spec_Next_ev _ _) ?_
      by_cases h1 : gnext x (b : Int) < 0
      · simp only [if_pos h1, List.append_nil]; exact Ev.now _
      · have hb3 : b + 1 ≤ 1000 := by
          by_cases hb3 : b + 1 ≤ 1000
          · exact hb3
          · have : gnext x (b : Int) = -1 := by rw [gnext, if_pos (.inr (.inr (by omega)))]
            omega
        have ih := spec_run_l0 d (out ++ [gnext x (b : Int)]) (gnext x (b : Int)) (b + 1) (by omega) (by simp; omega) hb3
        simp only [if_neg h1, if_pos (show out.length < 17592186044416 by omega), show wrap64 ((b : Int) + 1) = ((b + 1 : Nat) : Int) from wrap_nat2 b 1 (by omega)]
        rw [List.append_assoc] at ih
        exact ih
theorem spec_Run_ev (n : Int) : Ev (fun k => spec_GoodsteinRun.f k n) (grun n) := by
  simp only [spec_GoodsteinRun.f, l1In_eq, Option.bind_some]
  by_cases h : 0 ≤ n ∧ n ≤ 1000000000
  · simp only [decide_eq_true h, if_true, List.nil_append, List.length_nil, if_pos (show 0 < 17592186044416 by decide)]
    rw [grun, if_pos h]
    exact spec_run_l0 59 [n] n 2 h.1 rfl (by omega)
  · simp only [decide_eq_false h, Bool.false_eq_true, if_false]
    rw [grun, if_neg h]
    exact Ev.now _
theorem grl_len : ∀ (d : Nat) (x b : Int), (grl d x b).length ≤ d
  | 0, _, _ => by simp [grl]
  | d + 1, x, b => by
    simp only [grl]
    split
    · simp
    · split
      · simp
      · have := grl_len d (gnext x b) (b + 1); simp only [List.length_cons]; omega
theorem grun_len (n : Int) : (grun n).length ≤ 60 := by
  unfold grun
  split
  · have := grl_len 59 n 2; simp only [List.length_cons]; omega
  · simp

-- part: gOrds
/-! ### the ordinals of a run -/
def gos : List Int → Int → List (List Int)
  | [], _ => []
  | x :: r, b => if (inbFit x b).length = 0 then [] else inbFit x b :: gos r (b + 1)
theorem gos_len : ∀ (r : List Int) (b : Int), (gos r b).length ≤ r.length
  | [], _ => Nat.le_refl _
  | x :: r, b => by
    simp only [gos]
    split
    · simp
    · have := gos_len r (b + 1); simp only [List.length_cons]; omega
theorem inbFit_len (x b : Int) : (inbFit x b).length ≤ 60 := by
  by_cases h : (inbFit x b).length = 0
  · omega
  · obtain ⟨_, h2, h3⟩ := inbFit_some h
    rw [h3]; exact h2
theorem rd_mid (pre : List Int) (x : Int) (r : List Int) : rd (pre ++ x :: r) (pre.length : Int) = x := by rw [rd_eq]; simp
theorem impl_ords_l0 : ∀ (r pre : List Int) (out : List (List Int)) (len : Int), (pre ++ r).length ≤ 60 → out.length ≤ pre.length → len = ((pre ++ r).length : Int) → Ev (fun k => impl_GoodsteinOrds.l0 k out (pre ++ r) len (pre.length : Int)) (out ++ gos r ((pre.length + 2 : Nat) : Int))
  | [], pre, out, len, hl, ho, hn => by
    subst hn
    refine ev_s ?_
    simp only [impl_GoodsteinOrds.l0, List.append_nil, Int.lt_irrefl, if_false, gos]
    exact Ev.now _
  | x :: r, pre, out, len, hl, ho, hn => by
    have h1 : (pre ++ x :: r).length = pre.length + (r.length + 1) := by simp
    have ih := impl_ords_l0 r (pre ++ [x]) (out ++ [inbFit x ((pre.length + 2 : Nat) : Int)]) len (by simp; omega) (by simp; omega) (by rw [hn]; simp)
    have e1 : (pre ++ [x]) ++ r = pre ++ x :: r := by simp
    have e2 : (pre ++ [x]).length = pre.length + 1 := by simp
    rw [e1, e2] at ih
    refine ev_s ?_
    simp only [impl_GoodsteinOrds.l0, if_pos (show (pre.length : Int) < len by omega), if_pos (show (0 : Int) ≤ (pre.length : Int) by omega), if_pos (show (pre.length : Int) < ((pre ++ x :: r).length : Int) by omega), rd_mid, show wrap64 ((pre.length : Int) + 2) = ((pre.length + 2 : Nat) : Int) from wrap_nat2 _ 2 (by omega)]
    refine Ev.bind (impl_OrdInBase_ev _ _) ?_
    by_cases h0 : (inbFit x ((pre.length + 2 : Nat) : Int)).length = 0
    · simp only [if_pos h0, gos, List.append_nil]; exact Ev.now _
    · simp only [if_neg h0, gos, if_pos (show out.length < 5864062014805 by omega), show wrap64 ((pre.length : Int) + 1) = ((pre.length + 1 : Nat) : Int) from wrap_nat2 _ 1 (by omega)]
      rw [List.append_assoc, show (((pre.length + 1) + 2 : Nat) : Int) = ((pre.length + 2 : Nat) : Int) + 1 by omega] at ih
      exact ih
theorem impl_Ords_ev (n : Int) : Ev (fun k => impl_GoodsteinOrds.f k n) (gos (grun n) 2) := by
  simp only [impl_GoodsteinOrds.f]
  refine Ev.bind (impl_Run_ev n) ?_
  exact impl_ords_l0 (grun n) [] [] _ (by simpa using grun_len n) (Nat.le_refl _) rfl
theorem spec_ords_l0 : ∀ (r pre : List Int) (out : List (List Int)), (pre ++ r).length ≤ 60 → out.length ≤ pre.length → Ev (fun k => spec_GoodsteinOrds.l0 k out (pre ++ r) (pre.length : Int)) (out ++ gos r ((pre.length + 2 : Nat) : Int))
  | [], pre, out, hl, ho => by
    refine ev_s ?_
    simp only [spec_GoodsteinOrds.l0, List.append_nil, Int.lt_irrefl, if_false, gos]
    exact Ev.now _
  | x :: r, pre, out, hl, ho => by
    have h1 : (pre ++ x :: r).length = pre.length + (r.length + 1) := by simp
    have ih := spec_ords_l0 r (pre ++ [x]) (out ++ [inbFit x ((pre.length + 2 : Nat) : Int)]) (by simp; omega) (by simp; omega)
    have e1 : (pre ++ [x]) ++ r = pre ++ x :: r := by simp
    have e2 : (pre ++ [x]).length = pre.length + 1 := by simp
    rw [e1, e2] at ih
    refine ev_s ?_
    simp only [spec_GoodsteinOrds.l0, if_pos (show (pre.length : Int) < ((pre ++ x :: r).length : Int) by omega), if_pos (show (0 : Int) ≤ (pre.length : Int) by omega), rd_mid, show wrap64 ((pre.length : Int) + 2) = ((pre.length + 2 : Nat) : Int) from wrap_nat2 _ 2 (by omega)]
    refine Ev.bind (spec_OrdInBase_ev _ _) ?_
    by_cases h0 : (inbFit x ((pre.length + 2 : Nat) : Int)).length = 0
    · simp only [if_neg (show ¬ ((inbFit x ((pre.length + 2 : Nat) : Int)).length : Int) > 0 by omega), gos, if_pos h0, List.append_nil]; exact Ev.now _
    · obtain ⟨h2, h3, h4⟩ := inbFit_some h0
      simp only [if_pos (show ((inbFit x ((pre.length + 2 : Nat) : Int)).length : Int) > 0 by omega)]
      have hE := l4Ord_ev (b := pre.length + 2) (by omega) (by omega) (x.toNat + 1) x.toNat (by omega) (by omega)
      rw [Int.toNat_of_nonneg h2.1] at hE
      rw [Int.toNat_natCast] at h4
      refine Ev.bind hE ?_
      rw [← h4]
      simp only [if_neg h0, gos, if_pos (show out.length < 5864062014805 by omega), show wrap64 ((pre.length : Int) + 1) = ((pre.length + 1 : Nat) : Int) from wrap_nat2 _ 1 (by omega)]
      rw [List.append_assoc, show (((pre.length + 1) + 2 : Nat) : Int) = ((pre.length + 2 : Nat) : Int) + 1 by omega] at ih
      exact ih
theorem spec_Ords_ev (n : Int) : Ev (fun k => spec_GoodsteinOrds.f k n) (gos (grun n) 2) := by
  simp only [spec_GoodsteinOrds.f]
  refine Ev.bind (spec_Run_ev n) ?_
  exact spec_ords_l0 (grun n) [] [] (by simpa using grun_len n) (Nat.le_refl _)
theorem gos_mem : ∀ (r : List Int) (b : Int), ∀ x ∈ gos r b, x.length ≤ 60
  | [], _, x, h => by simp [gos] at h
  | y :: r, b, x, h => by
    simp only [gos] at h
    split at h
    · simp at h
    · rcases List.mem_cons.mp h with rfl | h
      · exact inbFit_len _ _
      · exact gos_mem r (b + 1) x h

-- part: law_FnExactGoodsteinOrds
theorem rdL_mid (pre suf : List (List Int)) (x : List Int) : rd_L1 (pre ++ x :: suf) ((pre.length : Nat) : Int) = x := by simp [rd_L1]
theorem eqIntSS_l0 (a : List (List Int)) (ha : ∀ x ∈ a, x.length ≤ 60) (hl : a.length ≤ 1000) : ∀ (d j : Nat), j + d = a.length → Ev (fun k => laws_eqIntSS.l0 k a a (j : Int)) true
  | 0, j, hj => by
    refine ev_s ?_
    simp only [laws_eqIntSS.l0, if_neg (show ¬ ((j : Int) < (a.length : Int)) by omega)]
    exact Ev.now _
  | d + 1, j, hj => by
    have ih := eqIntSS_l0 a ha hl d (j + 1) (by omega)
    have hlt : j < a.length := by omega
    have hrd : rd_L1 a (j : Int) = a[j] := rdL1_get hlt
    have hm := ha _ (List.getElem_mem hlt)
    refine ev_s ?_
    simp only [laws_eqIntSS.l0, if_pos (show (j : Int) < (a.length : Int) by omega), if_pos (show (0 : Int) ≤ (j : Int) by omega), hrd]
    refine Ev.bind (eqIntS_ev _ _ (by omega)) ?_
    simp only [decide_true, if_true, show wrap64 ((j : Int) + 1) = ((j + 1 : Nat) : Int) from wrap_nat2 _ 1 (by omega)]
    exact ih
theorem eqIntSS_refl (a : List (List Int)) (ha : ∀ x ∈ a, x.length ≤ 60) (hl : a.length ≤ 1000) : Ev (fun k => laws_eqIntSS.f k a a) true := by
  simp only [laws_eqIntSS.f, if_true]
  exact eqIntSS_l0 a ha hl a.length 0 (by omega)
def marksAll : Nat → List (List Int) → List (List Int)
  | _, [] => []
  | a, x :: r => marksOf a x.length :: marksAll (a + x.length) r
def marksTot : Nat → List (List Int) → Nat
  | a, [] => a
  | a, x :: r => marksTot (a + x.length) r
theorem markIntSS_l0 : ∀ (r pre : List (List Int)) (a : Nat), (∀ x ∈ r, x.length ≤ 60) → pre.length + r.length ≤ 1000 → a + 60 * r.length ≤ 1000000 → Ev (fun k => laws_markIntSS.l0 k (pre ++ r) (a : Int) (pre.length : Int)) ((marksTot a r : Int), pre ++ marksAll a r)
  | [], pre, a, _, _, _ => by
    refine ev_s ?_
    simp only [laws_markIntSS.l0, List.append_nil, Int.lt_irrefl, if_false, marksAll, marksTot]
    exact Ev.now _
  | x :: r, pre, a, hx, hp, ha => by
    have h1 := hx x List.mem_cons_self
    simp only [List.length_cons] at hp ha
    have ih := markIntSS_l0 r (pre ++ [marksOf a x.length]) (a + x.length) (fun y hy => hx y (List.mem_cons_of_mem _ hy)) (by simp; omega) (by omega)
    rw [List.append_assoc, List.singleton_append, List.length_append, List.length_singleton, List.append_assoc, List.singleton_append] at ih
    have hs : (pre ++ x :: r).set ((pre.length : Nat) : Int).toNat (marksOf a x.length) = pre ++ marksOf a x.length :: r := by rw [Int.toNat_natCast]; simp
    refine ev_s ?_
    simp only [laws_markIntSS.l0, if_pos (show (pre.length : Int) < ((pre ++ x :: r).length : Int) by simp; omega), if_pos (show (0 : Int) ≤ (pre.length : Int) by omega), rdL_mid]
    refine Ev.bind (markIntS_ev x a (by omega)) ?_
    simp only [hs, show wrap64 ((pre.length : Int) + 1) = ((pre.length + 1 : Nat) : Int) from wrap_nat2 _ 1 (by omega)]
    exact ih
theorem heldIntSS_l0 : ∀ (r pre : List (List Int)) (a : Nat), (∀ x ∈ r, x.length ≤ 60) → pre.length + r.length ≤ 1000 → a + 60 * r.length ≤ 1000000 → Ev (fun k => laws_heldIntSS.l0 k (pre ++ marksAll a r) (a : Int) (pre.length : Int)) (marksTot a r : Int)
  | [], pre, a, _, _, _ => by
    refine ev_s ?_
    simp only [laws_heldIntSS.l0, marksAll, List.append_nil, Int.lt_irrefl, if_false, marksTot]
    exact Ev.now _
  | x :: r, pre, a, hx, hp, ha => by
    have h1 := hx x List.mem_cons_self
    simp only [List.length_cons] at hp ha
    have ih := heldIntSS_l0 r (pre ++ [marksOf a x.length]) (a + x.length) (fun y hy => hx y (List.mem_cons_of_mem _ hy)) (by simp; omega) (by omega)
    rw [List.append_assoc, List.singleton_append, List.length_append, List.length_singleton] at ih
    refine ev_s ?_
    simp only [laws_heldIntSS.l0, marksAll, if_pos (show (pre.length : Int) < ((pre ++ marksOf a x.length :: marksAll (a + x.length) r).length : Int) by simp; omega), if_pos (show (0 : Int) ≤ (pre.length : Int) by omega), rdL_mid]
    refine Ev.bind (heldIntS_ev a x.length (by omega)) ?_
    simp only [if_neg (show ¬ (((a + x.length : Nat) : Int) < 0) by omega), show wrap64 ((pre.length : Int) + 1) = ((pre.length + 1 : Nat) : Int) from wrap_nat2 _ 1 (by omega)]
    exact ih
/-- Both give the same rows; these are marked, and the marks are found, once and again. -/
theorem FnExactGoodsteinOrds (a0 : Int) : ∃ (k : Nat) (m : Int) (L L2 : List (List Int)), spec_GoodsteinOrds.f k a0 = some L ∧ impl_GoodsteinOrds.f k a0 = some L ∧ laws_eqIntSS.f k L L = some true ∧ laws_markIntSS.f k L 1 = some (m, L2) ∧ laws_heldIntSS.f k L2 1 = some m ∧ 0 ≤ m := by
  have hm := gos_mem (grun a0) 2
  have hl := gos_len (grun a0) 2
  have hg := grun_len a0
  have e4 := markIntSS_l0 (gos (grun a0) 2) [] 1 hm (by simp; omega) (by omega)
  have e5 := heldIntSS_l0 (gos (grun a0) 2) [] 1 hm (by simp; omega) (by omega)
  obtain ⟨K1, h1⟩ := spec_Ords_ev a0
  obtain ⟨K2, h2⟩ := impl_Ords_ev a0
  obtain ⟨K3, h3⟩ := eqIntSS_refl (gos (grun a0) 2) hm (by omega)
  obtain ⟨K4, h4⟩ := e4
  obtain ⟨K5, h5⟩ := e5
  exact ⟨K1 + K2 + K3 + K4 + K5, _, _, _, h1 _ (by omega), h2 _ (by omega), h3 _ (by omega), h4 _ (by omega), h5 _ (by omega), Int.natCast_nonneg _⟩

end Go.Proofs.Ytomidfnhbnhhmaa.Pure

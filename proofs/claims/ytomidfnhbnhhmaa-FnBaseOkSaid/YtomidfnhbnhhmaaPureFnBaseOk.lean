-- half
/- The law FnBaseOk returns true for every input that the statement lets in; no condition of our own. -/
import Derived.Test.YtomidfnhbnhhmaaKax11
namespace Go.Proofs.Ytomidfnhbnhhmaa.Pure
open Go.RowKit Go.Proofs.Ytomidfnhbnhhmaa.Ka Go.Proofs.YtomidfnhbnhhmaaW.PrintWords Go.Proofs.YtomidfnhbnhhmaaW.PrintLast
set_option linter.unusedVariables false
set_option linter.unusedSimpArgs false

-- part: base
theorem ev_s {α : Type} {g : Nat → Option α} {r : α} (h : Ev (fun k => g (k + 1)) r) : Ev g r := Ev.step (fun _ => rfl) h
theorem ev_eq {α : Type} {g : Nat → Option α} {r q : α} (h : Ev g r) (e : r = q) : Ev g q := e ▸ h
theorem ev_now {α : Type} {r q : α} (e : r = q) : Ev (fun _ => some r) q := e ▸ Ev.now r
theorem wrap_in {x : Int} (h0 : -9223372036854775808 ≤ x) (h1 : x ≤ 9223372036854775807) : wrap64 x = x := by unfold wrap64; omega
theorem rd_eq (xs : List Int) (i : Nat) : rd xs (i : Int) = xs.getD i 0 := by simp [rd]
theorem rd_get {xs : List Int} {i : Nat} (h : i < xs.length) : rd xs (i : Int) = xs[i] := by simp [rd, h]
theorem wrap_nat2 (a b : Nat) (h : a + b < 4611686018427387904) : wrap64 ((a : Int) + (b : Int)) = ((a + b : Nat) : Int) := by rw [wrap_in (by omega) (by omega)]; omega
theorem eqIntS_l0 (F : Nat → List Int → List Int → Int → Option Bool)
  (h0 : ∀ k a b i, F (k + 1) a b i = if i < (a.length : Int) then (if 0 ≤ i then (if i < (b.length : Int) then (if (rd a i) = (rd b i) then (F k a b (wrap64 (i + 1))) else (some false)) else none) else none) else some true)
  (a b : List Int) (hl : a.length = b.length) (hb : a.length ≤ 140737488351232) : ∀ (d i : Nat), i + d = a.length → a.take i = b.take i → Ev (fun k => F k a b i) (decide (a = b)) := by
 intro d
 induction d with
 | zero =>
  intro i h ht
  refine ev_s ?_
  simp only [h0]
  simp only [if_neg (show ¬ ((i : Int) < (a.length : Int)) by omega)]
  rw [List.take_of_length_le (by omega), List.take_of_length_le (by omega)] at ht
  simp only [ht, decide_true]; exact Ev.now _
 | succ d ih =>
  intro i h ht
  refine ev_s ?_
  simp only [h0]
  simp only [if_pos (show (i : Int) < (a.length : Int) by omega), if_pos (show (0 : Int) ≤ (i : Int) by omega), if_pos (show (i : Int) < (b.length : Int) by omega), show wrap64 ((i : Int) + 1) = ((i + 1 : Nat) : Int) by rw [wrap_in (by omega) (by omega)]; rfl]
  rw [rd_get (show i < a.length by omega), rd_get (show i < b.length by omega)]
  by_cases he : a[i] = b[i]
  ·
   simp only [if_pos he]
   refine ih (i + 1) (by omega) ?_
   rw [List.take_succ_eq_append_getElem (by omega), List.take_succ_eq_append_getElem (by omega), ht, he]
  ·
   simp only [if_neg he]
   refine ev_now (Eq.symm (decide_eq_false (fun hab => he ?_)))
   subst hab; rfl

-- part: sameInts
theorem sameInts_ev (a b : List Int) (hb : a.length ≤ 140737488351232) : Ev (fun k => laws_sameInts.f k a b) (decide (a = b)) := by
 simp only [laws_sameInts.f]
 by_cases hl : a.length = b.length
 ·
  simp only [if_pos (show (a.length : Int) = (b.length : Int) by omega)]
  exact eqIntS_l0 laws_sameInts.l0 (fun _ _ _ _ => rfl) a b hl hb a.length 0 (by omega) (by simp)
 ·
  simp only [if_neg (show ¬ ((a.length : Int) = (b.length : Int)) by omega)]
  exact ev_now (Eq.symm (decide_eq_false (fun hab => hl (by rw [hab]))))

-- part: l1In
theorem l1In_eq (n lo hi : Int) : spec_l1In.f n lo hi = some (decide (lo ≤ n ∧ n ≤ hi)) := by
 unfold spec_l1In.f
 by_cases h : n ≥ lo
 ·
  rw [if_pos h]; simp [show lo ≤ n from h]
 ·
  rw [if_neg h]; simp [show ¬ lo ≤ n from h]

-- part: O
inductive O where
 | z : O
 | c (n : Nat) (e r : O) : O

-- part: oAppDef
def O.app : O → O → O
 | .z, y => y
 | .c n e r, y => .c n e (O.app r y)
def O.cmp : O → O → Ordering
 | .z, .z => .eq
 | .z, .c .. => .lt
 | .c .., .z => .gt
 | .c n e r, .c m f s => ((O.cmp e f).then (compare n m)).then (O.cmp r s)

theorem O.cmp_self : ∀ a : O, O.cmp a a = .eq
 | .z => rfl
 | .c n e r => by
  have h1 := O.cmp_self e
  have h2 := O.cmp_self r
  simp [O.cmp, h1, h2]

theorem O.eq_of_cmp : ∀ a b : O, O.cmp a b = .eq → a = b
 | .z, .z => fun _ => rfl
 | .z, .c .. => fun h => by simp [O.cmp] at h
 | .c .., .z => fun h => by simp [O.cmp] at h
 | .c n e r, .c m f s => fun h => by
  simp only [O.cmp, Ordering.then_eq_eq] at h
  obtain ⟨⟨h1, h2⟩, h3⟩ := h
  rw [O.eq_of_cmp e f h1, O.eq_of_cmp r s h3, Nat.compare_eq_eq.mp h2]

theorem O.cmp_swap : ∀ a b : O, (O.cmp a b).swap = O.cmp b a
 | .z, .z => rfl
 | .z, .c .. => rfl
 | .c .., .z => rfl
 | .c n e r, .c m f s => by
  have h1 := O.cmp_swap e f
  have h2 := O.cmp_swap r s
  simp only [O.cmp, Ordering.swap_then, h1, h2, Nat.compare_swap]

theorem O.cmp_gt_iff (a b : O) : O.cmp a b = .gt ↔ O.cmp b a = .lt := by
 rw [← O.cmp_swap a b]
 cases O.cmp a b <;> simp [Ordering.swap]

theorem O.lt_trans : ∀ a b c : O, O.cmp a b = .lt → O.cmp b c = .lt → O.cmp a c = .lt
 | .z, .z, _ => fun h => by simp [O.cmp] at h
 | .c .., .z, _ => fun h => by simp [O.cmp] at h
 | .z, .c .., .z => fun _ h => by simp [O.cmp] at h
 | .z, .c .., .c .. => fun _ _ => rfl
 | .c .., .c .., .z => fun _ h => by simp [O.cmp] at h
 | .c n e r, .c m f s, .c k g t => fun h1 h2 => by
  simp only [O.cmp, Ordering.then_eq_lt] at h1 h2 ⊢
  rcases h1 with (h1 | ⟨h1, h1'⟩) | ⟨h1, h1'⟩
  ·
   rcases h2 with (h2 | ⟨h2, h2'⟩) | ⟨h2, h2'⟩
   ·
    exact .inl (.inl (O.lt_trans _ _ _ h1 h2))
   ·
    rw [← O.eq_of_cmp _ _ h2]; exact .inl (.inl h1)
   ·
    rw [Ordering.then_eq_eq] at h2; rw [← O.eq_of_cmp _ _ h2.1]; exact .inl (.inl h1)
  ·
   have := O.eq_of_cmp _ _ h1; subst this
   rcases h2 with (h2 | ⟨h2, h2'⟩) | ⟨h2, h2'⟩
   ·
    exact .inl (.inl h2)
   ·
    have h3 := O.eq_of_cmp _ _ h2; subst h3
    rw [Nat.compare_eq_lt] at h1' h2'
    exact .inl (.inr ⟨h2, Nat.compare_eq_lt.mpr (by omega)⟩)
   ·
    rw [Ordering.then_eq_eq] at h2; rw [← Nat.compare_eq_eq.mp h2.2]; exact .inl (.inr ⟨h2.1, h1'⟩)
  ·
   rw [Ordering.then_eq_eq] at h1
   have := O.eq_of_cmp _ _ h1.1; subst this
   have := Nat.compare_eq_eq.mp h1.2; subst this
   rcases h2 with (h2 | ⟨h2, h2'⟩) | ⟨h2, h2'⟩
   ·
    exact .inl (.inl h2)
   ·
    exact .inl (.inr ⟨h2, h2'⟩)
   ·
    exact .inr ⟨h2, O.lt_trans _ _ _ h1' h2'⟩

theorem O.cmp_tri (a b : O) : O.cmp a b = .lt ∨ a = b ∨ O.cmp b a = .lt := by
 cases h : O.cmp a b with
 | lt => exact .inl rfl
 | eq => exact .inr (.inl (O.eq_of_cmp _ _ h))
 | gt => exact .inr (.inr ((O.cmp_gt_iff _ _).mp h))

theorem O.lt_irrefl (a : O) : O.cmp a a ≠ .lt := by rw [O.cmp_self]; simp
def O.hd (e : O) : O → Prop
 | .z => True
 | .c _ f _ => O.cmp f e = .lt

def O.NF : O → Prop
 | .z => True
 | .c n e r => 1 ≤ n ∧ O.NF e ∧ O.NF r ∧ O.hd e r

-- part: coreIns
def O.ins (e : O) : O → O
 | .z => .c 1 e .z
 | .c n f r => match O.cmp f e with
  | .gt => .c n f (O.ins e r)
  | .eq => .c (n + 1) f r
  | .lt => .c 1 e (.c n f r)

theorem O.hd_trans {e f : O} (h : O.cmp e f = .lt) : ∀ {x : O}, O.hd e x → O.hd f x
 | .z, _ => trivial
 | .c .., h' => O.lt_trans _ _ _ h' h

def O.insk (e : O) : Nat → O → O
 | 0, x => x
 | k + 1, x => O.ins e (O.insk e k x)

theorem O.hd_lt {e : O} : ∀ {x : O}, O.hd e x → ∀ n r, O.cmp x (.c n e r) = .lt
 | .z, _, _, _ => rfl
 | .c _ _ _, h, _, _ => by simp [O.cmp, show O.cmp _ _ = _ from h]

def O.val (b : Nat) : O → Nat
 | .z => 0
 | .c n e r => n * b ^ O.val b e + O.val b r
def O.small (b : Nat) : O → Prop
 | .z => True
 | .c n e r => n < b ∧ O.small b e ∧ O.small b r

theorem O.val_pos {b : Nat} (hb : 2 ≤ b) {n : Nat} {e r : O} (h : 1 ≤ n) : b ^ O.val b e ≤ O.val b (.c n e r) := by
 have : b ^ O.val b e ≤ n * b ^ O.val b e := Nat.le_mul_of_pos_left _ h
 simp only [O.val]; omega

theorem O.val_mono_aux {b : Nat} (hb : 2 ≤ b) : ∀ N : Nat, ∀ x y : O, SizeOf.sizeOf x + SizeOf.sizeOf y ≤ N → O.NF x → O.NF y → O.small b x → O.small b y → O.cmp x y = .lt → O.val b x < O.val b y := by
 intro N
 induction N with
 | zero => intro x y h; cases x <;> simp at h <;> omega
 | succ N ih =>
  -- a tail is less than its power
  have tail : ∀ (r e : O), SizeOf.sizeOf r + SizeOf.sizeOf e ≤ N → O.NF r → O.NF e → O.small b r → O.small b e → O.hd e r → O.val b r < b ^ O.val b e := by
   intro r
   induction r with
   | z => intro e _ _ _ _ _ _; exact Nat.pow_pos (by omega)
   | c n f s _ ihs =>
    intro e hN hr he hsr hse hd
    simp only [O.c.sizeOf_spec] at hN
    have h1 : O.val b f < O.val b e := ih f e (by omega) hr.2.1 he hsr.2.1 hse hd
    have h2 : O.val b s < b ^ O.val b f := ihs f (by omega) hr.2.2.1 hr.2.1 hsr.2.2 hsr.2.1 hr.2.2.2
    have h3 : n + 1 ≤ b := hsr.1
    have h4 : (n + 1) * b ^ O.val b f ≤ b * b ^ O.val b f := Nat.mul_le_mul_right _ h3
    have h5 : b * b ^ O.val b f = b ^ (O.val b f + 1) := by rw [Nat.pow_succ, Nat.mul_comm]
    have h6 : b ^ (O.val b f + 1) ≤ b ^ O.val b e := Nat.pow_le_pow_right (by omega) h1
    rw [Nat.add_mul, Nat.one_mul] at h4
    simp only [O.val]
    omega
  intro x y hN hx hy hsx hsy h
  match x, y with
  | .z, .z => simp [O.cmp] at h
  | .c .., .z => simp [O.cmp] at h
  | .z, .c n e r =>
   have := O.val_pos (b := b) hb (e := e) (r := r) hy.1
   have h2 : 0 < b ^ O.val b e := Nat.pow_pos (by omega)
   show 0 < _; omega
  | .c n e r, .c m f s =>
   simp only [O.c.sizeOf_spec] at hN
   simp only [O.cmp, Ordering.then_eq_lt, Ordering.then_eq_eq] at h
   have tr : O.val b r < b ^ O.val b e := tail r e (by omega) hx.2.2.1 hx.2.1 hsx.2.2 hsx.2.1 hx.2.2.2
   rcases h with (h | ⟨h, h'⟩) | ⟨⟨h, h'⟩, h''⟩
   ·
    have h1 : O.val b e < O.val b f := ih e f (by omega) hx.2.1 hy.2.1 hsx.2.1 hsy.2.1 h
    have h3 : n + 1 ≤ b := hsx.1
    have h4 : (n + 1) * b ^ O.val b e ≤ b * b ^ O.val b e := Nat.mul_le_mul_right _ h3
    have h5 : b * b ^ O.val b e = b ^ (O.val b e + 1) := by rw [Nat.pow_succ, Nat.mul_comm]
    have h6 : b ^ (O.val b e + 1) ≤ b ^ O.val b f := Nat.pow_le_pow_right (by omega) h1
    have h7 := O.val_pos (b := b) hb (e := f) (r := s) hy.1
    rw [Nat.add_mul, Nat.one_mul] at h4
    simp only [O.val] at h7 ⊢
    omega
   ·
    have := O.eq_of_cmp _ _ h; subst this
    rw [Nat.compare_eq_lt] at h'
    have h4 : (n + 1) * b ^ O.val b e ≤ m * b ^ O.val b e := Nat.mul_le_mul_right _ h'
    rw [Nat.add_mul, Nat.one_mul] at h4
    simp only [O.val]
    omega
   ·
    have := O.eq_of_cmp _ _ h; subst this
    rw [Nat.compare_eq_eq] at h'; subst h'
    have := ih r s (by omega) hx.2.2.1 hy.2.2.1 hsx.2.2 hsy.2.2 h''
    simp only [O.val]
    omega

theorem O.val_mono {b : Nat} (hb : 2 ≤ b) {x y : O} (hx : O.NF x) (hy : O.NF y) (hsx : O.small b x) (hsy : O.small b y) (h : O.cmp x y = .lt) : O.val b x < O.val b y :=
 O.val_mono_aux hb _ x y (Nat.le_refl _) hx hy hsx hsy h
theorem O.val_inj {b : Nat} (hb : 2 ≤ b) {x y : O} (hx : O.NF x) (hy : O.NF y) (hsx : O.small b x) (hsy : O.small b y) (h : O.val b x = O.val b y) : x = y := by
 rcases O.cmp_tri x y with h' | h' | h'
 ·
  have := O.val_mono hb hx hy hsx hsy h'; omega
 ·
  exact h'
 ·
  have := O.val_mono hb hy hx hsy hsx h'; omega
theorem O.val_lt {b : Nat} (hb : 2 ≤ b) {x y : O} (hx : O.NF x) (hy : O.NF y) (hsx : O.small b x) (hsy : O.small b y) (h : O.val b x < O.val b y) : O.cmp x y = .lt := by
 rcases O.cmp_tri x y with h' | h' | h'
 ·
  exact h'
 ·
  subst h'; omega
 ·
  have := O.val_mono hb hy hx hsy hsx h'; omega


-- part: coreBase
def O.pos (b : Nat) : Nat → Nat → O
 | 0, _ => .z
 | e + 1, n => if n / b ^ e = 0 then O.pos b e n else .c (n / b ^ e) (O.pos b e e) (O.pos b e (n % b ^ e))
def O.inb (b n : Nat) : O := O.pos b n n
theorem pow_big {b : Nat} (hb : 2 ≤ b) (e : Nat) : e < b ^ e := Nat.lt_of_lt_of_le (Nat.lt_two_pow_self) (Nat.pow_le_pow_left hb e)
theorem O.pos_up {b : Nat} (hb : 2 ≤ b) {e n : Nat} (h : n < b ^ e) : ∀ j, O.pos b (e + j) n = O.pos b e n
 | 0 => rfl
 | j + 1 => by
  rw [← Nat.add_assoc, O.pos, if_pos (Nat.div_eq_of_lt (Nat.lt_of_lt_of_le h (Nat.pow_le_pow_right (by omega) (Nat.le_add_right _ _))))]
  exact O.pos_up hb h j
theorem O.pos_eq {b : Nat} (hb : 2 ≤ b) {e n : Nat} (h : n < b ^ e) : O.pos b e n = O.inb b n := by
 have h1 := O.pos_up hb h n
 have h2 := O.pos_up hb (pow_big hb n) e
 rw [Nat.add_comm, h1] at h2
 exact h2
theorem O.pos_all {b : Nat} (hb : 2 ≤ b) : ∀ N e n : Nat, e ≤ N → n < b ^ e → O.val b (O.pos b e n) = n ∧ O.NF (O.pos b e n) ∧ O.small b (O.pos b e n) ∧ O.hd (O.pos b e e) (O.pos b e n)
 | N, 0, n, _, h => by
  have : n = 0 := by rw [Nat.pow_zero] at h; omega
  subst this
  exact ⟨rfl, trivial, trivial, trivial⟩
 | 0, e + 1, _, h, _ => by omega
 | N + 1, e + 1, n, hN, h => by
  have hp : 0 < b ^ e := Nat.pow_pos (by omega)
  obtain ⟨e1, e2, e3, e4⟩ := O.pos_all hb N e e (by omega) (pow_big hb e)
  -- the place's own ordinal, one place up
  have hq : O.pos b (e + 1) (e + 1) = O.inb b (e + 1) := O.pos_eq hb (pow_big hb _)
  have hlt : O.cmp (O.pos b e e) (O.pos b (e + 1) (e + 1)) = .lt := by
   by_cases hz : e + 1 < b ^ e
   ·
    have h1 : O.pos b (e + 1) (e + 1) = O.pos b e (e + 1) := by rw [O.pos, if_pos (Nat.div_eq_of_lt hz)]
    obtain ⟨f1, f2, f3, f4⟩ := O.pos_all hb N e (e + 1) (by omega) hz
    rw [h1]
    exact O.val_lt hb e2 f2 e3 f3 (by rw [e1, f1]; omega)
   ·
    have hd : (e + 1) / b ^ e ≠ 0 := by have := Nat.div_pos (by omega : b ^ e ≤ e + 1) hp; omega
    rw [O.pos, if_neg hd]
    exact O.hd_lt e4 _ _
  by_cases hd : n / b ^ e = 0
  ·
   have hn : n < b ^ e := by
    rcases Nat.lt_or_ge n (b ^ e) with h1 | h1
    ·
     exact h1
    ·
     have := Nat.div_pos h1 hp; omega
   obtain ⟨f1, f2, f3, f4⟩ := O.pos_all hb N e n (by omega) hn
   rw [O.pos, if_pos hd]
   exact ⟨f1, f2, f3, O.hd_trans hlt f4⟩
  ·
   obtain ⟨f1, f2, f3, f4⟩ := O.pos_all hb N e (n % b ^ e) (by omega) (Nat.mod_lt _ hp)
   have hdb : n / b ^ e < b := by rw [Nat.div_lt_iff_lt_mul hp, Nat.mul_comm, ← Nat.pow_succ]; exact h
   rw [show O.pos b (e + 1) n = .c (n / b ^ e) (O.pos b e e) (O.pos b e (n % b ^ e)) by rw [O.pos, if_neg hd]]
   refine ⟨?_, ⟨Nat.pos_of_ne_zero hd, e2, f2, f4⟩, ⟨hdb, e3, f3⟩, hlt⟩
   simp only [O.val, e1, f1]
   rw [Nat.mul_comm]; exact Nat.div_add_mod n (b ^ e)
theorem O.inb_val {b : Nat} (hb : 2 ≤ b) (n : Nat) : O.val b (O.inb b n) = n := (O.pos_all hb n n n (Nat.le_refl _) (pow_big hb n)).1
theorem O.inb_NF {b : Nat} (hb : 2 ≤ b) (n : Nat) : O.NF (O.inb b n) := (O.pos_all hb n n n (Nat.le_refl _) (pow_big hb n)).2.1
theorem O.inb_small {b : Nat} (hb : 2 ≤ b) (n : Nat) : O.small b (O.inb b n) := (O.pos_all hb n n n (Nat.le_refl _) (pow_big hb n)).2.2.1
theorem O.inb_of {b : Nat} (hb : 2 ≤ b) {x : O} (hx : O.NF x) (hs : O.small b x) : O.inb b (O.val b x) = x := O.val_inj hb (O.inb_NF hb _) hx (O.inb_small hb _) hs (O.inb_val hb _)
def O.len : O → Nat
 | .z => 0
 | .c _ _ r => O.len r + 1
def O.body : O → List Int
 | .z => []
 | .c n e r => (n : Int) :: (O.len e : Int) :: (O.body e ++ O.body r)
def O.row (o : O) : List Int := (O.len o : Int) :: O.body o
theorem O.len_le : ∀ o : O, o.len ≤ o.body.length
 | .z => Nat.le_refl _
 | .c n e r => by have := O.len_le r; simp only [O.len, O.body, List.length_cons, List.length_append]; omega
inductive IsO : List S67 → O → Prop where
 | nil : IsO [] .z
 | cons {n : Nat} {e r : List S67} {oe or_ : O} (he : IsO e oe) (hr : IsO r or_) : IsO (⟨(n : Int), e⟩ :: r) (.c n oe or_)
theorem IsO.len {l : List S67} {o : O} (h : IsO l o) : l.length = o.len := by
 induction h with
 | nil => rfl
 | cons he hr ihe ihr => simp [O.len, ihr]
theorem rd_T67_mid (pre suf : List S67) (x : S67) : rd_T67 (pre ++ x :: suf) ((pre.length : Nat) : Int) = x := by simp [rd_T67]
def O.num (n : Nat) : O := if n = 0 then .z else .c n .z .z
theorem rowOf_l0 {suf : List S67} {o : O} (h : IsO suf o) : ∀ (pre : List S67) (out : List Int), pre.length + suf.length ≤ 1000000 → out.length + o.body.length ≤ 1000000 → Ev (fun k => impl_rowOf.l0 k out (pre ++ suf) (((pre ++ suf).length : Nat) : Int) (pre.length : Int)) (out ++ o.body) := by
 induction h with
 | nil =>
  intro pre out _ _
  refine ev_s ?_
  simp only [impl_rowOf.l0, List.append_nil, if_neg (show ¬ ((pre.length : Int) < (pre.length : Int)) by omega), O.body]
  exact Ev.now _
 | @cons n e r oe or_ he hr ihe ihr =>
  intro pre out hp ho
  simp only [List.length_cons] at hp
  simp only [O.body, List.length_cons, List.length_append] at ho
  have hlen : ((pre ++ (⟨(n : Int), e⟩ : S67) :: r).length : Nat) = pre.length + (r.length + 1) := by simp
  have he1 := IsO.len he
  have hel := O.len_le oe
  have hE : Ev (fun k => impl_rowOf.f k e) oe.row := by
   refine ev_s ?_
   simp only [impl_rowOf.f]
   have := ihe [] [(e.length : Int)] (by simp; omega) (by simp; omega)
   rw [List.nil_append] at this
   refine ev_eq this ?_
   rw [O.row, ← he1]; rfl
  refine ev_s ?_
  simp only [impl_rowOf.l0, rd_T67_mid, hlen, if_pos (show (pre.length : Int) < ((pre.length + (r.length + 1) : Nat) : Int) by omega), if_pos (show (0 : Int) ≤ (pre.length : Int) by omega), if_pos (show out.length < 17592186044416 by omega), Option.bind_some]
  refine Ev.bind hE ?_
  have hrow : oe.row.length = oe.body.length + 1 := by simp [O.row]
  simp only [List.length_append, List.length_singleton, hrow, if_pos (show out.length + 1 + (oe.body.length + 1) < 17592186044416 by omega), show wrap64 ((pre.length : Int) + 1) = ((pre.length + 1 : Nat) : Int) by rw [wrap_in (by omega) (by omega)]; rfl]
  have := ihr (pre ++ [⟨(n : Int), e⟩]) (out ++ [(n : Int)] ++ oe.row) (by simp; omega) (by simp [hrow]; omega)
  simp only [List.append_assoc, List.singleton_append, List.length_append, List.length_cons, List.length_nil] at this
  refine ev_eq ?_ (show out ++ ((n : Int) :: (oe.row ++ or_.body)) = out ++ (O.c n oe or_).body by simp [O.body, O.row])
  simp only [List.append_assoc, List.singleton_append]
  exact this
theorem rowOf_ev {l : List S67} {o : O} (h : IsO l o) (ho : o.body.length ≤ 100000) : Ev (fun k => impl_rowOf.f k l) o.row := by
 have hl := IsO.len h
 have := O.len_le o
 refine ev_s ?_
 simp only [impl_rowOf.f]
 have := rowOf_l0 h [] [(l.length : Int)] (by simp; omega) (by simp; omega)
 rw [List.nil_append] at this
 refine ev_eq this ?_
 rw [O.row, ← hl]; rfl

-- part: oTerms
def O.terms : O → List S67
 | .z => []
 | .c n e r => ⟨(n : Int), O.terms e⟩ :: O.terms r
theorem O.terms_is : ∀ o : O, IsO o.terms o
 | .z => .nil
 | .c n e r => .cons (O.terms_is e) (O.terms_is r)
theorem IsO.terms {l : List S67} {o : O} (h : IsO l o) : l = o.terms := by
 induction h with
 | nil => rfl
 | cons _ _ h1 h2 => rw [O.terms, h1, h2]
def ordI : Ordering → Int
 | .lt => -1
 | .eq => 0
 | .gt => 1
theorem ordI_neg {o : Ordering} : ordI o < 0 ↔ o = .lt := by cases o <;> decide
theorem cmpInt_nat (x y : Nat) : cmp_Compare_int.f (x : Int) (y : Int) = some (ordI (compare x y)) := by
 simp only [cmp_Compare_int.f, cmp_isNaN_int.f, Option.bind_some, bne_self_eq_false, Bool.false_eq_true, if_false]
 by_cases h1 : x < y
 ·
  rw [if_pos (show (x : Int) < (y : Int) by omega), Nat.compare_eq_lt.mpr h1]; rfl
 ·
  by_cases h2 : y < x
  ·
   rw [if_neg (show ¬ ((x : Int) < (y : Int)) by omega), if_pos (show (x : Int) > (y : Int) by omega), Nat.compare_eq_gt.mpr h2]; rfl
  ·
   rw [if_neg (show ¬ ((x : Int) < (y : Int)) by omega), if_neg (show ¬ ((x : Int) > (y : Int)) by omega), Nat.compare_eq_eq.mpr (by omega)]; rfl
theorem ordI_then (a b : Ordering) : ordI (a.then b) = if ordI a = 0 then ordI b else ordI a := by cases a <;> rfl
theorem compare_step (n m : Nat) (e r f s : O) (pa pb : List S67) (hp : pa.length = pb.length) (hb : pa.length ≤ 1000000) (h1 : Ev (fun k => impl_compare.f k e.terms f.terms) (ordI (O.cmp e f)))
  (h2 : Ev (fun k => impl_compare.l0 k (pa ++ ((⟨(n : Int), O.terms e⟩ : S67) :: O.terms r)) (pb ++ ((⟨(m : Int), O.terms f⟩ : S67) :: O.terms s)) ((pa.length + 1 : Nat) : Int)) (ordI (O.cmp r s))) :
  Ev (fun k => impl_compare.l0 k (pa ++ ((⟨(n : Int), O.terms e⟩ : S67) :: O.terms r)) (pb ++ ((⟨(m : Int), O.terms f⟩ : S67) :: O.terms s)) (pa.length : Int)) (ordI (O.cmp (.c n e r) (.c m f s))) := by
 have hla : (pa ++ ((⟨(n : Int), O.terms e⟩ : S67) :: O.terms r)).length = pa.length + (r.terms.length + 1) := by simp
 have hlb : (pb ++ ((⟨(m : Int), O.terms f⟩ : S67) :: O.terms s)).length = pb.length + (s.terms.length + 1) := by simp
 have ea : rd_T67 (pa ++ ((⟨(n : Int), O.terms e⟩ : S67) :: O.terms r)) (pa.length : Int) = ⟨(n : Int), O.terms e⟩ := rd_T67_mid pa r.terms ⟨(n : Int), O.terms e⟩
 have eb : rd_T67 (pb ++ ((⟨(m : Int), O.terms f⟩ : S67) :: O.terms s)) (pa.length : Int) = ⟨(m : Int), O.terms f⟩ := by rw [hp]; exact rd_T67_mid pb s.terms ⟨(m : Int), O.terms f⟩
 generalize pa ++ ((⟨(n : Int), O.terms e⟩ : S67) :: O.terms r) = A at *
 generalize pb ++ ((⟨(m : Int), O.terms f⟩ : S67) :: O.terms s) = B at *
 have ew : wrap64 ((pa.length : Int) + 1) = ((pa.length + 1 : Nat) : Int) := wrap_nat2 pa.length 1 (by omega)
 have g1 : (pa.length : Int) < (A.length : Int) := by omega
 have g2 : (pa.length : Int) < (B.length : Int) := by omega
 refine ev_s ?_
 simp only [impl_compare.l0, if_pos g1, decide_eq_true g2]
 refine ev_s ?_
 simp only [impl_compare.j1, if_true, if_pos (show (0 : Int) ≤ (pa.length : Int) from Int.natCast_nonneg _), if_pos g1, if_pos g2, ea, eb, ew]
 refine Ev.bind h1 ?_
 rw [O.cmp, ordI_then, ordI_then]
 by_cases q1 : ordI (O.cmp e f) = 0
 ·
  simp only [if_pos q1, cmpInt_nat, Option.bind_some]
  by_cases q2 : ordI (compare n m) = 0
  ·
   simp only [if_pos q2]
   exact h2
  ·
   simp only [if_neg q2]
   exact Ev.now _
 ·
  simp only [if_neg q1]
  exact Ev.now _
theorem compare_l0 : ∀ (x y : O) (pa pb : List S67), pa.length = pb.length → pa.length + x.body.length ≤ 1000000 → pb.length + y.body.length ≤ 1000000 →
  Ev (fun k => impl_compare.l0 k (pa ++ x.terms) (pb ++ y.terms) (pa.length : Int)) (ordI (O.cmp x y))
 | .z, .z, pa, pb, hp, _, _ => by
  refine ev_s ?_
  simp only [impl_compare.l0, O.terms, List.append_nil, if_neg (show ¬ ((pa.length : Int) < (pa.length : Int)) by omega)]
  refine ev_s ?_
  simp only [impl_compare.j1, Bool.false_eq_true, if_false, cmpInt_nat, Option.bind_some, hp, Nat.compare_eq_eq.mpr]
  exact Ev.now _
 | .z, .c m f s, pa, pb, hp, _, _ => by
  refine ev_s ?_
  simp only [impl_compare.l0, O.terms, List.append_nil, if_neg (show ¬ ((pa.length : Int) < (pa.length : Int)) by omega)]
  refine ev_s ?_
  have hl : (pb ++ (⟨(m : Int), O.terms f⟩ :: O.terms s : List S67)).length = pb.length + (s.terms.length + 1) := by simp
  simp only [impl_compare.j1, Bool.false_eq_true, if_false, cmpInt_nat, Option.bind_some, hl, Nat.compare_eq_lt.mpr (show pa.length < pb.length + (s.terms.length + 1) by omega)]
  exact Ev.now _
 | .c n e r, .z, pa, pb, hp, _, _ => by
  refine ev_s ?_
  have hl : (pa ++ (⟨(n : Int), O.terms e⟩ :: O.terms r : List S67)).length = pa.length + (r.terms.length + 1) := by simp
  simp only [impl_compare.l0, O.terms, List.append_nil, hl, if_pos (show (pa.length : Int) < ((pa.length + (r.terms.length + 1) : Nat) : Int) by omega), decide_eq_false (show ¬ ((pa.length : Int) < (pb.length : Int)) by omega)]
  refine ev_s ?_
  simp only [impl_compare.j1, Bool.false_eq_true, if_false, hl, cmpInt_nat, Option.bind_some, Nat.compare_eq_gt.mpr (show pb.length < pa.length + (r.terms.length + 1) by omega)]
  exact Ev.now _
 | .c n e r, .c m f s, pa, pb, hp, ha, hb => by
  simp only [O.body, List.length_cons, List.length_append] at ha hb
  have ih1 : Ev (fun k => impl_compare.f k e.terms f.terms) (ordI (O.cmp e f)) := by
   have := compare_l0 e f [] [] rfl (by simp only [List.length_nil]; omega) (by simp only [List.length_nil]; omega)
   rw [List.nil_append, List.nil_append] at this
   refine ev_s ?_
   simp only [impl_compare.f]
   exact this
  have ih2 := compare_l0 r s (pa ++ [⟨(n : Int), e.terms⟩]) (pb ++ [⟨(m : Int), f.terms⟩]) (by simp only [List.length_append, List.length_singleton, hp]) (by simp only [List.length_append, List.length_singleton]; omega) (by simp only [List.length_append, List.length_singleton]; omega)
  simp only [List.append_assoc, List.singleton_append, List.length_append, List.length_singleton] at ih2
  exact compare_step n m e r f s pa pb hp (by omega) ih1 ih2
theorem compare_ev (x y : O) (hx : x.body.length ≤ 100000) (hy : y.body.length ≤ 100000) : Ev (fun k => impl_compare.f k x.terms y.terms) (ordI (O.cmp x y)) := by
 have := compare_l0 x y [] [] rfl (by simp; omega) (by simp; omega)
 rw [List.nil_append, List.nil_append] at this
 refine ev_s ?_
 simp only [impl_compare.f]
 exact this
def O.Sm : O → Prop
 | .z => True
 | .c n e r => (1 ≤ n ∧ n ≤ 9999) ∧ (O.Sm e ∧ e.len ≤ 60) ∧ O.Sm r ∧ O.hd e r
theorem O.Sm.nf : ∀ {o : O}, o.Sm → o.NF
 | .z, _ => trivial
 | .c n e r, h => ⟨h.1.1, O.Sm.nf h.2.1.1, O.Sm.nf h.2.2.1, h.2.2.2⟩
def LastE (pa : List S67) (r : O) : Prop := pa = [] ∨ ∃ pb m f, pa = pb ++ [⟨m, O.terms f⟩] ∧ f.body.length ≤ 100000 ∧ O.hd f r
theorem takeOrd_l0 : ∀ (r : O), r.Sm → ∀ (pa : List S67) (t : List Int), pa.length + r.len ≤ 60 → r.body.length ≤ 100000 → LastE pa r →
  Ev (fun k => impl_takeOrd.l0 k (r.body ++ t) pa ((pa.length + r.len : Nat) : Int) (pa.length : Int)) (pa ++ r.terms, t, true)
 | .z, _, pa, t, _, _, _ => by
  refine ev_s ?_
  simp only [impl_takeOrd.l0, O.len, O.body, O.terms, Nat.add_zero, List.nil_append, List.append_nil, Int.lt_irrefl, if_false]
  exact Ev.now _
 | .c n e r, hs, pa, t, hl, hb, hlast => by
  obtain ⟨hn, ⟨hse, hle⟩, hsr, hhd⟩ := hs
  simp only [O.len] at hl
  simp only [O.body, List.length_cons, List.length_append] at hb
  have ihr := takeOrd_l0 r hsr (pa ++ [⟨(n : Int), e.terms⟩]) t (by simp; omega) (by omega) (.inr ⟨pa, n, e, rfl, by omega, hhd⟩)
  have ihe : Ev (fun k => impl_takeOrd.f k ((e.len : Int) :: (e.body ++ (r.body ++ t)))) (e.terms, r.body ++ t, true) := by
   have := takeOrd_l0 e hse [] (r.body ++ t) (by simpa using hle) (by omega) (.inl rfl)
   simp only [List.length_nil, Nat.zero_add, List.nil_append] at this
   refine ev_s ?_
   have hc : rd ((e.len : Int) :: (e.body ++ (r.body ++ t))) 0 = (e.len : Int) := rfl
   simp only [impl_takeOrd.f, List.length_cons, if_neg (show ¬ (((e.body ++ (r.body ++ t)).length + 1 : Nat) : Int) = 0 by omega), if_pos (show (0 : Int) < (((e.body ++ (r.body ++ t)).length + 1 : Nat) : Int) by omega), if_pos (show (1 : Int) ≤ (((e.body ++ (r.body ++ t)).length + 1 : Nat) : Int) by omega), Option.bind_some, hc, List.drop_succ_cons, List.drop_zero, if_neg (show ¬ ((e.len : Int) < 0) by omega), decide_eq_false (show ¬ ((e.len : Int) > 60) by omega)]
   refine ev_s ?_
   simp only [impl_takeOrd.j0, Bool.false_eq_true, if_false]
   exact this
  have hbody : (O.c n e r).body ++ t = (n : Int) :: ((e.len : Int) :: (e.body ++ (r.body ++ t))) := by simp [O.body]
  have hc : rd ((n : Int) :: ((e.len : Int) :: (e.body ++ (r.body ++ t)))) 0 = (n : Int) := rfl
  have hw : wrap64 ((pa.length : Int) + 1) = (((pa ++ [(⟨(n : Int), e.terms⟩ : S67)]).length : Nat) : Int) := by
   rw [List.length_append, List.length_singleton]; exact wrap_nat2 pa.length 1 (by omega)
  have hcnt : ((pa.length + (O.c n e r).len : Nat) : Int) = (((pa ++ [(⟨(n : Int), e.terms⟩ : S67)]).length + r.len : Nat) : Int) := by
   simp only [O.len, List.length_append, List.length_singleton]; omega
  have hres : pa ++ (O.c n e r).terms = pa ++ [(⟨(n : Int), e.terms⟩ : S67)] ++ r.terms := by simp [O.terms]
  rw [hbody, hres]
  refine ev_s ?_
  simp only [impl_takeOrd.l0, List.length_cons, if_pos (show (pa.length : Int) < ((pa.length + (O.c n e r).len : Nat) : Int) by simp only [O.len]; omega), hc]
  have hlen : (((e.len : Int) :: (e.body ++ (r.body ++ t))).length : Nat) = (e.body ++ (r.body ++ t)).length + 1 := by simp
  simp only [if_neg (show ¬ ((((e.body ++ (r.body ++ t)).length + 1 + 1 : Nat) : Int) = 0) by omega), if_pos (show (0 : Int) < (((e.body ++ (r.body ++ t)).length + 1 + 1 : Nat) : Int) by omega), if_neg (show ¬ ((n : Int) < 1) by omega), decide_eq_false (show ¬ ((n : Int) > 9999) by omega)]
  refine ev_s ?_
  simp only [impl_takeOrd.j2, Bool.false_eq_true, if_false, List.length_cons, if_pos (show (1 : Int) ≤ (((e.body ++ (r.body ++ t)).length + 1 + 1 : Nat) : Int) by omega), List.drop_succ_cons, List.drop_zero]
  refine Ev.bind ihe ?_
  simp only [if_true, if_pos (show (0 : Int) < (((e.body ++ (r.body ++ t)).length + 1 + 1 : Nat) : Int) by omega), hc, if_pos (show pa.length < 4398046511104 by omega), hw, hcnt]
  rcases hlast with h0 | ⟨pb, m, f, hpa, hfb, hfd⟩
  ·
   simp only [if_neg (show ¬ ((pa.length : Int) > 0) by rw [h0]; simp)]
   exact ihr
  ·
   have hpl : pa.length = pb.length + 1 := by rw [hpa]; simp
   have hw1 : wrap64 ((pa.length : Int) - 1) = (pb.length : Int) := by rw [wrap_in (by omega) (by omega)]; omega
   have hrd : rd_T67 pa (pb.length : Int) = ⟨m, O.terms f⟩ := by rw [hpa]; exact rd_T67_mid pb [] ⟨m, O.terms f⟩
   simp only [if_pos (show (pa.length : Int) > 0 by omega), hw1, if_pos (show (0 : Int) ≤ (pb.length : Int) by omega), if_pos (show (pb.length : Int) < (pa.length : Int) by omega), hrd]
   refine Ev.bind (compare_ev e f (by omega) hfb) ?_
   have : ordI (O.cmp e f) = -1 := by rw [show O.cmp e f = .lt from hfd]; rfl
   simp only [this, if_neg (show ¬ ((-1 : Int) ≥ 0) by decide)]
   exact ihr
theorem takeOrd_ev {o : O} (hs : o.Sm) (hl : o.len ≤ 60) (hb : o.body.length ≤ 100000) (t : List Int) : Ev (fun k => impl_takeOrd.f k (o.row ++ t)) (o.terms, t, true) := by
 have := takeOrd_l0 o hs [] t (by simpa using hl) hb (.inl rfl)
 simp only [List.length_nil, Nat.zero_add, List.nil_append] at this
 refine ev_s ?_
 have hc : rd ((o.len : Int) :: (o.body ++ t)) 0 = (o.len : Int) := rfl
 simp only [O.row, List.cons_append, impl_takeOrd.f, List.length_cons, if_neg (show ¬ (((o.body ++ t).length + 1 : Nat) : Int) = 0 by omega), if_pos (show (0 : Int) < (((o.body ++ t).length + 1 : Nat) : Int) by omega), if_pos (show (1 : Int) ≤ (((o.body ++ t).length + 1 : Nat) : Int) by omega), Option.bind_some, hc, List.drop_succ_cons, List.drop_zero, if_neg (show ¬ ((o.len : Int) < 0) by omega), decide_eq_false (show ¬ ((o.len : Int) > 60) by omega)]
 refine ev_s ?_
 simp only [impl_takeOrd.j0, Bool.false_eq_true, if_false]
 exact this
theorem ordOf_ev {o : O} (hs : o.Sm) (hb : o.row.length ≤ 60) : Ev (fun k => impl_ordOf.f k o.row) (o.terms, true) := by
 have hlb := O.len_le o
 have hr : o.row.length = o.body.length + 1 := by simp [O.row]
 have h := takeOrd_ev hs (by omega) (by omega) []
 rw [List.append_nil] at h
 simp only [impl_ordOf.f, if_neg (show ¬ ((o.row.length : Int) < 1) by omega), if_neg (show ¬ ((o.row.length : Int) > 60) by omega)]
 refine Ev.bind h ?_
 simp only [if_true]
 exact ev_now (by simp)

-- part: l1Make
def zipB : List Int → List (List Int) → List Int
 | t :: ts, e :: es => t :: e ++ zipB ts es
 | _, _ => []
theorem zipB_drop {t : List Int} {e : List (List Int)} {i : Nat} (ht : i < t.length) (he : i < e.length) : zipB (t.drop i) (e.drop i) = t[i] :: e[i] ++ zipB (t.drop (i + 1)) (e.drop (i + 1)) := by
 rw [List.drop_eq_getElem_cons ht, List.drop_eq_getElem_cons he]; rfl
theorem rdL1_get {xs : List (List Int)} {i : Nat} (h : i < xs.length) : rd_L3 xs (i : Int) = xs[i] := by simp [rd_L3, h]
theorem l1Make_l0 (t : List Int) (e : List (List Int)) (hl : t.length = e.length) (hb : t.length ≤ 1000000) : ∀ (d i : Nat) (out : List Int), i + d = t.length → out.length + (zipB (t.drop i) (e.drop i)).length ≤ 1000000 → Ev (fun k => spec_l1Make.l0 k t e out (i : Int)) (out ++ zipB (t.drop i) (e.drop i)) := by
 intro d
 induction d with
 | zero =>
  intro i out h _
  refine ev_s ?_
  simp only [spec_l1Make.l0, if_neg (show ¬ ((i : Int) < (t.length : Int)) by omega)]
  rw [List.drop_of_length_le (by omega)]
  exact ev_now (by simp [zipB])
 | succ d ih =>
  intro i out h ho
  rw [zipB_drop (show i < t.length by omega) (show i < e.length by omega)] at ho
  simp only [List.length_append, List.length_cons] at ho
  refine ev_s ?_
  simp only [spec_l1Make.l0, if_pos (show (i : Int) < (t.length : Int) by omega), if_pos (show (0 : Int) ≤ (i : Int) by omega), if_pos (show (i : Int) < (e.length : Int) by omega), if_pos (show out.length < 17592186044416 by omega), Option.bind_some, rdL1_get (show i < e.length by omega), rd_get (show i < t.length by omega), show wrap64 ((i : Int) + 1) = ((i + 1 : Nat) : Int) by rw [wrap_in (by omega) (by omega)]; rfl, List.length_append, List.length_singleton, if_pos (show out.length + 1 + e[i].length < 17592186044416 by omega)]
  refine ev_eq (ih (i + 1) _ (by omega) (by simp; omega)) ?_
  rw [zipB_drop (show i < t.length by omega) (show i < e.length by omega)]
  simp
theorem l1Make_ev (t : List Int) (e : List (List Int)) (hl : t.length = e.length) (hb : t.length ≤ 100000) (hz : (zipB t e).length ≤ 100000) : Ev (fun k => spec_l1Make.f k t e) ((t.length : Int) :: zipB t e) := by
 simp only [spec_l1Make.f]
 exact l1Make_l0 t e hl (by omega) t.length 0 [(t.length : Int)] (by omega) (by simp; omega)

-- part: oSpec
theorem O.row_length (o : O) : o.row.length = o.body.length + 1 := by simp [O.row]
theorem O.body_c (n : Nat) (e r : O) : (O.c n e r).body = (n : Int) :: (e.row ++ r.body) := by simp [O.body, O.row]
def O.ns : O → List Int
 | .z => []
 | .c n _ r => (n : Int) :: O.ns r
def O.es : O → List (List Int)
 | .z => []
 | .c _ e r => e.row :: O.es r
theorem rd_L3_at (pre suf : List (List Int)) (x : List Int) : rd_L3 (pre ++ x :: suf) ((pre.length : Nat) : Int) = x := by simp [rd_L3]
theorem l1Span_l0 : ∀ (s : O) (pre t l : List Int) (i : Nat), l = pre ++ s.body ++ t → l.length ≤ 1000000 → i + s.body.length ≤ 1000000 →
  Ev (fun k => spec_l1Span.l0 k l (pre.length : Int) ((i + s.len : Nat) : Int) (i : Int)) ((pre.length + s.body.length : Nat) : Int)
 | .z, pre, t, l, i, _, _, _ => by
  refine ev_s ?_
  simp only [spec_l1Span.l0, O.len, O.body, Nat.add_zero, Int.lt_irrefl, if_false, List.length_nil]
  exact Ev.now _
 | .c n e r, pre, t, l, i, hl, hb, hi => by
  have hrl := O.row_length e
  have hbl := O.len_le e
  have hlen : l.length = pre.length + (e.body.length + r.body.length + 2) + t.length := by rw [hl, O.body_c]; simp; omega
  rw [O.body_c] at hi
  simp only [List.length_cons, List.length_append] at hi
  have he : Ev (fun k => spec_l1Span.f k l ((pre.length + 1 : Nat) : Int)) ((pre.length + 1 + e.row.length : Nat) : Int) := by
   have hp : pre.length + 1 < l.length := by omega
   have hx : rd l ((pre.length + 1 : Nat) : Int) = (e.len : Int) := by
    rw [rd_get hp]
    subst hl
    simp [O.body_c, O.row]
   have ih := l1Span_l0 e (pre ++ [(n : Int), (e.len : Int)]) (r.body ++ t) l 0 (by rw [hl]; simp [O.body_c, O.row]) hb (by omega)
   simp only [List.length_append, List.length_cons, List.length_nil, Nat.zero_add] at ih
   refine ev_s ?_
   simp only [spec_l1Span.f, if_pos (show (0 : Int) ≤ ((pre.length + 1 : Nat) : Int) by omega), if_pos (show ((pre.length + 1 : Nat) : Int) < (l.length : Int) by omega), hx, show wrap64 (((pre.length + 1 : Nat) : Int) + 1) = ((pre.length + (0 + 1 + 1) : Nat) : Int) by rw [wrap_in (by omega) (by omega)]; omega]
   exact ev_eq ih (by omega)
  have ihr := l1Span_l0 r (pre ++ (n : Int) :: e.row) t l (i + 1) (by rw [hl, O.body_c]; simp) hb (by omega)
  have hpl : (pre ++ (n : Int) :: e.row).length = pre.length + 1 + e.row.length := by simp; omega
  rw [hpl] at ihr
  refine ev_s ?_
  simp only [spec_l1Span.l0, if_pos (show (i : Int) < ((i + (O.c n e r).len : Nat) : Int) by simp only [O.len]; omega), show wrap64 ((pre.length : Int) + 1) = ((pre.length + 1 : Nat) : Int) from wrap_nat2 _ 1 (by omega), show wrap64 ((i : Int) + 1) = ((i + 1 : Nat) : Int) from wrap_nat2 i 1 (by omega)]
  refine Ev.bind he ?_
  rw [show ((i + (O.c n e r).len : Nat) : Int) = ((i + 1 + r.len : Nat) : Int) by simp only [O.len]; omega]
  exact ev_eq ihr (by rw [O.body_c]; simp only [List.length_cons, List.length_append]; omega)
theorem l1Span_row {e : O} (pre t : List Int) (hb : (pre ++ e.row ++ t).length ≤ 1000000) : Ev (fun k => spec_l1Span.f k (pre ++ e.row ++ t) (pre.length : Int)) ((pre.length + e.row.length : Nat) : Int) := by
 have hrl := O.row_length e
 have hl : (pre ++ e.row ++ t).length = pre.length + e.row.length + t.length := by simp only [List.length_append]
 have hp : pre.length < (pre ++ e.row ++ t).length := by omega
 have hx : rd (pre ++ e.row ++ t) ((pre.length : Nat) : Int) = (e.len : Int) := by rw [rd_get hp]; simp [O.row]
 have ih := l1Span_l0 e (pre ++ [(e.len : Int)]) t (pre ++ e.row ++ t) 0 (by simp [O.row]) hb (by omega)
 simp only [List.length_append, List.length_singleton, Nat.zero_add] at ih
 refine ev_s ?_
 simp only [spec_l1Span.f, if_pos (show (0 : Int) ≤ (pre.length : Int) by omega), if_pos (show (pre.length : Int) < ((pre ++ e.row ++ t).length : Int) by omega), hx, show wrap64 ((pre.length : Int) + 1) = ((pre.length + 1 : Nat) : Int) from wrap_nat2 _ 1 (by omega)]
 exact ev_eq ih (by omega)
theorem l1Terms_l0 : ∀ (s : O) (pre : List Int) (ns : List Int) (es : List (List Int)), (pre ++ s.body).length ≤ 1000000 → ns.length + s.len ≤ 1000000 → es.length + s.len ≤ 1000000 →
  Ev (fun k => spec_l1Terms.l0 k (pre ++ s.body) ns es (pre.length : Int)) (ns ++ s.ns, es ++ s.es)
 | .z, pre, ns, es, _, _, _ => by
  refine ev_s ?_
  simp only [spec_l1Terms.l0, O.body, O.ns, O.es, List.append_nil, Int.lt_irrefl, if_false]
  exact Ev.now _
 | .c n e r, pre, ns, es, hb, hn, he => by
  simp only [O.len] at hn he
  have hrl := O.row_length e
  have e0 : pre ++ (O.c n e r).body = (pre ++ [(n : Int)]) ++ e.row ++ r.body := by rw [O.body_c]; simp
  have hlen : (pre ++ (O.c n e r).body).length = pre.length + 1 + e.row.length + r.body.length := by rw [e0]; simp; omega
  have hsp := l1Span_row (e := e) (pre ++ [(n : Int)]) r.body (by rw [← e0]; exact hb)
  have hpl : (pre ++ [(n : Int)]).length = pre.length + 1 := by simp
  have hcut : (((pre ++ [(n : Int)]) ++ e.row ++ r.body).take (pre.length + 1 + e.row.length)).drop (pre.length + 1) = e.row := by
   rw [show pre.length + 1 + e.row.length = ((pre ++ [(n : Int)]) ++ e.row).length by simp; omega, List.take_left', List.drop_left' (by simp)]
   rfl
  have hx : rd ((pre ++ [(n : Int)]) ++ e.row ++ r.body) ((pre.length : Nat) : Int) = (n : Int) := by rw [rd_get (by rw [← e0]; omega)]; simp
  have ihr := l1Terms_l0 r ((pre ++ [(n : Int)]) ++ e.row) (ns ++ [(n : Int)]) (es ++ [e.row]) (by rw [← e0]; exact hb) (by simp; omega) (by simp; omega)
  have hpl2 : ((pre ++ [(n : Int)]) ++ e.row).length = pre.length + 1 + e.row.length := by simp; omega
  rw [hpl2] at ihr
  rw [hpl] at hsp
  rw [e0] at hb hlen ⊢
  generalize (pre ++ [(n : Int)]) ++ e.row ++ r.body = l at *
  refine ev_s ?_
  simp only [spec_l1Terms.l0, if_pos (show (pre.length : Int) < (l.length : Int) by omega), show wrap64 ((pre.length : Int) + 1) = ((pre.length + 1 : Nat) : Int) from wrap_nat2 _ 1 (by omega)]
  refine Ev.bind hsp ?_
  simp only [if_pos (show (0 : Int) ≤ (pre.length : Int) by omega), if_pos (show ns.length < 17592186044416 by omega), if_pos (show (0 : Int) ≤ ((pre.length + 1 : Nat) : Int) by omega), if_pos (show ((pre.length + 1 : Nat) : Int) ≤ ((pre.length + 1 + e.row.length : Nat) : Int) by omega), if_pos (show ((pre.length + 1 + e.row.length : Nat) : Int) ≤ (l.length : Int) by omega), if_pos (show es.length < 5864062014805 by omega), hx, Int.toNat_natCast, hcut]
  refine ev_eq ihr ?_
  simp [O.ns, O.es]
theorem l1Terms_ev {o : O} (hl : o.row.length ≤ 100000) : Ev (fun k => spec_l1Terms.f k o.row) (o.ns, o.es) := by
 have hr := O.row_length o
 have hle := O.len_le o
 have := l1Terms_l0 o [(o.len : Int)] [] [] (by simp; omega) (by simp; omega) (by simp; omega)
 simp only [spec_l1Terms.f]
 exact this
theorem l1Compare_l0 : ∀ (x y : O) (pa pb : List Int) (qa qb : List (List Int)), pa.length = pb.length → pa.length = qa.length → pa.length = qb.length → pa.length + x.body.length ≤ 100000 → pb.length + y.body.length ≤ 100000 →
  Ev (fun k => spec_l1Compare.l0 k (pa ++ x.ns) (qa ++ x.es) (pb ++ y.ns) (qb ++ y.es) (pa.length : Int)) (ordI (O.cmp x y))
 | .z, .z, pa, pb, qa, qb, h1, h2, h3, _, _ => by
  refine ev_s ?_
  simp only [spec_l1Compare.l0, O.ns, O.es, List.append_nil, Int.lt_irrefl, if_false]
  refine ev_s ?_
  simp only [spec_l1Compare.j1, Bool.false_eq_true, if_false, h1, Int.lt_irrefl, if_neg (show ¬ ((pb.length : Int) > (pb.length : Int)) by omega)]
  exact Ev.now _
 | .z, .c m f s, pa, pb, qa, qb, h1, h2, h3, _, _ => by
  refine ev_s ?_
  simp only [spec_l1Compare.l0, O.ns, O.es, List.append_nil, Int.lt_irrefl, if_false]
  refine ev_s ?_
  simp only [spec_l1Compare.j1, Bool.false_eq_true, if_false, if_pos (show (pa.length : Int) < ((pb ++ (m : Int) :: s.ns).length : Int) by simp; omega)]
  exact Ev.now _
 | .c n e r, .z, pa, pb, qa, qb, h1, h2, h3, _, _ => by
  refine ev_s ?_
  simp only [spec_l1Compare.l0, O.ns, O.es, List.append_nil, if_pos (show (pa.length : Int) < ((pa ++ (n : Int) :: r.ns).length : Int) by simp; omega), decide_eq_false (show ¬ ((pa.length : Int) < (pb.length : Int)) by omega)]
  refine ev_s ?_
  simp only [spec_l1Compare.j1, Bool.false_eq_true, if_false, if_neg (show ¬ (((pa ++ (n : Int) :: r.ns).length : Int) < (pb.length : Int)) by simp; omega), if_pos (show (((pa ++ (n : Int) :: r.ns).length : Int) > (pb.length : Int)) by simp; omega)]
  exact Ev.now _
 | .c n e r, .c m f s, pa, pb, qa, qb, h1, h2, h3, ha, hb => by
  rw [O.body_c] at ha hb
  simp only [List.length_cons, List.length_append] at ha hb
  have hre := O.row_length e
  have hrf := O.row_length f
  have ih1 : Ev (fun k => spec_l1Compare.f k e.row f.row) (ordI (O.cmp e f)) := by
   have := l1Compare_l0 e f [] [] [] [] rfl rfl rfl (by simp only [List.length_nil]; omega) (by simp only [List.length_nil]; omega)
   simp only [List.nil_append] at this
   refine ev_s ?_
   simp only [spec_l1Compare.f]
   refine Ev.bind (l1Terms_ev (by omega)) ?_
   exact Ev.bind (l1Terms_ev (by omega)) this
  have ih2 := l1Compare_l0 r s (pa ++ [(n : Int)]) (pb ++ [(m : Int)]) (qa ++ [e.row]) (qb ++ [f.row]) (by simp [h1]) (by simp [h2]) (by simp [h3]) (by simp; omega) (by simp; omega)
  simp only [List.append_assoc, List.singleton_append, List.length_append, List.length_singleton] at ih2
  simp only [O.ns, O.es]
  have ea : rd (pa ++ (n : Int) :: r.ns) (pa.length : Int) = (n : Int) := by rw [rd_eq]; simp
  have eb : rd (pb ++ (m : Int) :: s.ns) (pa.length : Int) = (m : Int) := by rw [h1, rd_eq]; simp
  have ec : rd_L3 (qa ++ e.row :: r.es) (pa.length : Int) = e.row := by rw [h2]; exact rd_L3_at qa r.es e.row
  have ed : rd_L3 (qb ++ f.row :: s.es) (pa.length : Int) = f.row := by rw [h3]; exact rd_L3_at qb s.es f.row
  have g1 : (pa.length : Int) < ((pa ++ (n : Int) :: r.ns).length : Int) := by simp; omega
  have g2 : (pa.length : Int) < ((pb ++ (m : Int) :: s.ns).length : Int) := by simp; omega
  have g3 : (pa.length : Int) < ((qa ++ e.row :: r.es).length : Int) := by simp; omega
  have g4 : (pa.length : Int) < ((qb ++ f.row :: s.es).length : Int) := by simp; omega
  refine ev_s ?_
  simp only [spec_l1Compare.l0, if_pos g1, decide_eq_true g2]
  refine ev_s ?_
  simp only [spec_l1Compare.j1, if_true, if_pos (show (0 : Int) ≤ (pa.length : Int) from Int.natCast_nonneg _), if_pos g1, if_pos g2, if_pos g3, if_pos g4, ea, eb, ec, ed, show wrap64 ((pa.length : Int) + 1) = ((pa.length + 1 : Nat) : Int) from wrap_nat2 _ 1 (by omega)]
  refine Ev.bind ih1 ?_
  rw [O.cmp, ordI_then, ordI_then]
  by_cases q1 : ordI (O.cmp e f) = 0
  ·
   simp only [if_pos q1]
   rcases Nat.lt_trichotomy n m with h | h | h
   ·
    simp only [if_neg (show ¬ ((n : Int) = (m : Int)) by omega), if_pos (show (n : Int) < (m : Int) by omega), Nat.compare_eq_lt.mpr h, ordI, show ¬ ((-1 : Int) = 0) by decide, if_false]
    exact Ev.now _
   ·
    subst h
    simp only [if_true, Nat.compare_eq_eq.mpr, ordI]
    exact ih2
   ·
    simp only [if_neg (show ¬ ((n : Int) = (m : Int)) by omega), if_neg (show ¬ ((n : Int) < (m : Int)) by omega), Nat.compare_eq_gt.mpr h, ordI, show ¬ ((1 : Int) = 0) by decide, if_false]
    exact Ev.now _
  ·
   simp only [if_neg q1]
   exact Ev.now _
theorem l1Compare_ev (x y : O) (hx : x.row.length ≤ 50000) (hy : y.row.length ≤ 50000) : Ev (fun k => spec_l1Compare.f k x.row y.row) (ordI (O.cmp x y)) := by
 have hrx := O.row_length x
 have hry := O.row_length y
 have := l1Compare_l0 x y [] [] [] [] rfl rfl rfl (by simp; omega) (by simp; omega)
 simp only [List.nil_append] at this
 refine ev_s ?_
 simp only [spec_l1Compare.f]
 refine Ev.bind (l1Terms_ev (by omega)) ?_
 exact Ev.bind (l1Terms_ev (by omega)) this

-- part: oSize
def O.size : O → Nat
 | .z => 1
 | .c n e r => n * O.size e + O.size r
theorem O.row_le_size : ∀ {x : O}, x.NF → x.row.length + 1 ≤ 2 * x.size
 | .z, _ => by simp [O.row, O.body, O.size]
 | .c n e r, h => by
  have h1 := O.row_le_size h.2.1
  have h2 := O.row_le_size h.2.2.1
  have h3 : e.size ≤ n * e.size := Nat.le_mul_of_pos_left _ h.1
  rw [O.row_length] at h2 ⊢
  rw [O.body_c]
  simp only [List.length_cons, List.length_append, O.size]
  omega

-- part: oValid
def O.fol : Option O → O → Prop
 | none, _ => True
 | some f, e => O.cmp e f = .lt
def O.folr (L : Option O) : O → Prop
 | .z => True
 | .c _ e _ => O.fol L e
theorem O.folr_hd {e : O} : ∀ {r : O}, O.folr (some e) r → O.hd e r
 | .z, _ => trivial
 | .c _ _ _, h => h
inductive BadO : Nat → Option O → List Int → Prop where
 | nil (m : Nat) (L : Option O) : BadO (m + 1) L []
 | out (m : Nat) (L : Option O) (x : Int) (r : List Int) (h : x < 1 ∨ 9999 < x) : BadO (m + 1) L (x :: r)
 | head (m : Nat) (L : Option O) (x : Int) (r : List Int) (h1 : 1 ≤ x) (h2 : x ≤ 9999) (h : r = [] ∨ ∃ y t, r = y :: t ∧ (y < 0 ∨ 60 < y)) : BadO (m + 1) L (x :: r)
 | deep (m : Nat) (L : Option O) (x y : Int) (r : List Int) (h1 : 1 ≤ x) (h2 : x ≤ 9999) (h3 : 0 ≤ y) (h4 : y ≤ 60) (h : BadO y.toNat none r) : BadO (m + 1) L (x :: y :: r)
 | order (m : Nat) (f e : O) (x : Int) (t : List Int) (h1 : 1 ≤ x) (h2 : x ≤ 9999) (he : e.Sm) (hl : e.len ≤ 60) (hb : e.row.length ≤ 60) (h : O.cmp e f ≠ .lt) : BadO (m + 1) (some f) (x :: (e.row ++ t))
 | next (m : Nat) (L : Option O) (e : O) (x : Int) (t : List Int) (h1 : 1 ≤ x) (h2 : x ≤ 9999) (he : e.Sm) (hl : e.len ≤ 60) (hb : e.row.length ≤ 60) (hf : O.fol L e) (h : BadO m (some e) t) : BadO (m + 1) L (x :: (e.row ++ t))
theorem ord_total : ∀ (n : Nat), n ≤ 60 → ∀ (m : Nat) (L : Option O) (l : List Int), l.length ≤ n → (∃ r t, l = O.body r ++ t ∧ r.len = m ∧ r.Sm ∧ O.folr L r) ∨ BadO m L l
 | n, hn, 0, L, l, _ => .inl ⟨.z, l, rfl, rfl, trivial, trivial⟩
 | n, hn, m + 1, L, [], _ => .inr (.nil m L)
 | 0, hn, m + 1, L, x :: r, h => by simp at h
 | n + 1, hn, m + 1, L, x :: r, h => by
  simp only [List.length_cons, Nat.add_le_add_iff_right] at h
  by_cases hx : x < 1 ∨ 9999 < x
  ·
   exact .inr (.out m L x r hx)
  ·
   match r, h with
   | [], _ => exact .inr (.head m L x [] (by omega) (by omega) (.inl rfl))
   | y :: r, h =>
    simp only [List.length_cons] at h
    by_cases hy : y < 0 ∨ 60 < y
    ·
     exact .inr (.head m L x _ (by omega) (by omega) (.inr ⟨y, r, rfl, hy⟩))
    ·
     rcases ord_total n (by omega) y.toNat none r (by omega) with ⟨s, t, hs, hl, hsm, _⟩ | hb
     ·
      have hyl : y = (s.len : Int) := by omega
      have he : y :: r = s.row ++ t := by rw [hs, hyl]; rfl
      have hsl := O.row_length s
      have hlr : r.length = s.body.length + t.length := by rw [hs, List.length_append]
      rw [he]
      by_cases hf : O.fol L s
      ·
       rcases ord_total n (by omega) m (some s) t (by omega) with ⟨r2, t2, hs2, hl2, hsm2, hf2⟩ | hb
       ·
        refine .inl ⟨.c x.toNat s r2, t2, ?_, by rw [O.len, hl2], ⟨⟨by omega, by omega⟩, ⟨hsm, by omega⟩, hsm2, O.folr_hd hf2⟩, hf⟩
        rw [O.body_c, hs2, show ((x.toNat : Nat) : Int) = x by omega]; simp
       ·
        exact .inr (.next m L s x t (by omega) (by omega) hsm (by omega) (by omega) hf hb)
      ·
       cases L with
       | none => exact absurd trivial hf
       | some f => exact .inr (.order m f s x t (by omega) (by omega) hsm (by omega) (by omega) hf)
     ·
      exact .inr (.deep m L x y r (by omega) (by omega) (by omega) (by omega) hb)
def NoOrd (l : List Int) : Prop := 60 < l.length ∨ l = [] ∨ (∃ y r, l = y :: r ∧ (y < 0 ∨ 60 < y)) ∨ (∃ y r, l = y :: r ∧ 0 ≤ y ∧ y ≤ 60 ∧ BadO y.toNat none r) ∨ ∃ (o : O) (x : Int) (t : List Int), l = o.row ++ x :: t ∧ o.Sm ∧ o.len ≤ 60
theorem ord_or (l : List Int) : (∃ o : O, l = o.row ∧ o.Sm ∧ o.row.length ≤ 60) ∨ NoOrd l := by
 by_cases h60 : 60 < l.length
 ·
  exact .inr (.inl h60)
 ·
  match l, h60 with
  | [], _ => exact .inr (.inr (.inl rfl))
  | y :: r, h60 =>
   simp only [List.length_cons] at h60
   by_cases hy : y < 0 ∨ 60 < y
   ·
    exact .inr (.inr (.inr (.inl ⟨y, r, rfl, hy⟩)))
   ·
    rcases ord_total 60 (Nat.le_refl _) y.toNat none r (by omega) with ⟨s, t, hs, hl, hsm, _⟩ | hb
    ·
     have hyl : y = (s.len : Int) := by omega
     have he : y :: r = s.row ++ t := by rw [hs, hyl]; rfl
     cases t with
     | nil =>
      rw [List.append_nil] at he
      exact .inl ⟨s, he, hsm, by rw [← he, List.length_cons]; omega⟩
     | cons x t => exact .inr (.inr (.inr (.inr (.inr ⟨s, x, t, he, hsm, by omega⟩))))
    ·
     exact .inr (.inr (.inr (.inr (.inl ⟨y, r, rfl, by omega, by omega, hb⟩))))
theorem takeOrd_in {y : Int} {r : List Int} (h0 : 0 ≤ y) (h1 : y ≤ 60) {q : (List S67) × List Int × Bool} (h : Ev (fun k => impl_takeOrd.l0 k r [] y 0) q) : Ev (fun k => impl_takeOrd.f k (y :: r)) q := by
 have hc : rd (y :: r) 0 = y := rfl
 refine ev_s ?_
 simp only [impl_takeOrd.f, hc, if_neg (show ¬ (((y :: r).length : Int) = 0) by simp only [List.length_cons]; omega), if_pos (show (0 : Int) < ((y :: r).length : Int) by simp only [List.length_cons]; omega), if_pos (show (1 : Int) ≤ ((y :: r).length : Int) by simp only [List.length_cons]; omega), Option.bind_some, List.drop_succ_cons, List.drop_zero, if_neg (show ¬ (y < 0) by omega), decide_eq_false (show ¬ (y > 60) by omega)]
 refine ev_s ?_
 simp only [impl_takeOrd.j0, Bool.false_eq_true, if_false]
 exact h
theorem takeOrd_out {l : List Int} (h : l = [] ∨ ∃ y r, l = y :: r ∧ (y < 0 ∨ 60 < y)) : Ev (fun k => impl_takeOrd.f k l) ([], [], false) := by
 refine ev_s ?_
 rcases h with rfl | ⟨y, r, rfl, hy⟩
 ·
  simp only [impl_takeOrd.f, List.length_nil, if_pos (show ((0 : Nat) : Int) = 0 from rfl)]
  exact Ev.now _
 ·
  have hc : rd (y :: r) 0 = y := rfl
  have hj : Ev (fun k => impl_takeOrd.j0 k r y [] true) ([], [], false) := by
   refine ev_s ?_
   simp only [impl_takeOrd.j0, if_true]
   exact Ev.now _
  simp only [impl_takeOrd.f, hc, if_neg (show ¬ (((y :: r).length : Int) = 0) by simp only [List.length_cons]; omega), if_pos (show (0 : Int) < ((y :: r).length : Int) by simp only [List.length_cons]; omega), if_pos (show (1 : Int) ≤ ((y :: r).length : Int) by simp only [List.length_cons]; omega), Option.bind_some, List.drop_succ_cons, List.drop_zero]
  by_cases h0 : y < 0
  ·
   simp only [if_pos h0]; exact hj
  ·
   simp only [if_neg h0, decide_eq_true (show y > 60 by omega)]; exact hj
def LastO (pa : List S67) : Option O → Prop
 | none => pa = []
 | some f => ∃ pb n, pa = pb ++ [⟨n, O.terms f⟩] ∧ f.row.length ≤ 60
theorem takeOrd_bad {m : Nat} {L : Option O} {l : List Int} (h : BadO m L l) : ∀ (pa : List S67), LastO pa L → pa.length + m ≤ 1000 → Ev (fun k => impl_takeOrd.l0 k l pa ((pa.length + m : Nat) : Int) (pa.length : Int)) ([], [], false) := by
 -- a term whose number is out of bounds, or that is not there
 have j2 : ∀ (l : List Int) (pa : List S67) (i n j : Int), Ev (fun k => impl_takeOrd.j2 k l pa i n j true) ([], [], false) := by
  intro l pa i n j
  refine ev_s ?_
  simp only [impl_takeOrd.j2, if_true]
  exact Ev.now _
 -- a term whose exponent is read, or not
 have term : ∀ (m : Nat) (x : Int) (r : List Int) (pa : List S67) (q : (List S67) × List Int × Bool), 1 ≤ x → x ≤ 9999 → Ev (fun k => impl_takeOrd.j2 k (x :: r) pa (pa.length : Int) ((pa.length + (m + 1) : Nat) : Int) (pa.length : Int) false) q → Ev (fun k => impl_takeOrd.l0 k (x :: r) pa ((pa.length + (m + 1) : Nat) : Int) (pa.length : Int)) q := by
  intro m x r pa q h1 h2 hj
  have hc : rd (x :: r) 0 = x := rfl
  refine ev_s ?_
  simp only [impl_takeOrd.l0, if_pos (show (pa.length : Int) < ((pa.length + (m + 1) : Nat) : Int) by omega), if_neg (show ¬ (((x :: r).length : Int) = 0) by simp only [List.length_cons]; omega), if_pos (show (0 : Int) < ((x :: r).length : Int) by simp only [List.length_cons]; omega), hc, if_neg (show ¬ (x < 1) by omega), decide_eq_false (show ¬ (x > 9999) by omega)]
  exact hj
 have fall : ∀ (m : Nat) (x : Int) (r : List Int) (pa : List S67) {a : List S67} {t : List Int}, 1 ≤ x → x ≤ 9999 → Ev (fun k => impl_takeOrd.f k r) (a, t, false) → Ev (fun k => impl_takeOrd.l0 k (x :: r) pa ((pa.length + (m + 1) : Nat) : Int) (pa.length : Int)) ([], [], false) := by
  intro m x r pa a t h1 h2 hf
  refine term m x r pa _ h1 h2 ?_
  refine ev_s ?_
  simp only [impl_takeOrd.j2, Bool.false_eq_true, if_false, if_pos (show (1 : Int) ≤ ((x :: r).length : Int) by simp only [List.length_cons]; omega), List.drop_succ_cons, List.drop_zero]
  refine Ev.bind hf ?_
  simp only [Bool.false_eq_true, if_false]
  exact Ev.now _
 induction h with
 | nil m L =>
  intro pa _ _
  refine ev_s ?_
  simp only [impl_takeOrd.l0, if_pos (show (pa.length : Int) < ((pa.length + (m + 1) : Nat) : Int) by omega), List.length_nil, if_pos (show ((0 : Nat) : Int) = 0 from rfl)]
  exact j2 _ _ _ _ _
 | out m L x r h =>
  intro pa _ _
  have hc : rd (x :: r) 0 = x := rfl
  refine ev_s ?_
  simp only [impl_takeOrd.l0, if_pos (show (pa.length : Int) < ((pa.length + (m + 1) : Nat) : Int) by omega), if_neg (show ¬ (((x :: r).length : Int) = 0) by simp only [List.length_cons]; omega), if_pos (show (0 : Int) < ((x :: r).length : Int) by simp only [List.length_cons]; omega), hc]
  by_cases h0 : x < 1
  ·
   simp only [if_pos h0]; exact j2 _ _ _ _ _
  ·
   simp only [if_neg h0, decide_eq_true (show x > 9999 by omega)]; exact j2 _ _ _ _ _
 | head m L x r h1 h2 h => intro pa _ _; exact fall m x r pa h1 h2 (takeOrd_out h)
 | deep m L x y r h1 h2 h3 h4 h ih =>
  intro pa _ _
  have := ih [] rfl (by simp only [List.length_nil]; omega)
  simp only [List.length_nil, Nat.zero_add, Int.toNat_of_nonneg h3] at this
  exact fall m x _ pa h1 h2 (takeOrd_in h3 h4 this)
 | order m f e x t h1 h2 he hl hb h =>
  intro pa hL _
  obtain ⟨pb, n, hpa, hfb⟩ := hL
  have hrl := O.row_length e
  have hfl := O.row_length f
  refine term m x _ pa _ h1 h2 ?_
  refine ev_s ?_
  simp only [impl_takeOrd.j2, Bool.false_eq_true, if_false, if_pos (show (1 : Int) ≤ ((x :: (e.row ++ t)).length : Int) by simp only [List.length_cons]; omega), List.drop_succ_cons, List.drop_zero]
  refine Ev.bind (takeOrd_ev he hl (by omega) t) ?_
  have hpl : pa.length = pb.length + 1 := by rw [hpa]; simp
  have hw1 : wrap64 ((pa.length : Int) - 1) = (pb.length : Int) := by rw [wrap_in (by omega) (by omega)]; omega
  have hrd : rd_T67 pa (pb.length : Int) = ⟨n, O.terms f⟩ := by rw [hpa]; exact rd_T67_mid pb [] ⟨n, O.terms f⟩
  simp only [if_true, if_pos (show (pa.length : Int) > 0 by omega), hw1, if_pos (show (0 : Int) ≤ (pb.length : Int) by omega), if_pos (show (pb.length : Int) < (pa.length : Int) by omega), hrd]
  refine Ev.bind (compare_ev e f (by omega) (by omega)) ?_
  have hge : ordI (O.cmp e f) ≥ 0 := by
   have : ¬ ordI (O.cmp e f) < 0 := fun h' => h (ordI_neg.mp h')
   omega
  simp only [if_pos hge]
  exact Ev.now _
 | next m L e x t h1 h2 he hl hb hf h ih =>
  intro pa hL hp
  have hrl := O.row_length e
  have hw : wrap64 ((pa.length : Int) + 1) = (((pa ++ [(⟨x, e.terms⟩ : S67)]).length : Nat) : Int) := by
   rw [List.length_append, List.length_singleton]; exact wrap_nat2 pa.length 1 (by omega)
  have hcnt : ((pa.length + (m + 1) : Nat) : Int) = (((pa ++ [(⟨x, e.terms⟩ : S67)]).length + m : Nat) : Int) := by
   simp only [List.length_append, List.length_singleton]; omega
  have hc : rd (x :: (e.row ++ t)) 0 = x := rfl
  have ih := ih (pa ++ [⟨x, e.terms⟩]) ⟨pa, x, rfl, hb⟩ (by simp only [List.length_append, List.length_singleton]; omega)
  refine term m x _ pa _ h1 h2 ?_
  refine ev_s ?_
  simp only [impl_takeOrd.j2, Bool.false_eq_true, if_false, if_pos (show (1 : Int) ≤ ((x :: (e.row ++ t)).length : Int) by simp only [List.length_cons]; omega), List.drop_succ_cons, List.drop_zero]
  refine Ev.bind (takeOrd_ev he hl (by omega) t) ?_
  simp only [if_true, if_pos (show (0 : Int) < ((x :: (e.row ++ t)).length : Int) by simp only [List.length_cons]; omega), hc, if_pos (show pa.length < 4398046511104 by omega), hw, hcnt]
  cases L with
  | none =>
   have hpa : pa = [] := hL
   simp only [if_neg (show ¬ ((pa.length : Int) > 0) by rw [hpa]; simp)]
   exact ih
  | some f =>
   obtain ⟨pb, n, hpa, hfb⟩ := hL
   have hfl := O.row_length f
   have hpl : pa.length = pb.length + 1 := by rw [hpa]; simp
   have hw1 : wrap64 ((pa.length : Int) - 1) = (pb.length : Int) := by rw [wrap_in (by omega) (by omega)]; omega
   have hrd : rd_T67 pa (pb.length : Int) = ⟨n, O.terms f⟩ := by rw [hpa]; exact rd_T67_mid pb [] ⟨n, O.terms f⟩
   simp only [if_pos (show (pa.length : Int) > 0 by omega), hw1, if_pos (show (0 : Int) ≤ (pb.length : Int) by omega), if_pos (show (pb.length : Int) < (pa.length : Int) by omega), hrd]
   refine Ev.bind (compare_ev e f (by omega) (by omega)) ?_
   have hlt : ordI (O.cmp e f) = -1 := by rw [show O.cmp e f = .lt from hf]; rfl
   simp only [hlt, if_neg (show ¬ ((-1 : Int) ≥ 0) by decide)]
   exact ih
theorem impl_ordOf_bad {l : List Int} (h : NoOrd l) : ∃ a, Ev (fun k => impl_ordOf.f k l) (a, false) := by
 by_cases h0 : (l.length : Int) < 1
 ·
  exact ⟨[], by simp only [impl_ordOf.f, if_pos h0]; exact Ev.now _⟩
 by_cases h60 : (l.length : Int) > 60
 ·
  exact ⟨[], by simp only [impl_ordOf.f, if_neg h0, if_pos h60]; exact Ev.now _⟩
 have fin : ∀ {a : List S67} {t : List Int} {b : Bool}, (b = true → t ≠ []) → Ev (fun k => impl_takeOrd.f k l) (a, t, b) → ∃ a, Ev (fun k => impl_ordOf.f k l) (a, false) := by
  intro a t b hb ht
  refine ⟨a, ?_⟩
  simp only [impl_ordOf.f, if_neg h0, if_neg h60]
  refine Ev.bind ht ?_
  cases b with
  | false => simp only [Bool.false_eq_true, if_false]; exact Ev.now _
  | true =>
   simp only [if_true]
   refine ev_now ?_
   have := List.length_pos_iff.mpr (hb rfl)
   rw [beq_eq_false_iff_ne.mpr (show (t.length : Int) ≠ 0 by omega)]
 rcases h with h | rfl | ⟨y, r, rfl, hy⟩ | ⟨y, r, rfl, h1, h2, hb⟩ | ⟨o, x, t, rfl, hs, hl⟩
 ·
  exact absurd h (by omega)
 ·
  simp at h0
 ·
  exact fin (fun h => by cases h) (takeOrd_out (.inr ⟨y, r, rfl, hy⟩))
 ·
  have := takeOrd_bad hb [] rfl (by simp only [List.length_nil]; omega)
  simp only [List.length_nil, Nat.zero_add, Int.toNat_of_nonneg h1] at this
  exact fin (fun h => by cases h) (takeOrd_in h1 h2 this)
 ·
  have hrl := O.row_length o
  simp only [List.length_append, List.length_cons] at h60
  exact fin (fun _ => by simp) (takeOrd_ev hs hl (by omega) (x :: t))

-- part: oValidSpec
theorem l1End_in {l : List Int} {p : Nat} (hp : p < l.length) (hb : l.length ≤ 1000000) (h0 : 0 ≤ l[p]) (h1 : l[p] ≤ 60) {q : Int} (h : Ev (fun k => spec_l1End.l0 k l ((p + 1 : Nat) : Int) l[p] [] 0) q) : Ev (fun k => spec_l1End.f k l (p : Int)) q := by
 refine ev_s ?_
 simp only [spec_l1End.f, if_neg (show ¬ ((p : Int) ≥ (l.length : Int)) by omega), if_pos (show (0 : Int) ≤ (p : Int) by omega), if_pos (show (p : Int) < (l.length : Int) by omega), l1In_eq, Option.bind_some, rd_get hp, decide_eq_true (show 0 ≤ l[p] ∧ l[p] ≤ 60 from ⟨h0, h1⟩), Bool.not_true]
 refine ev_s ?_
 simp only [spec_l1End.j0, Bool.false_eq_true, if_false, if_pos (show (0 : Int) ≤ (p : Int) by omega), if_pos (show (p : Int) < (l.length : Int) by omega), rd_get hp, show wrap64 ((p : Int) + 1) = ((p + 1 : Nat) : Int) from wrap_nat2 p 1 (by omega)]
 exact h
theorem l1End_out {l : List Int} {p : Nat} (h : l.length ≤ p ∨ ∃ hp : p < l.length, l[p] < 0 ∨ 60 < l[p]) : Ev (fun k => spec_l1End.f k l (p : Int)) (-1) := by
 have hj : Ev (fun k => spec_l1End.j0 k l (p : Int) true) (-1) := by
  refine ev_s ?_
  simp only [spec_l1End.j0, if_true]
  exact Ev.now _
 refine ev_s ?_
 rcases h with h | ⟨hp, hx⟩
 ·
  simp only [spec_l1End.f, if_pos (show ((p : Int) ≥ (l.length : Int)) by omega)]
  exact hj
 ·
  simp only [spec_l1End.f, if_neg (show ¬ ((p : Int) ≥ (l.length : Int)) by omega), if_pos (show (0 : Int) ≤ (p : Int) by omega), if_pos (show (p : Int) < (l.length : Int) by omega), l1In_eq, Option.bind_some, rd_get hp, decide_eq_false (show ¬ (0 ≤ l[p] ∧ l[p] ≤ 60) by omega), Bool.not_false]
  exact hj
theorem l1End_term {l : List Int} {p i n : Nat} {la : List Int} (hp : p < l.length) (h0 : 1 ≤ l[p]) (h1 : l[p] ≤ 9999) (hi : i < n) {q : Int} (h : Ev (fun k => spec_l1End.j2 k l (p : Int) (n : Int) la (i : Int) false) q) : Ev (fun k => spec_l1End.l0 k l (p : Int) (n : Int) la (i : Int)) q := by
 refine ev_s ?_
 simp only [spec_l1End.l0, if_pos (show (i : Int) < (n : Int) by omega), if_neg (show ¬ ((p : Int) ≥ (l.length : Int)) by omega), if_pos (show (0 : Int) ≤ (p : Int) by omega), if_pos (show (p : Int) < (l.length : Int) by omega), l1In_eq, Option.bind_some, rd_get hp, decide_eq_true (show 1 ≤ l[p] ∧ l[p] ≤ 9999 from ⟨h0, h1⟩), Bool.not_true]
 exact h
theorem l1End_noterm {l : List Int} {p i n : Nat} {la : List Int} (hi : i < n) (h : l.length ≤ p ∨ ∃ hp : p < l.length, l[p] < 1 ∨ 9999 < l[p]) : Ev (fun k => spec_l1End.l0 k l (p : Int) (n : Int) la (i : Int)) (-1) := by
 have hj : Ev (fun k => spec_l1End.j2 k l (p : Int) (n : Int) la (i : Int) true) (-1) := by
  refine ev_s ?_
  simp only [spec_l1End.j2, if_true]
  exact Ev.now _
 refine ev_s ?_
 rcases h with h | ⟨hp, hx⟩
 ·
  simp only [spec_l1End.l0, if_pos (show (i : Int) < (n : Int) by omega), if_pos (show ((p : Int) ≥ (l.length : Int)) by omega)]
  exact hj
 ·
  simp only [spec_l1End.l0, if_pos (show (i : Int) < (n : Int) by omega), if_neg (show ¬ ((p : Int) ≥ (l.length : Int)) by omega), if_pos (show (0 : Int) ≤ (p : Int) by omega), if_pos (show (p : Int) < (l.length : Int) by omega), l1In_eq, Option.bind_some, rd_get hp, decide_eq_false (show ¬ (1 ≤ l[p] ∧ l[p] ≤ 9999) by omega), Bool.not_false]
  exact hj
def LastS (la : List Int) (i : Nat) : Option O → Prop
 | none => i = 0
 | some f => 0 < i ∧ la = f.row ∧ f.row.length ≤ 60
theorem l1End_exp {pre t l la : List Int} {x : Int} {e : O} {L : Option O} {i n : Nat} (hl : l = pre ++ x :: (e.row ++ t)) (hb : l.length ≤ 1000000) (hi : i < n) (hn : n ≤ 1000) (he : e.row.length ≤ 60) (hL : LastS la i L)
  (hE : Ev (fun k => spec_l1End.f k l ((pre.length + 1 : Nat) : Int)) ((pre.length + 1 + e.row.length : Nat) : Int)) {q : Int}
  (hok : O.fol L e → Ev (fun k => spec_l1End.l0 k l ((pre.length + 1 + e.row.length : Nat) : Int) (n : Int) e.row ((i + 1 : Nat) : Int)) q) (hno : ¬ O.fol L e → q = -1) : Ev (fun k => spec_l1End.j2 k l (pre.length : Int) (n : Int) la (i : Int) false) q := by
 have hlen : l.length = pre.length + 1 + e.row.length + t.length := by rw [hl]; simp; omega
 have hcut : ((l.take (pre.length + 1 + e.row.length)).drop (pre.length + 1)) = e.row := by
  have e0 : l = (pre ++ [x]) ++ e.row ++ t := by rw [hl]; simp
  rw [e0, show pre.length + 1 + e.row.length = ((pre ++ [x]) ++ e.row).length by simp; omega, List.take_left', List.drop_left' (by simp)]
  rfl
 have hw : wrap64 ((pre.length : Int) + 1) = ((pre.length + 1 : Nat) : Int) := wrap_nat2 _ 1 (by omega)
 have hwi : wrap64 ((i : Int) + 1) = ((i + 1 : Nat) : Int) := wrap_nat2 _ 1 (by omega)
 refine ev_s ?_
 simp only [spec_l1End.j2, Bool.false_eq_true, if_false, hw]
 refine Ev.bind hE ?_
 simp only [if_neg (show ¬ (((pre.length + 1 + e.row.length : Nat) : Int) < 0) by omega), if_pos (show (0 : Int) ≤ ((pre.length + 1 : Nat) : Int) by omega), if_pos (show ((pre.length + 1 : Nat) : Int) ≤ ((pre.length + 1 + e.row.length : Nat) : Int) by omega), if_pos (show ((pre.length + 1 + e.row.length : Nat) : Int) ≤ (l.length : Int) by omega), Int.toNat_natCast, hcut, hwi]
 cases L with
 | none =>
  have h0 : i = 0 := hL
  simp only [if_neg (show ¬ ((i : Int) > 0) by omega)]
  exact hok trivial
 | some f =>
  obtain ⟨h0, hla, hf⟩ := hL
  simp only [if_pos (show (i : Int) > 0 by omega), hla]
  refine Ev.bind (l1Compare_ev e f (by omega) (by omega)) ?_
  by_cases h : O.cmp e f = .lt
  ·
   have hlt : ordI (O.cmp e f) = -1 := by rw [h]; rfl
   simp only [hlt, if_neg (show ¬ ((-1 : Int) ≥ 0) by decide)]
   exact hok h
  ·
   have hge : ordI (O.cmp e f) ≥ 0 := by
    have : ¬ ordI (O.cmp e f) < 0 := fun h' => h (ordI_neg.mp h')
    omega
   simp only [if_pos hge]
   exact ev_now (hno h).symm
theorem l1End_l0 : ∀ (r : O), r.Sm → ∀ (pre t l la : List Int) (L : Option O) (i : Nat), l = pre ++ r.body ++ t → l.length ≤ 1000000 → r.body.length ≤ 60 → i + r.len ≤ 1000 → O.folr L r → LastS la i L →
  Ev (fun k => spec_l1End.l0 k l (pre.length : Int) ((i + r.len : Nat) : Int) la (i : Int)) ((pre.length + r.body.length : Nat) : Int)
 | .z, _, pre, t, l, la, L, i, _, _, _, _, _, _ => by
  refine ev_s ?_
  simp only [spec_l1End.l0, O.len, O.body, Nat.add_zero, Int.lt_irrefl, if_false, List.length_nil]
  exact Ev.now _
 | .c n e r, hs, pre, t, l, la, L, i, hl, hb, hr, hi, hf, hL => by
  obtain ⟨hn, ⟨hse, hle⟩, hsr, hhd⟩ := hs
  have hrl := O.row_length e
  have hel := O.len_le e
  have hbc := O.body_c n e r
  have hblen : (O.c n e r).body.length = 1 + e.row.length + r.body.length := by rw [hbc]; simp; omega
  have hl2 : l = pre ++ (n : Int) :: (e.row ++ (r.body ++ t)) := by rw [hl, hbc]; simp
  have hlen : l.length = pre.length + 1 + e.row.length + r.body.length + t.length := by rw [hl2]; simp; omega
  have hp : pre.length < l.length := by omega
  have hx : l[pre.length] = (n : Int) := by subst hl2; simp
  have hp1 : pre.length + 1 < l.length := by omega
  have hx1 : l[pre.length + 1] = (e.len : Int) := by
   have : l[pre.length + 1]? = some (e.len : Int) := by
    rw [hl2, List.getElem?_append_right (by omega)]; simp [O.row]
   exact (List.getElem?_eq_some_iff.mp this).2
  have hE : Ev (fun k => spec_l1End.f k l ((pre.length + 1 : Nat) : Int)) ((pre.length + 1 + e.row.length : Nat) : Int) := by
   refine l1End_in hp1 hb (by rw [hx1]; omega) (by rw [hx1]; omega) ?_
   rw [hx1]
   have := l1End_l0 e hse (pre ++ [(n : Int), (e.len : Int)]) (r.body ++ t) l [] none 0 (by rw [hl2]; simp [O.row]) hb (by omega) (by omega) (by cases e <;> trivial) rfl
   simp only [List.length_append, List.length_cons, List.length_nil, Nat.zero_add] at this
   exact ev_eq this (by omega)
  rw [show i + (O.c n e r).len = i + 1 + r.len by simp only [O.len]; omega]
  refine l1End_term hp (by rw [hx]; omega) (by rw [hx]; omega) (by omega) ?_
  refine l1End_exp hl2 hb (by omega) (by simp only [O.len] at hi; omega) (by omega) hL hE (fun _ => ?_) (fun h => absurd hf h)
  have ih := l1End_l0 r hsr (pre ++ (n : Int) :: e.row) t l e.row (some e) (i + 1) (by rw [hl2]; simp) hb (by omega) (by simp only [O.len] at hi; omega) (by cases r with | z => trivial | c _ _ _ => exact hhd) ⟨by omega, rfl, by omega⟩
  have hpl : (pre ++ (n : Int) :: e.row).length = pre.length + 1 + e.row.length := by simp; omega
  rw [hpl] at ih
  exact ev_eq ih (by omega)
theorem l1End_bad {m : Nat} {L : Option O} {r : List Int} (h : BadO m L r) : ∀ (pre l la : List Int) (i : Nat), l = pre ++ r → l.length ≤ 1000000 → i + m ≤ 1000 → LastS la i L → Ev (fun k => spec_l1End.l0 k l (pre.length : Int) ((i + m : Nat) : Int) la (i : Int)) (-1) := by
 -- an exponent that can't be read
 have fall : ∀ (m : Nat) (x : Int) (r pre l la : List Int) (i : Nat), l = pre ++ x :: r → l.length ≤ 1000000 → 1 ≤ x → x ≤ 9999 → Ev (fun k => spec_l1End.f k l ((pre.length + 1 : Nat) : Int)) (-1) → Ev (fun k => spec_l1End.l0 k l (pre.length : Int) ((i + (m + 1) : Nat) : Int) la (i : Int)) (-1) := by
  intro m x r pre l la i hl hb h1 h2 hE
  have hp : pre.length < l.length := by rw [hl]; simp
  have hx : l[pre.length] = x := by subst hl; simp
  refine l1End_term hp (by omega) (by omega) (by omega) ?_
  refine ev_s ?_
  simp only [spec_l1End.j2, Bool.false_eq_true, if_false, show wrap64 ((pre.length : Int) + 1) = ((pre.length + 1 : Nat) : Int) from wrap_nat2 _ 1 (by omega)]
  refine Ev.bind hE ?_
  simp only [if_pos (show (-1 : Int) < 0 by decide)]
  exact Ev.now _
 have good : ∀ (pre t l : List Int) (x : Int) (e : O), l = pre ++ x :: (e.row ++ t) → l.length ≤ 1000000 → e.Sm → e.len ≤ 60 → e.row.length ≤ 60 → Ev (fun k => spec_l1End.f k l ((pre.length + 1 : Nat) : Int)) ((pre.length + 1 + e.row.length : Nat) : Int) := by
  intro pre t l x e hl hb hse hle hr
  have hrl := O.row_length e
  have hp1 : pre.length + 1 < l.length := by rw [hl]; simp; omega
  have hx1 : l[pre.length + 1] = (e.len : Int) := by
   have : l[pre.length + 1]? = some (e.len : Int) := by
    rw [hl, List.getElem?_append_right (by omega)]; simp [O.row]
   exact (List.getElem?_eq_some_iff.mp this).2
  refine l1End_in hp1 hb (by rw [hx1]; omega) (by rw [hx1]; omega) ?_
  rw [hx1]
  have := l1End_l0 e hse (pre ++ [x, (e.len : Int)]) t l [] none 0 (by rw [hl]; simp [O.row]) hb (by omega) (by omega) (by cases e <;> trivial) rfl
  simp only [List.length_append, List.length_cons, List.length_nil, Nat.zero_add] at this
  exact ev_eq this (by omega)
 induction h with
 | nil m L => intro pre l la i hl _ _ _; exact l1End_noterm (by omega) (.inl (by rw [hl]; simp))
 | out m L x r h =>
  intro pre l la i hl _ _ _
  have hp : pre.length < l.length := by rw [hl]; simp
  have hx : l[pre.length] = x := by subst hl; simp
  exact l1End_noterm (by omega) (.inr ⟨hp, by rw [hx]; exact h⟩)
 | head m L x r h1 h2 h =>
  intro pre l la i hl hb _ _
  refine fall m x r pre l la i hl hb h1 h2 (l1End_out ?_)
  rcases h with rfl | ⟨y, t, rfl, hy⟩
  ·
   exact .inl (by rw [hl]; simp)
  ·
   have hp1 : pre.length + 1 < l.length := by rw [hl]; simp
   have hx1 : l[pre.length + 1] = y := by
    have : l[pre.length + 1]? = some y := by rw [hl, List.getElem?_append_right (by omega)]; simp
    exact (List.getElem?_eq_some_iff.mp this).2
   exact .inr ⟨hp1, by rw [hx1]; exact hy⟩
 | deep m L x y r h1 h2 h3 h4 h ih =>
  intro pre l la i hl hb _ _
  have hp1 : pre.length + 1 < l.length := by rw [hl]; simp
  have hx1 : l[pre.length + 1] = y := by
   have : l[pre.length + 1]? = some y := by rw [hl, List.getElem?_append_right (by omega)]; simp
   exact (List.getElem?_eq_some_iff.mp this).2
  refine fall m x _ pre l la i hl hb h1 h2 (l1End_in hp1 hb (by omega) (by omega) ?_)
  have := ih (pre ++ [x, y]) l [] 0 (by rw [hl]; simp) hb (by omega) rfl
  rw [hx1]
  simp only [List.length_append, List.length_cons, List.length_nil, Nat.zero_add, Int.toNat_of_nonneg h3] at this
  exact this
 | order m f e x t h1 h2 he hle hr h =>
  intro pre l la i hl hb hi hL
  have hp : pre.length < l.length := by rw [hl]; simp
  have hx : l[pre.length] = x := by subst hl; simp
  refine l1End_term hp (by omega) (by omega) (by omega) ?_
  exact l1End_exp hl hb (by omega) (by omega) hr hL (good pre t l x e hl hb he hle hr) (fun h' => absurd h' h) (fun _ => rfl)
 | next m L e x t h1 h2 he hle hr hf h ih =>
  intro pre l la i hl hb hi hL
  have hp : pre.length < l.length := by rw [hl]; simp
  have hx : l[pre.length] = x := by subst hl; simp
  refine l1End_term hp (by omega) (by omega) (by omega) ?_
  refine l1End_exp hl hb (by omega) (by omega) hr hL (good pre t l x e hl hb he hle hr) (fun _ => ?_) (fun h' => absurd hf h')
  have := ih (pre ++ x :: e.row) l e.row (i + 1) (by rw [hl]; simp) hb (by omega) ⟨by omega, rfl, hr⟩
  rw [show (pre ++ x :: e.row).length = pre.length + 1 + e.row.length by simp; omega, show i + 1 + m = i + (m + 1) by omega] at this
  exact this
theorem OrdValid_good {o : O} (hs : o.Sm) (hr : o.row.length ≤ 60) : Ev (fun k => spec_OrdValid.f k o.row) true := by
 have hrl := O.row_length o
 have hle := O.len_le o
 have hE : Ev (fun k => spec_l1End.f k o.row ((0 : Nat) : Int)) (o.row.length : Int) := by
  refine l1End_in (p := 0) (by omega) (by omega) (by simp [O.row]) (by simp [O.row]; omega) ?_
  have := l1End_l0 o hs [(o.len : Int)] [] o.row [] none 0 (by simp [O.row]) (by omega) (by omega) (by omega) (by cases o <;> trivial) rfl
  simp only [List.length_singleton, Nat.zero_add] at this
  exact ev_eq this (by omega)
 simp only [spec_OrdValid.f, l1In_eq, Option.bind_some, decide_eq_true (show 1 ≤ (o.row.length : Int) ∧ (o.row.length : Int) ≤ 60 by omega), if_true]
 refine Ev.bind hE ?_
 exact ev_now (by simp)
theorem OrdValid_bad {l : List Int} (h : NoOrd l) : Ev (fun k => spec_OrdValid.f k l) false := by
 by_cases h0 : 1 ≤ (l.length : Int) ∧ (l.length : Int) ≤ 60
 ·
  simp only [spec_OrdValid.f, l1In_eq, Option.bind_some, decide_eq_true h0, if_true]
  have fin : ∀ {q : Int}, q ≠ (l.length : Int) → Ev (fun k => spec_l1End.f k l ((0 : Nat) : Int)) q → Ev (fun k => (spec_l1End.f k l 0).bind fun t167 => some (t167 == (l.length : Int))) false := by
   intro q hq hE
   refine Ev.bind hE ?_
   exact ev_now (beq_eq_false_iff_ne.mpr hq)
  rcases h with h | rfl | ⟨y, r, rfl, hy⟩ | ⟨y, r, rfl, h1, h2, hb⟩ | ⟨o, x, t, rfl, hs, hl⟩
  ·
   omega
  ·
   simp at h0
  ·
   exact fin (q := -1) (by omega) (l1End_out (.inr ⟨by simp, hy⟩))
  ·
   refine fin (q := -1) (by omega) (l1End_in (p := 0) (by simp) (by omega) h1 h2 ?_)
   have := l1End_bad hb [y] (y :: r) [] 0 rfl (by omega) (by omega) rfl
   simp only [List.length_singleton, Nat.zero_add, Int.toNat_of_nonneg h1] at this
   exact this
  ·
   have hrl := O.row_length o
   have hlen : (o.row ++ x :: t).length = o.row.length + (t.length + 1) := by simp
   refine fin (q := (o.row.length : Int)) (by omega) (l1End_in (p := 0) (by omega) (by omega) (by simp [O.row]) (by simp [O.row]; omega) ?_)
   have := l1End_l0 o hs [(o.len : Int)] (x :: t) (o.row ++ x :: t) [] none 0 (by simp [O.row]) (by omega) (by omega) (by omega) (by cases o <;> trivial) rfl
   simp only [List.length_singleton, Nat.zero_add] at this
   have e1 : (o.row ++ x :: t)[0]'(by omega) = (o.len : Int) := by simp [O.row]
   rw [e1]
   exact ev_eq this (by omega)
 ·
  simp only [spec_OrdValid.f, l1In_eq, Option.bind_some, decide_eq_false h0, Bool.false_eq_true, if_false]
  exact Ev.now _

-- part: told
def O.most : O → Nat
 | .z => 0
 | .c n e r => max (max n (O.most e)) (O.most r)
theorem O.most_of : ∀ {x : O}, x.Sm → x.most ≤ 9999
 | .z, _ => by simp [O.most]
 | .c n e r, h => by
  have h1 := O.most_of h.2.1.1
  have h2 := O.most_of h.2.2.1
  have h3 := h.1.2
  simp only [O.most]; omega
theorem sizeOf_l0 : ∀ (r : O) (pre : List S67) (a : Nat), pre.length + r.body.length ≤ 1000000 → a + r.body.length ≤ 1000000 →
  Ev (fun k => impl_sizeOf.l0 k (a : Int) (pre ++ r.terms) (((pre ++ r.terms).length : Nat) : Int) (pre.length : Int)) ((a + r.body.length : Nat) : Int)
 | .z, pre, a, _, _ => by
  refine ev_s ?_
  simp only [impl_sizeOf.l0, O.terms, List.append_nil, Int.lt_irrefl, if_false]
  exact Ev.now _
 | .c n e r, pre, a, hp, ha => by
  rw [O.body_c] at hp ha
  simp only [List.length_cons, List.length_append] at hp ha
  have hre := O.row_length e
  have hE : Ev (fun k => impl_sizeOf.f k e.terms) (e.row.length : Int) := by
   refine ev_s ?_
   simp only [impl_sizeOf.f]
   have := sizeOf_l0 e [] 1 (by simp only [List.length_nil]; omega) (by omega)
   simp only [List.nil_append] at this
   exact ev_eq this (by omega)
  have hlen : (pre ++ (O.c n e r).terms).length = pre.length + (r.terms.length + 1) := by simp [O.terms]
  have hmid : rd_T67 (pre ++ (O.c n e r).terms) (pre.length : Int) = ⟨(n : Int), e.terms⟩ := rd_T67_mid pre r.terms ⟨(n : Int), e.terms⟩
  have happ : pre ++ (O.c n e r).terms = (pre ++ [⟨(n : Int), e.terms⟩]) ++ r.terms := by simp [O.terms]
  have ew : wrap64 ((pre.length : Int) + 1) = (((pre ++ [(⟨(n : Int), e.terms⟩ : S67)]).length : Nat) : Int) := by
   rw [List.length_append, List.length_singleton]; exact wrap_nat2 pre.length 1 (by omega)
  have g1 : (pre.length : Int) < (((pre ++ (O.c n e r).terms).length : Nat) : Int) := by omega
  have ih := sizeOf_l0 r (pre ++ [⟨(n : Int), e.terms⟩]) (a + (1 + e.row.length)) (by simp only [List.length_append, List.length_singleton]; omega) (by omega)
  refine ev_s ?_
  simp only [impl_sizeOf.l0, if_pos g1, if_pos (show (0 : Int) ≤ (pre.length : Int) from Int.natCast_nonneg _), hmid]
  refine Ev.bind hE ?_
  have hacc : wrap64 ((a : Int) + wrap64 (1 + (e.row.length : Int))) = ((a + (1 + e.row.length) : Nat) : Int) := by
   rw [wrap_in (x := 1 + (e.row.length : Int)) (by omega) (by omega), wrap_in (by omega) (by omega)]; omega
  rw [hacc, ew]
  rw [happ] at *
  exact ev_eq ih (by rw [O.body_c]; simp only [List.length_cons, List.length_append]; omega)
theorem sizeOf_ev {o : O} (hb : o.row.length ≤ 100000) : Ev (fun k => impl_sizeOf.f k o.terms) (o.row.length : Int) := by
 have hr := O.row_length o
 refine ev_s ?_
 simp only [impl_sizeOf.f]
 have := sizeOf_l0 o [] 1 (by simp only [List.length_nil]; omega) (by omega)
 simp only [List.nil_append] at this
 exact ev_eq this (by omega)
theorem most_l0 : ∀ (r : O) (pre : List S67) (a : Nat), pre.length + r.body.length ≤ 1000000 →
  Ev (fun k => impl_most.l0 k (a : Int) (pre ++ r.terms) (((pre ++ r.terms).length : Nat) : Int) (pre.length : Int)) ((max a r.most : Nat) : Int)
 | .z, pre, a, _ => by
  refine ev_s ?_
  simp only [impl_most.l0, O.terms, List.append_nil, Int.lt_irrefl, if_false, O.most]
  exact ev_now (by omega)
 | .c n e r, pre, a, hp => by
  rw [O.body_c] at hp
  simp only [List.length_cons, List.length_append] at hp
  have hre := O.row_length e
  have hE : Ev (fun k => impl_most.f k e.terms) (e.most : Int) := by
   refine ev_s ?_
   simp only [impl_most.f]
   have := most_l0 e [] 0 (by simp only [List.length_nil]; omega)
   simp only [List.nil_append] at this
   exact ev_eq this (by omega)
  have hlen : (pre ++ (O.c n e r).terms).length = pre.length + (r.terms.length + 1) := by simp [O.terms]
  have hmid : rd_T67 (pre ++ (O.c n e r).terms) (pre.length : Int) = ⟨(n : Int), e.terms⟩ := rd_T67_mid pre r.terms ⟨(n : Int), e.terms⟩
  have happ : pre ++ (O.c n e r).terms = (pre ++ [⟨(n : Int), e.terms⟩]) ++ r.terms := by simp [O.terms]
  have ew : wrap64 ((pre.length : Int) + 1) = (((pre ++ [(⟨(n : Int), e.terms⟩ : S67)]).length : Nat) : Int) := by
   rw [List.length_append, List.length_singleton]; exact wrap_nat2 pre.length 1 (by omega)
  have g1 : (pre.length : Int) < (((pre ++ (O.c n e r).terms).length : Nat) : Int) := by omega
  have ih := most_l0 r (pre ++ [⟨(n : Int), e.terms⟩]) (max (max a n) e.most) (by simp only [List.length_append, List.length_singleton]; omega)
  refine ev_s ?_
  simp only [impl_most.l0, if_pos g1, if_pos (show (0 : Int) ≤ (pre.length : Int) from Int.natCast_nonneg _), hmid]
  refine Ev.bind hE ?_
  have hacc : mx (mx (a : Int) (n : Int)) (e.most : Int) = ((max (max a n) e.most : Nat) : Int) := by
   unfold mx
   split <;> split <;> omega
  rw [hacc, ew]
  rw [happ] at *
  exact ev_eq ih (by simp only [O.most]; omega)
theorem most_ev {o : O} (hb : o.row.length ≤ 100000) : Ev (fun k => impl_most.f k o.terms) (o.most : Int) := by
 have hr := O.row_length o
 refine ev_s ?_
 simp only [impl_most.f]
 have := most_l0 o [] 0 (by simp only [List.length_nil]; omega)
 simp only [List.nil_append] at this
 exact ev_eq this (by omega)
def O.fit (x : O) : List Int × Bool := if x.row.length ≤ 60 ∧ x.most ≤ 9999 then (x.row, true) else ([], false)
theorem told_ev {x : O} (hb : x.row.length ≤ 100000) : Ev (fun k => impl_told.f k x.terms) x.fit := by
 have hr := O.row_length x
 have bad : Ev (fun k => impl_told.j0 k x.terms true) ([], false) := by
  refine ev_s ?_
  simp only [impl_told.j0, if_true]
  exact Ev.now _
 simp only [impl_told.f]
 refine Ev.bind (sizeOf_ev hb) ?_
 unfold O.fit
 by_cases h1 : x.row.length ≤ 60
 ·
  simp only [if_neg (show ¬ ((x.row.length : Int) > 60) by omega)]
  refine Ev.bind (most_ev hb) ?_
  by_cases h2 : x.most ≤ 9999
  ·
   rw [if_pos ⟨h1, h2⟩]
   simp only [decide_eq_false (show ¬ ((x.most : Int) > 9999) by omega)]
   refine ev_s ?_
   simp only [impl_told.j0, Bool.false_eq_true, if_false, slices_Clip_int_int.f, Option.bind_some]
   exact Ev.bind (rowOf_ev x.terms_is (by omega)) (Ev.now _)
  ·
   rw [if_neg (fun h => h2 h.2)]
   simp only [decide_eq_true (show (x.most : Int) > 9999 by omega)]
   exact bad
 ·
  rw [if_neg (fun h => h1 h.1)]
  simp only [if_pos (show (x.row.length : Int) > 60 by omega)]
  exact bad

-- part: gBase
theorem tdiv_nat (n b : Nat) : Int.tdiv (n : Int) (b : Int) = ((n / b : Nat) : Int) := by
 rw [Int.tdiv_eq_ediv_of_nonneg (by omega)]; rfl
theorem tmod_nat (n b : Nat) : Int.tmod (n : Int) (b : Int) = ((n % b : Nat) : Int) := by
 rw [Int.tmod_eq_emod_of_nonneg (by omega)]; rfl
def digs (b : Nat) : Nat → Nat → List Int
 | 0, _ => []
 | f + 1, n => if n = 0 then [] else ((n % b : Nat) : Int) :: digs b f (n / b)
theorem digs_len (b : Nat) : ∀ f n, (digs b f n).length ≤ f
 | 0, _ => Nat.le_refl _
 | f + 1, n => by
  rw [digs]
  split
  ·
   simp
  ·
   have := digs_len b f (n / b); simp only [List.length_cons]; omega
theorem digs_lt {b : Nat} (hb : 2 ≤ b) : ∀ f n, n ≤ f → n < b ^ (digs b f n).length
 | 0, n, h => by simp [digs]; omega
 | f + 1, n, h => by
  rw [digs]
  split
  ·
   rename_i h0; subst h0; simp
  ·
   rename_i h0
   have hd : n / b < n := Nat.div_lt_self (by omega) (by omega)
   have ih := digs_lt hb f (n / b) (by omega)
   rw [List.length_cons, Nat.pow_succ]
   exact (Nat.div_lt_iff_lt_mul (by omega)).mp ih
theorem digs_get {b : Nat} (hb : 2 ≤ b) : ∀ f n i (h : i < (digs b f n).length), n ≤ f → (digs b f n)[i] = ((n / b ^ i % b : Nat) : Int)
 | 0, n, i, h, hf => by simp [digs] at h
 | f + 1, n, i, h, hf => by
  by_cases h0 : n = 0
  ·
   subst h0; simp [digs] at h
  ·
   have e : digs b (f + 1) n = ((n % b : Nat) : Int) :: digs b f (n / b) := by rw [digs, if_neg h0]
   have hd : n / b < n := Nat.div_lt_self (by omega) (by omega)
   have h' : i < (((n % b : Nat) : Int) :: digs b f (n / b)).length := by rw [← e]; exact h
   have e2 : (digs b (f + 1) n)[i] = (((n % b : Nat) : Int) :: digs b f (n / b))[i] := by simp only [e]
   rw [e2]
   cases i with
   | zero => simp
   | succ i =>
    rw [List.getElem_cons_succ, digs_get hb f (n / b) i (by simpa using h') (by omega), Nat.div_div_eq_div_mul, Nat.pow_succ, Nat.mul_comm b]
theorem digits_l0 {b : Nat} (hb : 2 ≤ b) (hb2 : b ≤ 1000) : ∀ f n (out : List Int), n ≤ f → n ≤ 4000000000 → out.length + f ≤ 10000000000 → Ev (fun k => impl_digits.l0 k (n : Int) (b : Int) out) (out ++ digs b f n)
 | 0, n, out, h, hn, ho => by
  refine ev_s ?_
  simp only [impl_digits.l0, if_neg (show ¬ ((n : Int) > 0) by omega), digs, List.append_nil]
  exact Ev.now _
 | f + 1, n, out, h, hn, ho => by
  by_cases h0 : n = 0
  ·
   subst h0
   refine ev_s ?_
   simp only [impl_digits.l0, if_neg (show ¬ (((0 : Nat) : Int) > 0) by decide), digs, if_true, List.append_nil]
   exact Ev.now _
  ·
   have hd : n / b < n := Nat.div_lt_self (by omega) (by omega)
   have hw : wrap64 ((n / b : Nat) : Int) = ((n / b : Nat) : Int) := by
    generalize n / b = q at hd ⊢
    exact wrap_in (by omega) (by omega)
   refine ev_s ?_
   simp only [impl_digits.l0, if_pos (show (n : Int) > 0 by omega), if_neg (show ¬ ((b : Int) = 0) by omega), if_pos (show out.length < 17592186044416 by omega), tdiv_nat, tmod_nat, hw]
   refine ev_eq (digits_l0 hb hb2 f (n / b) (out ++ [((n % b : Nat) : Int)]) (by omega) (by omega) (by simp only [List.length_append, List.length_singleton]; omega)) ?_
   rw [digs, if_neg h0]; simp
theorem digits_ev {b n : Nat} (hb : 2 ≤ b) (hb2 : b ≤ 1000) (hn : n ≤ 4000000000) : Ev (fun k => impl_digits.f k (n : Int) (b : Int)) (digs b n n) := by
 simp only [impl_digits.f]
 exact ev_eq (digits_l0 hb hb2 n n [] (Nat.le_refl _) hn (by simp; omega)) (by simp)
theorem O.pos_skip {b e n : Nat} (h : n % b ^ (e + 1) / b ^ e = 0) (hb : 2 ≤ b) : O.pos b (e + 1) (n % b ^ (e + 1)) = O.pos b e (n % b ^ e) := by
 have hp : 0 < b ^ e := Nat.pow_pos (by omega)
 rw [O.pos, if_pos h]
 have h1 : n % b ^ (e + 1) < b ^ e := by
  rcases Nat.lt_or_ge (n % b ^ (e + 1)) (b ^ e) with h1 | h1
  ·
   exact h1
  ·
   have := Nat.div_pos h1 hp; omega
 have h2 : n % b ^ (e + 1) = n % b ^ e := by
  have := Nat.mod_mod_of_dvd n (show b ^ e ∣ b ^ (e + 1) from ⟨b, by rw [Nat.pow_succ]⟩)
  rw [Nat.mod_eq_of_lt h1] at this
  exact this
 rw [h2]
theorem O.pos_here {b e n : Nat} (h : n % b ^ (e + 1) / b ^ e ≠ 0) : O.pos b (e + 1) (n % b ^ (e + 1)) = .c (n / b ^ e % b) (O.inb b e) (O.pos b e (n % b ^ e)) := by
 rw [O.pos, if_neg h]
 have h2 : n % b ^ (e + 1) % b ^ e = n % b ^ e := Nat.mod_mod_of_dvd n ⟨b, by rw [Nat.pow_succ]⟩
 have h3 : n % b ^ (e + 1) / b ^ e = n / b ^ e % b := by rw [Nat.pow_succ, Nat.mod_mul_right_div_self]
 rw [h2, h3]; rfl
theorem dig_eq {b e n : Nat} : n % b ^ (e + 1) / b ^ e = n / b ^ e % b := by rw [Nat.pow_succ, Nat.mod_mul_right_div_self]
theorem inBase_l0 {b n : Nat} (hb : 2 ≤ b) (hb2 : b ≤ 1000) (hn : n ≤ 4000000000) (IH : ∀ e, e < n → Ev (fun k => impl_inBase.f k (e : Int) (b : Int)) (O.inb b e).terms) : ∀ (e : Nat) (out : List S67), e ≤ (digs b n n).length → out.length + e ≤ 4000000000 →
  Ev (fun k => impl_inBase.l0 k (b : Int) out (digs b n n) ((e : Int) - 1)) (out ++ (O.pos b e (n % b ^ e)).terms)
 | 0, out, he, ho => by
  refine ev_s ?_
  simp only [impl_inBase.l0, if_neg (show ¬ (((0 : Nat) : Int) - 1 ≥ 0) by decide)]
  exact ev_now (by simp [O.pos, O.terms])
 | e + 1, out, he, ho => by
  have hl := digs_len b n n
  have hlt : e < (digs b n n).length := by omega
  have hg := digs_get hb n n e hlt (Nat.le_refl _)
  have e1 : ((e + 1 : Nat) : Int) - 1 = (e : Int) := by omega
  rw [e1]
  refine ev_s ?_
  simp only [impl_inBase.l0, if_pos (show (e : Int) ≥ 0 by omega), if_pos (show (0 : Int) ≤ (e : Int) by omega), if_pos (show (e : Int) < ((digs b n n).length : Int) by omega), rd_get hlt, hg, wrap_in (x := (e : Int) - 1) (by omega) (by omega)]
  by_cases h0 : n / b ^ e % b = 0
  ·
   simp only [if_neg (show ¬ (((n / b ^ e % b : Nat) : Int) > 0) by omega)]
   rw [O.pos_skip (by rw [dig_eq]; exact h0) hb]
   exact inBase_l0 hb hb2 hn IH e out (by omega) (by omega)
  ·
   simp only [if_pos (show ((n / b ^ e % b : Nat) : Int) > 0 by omega)]
   refine Ev.bind (IH e (by omega)) ?_
   simp only [if_pos (show out.length < 4398046511104 by omega)]
   rw [O.pos_here (by rw [dig_eq]; exact h0)]
   refine ev_eq (inBase_l0 hb hb2 hn IH e (out ++ [⟨((n / b ^ e % b : Nat) : Int), (O.inb b e).terms⟩]) (by omega) (by simp only [List.length_append, List.length_singleton]; omega)) ?_
   simp [O.terms]
theorem inBase_ev {b : Nat} (hb : 2 ≤ b) (hb2 : b ≤ 1000) : ∀ (N n : Nat), n < N → n ≤ 1000000000 → Ev (fun k => impl_inBase.f k (n : Int) (b : Int)) (O.inb b n).terms
 | 0, n, h, _ => by omega
 | N + 1, n, h, hn => by
  have hl := digs_len b n n
  refine ev_s ?_
  simp only [impl_inBase.f]
  refine Ev.bind (digits_ev hb hb2 (by omega)) ?_
  rw [wrap_in (x := ((digs b n n).length : Int) - 1) (by omega) (by omega)]
  refine ev_eq (inBase_l0 hb hb2 (by omega) (fun e he => inBase_ev hb hb2 N e (by omega) (by omega)) (digs b n n).length [] (Nat.le_refl _) (by simp; omega)) ?_
  have hlt := digs_lt hb n n (Nat.le_refl _)
  rw [Nat.mod_eq_of_lt hlt, O.pos_eq hb hlt]; rfl
theorem O.pos_size {b : Nat} (hb : 2 ≤ b) : ∀ e n, (∀ i, i < e → (O.inb b i).size ≤ i + 1) → n < b ^ e → (O.pos b e n).size ≤ n + 1
 | 0, n, _, _ => by simp only [O.pos, O.size]; omega
 | e + 1, n, hI, h => by
  have hp : 0 < b ^ e := Nat.pow_pos (by omega)
  rw [O.pos]
  split
  ·
   rename_i h0
   have hn : n < b ^ e := by
    rcases Nat.lt_or_ge n (b ^ e) with h1 | h1
    ·
     exact h1
    ·
     have := Nat.div_pos h1 hp; omega
   exact O.pos_size hb e n (fun i hi => hI i (by omega)) hn
  ·
   have h1 := O.pos_size hb e (n % b ^ e) (fun i hi => hI i (by omega)) (Nat.mod_lt _ hp)
   have h2 := hI e (by omega)
   have h3 := pow_big hb e
   have h4 : n / b ^ e * (O.inb b e).size ≤ n / b ^ e * b ^ e := Nat.mul_le_mul_left _ (by omega)
   have h5 := Nat.div_add_mod n (b ^ e)
   rw [Nat.mul_comm] at h5
   have h6 : (O.pos b e e).size = (O.inb b e).size := rfl
   simp only [O.size]
   rw [h6]; omega
theorem O.inb_size {b : Nat} (hb : 2 ≤ b) : ∀ N n, n < N → (O.inb b n).size ≤ n + 1
 | 0, n, h => by omega
 | N + 1, n, h => by
  have hp := O.pos_size hb
  rw [← O.pos_eq hb (pow_big hb n)]
  exact hp n n (fun i hi => O.inb_size hb N i (by omega)) (pow_big hb n)
theorem O.pos_row {b : Nat} (hb : 2 ≤ b) : ∀ e n, (O.pos b e n).body.length ≤ e * (2 * e + 3)
 | 0, n => by simp [O.pos, O.body]
 | e + 1, n => by
  have h1 : ∀ m, (O.pos b e m).body.length ≤ e * (2 * e + 3) := O.pos_row hb e
  have h2 := O.row_le_size (O.inb_NF hb e)
  have h3 := O.inb_size hb (e + 1) e (by omega)
  have h4 : e * (2 * e + 3) + (2 * e + 3) ≤ (e + 1) * (2 * (e + 1) + 3) := by
   have : e * (2 * e + 3) ≤ e * (2 * (e + 1) + 3) := Nat.mul_le_mul_left _ (by omega)
   rw [Nat.add_mul, Nat.one_mul]; omega
  rw [O.pos]
  split
  ·
   have := h1 n; omega
  ·
   have h5 := h1 (n % b ^ e)
   rw [O.body_c]
   have h6 : (O.pos b e e).row.length = (O.inb b e).row.length := rfl
   simp only [List.length_cons, List.length_append]
   omega
theorem O.inb_row {b n : Nat} (hb : 2 ≤ b) (hn : n ≤ 1000000000) : (O.inb b n).row.length ≤ 3000 := by
 have h1 : n < b ^ 30 := by
  have h2 : 2 ^ 30 ≤ b ^ 30 := Nat.pow_le_pow_left hb 30
  have h3 : (2 : Nat) ^ 30 = 1073741824 := by decide
  omega
 have h4 := O.pos_row hb 30 n
 rw [← O.pos_eq hb h1]
 simp only [O.row, List.length_cons]
 omega
def inbFit (n base : Int) : List Int := if 0 ≤ n ∧ n ≤ 1000000000 ∧ 2 ≤ base ∧ base ≤ 90 then (O.inb base.toNat n.toNat).fit.1 else []
theorem impl_OrdInBase_no (n b : Int) : Ev (fun k => impl_OrdInBase.j0 k n b true) [] := by
 refine ev_s ?_
 simp only [impl_OrdInBase.j0, if_true]
 exact Ev.now _
theorem impl_OrdInBase_ev (n b : Int) : Ev (fun k => impl_OrdInBase.f k n b) (inbFit n b) := by
 simp only [impl_OrdInBase.f]
 by_cases h1 : n < 0
 ·
  simp only [if_pos h1]; rw [inbFit, if_neg (by omega)]; exact impl_OrdInBase_no _ _
 by_cases h2 : n > 1000000000
 ·
  simp only [if_neg h1, if_pos h2]; rw [inbFit, if_neg (by omega)]; exact impl_OrdInBase_no _ _
 by_cases h3 : b < 2
 ·
  simp only [if_neg h1, if_neg h2, if_pos h3]; rw [inbFit, if_neg (by omega)]; exact impl_OrdInBase_no _ _
 by_cases h4 : b > 90
 ·
  simp only [if_neg h1, if_neg h2, if_neg h3, decide_eq_true h4]; rw [inbFit, if_neg (by omega)]; exact impl_OrdInBase_no _ _
 simp only [if_neg h1, if_neg h2, if_neg h3, decide_eq_false h4]
 rw [inbFit, if_pos (by omega)]
 obtain ⟨m, rfl⟩ := Int.eq_ofNat_of_zero_le (show 0 ≤ n by omega)
 obtain ⟨c, rfl⟩ := Int.eq_ofNat_of_zero_le (show 0 ≤ b by omega)
 have hr := O.inb_row (b := c) (n := m) (by omega) (by omega)
 refine ev_s ?_
 simp only [impl_OrdInBase.j0, Bool.false_eq_true, if_false, Int.toNat_natCast]
 refine Ev.bind (inBase_ev (by omega) (by omega) (m + 1) m (by omega) (by omega)) ?_
 exact Ev.bind (told_ev (by omega)) (Ev.now _)

-- part: gSlow
theorem slow_l1 {b : Nat} (hb : 2 ≤ b) (hb2 : b ≤ 99) {L : List S67} {s : Nat} {len i : Int} {v e : Nat} {res : Int → Prop} (hneg : res (-1))
  (hgo : ∀ q : Nat, q = v * b ^ e → s + q ≤ 1000000000 → ∃ r, res r ∧ Ev (fun k => impl_slow.l0 k (b : Int) ((s + q : Nat) : Int) L len (wrap64 (i + 1))) r) (hs : s ≤ 1000000000) (hv : v ≤ 1000000000) :
  ∀ (d j w : Nat), j + d = e → w = v * b ^ j → w ≤ 1000000000 → e ≤ 1000000000 → ∃ r, res r ∧ Ev (fun k => impl_slow.l1 k (b : Int) (s : Int) (w : Int) L len i (e : Int) (j : Int)) r
 | 0, j, w, hj, hw, hwl, he => by
  have : j = e := by omega
  subst this
  by_cases h : s + w ≤ 1000000000
  ·
   obtain ⟨r, h1, h2⟩ := hgo w hw h
   refine ⟨r, h1, ev_s ?_⟩
   simp only [impl_slow.l1, Int.lt_irrefl, if_false, wrap_in (x := (s : Int) + (w : Int)) (by omega) (by omega), if_neg (show ¬ ((s : Int) + (w : Int) > 1000000000) by omega)]
   rw [show (s : Int) + (w : Int) = ((s + w : Nat) : Int) by omega]
   exact h2
  ·
   refine ⟨-1, hneg, ev_s ?_⟩
   simp only [impl_slow.l1, Int.lt_irrefl, if_false, wrap_in (x := (s : Int) + (w : Int)) (by omega) (by omega), if_pos (show ((s : Int) + (w : Int) > 1000000000) by omega)]
   exact Ev.now _
 | d + 1, j, w, hj, hw, hwl, he => by
  have hm : w * b ≤ 1000000000 * 99 := Nat.mul_le_mul hwl hb2
  have hc : (w : Int) * (b : Int) = ((w * b : Nat) : Int) := (Int.natCast_mul w b).symm
  by_cases h : w * b ≤ 1000000000
  ·
   obtain ⟨r, h1, h2⟩ := slow_l1 hb hb2 hneg hgo hs hv d (j + 1) (w * b) (by omega) (by rw [hw, Nat.pow_succ, Nat.mul_assoc]) h he
   refine ⟨r, h1, ev_s ?_⟩
   simp only [impl_slow.l1, if_pos (show (j : Int) < (e : Int) by omega), hc, wrap_in (x := ((w * b : Nat) : Int)) (by omega) (by omega), if_neg (show ¬ (((w * b : Nat) : Int) > 1000000000) by omega), show wrap64 ((j : Int) + 1) = ((j + 1 : Nat) : Int) from wrap_nat2 j 1 (by omega)]
   exact h2
  ·
   refine ⟨-1, hneg, ev_s ?_⟩
   simp only [impl_slow.l1, if_pos (show (j : Int) < (e : Int) by omega), hc, wrap_in (x := ((w * b : Nat) : Int)) (by omega) (by omega), if_pos (show (((w * b : Nat) : Int) > 1000000000) by omega)]
   exact Ev.now _
theorem slow_l0 {b : Nat} (hb : 2 ≤ b) (hb2 : b ≤ 99) : ∀ (x : O), x.Sm → ∀ (pre : List S67) (s : Nat), s ≤ 1000000000 → pre.length + x.body.length ≤ 100000 →
  ∃ r : Int, (r = -1 ∨ (r = ((s + O.val b x : Nat) : Int) ∧ s + O.val b x ≤ 1000000000)) ∧ Ev (fun k => impl_slow.l0 k (b : Int) (s : Int) (pre ++ x.terms) (((pre ++ x.terms).length : Nat) : Int) (pre.length : Int)) r
 | .z, _, pre, s, hs, hp => by
  refine ⟨(s : Int), .inr ⟨by simp [O.val], by simp [O.val]; omega⟩, ev_s ?_⟩
  simp only [impl_slow.l0, O.terms, List.append_nil, Int.lt_irrefl, if_false]
  exact Ev.now _
 | .c n e r, hx, pre, s, hs, hp => by
  rw [O.body_c] at hp
  simp only [List.length_cons, List.length_append] at hp
  have hrow := O.row_length e
  have hmid : rd_T67 (pre ++ (O.c n e r).terms) (pre.length : Int) = ⟨(n : Int), e.terms⟩ := rd_T67_mid pre r.terms ⟨(n : Int), e.terms⟩
  have happ : pre ++ (O.c n e r).terms = (pre ++ [⟨(n : Int), e.terms⟩]) ++ r.terms := by simp [O.terms]
  have hlen : (pre ++ (O.c n e r).terms).length = pre.length + (r.terms.length + 1) := by simp [O.terms]
  have ew : wrap64 ((pre.length : Int) + 1) = (((pre ++ [(⟨(n : Int), e.terms⟩ : S67)]).length : Nat) : Int) := by
   rw [List.length_append, List.length_singleton]; exact wrap_nat2 pre.length 1 (by omega)
  obtain ⟨re, hre, he⟩ := slow_l0 hb hb2 e hx.2.1.1 [] 0 (by omega) (by simp only [List.length_nil]; omega)
  simp only [List.nil_append, List.length_nil, Nat.zero_add] at he hre
  have hE : Ev (fun k => impl_slow.f k e.terms (b : Int)) re := by
   refine ev_s ?_
   simp only [impl_slow.f]
   exact he
  rcases hre with rfl | ⟨rfl, hle⟩
  ·
   refine ⟨-1, .inl rfl, ev_s ?_⟩
   simp only [impl_slow.l0, if_pos (show (pre.length : Int) < (((pre ++ (O.c n e r).terms).length : Nat) : Int) by omega), if_pos (show (0 : Int) ≤ (pre.length : Int) from Int.natCast_nonneg _), hmid]
   refine Ev.bind hE ?_
   simp only [if_pos (show (-1 : Int) < 0 by decide)]
   exact Ev.now _
  ·
   have hn2 := hx.1.2
   obtain ⟨res, h1, h2⟩ := slow_l1 (b := b) hb hb2 (L := pre ++ (O.c n e r).terms) (s := s) (len := (((pre ++ (O.c n e r).terms).length : Nat) : Int)) (i := (pre.length : Int)) (v := n) (e := O.val b e)
    (res := fun q => q = -1 ∨ (q = ((s + O.val b (.c n e r) : Nat) : Int) ∧ s + O.val b (.c n e r) ≤ 1000000000)) (.inl rfl)
    (fun q hq hsq => by
     obtain ⟨rr, g1, g2⟩ := slow_l0 hb hb2 r hx.2.2.1 (pre ++ [⟨(n : Int), e.terms⟩]) (s + q) hsq (by simp only [List.length_append, List.length_singleton]; omega)
     refine ⟨rr, ?_, by rw [ew, happ]; exact g2⟩
     have hval : O.val b (.c n e r) = q + O.val b r := by rw [hq]; rfl
     rw [hval]
     rcases g1 with g1 | ⟨g1, g3⟩
     ·
      exact .inl g1
     ·
      exact .inr ⟨by rw [g1]; omega, by omega⟩) hs (by omega) (O.val b e) 0 n (by omega) (by simp) (by omega) hle
   refine ⟨res, h1, ev_s ?_⟩
   simp only [impl_slow.l0, if_pos (show (pre.length : Int) < (((pre ++ (O.c n e r).terms).length : Nat) : Int) by omega), if_pos (show (0 : Int) ≤ (pre.length : Int) from Int.natCast_nonneg _), hmid]
   refine Ev.bind hE ?_
   simp only [if_neg (show ¬ (((O.val b e : Nat) : Int) < 0) by omega), if_pos (show (b : Int) > 1 by omega)]
   exact h2
theorem impl_SlowValue_ev {x : O} (hx : x.Sm) (hr : x.row.length ≤ 60) {b : Nat} (hb : 2 ≤ b) (hb2 : b ≤ 99) : ∃ r : Int, (r = -1 ∨ (r = (O.val b x : Int) ∧ O.val b x ≤ 1000000000)) ∧ Ev (fun k => impl_SlowValue.f k x.row (b : Int)) r := by
 have hrow := O.row_length x
 obtain ⟨r, h1, h2⟩ := slow_l0 hb hb2 x hx [] 0 (by omega) (by simp only [List.length_nil]; omega)
 simp only [List.nil_append, List.length_nil, Nat.zero_add] at h1 h2
 refine ⟨r, h1, ?_⟩
 simp only [impl_SlowValue.f]
 refine Ev.bind (ordOf_ev hx hr) ?_
 simp only [if_true, if_neg (show ¬ ((b : Int) < 1) by omega), if_neg (show ¬ ((b : Int) > 99) by omega)]
 refine Ev.bind (ev_s (g := fun k => impl_slow.f k x.terms (b : Int)) (r := r) ?_) (Ev.now _)
 simp only [impl_slow.f]
 exact h2
theorem O.small_of_most {b : Nat} : ∀ {x : O}, x.most < b → O.small b x
 | .z, _ => trivial
 | .c n e r, h => by
  simp only [O.most] at h
  exact ⟨by omega, O.small_of_most (by omega), O.small_of_most (by omega)⟩

-- part: gBaseOk
theorem mx_nat (a c : Nat) : mx (a : Int) (c : Int) = ((max a c : Nat) : Int) := by
 unfold mx
 by_cases h : (a : Int) < (c : Int)
 ·
  rw [if_pos h]; omega
 ·
  rw [if_neg h]; omega
theorem OrdMost_l0 : ∀ (N : Nat) (s : O), s.body.length ≤ N → s.Sm → ∀ (pn : List Int) (pe : List (List Int)) (a : Nat), pn.length = pe.length → pn.length + s.body.length ≤ 1000 → s.body.length ≤ 59 →
  Ev (fun k => spec_OrdMost.l0 k (pn ++ s.ns) (pe ++ s.es) (a : Int) (pn.length : Int)) ((max a s.most : Nat) : Int) := by
 intro N
 induction N with
 | zero =>
  intro s hN hs pn pe a hpe hp h59
  cases s with
  | z =>
   refine ev_s ?_
   simp only [spec_OrdMost.l0, O.ns, List.append_nil, Int.lt_irrefl, if_false]
   exact ev_now (by simp [O.most])
  | c n e r => rw [O.body_c] at hN; simp at hN
 | succ N IH =>
  intro s hN hs pn pe a hpe hp h59
  cases s with
  | z =>
   refine ev_s ?_
   simp only [spec_OrdMost.l0, O.ns, List.append_nil, Int.lt_irrefl, if_false]
   exact ev_now (by simp [O.most])
  | c n e r =>
   rw [O.body_c] at hN hp h59
   simp only [List.length_cons, List.length_append] at hN hp h59
   have hrow := O.row_length e
   have hrn : rd (pn ++ (n : Int) :: r.ns) (pn.length : Int) = (n : Int) := by rw [rd_eq]; simp
   have hre : rd_L3 (pe ++ e.row :: r.es) (pn.length : Int) = e.row := by rw [hpe]; exact rd_L3_at pe r.es e.row
   have hl1 : (pn ++ (n : Int) :: r.ns).length = pn.length + (r.ns.length + 1) := by simp
   have hl2 : (pe ++ e.row :: r.es).length = pn.length + (r.es.length + 1) := by simp [hpe]
   have hE : Ev (fun k => spec_OrdMost.f k e.row) (e.most : Int) := by
    refine ev_s ?_
    simp only [spec_OrdMost.f]
    refine Ev.bind (OrdValid_good hs.2.1.1 (by omega)) ?_
    simp only [if_true]
    refine Ev.bind (l1Terms_ev (by omega)) ?_
    have := IH e (by omega) hs.2.1.1 [] [] 0 rfl (by simp; omega) (by omega)
    simp only [List.nil_append, List.length_nil] at this
    exact ev_eq this (by simp)
   have ih := IH r (by omega) hs.2.2.1 (pn ++ [(n : Int)]) (pe ++ [e.row]) (max a (max n e.most)) (by simp [hpe]) (by simp; omega) (by omega)
   simp only [List.append_assoc, List.singleton_append, List.length_append, List.length_singleton] at ih
   simp only [O.ns, O.es]
   refine ev_s ?_
   simp only [spec_OrdMost.l0, if_pos (show (pn.length : Int) < ((pn ++ (n : Int) :: r.ns).length : Int) by omega), if_pos (show (0 : Int) ≤ (pn.length : Int) by omega), if_pos (show (pn.length : Int) < ((pe ++ e.row :: r.es).length : Int) by omega), hrn, hre]
   refine Ev.bind hE ?_
   rw [mx_nat, mx_nat, show wrap64 ((pn.length : Int) + 1) = ((pn.length + 1 : Nat) : Int) from wrap_nat2 _ 1 (by omega)]
   exact ev_eq ih (by simp only [O.most]; omega)
theorem OrdMost_ev {x : O} (hx : x.Sm) (hr : x.row.length ≤ 60) : Ev (fun k => spec_OrdMost.f k x.row) (x.most : Int) := by
 have hrow := O.row_length x
 refine ev_s ?_
 simp only [spec_OrdMost.f]
 refine Ev.bind (OrdValid_good hx hr) ?_
 simp only [if_true]
 refine Ev.bind (l1Terms_ev (by omega)) ?_
 have := OrdMost_l0 60 x (by omega) hx [] [] 0 rfl (by simp; omega) (by omega)
 simp only [List.nil_append, List.length_nil] at this
 exact ev_eq this (by simp)
def O.baseOk (x : O) (b : Int) : Bool := decide (2 ≤ b ∧ b ≤ 90) && decide ((x.most : Int) < b)
theorem impl_BaseOk_good {x : O} (hx : x.Sm) (hr : x.row.length ≤ 60) (b : Int) : Ev (fun k => impl_BaseOk.f k x.row b) (x.baseOk b) := by
 simp only [impl_BaseOk.f]
 refine Ev.bind (ordOf_ev hx hr) ?_
 simp only [if_true]
 by_cases h2 : b ≥ 2
 ·
  by_cases h9 : b ≤ 90
  ·
   simp only [if_pos h2, if_pos h9]
   refine Ev.bind (most_ev (by omega)) ?_
   exact ev_now (by rw [O.baseOk, decide_eq_true (show 2 ≤ b ∧ b ≤ 90 from ⟨h2, h9⟩)]; simp)
  ·
   simp only [if_pos h2, if_neg h9]
   exact ev_now (by rw [O.baseOk, decide_eq_false (show ¬ (2 ≤ b ∧ b ≤ 90) by omega)]; simp)
 ·
  simp only [if_neg h2]
  exact ev_now (by rw [O.baseOk, decide_eq_false (show ¬ (2 ≤ b ∧ b ≤ 90) by omega)]; simp)
theorem spec_BaseOk_good {x : O} (hx : x.Sm) (hr : x.row.length ≤ 60) (b : Int) : Ev (fun k => spec_BaseOk.f k x.row b) (x.baseOk b) := by
 simp only [spec_BaseOk.f]
 refine Ev.bind (OrdValid_good hx hr) ?_
 simp only [if_true, l1In_eq, Option.bind_some]
 by_cases h : 2 ≤ b ∧ b ≤ 90
 ·
  simp only [decide_eq_true h, if_true]
  refine Ev.bind (OrdMost_ev hx hr) ?_
  exact ev_now (by rw [O.baseOk, decide_eq_true h]; simp)
 ·
  simp only [decide_eq_false h, Bool.false_eq_true, if_false]
  exact ev_now (by rw [O.baseOk, decide_eq_false h]; simp)
theorem impl_BaseOk_bad {l : List Int} (h : NoOrd l) (b : Int) : Ev (fun k => impl_BaseOk.f k l b) false := by
 obtain ⟨a, ha⟩ := impl_ordOf_bad h
 simp only [impl_BaseOk.f]
 refine Ev.bind ha ?_
 simp only [Bool.false_eq_true, if_false]
 exact Ev.now _
theorem spec_BaseOk_bad {l : List Int} (h : NoOrd l) (b : Int) : Ev (fun k => spec_BaseOk.f k l b) false := by
 simp only [spec_BaseOk.f]
 refine Ev.bind (OrdValid_bad h) ?_
 simp only [Bool.false_eq_true, if_false]
 exact Ev.now _

-- part: draw
def Bytes (b : List Int) : Prop := b.length ≤ 2000 ∧ ∀ x ∈ b, 0 ≤ x ∧ x ≤ 255
theorem u8_of_wf {x : Int} (h : (Lit.int .u8 x).wf = true) : 0 ≤ x ∧ x ≤ 255 := by
 simp [Lit.wf, IntKind.min, IntKind.max, IntKind.bits, IntKind.signed] at h
 omega
theorem open_ev (l : List Int) (h : ∀ x ∈ l, (Lit.int .u8 x).wf = true) : ∃ b, Bytes b ∧ spec_l20Open.f l = some (b, ((0 : Nat) : Int)) := by
 have h' : ∀ x ∈ l, 0 ≤ x ∧ x ≤ 255 := fun x hx => u8_of_wf (h x hx)
 unfold spec_l20Open.f
 by_cases hl : (l.length : Int) > 2000
 ·
  rw [if_pos hl, if_pos (by omega)]
  exact ⟨l.take 2000, ⟨by simp; omega, fun x hx => h' x (List.mem_of_mem_take hx)⟩, rfl⟩
 ·
  rw [if_neg hl]
  exact ⟨l, ⟨by omega, h'⟩, rfl⟩
theorem rd_byte {b : List Int} (hb : Bytes b) {i : Int} (h0 : 0 ≤ i) (h1 : i < (b.length : Int)) : 0 ≤ rd b i ∧ rd b i ≤ 255 := by
 obtain ⟨n, rfl⟩ := Int.eq_ofNat_of_zero_le h0
 rw [rd_get (show n < b.length by omega)]
 exact hb.2 _ (List.getElem_mem _)
theorem wraps_i64 (n : Int) (h0 : 0 ≤ n) (h1 : n < 2 ^ 62) : IntKind.i64.wrap n = n := by rw [IntKind.wrap_i64]; omega
theorem xor_pos (a b : Nat) (ha : a < 2 ^ 62) (hb : b < 2 ^ 62) : Go.bits .xor .i64 (a : Int) (b : Int) = ((a ^^^ b : Nat) : Int) := by
 have ha' : a % 2 ^ IntKind.i64.bits = a := Nat.mod_eq_of_lt (Nat.lt_of_lt_of_le ha (by decide))
 have hb' : b % 2 ^ IntKind.i64.bits = b := Nat.mod_eq_of_lt (Nat.lt_of_lt_of_le hb (by decide))
 simp only [bits, BitVec.ofInt_natCast, BitVec.toNat_xor, BitVec.toNat_ofNat, ha', hb']
 exact wraps_i64 _ (Int.natCast_nonneg _) (by exact_mod_cast Nat.xor_lt_two_pow ha hb)
theorem pick_sum (r1 r2 p t : Int) (h1 : 0 ≤ r1 ∧ r1 ≤ 255) (h2 : 0 ≤ r2 ∧ r2 ≤ 255) (hp : 0 ≤ p ∧ p ≤ 1000000000000) (ht : 0 ≤ t ∧ t ≤ 1000000000000) :
  wrap64 ((wrap64 ((wrap64 ((wrap64 ((wrap64 r1) * 131)) + (wrap64 ((wrap64 r2) * 1117)))) + (wrap64 (p * 29)))) + (wrap64 ((wrap64 t) * 53))) = r1 * 131 + r2 * 1117 + p * 29 + t * 53 := by
 rw [wrap_in (x := r1) (by omega) (by omega), wrap_in (x := r2) (by omega) (by omega), wrap_in (x := t) (by omega) (by omega), wrap_in (x := r1 * 131) (by omega) (by omega), wrap_in (x := r2 * 1117) (by omega) (by omega), wrap_in (x := p * 29) (by omega) (by omega), wrap_in (x := t * 53) (by omega) (by omega), wrap_in (x := r1 * 131 + r2 * 1117) (by omega) (by omega), wrap_in (x := r1 * 131 + r2 * 1117 + p * 29) (by omega) (by omega), wrap_in (by omega) (by omega)]
theorem pick_mod (x n : Int) (hx : 0 ≤ x) (hn : 0 < n) : 0 ≤ Int.tmod x n ∧ Int.tmod x n < n := by
 rw [Int.tmod_eq_emod_of_nonneg hx]
 exact ⟨Int.emod_nonneg _ (by omega), Int.emod_lt_of_pos _ hn⟩
theorem pick_ev (b : List Int) (hb : Bytes b) (p : Nat) (hp : p ≤ 100000000000) (n : Int) : ∃ v : Int, 0 ≤ v ∧ (v < n ∨ v = 0) ∧ Ev (fun k => spec_l20Rd_pick.f k b (p : Int) n) (v, ((p + 1 : Nat) : Int)) := by
 have e1 : wrap64 ((p : Int) + 1) = ((p + 1 : Nat) : Int) := by rw [wrap_in (by omega) (by omega)]; rfl
 have e2 : wrap64 (((p + 1 : Nat) : Int) - 1) = (p : Int) := by rw [wrap_in (by omega) (by omega)]; omega
 by_cases hn : n < 1
 ·
  refine ⟨0, Int.le_refl _, .inr rfl, ?_⟩
  simp only [spec_l20Rd_pick.f, if_pos hn, e1]
  refine ev_s ?_
  simp only [spec_l20Rd_pick.j0, if_true]
  exact Ev.now _
 ·
  by_cases hl : b.length = 0
  ·
   refine ⟨0, Int.le_refl _, .inr rfl, ?_⟩
   simp only [spec_l20Rd_pick.f, if_neg hn, e1, hl]
   refine ev_s ?_
   simp only [spec_l20Rd_pick.j0]
   exact Ev.now _
  ·
   by_cases hlt : (p : Int) < (b.length : Int)
   ·
    have hby := rd_byte hb (show (0 : Int) ≤ (p : Int) by omega) hlt
    have hm := pick_mod (rd b p) n hby.1 (by omega)
    refine ⟨Int.tmod (rd b p) n, hm.1, .inl hm.2, ?_⟩
    simp only [spec_l20Rd_pick.f, if_neg hn, e1, show ((b.length : Int) == 0) = false by simp; exact fun h => hl (by rw [h]; rfl)]
    refine ev_s ?_
    simp only [spec_l20Rd_pick.j0, Bool.false_eq_true, if_false, e2, if_pos hlt, if_pos (show (0 : Int) ≤ (p : Int) by omega), if_neg (show ¬ n = 0 by omega), wrap_in (x := rd b p) (by omega) (by omega)]
    exact Ev.now _
   ·
    have hl0 : ¬ ((b.length : Int) = 0) := by omega
    have m1 := pick_mod (p : Int) (b.length : Int) (by omega) (by omega)
    have m2 := pick_mod ((p : Int) * 7 + 3) (b.length : Int) (by omega) (by omega)
    have b1 := rd_byte hb m1.1 m1.2
    have b2 := rd_byte hb m2.1 m2.2
    have d1 : 0 ≤ Int.tdiv (p : Int) (b.length : Int) := Int.tdiv_nonneg (by omega) (by omega)
    have d2 : Int.tdiv (p : Int) (b.length : Int) ≤ (p : Int) := Int.tdiv_le_self _ (by omega)
    have hs := pick_sum _ _ (p : Int) (Int.tdiv (p : Int) (b.length : Int)) b1 b2 (by omega) (by omega)
    obtain ⟨X, hX⟩ : ∃ X : Int, X = rd b (Int.tmod (p : Int) (b.length : Int)) * 131 + rd b (Int.tmod ((p : Int) * 7 + 3) (b.length : Int)) * 1117 + (p : Int) * 29 + Int.tdiv (p : Int) (b.length : Int) * 53 := ⟨_, rfl⟩
    rw [← hX] at hs
    have x0 : 0 ≤ X ∧ X < 20000000000000 := by omega
    have t0 : 0 ≤ Int.tdiv X 64 := Int.tdiv_nonneg (by omega) (by omega)
    have t1 : Int.tdiv X 64 ≤ X := Int.tdiv_le_self _ (by omega)
    have hbit : 0 ≤ Go.bits .xor .i64 X (Int.tdiv X 64) := by
     obtain ⟨u, hu⟩ := Int.eq_ofNat_of_zero_le x0.1
     obtain ⟨v, hv⟩ := Int.eq_ofNat_of_zero_le t0
     rw [hv, hu]
     rw [xor_pos u v (by omega) (by omega)]
     omega
    have hm := pick_mod _ n hbit (by omega)
    refine ⟨_, hm.1, .inl hm.2, ?_⟩
    simp only [spec_l20Rd_pick.f, if_neg hn, e1, show ((b.length : Int) == 0) = false by simp; exact fun h => hl (by rw [h]; rfl)]
    refine ev_s ?_
    simp only [spec_l20Rd_pick.j0, Bool.false_eq_true, if_false, e2, if_neg hlt, if_neg hl0, wrap_in (x := (p : Int) * 7) (by omega) (by omega), wrap_in (x := (p : Int) * 7 + 3) (by omega) (by omega), if_pos m1.1, if_pos m1.2, if_pos m2.1, if_pos m2.2, if_neg (show ¬ n = 0 by omega), hs, wrap_in (x := Int.tdiv X 64) (by omega) (by omega)]
    exact Ev.now _
theorem odd_ev (b : List Int) (hb : Bytes b) (p : Nat) (hp : p ≤ 100000000000) (n : Int) (hn : n ≤ 1000000) : ∃ (v : Bool) (q : Nat), q ≤ p + 1 ∧ Ev (fun k => spec_l20Rd_odd.f k b (p : Int) n) (v, (q : Int)) := by
 by_cases h : n > 0
 ·
  obtain ⟨v, h0, h1, he⟩ := pick_ev b hb p hp n
  refine ⟨(v == wrap64 (n - 1)), p + 1, Nat.le_refl _, ?_⟩
  simp only [spec_l20Rd_odd.f, if_pos h]
  refine Ev.bind he ?_
  exact Ev.now _
 ·
  refine ⟨false, p, by omega, ?_⟩
  simp only [spec_l20Rd_odd.f, if_neg h]
  exact Ev.now _

-- part: gDraw
def mkO : List (Nat × O) → O
 | [] => .z
 | p :: r => .c p.1 p.2 (mkO r)
theorem mkO_len : ∀ P : List (Nat × O), (mkO P).len = P.length
 | [] => rfl
 | p :: r => by simp only [mkO, O.len, List.length_cons, mkO_len r]
theorem mkO_zip : ∀ P : List (Nat × O), zipB (P.map (fun p => (p.1 : Int))) (P.map (fun p => p.2.row)) = (mkO P).body
 | [] => rfl
 | p :: r => by simp only [List.map_cons, zipB, mkO, O.body_c, mkO_zip r, List.cons_append]
theorem mkO_row (P : List (Nat × O)) : ((P.length : Nat) : Int) :: zipB (P.map (fun p => (p.1 : Int))) (P.map (fun p => p.2.row)) = (mkO P).row := by
 rw [mkO_zip, O.row, mkO_len]
theorem mkO_body (R : Nat) : ∀ P : List (Nat × O), (∀ p ∈ P, p.2.row.length ≤ R) → (mkO P).body.length ≤ P.length * (1 + R)
 | [], _ => by simp [mkO, O.body]
 | p :: r, h => by
  have h1 := h p List.mem_cons_self
  have h2 := mkO_body R r (fun q hq => h q (List.mem_cons_of_mem _ hq))
  rw [mkO, O.body_c, List.length_cons, List.length_cons, List.length_append, Nat.add_mul]
  omega
def rawL : Nat → Nat
 | 0 => 3
 | d + 1 => 1 + 3 * (1 + rawL d)
def rawP : Nat → Nat
 | 0 => 1
 | d + 1 => 1 + 3 * (4 + rawP d)
theorem rawL_mono {a b : Nat} (h : a ≤ b) : rawL a ≤ rawL b := by
 induction b with
 | zero =>
  have : a = 0 := by omega
  subst this; exact Nat.le_refl _
 | succ b ih =>
  by_cases e : a = b + 1
  ·
   subst e; exact Nat.le_refl _
  ·
   have := ih (by omega); simp only [rawL]; omega
theorem rawP_mono {a b : Nat} (h : a ≤ b) : rawP a ≤ rawP b := by
 induction b with
 | zero =>
  have : a = 0 := by omega
  subst this; exact Nat.le_refl _
 | succ b ih =>
  by_cases e : a = b + 1
  ·
   subst e; exact Nat.le_refl _
  ·
   have := ih (by omega); simp only [rawP]; omega
theorem rawL_le {d : Nat} (h : d ≤ 3) : rawL d ≤ 133 := Nat.le_trans (rawL_mono h) (by decide)
theorem rawP_le {d : Nat} (h : d ≤ 3) : rawP d ≤ 300 := Nat.le_trans (rawP_mono h) (by decide)
section
variable {b : List Int} {X1 : Int} {X7 : Int} {P : List (Nat × O)} {e : O}
theorem raw_l1 (hP : ∀ p ∈ P, p.2.row.length ≤ 1000) (he : e.row.length ≤ 1000) (hl : P.length ≤ 1000) (p : Int) (x5 : List Int) : ∀ d j : Nat, j + d = P.length → ∃ i : Nat, i ≤ P.length ∧ ∀ res, Ev (fun k => spec_l20Raw.j3 k X1 x5 (P.map (fun p => p.2.row)) X7 e.row (i : Int) b p) res → Ev (fun k => spec_l20Raw.l1 k X1 x5 (P.map (fun p => p.2.row)) X7 e.row (j : Int) b p) res
 | 0, j, hj => ⟨j, by omega, fun res h => by
  refine ev_s ?_
  simp only [spec_l20Raw.l1, if_neg (show ¬ ((j : Int) < ((P.map (fun p => p.2.row)).length : Int)) by rw [List.length_map]; omega)]
  exact h⟩
 | d + 1, j, hj => by
  have hlt : j < P.length := by omega
  have hlt2 : j < (P.map (fun p => p.2.row)).length := by rw [List.length_map]; exact hlt
  have hrd : rd_L3 (P.map (fun p => p.2.row)) (j : Int) = P[j].2.row := by rw [rdL1_get hlt2, List.getElem_map]
  have hc := l1Compare_ev P[j].2 e (Nat.le_trans (hP _ (List.getElem_mem hlt)) (by omega)) (by omega)
  by_cases hg : ordI (O.cmp P[j].2 e) > 0
  ·
   obtain ⟨i, h1, h2⟩ := raw_l1 hP he hl p x5 d (j + 1) (by omega)
   refine ⟨i, h1, fun res h => ?_⟩
   refine ev_s ?_
   simp only [spec_l20Raw.l1, if_pos (show (j : Int) < ((P.map (fun p => p.2.row)).length : Int) by rw [List.length_map]; omega), if_pos (show (0 : Int) ≤ (j : Int) by omega), hrd]
   refine Ev.bind hc ?_
   simp only [if_pos hg, show wrap64 ((j : Int) + 1) = ((j + 1 : Nat) : Int) from wrap_nat2 j 1 (by omega)]
   exact h2 res h
  ·
   refine ⟨j, by omega, fun res h => ?_⟩
   refine ev_s ?_
   simp only [spec_l20Raw.l1, if_pos (show (j : Int) < ((P.map (fun p => p.2.row)).length : Int) by rw [List.length_map]; omega), if_pos (show (0 : Int) ≤ (j : Int) by omega), hrd]
   refine Ev.bind hc ?_
   simp only [if_neg hg]
   exact h
theorem raw_j3 (hP : ∀ p ∈ P, p.2.row.length ≤ 1000) (he : e.row.length ≤ 1000) (p : Int) (x5 : List Int) (i : Nat) (hi : i ≤ P.length) : ∃ f : Bool, (f = true → i < P.length) ∧ ∀ res, Ev (fun k => spec_l20Raw.j4 k X1 x5 (P.map (fun p => p.2.row)) X7 e.row (i : Int) f b p) res → Ev (fun k => spec_l20Raw.j3 k X1 x5 (P.map (fun p => p.2.row)) X7 e.row (i : Int) b p) res := by
 by_cases hlt : i < P.length
 ·
  have hlt2 : i < (P.map (fun p => p.2.row)).length := by rw [List.length_map]; exact hlt
  have hrd : rd_L3 (P.map (fun p => p.2.row)) (i : Int) = P[i].2.row := by rw [rdL1_get hlt2, List.getElem_map]
  refine ⟨ordI (O.cmp P[i].2 e) == 0, fun _ => hlt, fun res h => ?_⟩
  refine ev_s ?_
  simp only [spec_l20Raw.j3, if_pos (show (i : Int) < ((P.map (fun p => p.2.row)).length : Int) by rw [List.length_map]; omega), if_pos (show (0 : Int) ≤ (i : Int) by omega), hrd]
  exact Ev.bind (l1Compare_ev P[i].2 e (Nat.le_trans (hP _ (List.getElem_mem hlt)) (by omega)) (by omega)) h
 ·
  refine ⟨false, fun h => (by cases h), fun res h => ?_⟩
  refine ev_s ?_
  simp only [spec_l20Raw.j3, if_neg (show ¬ ((i : Int) < ((P.map (fun p => p.2.row)).length : Int)) by rw [List.length_map]; omega)]
  exact h
end
theorem raw_sm {a c m : Nat} (ha : a ≤ 3) (hc : c ≤ 1) (hm : m ≤ 10) : 1 + a + c * 60 + m ≤ 1000 := by omega
theorem raw_a1 {a : Nat} (h : (a : Int) < 3 ∨ (a : Int) = 0) : a ≤ 3 := by omega
theorem raw_a2 {a : Nat} (h : (a : Int) < 60 ∨ (a : Int) = 0) : a / 59 ≤ 1 := by
 have : a < 60 := by omega
 have := Nat.div_le_div_right (c := 59) (show a ≤ 59 by omega)
 exact Nat.le_trans this (by decide)
theorem raw_m {a m : Nat} (h : a + m ≤ 10) : m ≤ 10 := by omega
theorem raw_v1 {a c : Nat} (ha : a ≤ 3) (hc : c ≤ 1) : wrap64 ((wrap64 (1 + (a : Int))) + (wrap64 ((wrap64 (c : Int)) * 60))) = ((1 + a + c * 60 : Nat) : Int) := by
 rw [wrap_in (x := 1 + (a : Int)) (by omega) (by omega), wrap_in (x := (c : Int)) (by omega) (by omega), wrap_in (x := (c : Int) * 60) (by omega) (by omega), wrap_in (by omega) (by omega)]; omega
theorem raw_v {a : Nat} (a2 : Nat) (ha : a ≤ 3) (hc : a2 / 59 ≤ 1) : wrap64 ((wrap64 (1 + (a : Int))) + (wrap64 ((wrap64 (Int.tdiv (a2 : Int) 59)) * 60))) = ((1 + a + a2 / 59 * 60 : Nat) : Int) := by
 rw [show Int.tdiv (a2 : Int) 59 = ((a2 / 59 : Nat) : Int) from tdiv_nat a2 59]; exact raw_v1 ha hc
theorem raw_put (b : List Int) (hb : Bytes b) (X1 : Int) (R m : Nat) (hR : R ≤ 1000) (P : List (Nat × O)) (e : O) (hP : ∀ p ∈ P, p.2.row.length ≤ R ∧ p.1 + (m + 1) ≤ 1000) (he : e.row.length ≤ R) (hl : P.length + m ≤ 10) (p : Nat) (hp : p ≤ 1000000) :
  ∃ (P' : List (Nat × O)) (q : Nat), P'.length ≤ P.length + 1 ∧ (∀ p ∈ P', p.2.row.length ≤ R ∧ p.1 + m ≤ 1000) ∧ q ≤ p + 2 ∧
   ∀ res, Ev (fun k => spec_l20Raw.l0 k X1 (P'.map (fun p => (p.1 : Int))) (P'.map (fun p => p.2.row)) (m : Int) b (q : Int)) res → Ev (fun k => spec_l20Raw.j1 k X1 (P.map (fun p => (p.1 : Int))) (P.map (fun p => p.2.row)) ((m + 1 : Nat) : Int) e.row b (p : Int)) res := by
 have hP1 : ∀ p ∈ P, p.2.row.length ≤ 1000 := fun q hq => Nat.le_trans (hP q hq).1 hR
 obtain ⟨i, hi, h1⟩ := raw_l1 (b := b) (X1 := X1) (X7 := ((m + 1 : Nat) : Int)) hP1 (Nat.le_trans he hR) (by omega) (p : Int) (P.map (fun p => (p.1 : Int))) P.length 0 (by omega)
 obtain ⟨f, hf, h2⟩ := raw_j3 (b := b) (X1 := X1) (X7 := ((m + 1 : Nat) : Int)) hP1 (Nat.le_trans he hR) (p : Int) (P.map (fun p => (p.1 : Int))) i hi
 have em : wrap64 (((m + 1 : Nat) : Int) - 1) = (m : Int) := by rw [wrap_in (by omega) (by omega)]; omega
 cases f with
 | true =>
  have hlt := hf rfl
  have hpi := hP _ (List.getElem_mem hlt)
  have hlt2 : i < (P.map (fun p => (p.1 : Int))).length := by rw [List.length_map]; exact hlt
  refine ⟨P.set i (P[i].1 + 1, P[i].2), p, by rw [List.length_set]; omega, fun q hq => ?_, by omega, fun res h => ?_⟩
  ·
   rcases List.mem_or_eq_of_mem_set hq with hq | rfl
   ·
    have := hP q hq; exact ⟨this.1, by omega⟩
   ·
    exact ⟨hpi.1, by simp only; omega⟩
  ·
   refine ev_s ?_
   simp only [spec_l20Raw.j1]
   refine h1 res (h2 res (ev_s ?_))
   simp only [spec_l20Raw.j4, if_true, if_pos (show (0 : Int) ≤ (i : Int) by omega), if_pos (show (i : Int) < ((P.map (fun p => (p.1 : Int))).length : Int) by rw [List.length_map]; omega), Int.toNat_natCast, rd_get hlt2, List.getElem_map, em]
   have e1 : (P.map (fun p => (p.1 : Int))).set i (wrap64 ((P[i].1 : Int) + 1)) = (P.set i (P[i].1 + 1, P[i].2)).map (fun p => (p.1 : Int)) := by
    rw [List.map_set, show wrap64 ((P[i].1 : Int) + 1) = ((P[i].1 + 1 : Nat) : Int) from wrap_nat2 P[i].1 1 (by omega)]
   have e2 : (P.set i (P[i].1 + 1, P[i].2)).map (fun p => p.2.row) = P.map (fun p => p.2.row) := by
    rw [List.map_set]
    have : P[i].2.row = (P.map (fun p => p.2.row))[i]'(by rw [List.length_map]; exact hlt) := by rw [List.getElem_map]
    rw [this, List.set_getElem_self]
   rw [e1, ← e2]
   exact h
 | false =>
  obtain ⟨v1, g1, g2, g3⟩ := pick_ev b hb p (by omega) 3
  obtain ⟨v2, g4, g5, g6⟩ := pick_ev b hb (p + 1) (by omega) 60
  obtain ⟨a1, rfl⟩ := Int.eq_ofNat_of_zero_le g1
  obtain ⟨a2, rfl⟩ := Int.eq_ofNat_of_zero_le g4
  have ha1 : a1 ≤ 3 := raw_a1 g2
  have h59 : a2 / 59 ≤ 1 := raw_a2 g5
  have hsm : 1 + a1 + a2 / 59 * 60 + m ≤ 1000 := raw_sm ha1 h59 (raw_m hl)
  have ev := raw_v a2 ha1 h59
  generalize 1 + a1 + a2 / 59 * 60 = y at ev hsm
  refine ⟨P.take i ++ [(y, e)] ++ P.drop i, p + 1 + 1, by simp only [List.length_append, List.length_take, List.length_drop, List.length_singleton]; omega, fun q hq => ?_, by omega, fun res h => ?_⟩
  ·
   rw [List.mem_append, List.mem_append] at hq
   rcases hq with (hq | hq) | hq
   ·
    have := hP q (List.mem_of_mem_take hq); exact ⟨this.1, by omega⟩
   ·
    rw [List.mem_singleton] at hq; subst hq; exact ⟨he, hsm⟩
   ·
    have := hP q (List.mem_of_mem_drop hq); exact ⟨this.1, by omega⟩
  ·
   refine ev_s ?_
   simp only [spec_l20Raw.j1]
   refine h1 res (h2 res (ev_s ?_))
   simp only [spec_l20Raw.j4, Bool.false_eq_true, if_false, Option.bind_some, if_pos (show (0 : Int) ≤ (i : Int) by omega), if_pos (show (i : Int) ≤ ((P.map (fun p => (p.1 : Int))).length : Int) by rw [List.length_map]; omega), Int.toNat_natCast, List.nil_append, List.length_nil, List.length_take, List.length_map, List.length_append, List.length_singleton, List.length_drop,
    if_pos (show 0 + min i P.length < 17592186044416 by omega), if_pos (show (i : Int) ≤ (P.length : Int) by omega)]
   refine Ev.bind g3 ?_
   refine Ev.bind g6 ?_
   simp only [ev, List.length_take, List.length_map, List.length_append, List.length_singleton, List.length_drop, if_pos (show 0 + min i P.length + 1 < 17592186044416 by omega), if_pos (show 0 + min i P.length + 1 + (P.length - i) < 17592186044416 by omega), if_pos (show min i P.length + 1 < 17592186044416 by omega), if_pos (show min i P.length + 1 + (P.length - i) < 17592186044416 by omega), if_pos (show 0 + min i P.length + 1 < 5864062014805 by omega), if_pos (show 0 + min i P.length + 1 + (P.length - i) < 5864062014805 by omega), if_pos (show (i : Int) ≤ (P.length : Int) by omega), if_pos (show 0 + min i P.length < 5864062014805 by omega), if_pos (show min i P.length + 1 < 5864062014805 by omega), if_pos (show min i P.length + 1 + (P.length - i) < 5864062014805 by omega), em]
   simp only [List.map_append, List.map_take, List.map_drop, List.map_cons, List.map_nil] at h
   exact h
theorem OrdOf_row (n : Nat) (hn : n ≤ 9999) : spec_OrdOf.f (n : Int) = some (O.num n).row := by
 simp only [spec_OrdOf.f, l1In_eq, Option.bind_some, decide_eq_true (show 0 ≤ (n : Int) ∧ (n : Int) ≤ 9999 by omega), if_true]
 by_cases h : n = 0
 ·
  subst h; rfl
 ·
  rw [if_neg (by omega)]; simp [O.num, h, O.row, O.body, O.len]
theorem l20Raw_ev (b : List Int) (hb : Bytes b) : ∀ (D d : Nat), d ≤ D → D ≤ 3 → ∀ p : Nat, p + rawP d ≤ 100000 → ∃ (o : O) (q : Nat), o.row.length ≤ rawL d ∧ q ≤ p + rawP d ∧ Ev (fun k => spec_l20Raw.f k b (p : Int) (d : Int)) (o.row, (q : Int)) := by
 intro D
 induction D with
 | zero =>
  intro d hd _ p hp
  have : d = 0 := by omega
  subst this
  obtain ⟨v, hv0, hv1, he⟩ := pick_ev b hb p (by omega) 4
  obtain ⟨n, rfl⟩ := Int.eq_ofNat_of_zero_le hv0
  refine ⟨O.num n, p + 1, ?_, by simp [rawP], ?_⟩
  ·
   unfold O.num; split <;> simp [O.row, O.body, O.len, rawL]
  ·
   refine ev_s ?_
   simp only [spec_l20Raw.f, if_pos (show ((0 : Nat) : Int) = 0 from rfl)]
   refine Ev.bind he ?_
   rw [OrdOf_row n (by omega)]
   exact Ev.now _
 | succ D IH =>
  intro d hd hD p hp
  cases d with
  | zero => exact IH 0 (by omega) (by omega) p hp
  | succ d =>
   have hRL := rawL_le (show d ≤ 3 by omega)
   have hloop : ∀ (m : Nat) (P : List (Nat × O)) (p : Nat), P.length + m ≤ 3 → (∀ x ∈ P, x.2.row.length ≤ rawL d ∧ x.1 + m ≤ 1000) → p + m * (4 + rawP d) ≤ 100000 →
     ∃ (o : O) (q : Nat), o.row.length ≤ rawL (d + 1) ∧ q ≤ p + m * (4 + rawP d) ∧ Ev (fun k => spec_l20Raw.l0 k ((d + 1 : Nat) : Int) (P.map (fun p => (p.1 : Int))) (P.map (fun p => p.2.row)) (m : Int) b (p : Int)) (o.row, (q : Int)) := by
    intro m
    induction m with
    | zero =>
     intro P p hl hP hp
     have hb2 := mkO_body (rawL d) P (fun q hq => (hP q hq).1)
     have h3 : P.length * (1 + rawL d) ≤ 3 * (1 + rawL d) := Nat.mul_le_mul_right _ (by omega)
     refine ⟨mkO P, p, by rw [O.row_length]; simp only [rawL]; omega, by omega, ?_⟩
     refine ev_s ?_
     simp only [spec_l20Raw.l0, if_neg (show ¬ (((0 : Nat) : Int) > 0) by decide)]
     refine Ev.bind (l1Make_ev _ _ (by rw [List.length_map, List.length_map]) (by rw [List.length_map]; omega) (by rw [mkO_zip]; omega)) ?_
     rw [List.length_map, mkO_row]
     exact Ev.now _
    | succ m IHm =>
     intro P p hl hP hp
     rw [Nat.succ_mul] at hp ⊢
     obtain ⟨v, hv0, hv1, he⟩ := pick_ev b hb p (by omega) 4
     have step : ∀ (e : O) (p1 : Nat), e.row.length ≤ rawL d → p1 ≤ p + 2 + rawP d → ∃ (o : O) (q : Nat), o.row.length ≤ rawL (d + 1) ∧ q ≤ p + (m * (4 + rawP d) + (4 + rawP d)) ∧ Ev (fun k => spec_l20Raw.j1 k ((d + 1 : Nat) : Int) (P.map (fun p => (p.1 : Int))) (P.map (fun p => p.2.row)) ((m + 1 : Nat) : Int) e.row b (p1 : Int)) (o.row, (q : Int)) := by
      intro e p1 hel hp1
      obtain ⟨P', q1, h1, h2, h3, h4⟩ := raw_put b hb ((d + 1 : Nat) : Int) (rawL d) m (by omega) P e hP hel (by omega) p1 (by omega)
      obtain ⟨o, q, h5, h6, h7⟩ := IHm P' q1 (by omega) h2 (by omega)
      exact ⟨o, q, h5, by omega, h4 _ h7⟩
     by_cases hv : v > 0
     ·
      obtain ⟨v2, hv2, hv3, he2⟩ := pick_ev b hb (p + 1) (by omega) ((d + 1 : Nat) : Int)
      obtain ⟨n, rfl⟩ := Int.eq_ofNat_of_zero_le hv2
      have hnd : n ≤ d := by omega
      have hRP := rawP_mono hnd
      obtain ⟨e, q0, h1, h2, h3⟩ := IH n (by omega) (by omega) (p + 1 + 1) (by omega)
      obtain ⟨o, q, h5, h6, h7⟩ := step e q0 (Nat.le_trans h1 (rawL_mono hnd)) (by omega)
      refine ⟨o, q, h5, h6, ev_s ?_⟩
      simp only [spec_l20Raw.l0, if_pos (show ((m + 1 : Nat) : Int) > 0 by omega)]
      refine Ev.bind he ?_
      simp only [if_pos hv]
      refine Ev.bind he2 ?_
      exact Ev.bind h3 h7
     ·
      obtain ⟨o, q, h5, h6, h7⟩ := step .z (p + 1) (by simp [O.row, O.body]; have := rawL_mono (Nat.zero_le d); simp only [rawL] at this; omega) (by omega)
      refine ⟨o, q, h5, h6, ev_s ?_⟩
      simp only [spec_l20Raw.l0, if_pos (show ((m + 1 : Nat) : Int) > 0 by omega)]
      refine Ev.bind he ?_
      simp only [if_neg hv]
      exact h7
   simp only [rawP] at hp
   obtain ⟨v, hv0, hv1, he⟩ := pick_ev b hb p (by omega) 4
   obtain ⟨n, rfl⟩ := Int.eq_ofNat_of_zero_le hv0
   have hn3 : n * (4 + rawP d) ≤ 3 * (4 + rawP d) := Nat.mul_le_mul_right _ (by omega)
   obtain ⟨o, q, h1, h2, h3⟩ := hloop n [] (p + 1) (by simp; omega) (fun x hx => by simp at hx) (by omega)
   refine ⟨o, q, h1, by simp only [rawP]; omega, ev_s ?_⟩
   simp only [spec_l20Raw.f, if_neg (show ¬ (((d + 1 : Nat) : Int) = 0) by omega)]
   exact Ev.bind he h3
theorem l20Ord_j1 (b : List Int) (hb : Bytes b) (n : Int) (hn : n ≤ 1000000) (x : List Int) (hx : x.length ≤ 1000) (p : Nat) (hp : p ≤ 100000) : ∃ (out : List Int) (q : Nat), out.length ≤ 1001 ∧ q ≤ p + 2 ∧ Ev (fun k => spec_l20Ord.j1 k n x b (p : Int)) (out, (q : Int)) := by
 obtain ⟨o, q, hq, he⟩ := odd_ev b hb p (by omega) n hn
 cases o with
 | false =>
  refine ⟨x, q, by omega, by omega, ev_s ?_⟩
  simp only [spec_l20Ord.j1]
  refine Ev.bind he ?_
  simp only [Bool.false_eq_true, if_false]
  exact Ev.now _
 | true =>
  obtain ⟨v, _, _, he2⟩ := pick_ev b hb q (by omega) 5
  by_cases h0 : v = 0
  ·
   refine ⟨[], q + 1, by simp, by omega, ev_s ?_⟩
   simp only [spec_l20Ord.j1]; refine Ev.bind he ?_; simp only [if_true]; refine Ev.bind he2 ?_; simp only [if_pos h0]; exact Ev.now _
  by_cases h1 : v = 1
  ·
   refine ⟨x ++ [0], q + 1, by simp; omega, by omega, ev_s ?_⟩
   simp only [spec_l20Ord.j1]; refine Ev.bind he ?_; simp only [if_true]; refine Ev.bind he2 ?_
   simp only [if_neg h0, if_pos h1, Option.bind_some, List.nil_append, List.length_nil, if_pos (show 0 + x.length < 17592186044416 by omega), if_pos (show x.length < 17592186044416 by omega)]; exact Ev.now _
  by_cases h2 : v = 2
  ·
   refine ⟨[2, 1, 0, 1, 1, 1, 0], q + 1, by simp, by omega, ev_s ?_⟩
   simp only [spec_l20Ord.j1]; refine Ev.bind he ?_; simp only [if_true]; refine Ev.bind he2 ?_; simp only [if_neg h0, if_neg h1, if_pos h2]; exact Ev.now _
  by_cases h3 : v = 3
  ·
   refine ⟨[1, 0, 0], q + 1, by simp, by omega, ev_s ?_⟩
   simp only [spec_l20Ord.j1]; refine Ev.bind he ?_; simp only [if_true]; refine Ev.bind he2 ?_; simp only [if_neg h0, if_neg h1, if_neg h2, if_pos h3]; exact Ev.now _
  ·
   refine ⟨[1, 10000, 0], q + 1, by simp, by omega, ev_s ?_⟩
   simp only [spec_l20Ord.j1]; refine Ev.bind he ?_; simp only [if_true]; refine Ev.bind he2 ?_; simp only [if_neg h0, if_neg h1, if_neg h2, if_neg h3]; exact Ev.now _
theorem l20Ord_l0 (b : List Int) (hb : Bytes b) (n : Int) (hn : n ≤ 1000000) : ∀ (d i : Nat) (x : List Int) (p : Nat), i + d = 4 → x.length ≤ 1000 → p + d * 300 ≤ 50000 → ∃ (out : List Int) (q : Nat), out.length ≤ 1001 ∧ q ≤ p + d * 300 + 2 ∧ Ev (fun k => spec_l20Ord.l0 k n x (i : Int) b (p : Int)) (out, (q : Int))
 | 0, i, x, p, hi, hx, hp => by
  obtain ⟨out, q, h1, h2, h3⟩ := l20Ord_j1 b hb n hn x hx p (by omega)
  refine ⟨out, q, h1, by omega, ev_s ?_⟩
  simp only [spec_l20Ord.l0, if_neg (show ¬ ((i : Int) < 4) by omega)]
  exact h3
 | d + 1, i, x, p, hi, hx, hp => by
  by_cases h24 : (x.length : Int) > 24
  ·
   have hL := rawL_le (show 2 ≤ 3 by omega)
   have hP := rawP_le (show 2 ≤ 3 by omega)
   obtain ⟨o, q0, h1, h2, h3⟩ := l20Raw_ev b hb 3 2 (by omega) (by omega) p (by omega)
   obtain ⟨out, q, h4, h5, h6⟩ := l20Ord_l0 b hb n hn d (i + 1) o.row q0 (by omega) (by omega) (by omega)
   refine ⟨out, q, h4, by omega, ev_s ?_⟩
   simp only [spec_l20Ord.l0, if_pos (show (i : Int) < 4 by omega), if_pos h24]
   refine Ev.bind h3 ?_
   rw [show wrap64 ((i : Int) + 1) = ((i + 1 : Nat) : Int) from wrap_nat2 i 1 (by omega)]
   exact h6
  ·
   obtain ⟨out, q, h1, h2, h3⟩ := l20Ord_j1 b hb n hn x hx p (by omega)
   refine ⟨out, q, h1, by omega, ev_s ?_⟩
   simp only [spec_l20Ord.l0, if_pos (show (i : Int) < 4 by omega), if_neg h24]
   exact h3
theorem l20Ord_ev (b : List Int) (hb : Bytes b) (p : Nat) (hp : p ≤ 10000) (n : Int) (hn : n ≤ 1000000) : ∃ (out : List Int) (q : Nat), out.length ≤ 1001 ∧ q ≤ p + 2000 ∧ Ev (fun k => spec_l20Ord.f k b (p : Int) n) (out, (q : Int)) := by
 have hL := rawL_le (Nat.le_refl 3)
 have hP := rawP_le (Nat.le_refl 3)
 obtain ⟨o, q0, h1, h2, h3⟩ := l20Raw_ev b hb 3 3 (by omega) (by omega) p (by omega)
 obtain ⟨out, q, h4, h5, h6⟩ := l20Ord_l0 b hb n hn 4 0 o.row q0 rfl (by omega) (by omega)
 refine ⟨out, q, h4, by omega, ?_⟩
 simp only [spec_l20Ord.f]
 exact Ev.bind h3 h6

-- part: alive
theorem alive_ev : Ev (fun k => laws_alive.f k) true := Ev.of laws_alive.mono (k := 20) (by decide +kernel)

-- part: law_FnBaseOk
theorem DrawBaseOk_ev (l : List Int) (h : ∀ x ∈ l, (Lit.int .u8 x).wf = true) : ∃ (out : List Int) (r : Int), out.length ≤ 1001 ∧ Ev (fun k => spec_DrawBaseOk.f k l) (out, r) := by
 obtain ⟨b, hb, ho⟩ := open_ev l h
 obtain ⟨out, q, h1, h2, hE⟩ := l20Ord_ev b hb 0 (by omega) 9 (by omega)
 obtain ⟨v1, _, _, e1⟩ := pick_ev b hb q (by omega) 9
 obtain ⟨v2, _, _, e2⟩ := pick_ev b hb (q + 1) (by omega) 12
 obtain ⟨v3, _, _, e3⟩ := pick_ev b hb (q + 1 + 1) (by omega) 90
 obtain ⟨v4, _, _, e4⟩ := pick_ev b hb (q + 1 + 1 + 1) (by omega) 40
 refine ⟨out, wrap64 ((wrap64 ((wrap64 (2 + v1)) + (wrap64 ((wrap64 (Int.tdiv v2 11)) * v3)))) - (wrap64 ((wrap64 (Int.tdiv v4 39)) * 3))), h1, ?_⟩
 simp only [spec_DrawBaseOk.f, ho, Option.bind_some, spec_l20Root.f]
 refine Ev.bind hE ?_
 refine Ev.bind (Ev.bind e1 (Ev.bind e2 (Ev.bind e3 (Ev.bind e4 (Ev.now _))))) ?_
 exact Ev.now _
theorem FnBaseOk : laws_FnBaseOk.Pure := by
 intro l0 _ _ hw
 refine Ev.rounds ?_
 simp only [laws_FnBaseOk.f]
 by_cases hb : (l0.length : Int) > 1048576
 ·
  simp only [if_pos hb]; exact Ev.now _
 simp only [if_neg hb]
 obtain ⟨l, b, ho, he⟩ := DrawBaseOk_ev l0 hw
 refine Ev.bind he ?_
 have hal : Ev (fun k => (laws_alive.f k).bind fun t => some t) true := Ev.bind alive_ev (Ev.now _)
 rcases ord_or l with ⟨x, rfl, hs, hr⟩ | h
 ·
  refine Ev.bind (impl_BaseOk_good hs hr b) ?_
  refine Ev.bind (spec_BaseOk_good hs hr b) ?_
  simp only [bne_self_eq_false, Bool.false_eq_true, if_false]
  cases hk : x.baseOk b with
  | false => simp only [Bool.false_eq_true, if_false]; exact hal
  | true =>
   simp only [if_true]
   have hk2 : (2 ≤ b ∧ b ≤ 90) ∧ (x.most : Int) < b := by
    unfold O.baseOk at hk
    rw [Bool.and_eq_true] at hk
    exact ⟨of_decide_eq_true hk.1, of_decide_eq_true hk.2⟩
   obtain ⟨c, rfl⟩ := Int.eq_ofNat_of_zero_le (show 0 ≤ b by omega)
   have hfin : Ev (fun k => (if (c : Int) = 90 then (some true) else ((impl_BaseOk.f k x.row (wrap64 ((c : Int) + 1))).bind fun t489 => (some t489)) : Option Bool)) true := by
    by_cases h9 : (c : Int) = 90
    ·
     simp only [if_pos h9]; exact Ev.now _
    ·
     simp only [if_neg h9, show wrap64 ((c : Int) + 1) = ((c + 1 : Nat) : Int) from wrap_nat2 c 1 (by omega)]
     refine Ev.bind (impl_BaseOk_good hs hr _) ?_
     exact ev_now (by rw [O.baseOk, decide_eq_true (show 2 ≤ ((c + 1 : Nat) : Int) ∧ ((c + 1 : Nat) : Int) ≤ 90 by omega), decide_eq_true (show (x.most : Int) < ((c + 1 : Nat) : Int) by omega)]; rfl)
   obtain ⟨v, hv, hE⟩ := impl_SlowValue_ev hs hr (b := c) (by omega) (by omega)
   refine Ev.bind hE ?_
   rcases hv with rfl | ⟨rfl, hle⟩
   ·
    simp only [if_pos (show (-1 : Int) < 0 by decide)]
    exact hfin
   ·
    simp only [if_neg (show ¬ (((O.val c x : Nat) : Int) < 0) by omega)]
    refine Ev.bind (impl_OrdInBase_ev _ _) ?_
    have hx : inbFit ((O.val c x : Nat) : Int) (c : Int) = x.row := by
     rw [inbFit, if_pos (by omega), Int.toNat_natCast, Int.toNat_natCast, O.inb_of (by omega) hs.nf (O.small_of_most (by omega)), O.fit, if_pos ⟨hr, O.most_of hs⟩]
    rw [hx]
    refine Ev.bind (sameInts_ev x.row x.row (by omega)) ?_
    simp only [decide_true, if_true]
    exact hfin
 ·
  refine Ev.bind (impl_BaseOk_bad h b) ?_
  refine Ev.bind (spec_BaseOk_bad h b) ?_
  simp only [bne_self_eq_false, Bool.false_eq_true, if_false]
  exact hal

end Go.Proofs.Ytomidfnhbnhhmaa.Pure

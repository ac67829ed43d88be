/- The walks of slices.SortStableFunc's family over this program: what slices.SortStableFunc leaves of a row of elements of one cell, under a strict weak order; no condition of our own. -/
import Derived.Shelf.SlSortCmp.Insertion1
import Derived.Sort.LotA
import Derived.Deep.DeepCutAuto
import Derived.Deep.CutBlock
import Derived.Lib.QuietBelow
import Derived.Test.YtmidgjmlgjjobaaProg
namespace Go.Proofs.Ytmidgjmlgjjobaa.Stab
set_option linter.unusedVariables false
set_option linter.unusedSimpArgs false
/-! ### a stable sort in place: what each piece leaves, place by place -/
section
open Go.Sort
set_option linter.unusedSectionVars false
variable {α : Type} [Inhabited α]
/-- Two ranges of n places exchanged. -/
structure SR (a b n : Nat) (d d' : Array α) : Prop where
 size : d'.size = d.size
 left : ∀ k, a ≤ k → k < a + n → d'[k]! = d[k + (b - a)]!
 right : ∀ k, b ≤ k → k < b + n → d'[k]! = d[k - (b - a)]!
 same : ∀ k, (k < a ∨ a + n ≤ k) → (k < b ∨ b + n ≤ k) → d'[k]! = d[k]!
 perm : ∀ lo hi, lo ≤ a → b + n ≤ hi → hi ≤ d.size → PermIn lo hi d d'
theorem SR.zero (a b : Nat) (d : Array α) : SR a b 0 d d := ⟨rfl, fun k h1 h2 => by omega, fun k h1 h2 => by omega, fun _ _ _ => rfl, fun lo hi _ _ _ => permIn_refl d lo hi⟩
theorem SR.step {a b n : Nat} {d d' : Array α} (h : SR a b n d d') (hab : a + (n + 1) ≤ b) (hb : b + (n + 1) ≤ d.size) : SR a b (n + 1) d (swp d' (a + n) (b + n)) := by
 have hs := h.size
 refine ⟨by rw [size_swp, hs], fun k h1 h2 => ?_, fun k h1 h2 => ?_, fun k h1 h2 => ?_, fun lo hi h1 h2 h3 => ?_⟩
 ·
  by_cases e : k = a + n
  ·
   subst e
   rw [swp_left _ _ _ (by omega) (by omega), h.same _ (by omega) (by omega)]
   congr 1; omega
  ·
   rw [swp_other _ _ _ _ e (by omega)]; exact h.left k h1 (by omega)
 ·
  by_cases e : k = b + n
  ·
   subst e
   rw [swp_right _ _ _ (by omega), h.same _ (by omega) (by omega)]
   congr 1; omega
  ·
   rw [swp_other _ _ _ _ (by omega) e]; exact h.right k h1 (by omega)
 ·
  rw [swp_other _ _ _ _ (by omega) (by omega)]; exact h.same k (by omega) (by omega)
 ·
  exact permIn_trans _ _ _ _ _ (h.perm lo hi h1 (by omega) h3) (swp_permIn d' lo hi (a + n) (b + n) (by omega) (by omega) (by omega) (by omega) (by omega))
/-- Two neighbouring ranges changed round. -/
structure Rot (a m b : Nat) (d d' : Array α) : Prop where
 size : d'.size = d.size
 left : ∀ k, a ≤ k → k < a + (b - m) → d'[k]! = d[k + (m - a)]!
 right : ∀ k, a + (b - m) ≤ k → k < b → d'[k]! = d[k - (b - m)]!
 perm : PermIn a b d d'
/-- Where a place's element comes from. -/
def rotT (a m b : Nat) (d : Array α) (k : Nat) : α := if k < a + (b - m) then d[k + (m - a)]! else d[k - (b - m)]!
structure RotJ (a m b i j : Nat) (d d' : Array α) : Prop where
 hi : i ≤ m - a
 hj : j ≤ b - m
 size : d'.size = d.size
 perm : PermIn a b d d'
 out : ∀ k, a ≤ k → k < m - i → d'[k]! = rotT a m b d k
 out' : ∀ k, m + j ≤ k → k < b → d'[k]! = rotT a m b d k
 inn : ∀ k, m - i ≤ k → k < m - i + j → d'[k + i]! = rotT a m b d k
 inn' : ∀ k, m - i + j ≤ k → k < m + j → d'[k - j]! = rotT a m b d k
theorem RotJ.start {a m b : Nat} (ham : a ≤ m) (hmb : m ≤ b) (d : Array α) : RotJ a m b (m - a) (b - m) d d where
 hi := Nat.le_refl _
 hj := Nat.le_refl _
 size := rfl
 perm := permIn_refl d a b
 out := fun k h1 h2 => by omega
 out' := fun k h1 h2 => by omega
 inn := fun k h1 h2 => by rw [rotT, if_pos (by omega)]
 inn' := fun k h1 h2 => by rw [rotT, if_neg (by omega)]
theorem RotJ.left {a m b i j : Nat} {d d' d'' : Array α} (h : RotJ a m b i j d d') (ham : a ≤ m) (hmb : m ≤ b) (hb : b ≤ d.size) (hij : j < i) (s : SR (m - i) m j d' d'') : RotJ a m b (i - j) j d d'' where
 hi := by have := h.hi; omega
 hj := h.hj
 size := by rw [s.size, h.size]
 perm := permIn_trans _ _ _ _ _ h.perm (s.perm a b (by have := h.hi; omega) (by have := h.hj; omega) (by rw [h.size]; exact hb))
 out := fun k h1 h2 => by
  have e1 := h.hi
  by_cases hk : k < m - i
  ·
   rw [s.same k (by omega) (by omega)]; exact h.out k h1 hk
  ·
   rw [s.left k (by omega) (by omega), ← h.inn k (by omega) (by omega)]
   congr 1; omega
 out' := fun k h1 h2 => by rw [s.same k (by omega) (by omega)]; exact h.out' k h1 h2
 inn := fun k h1 h2 => by
  have e1 := h.hi
  rw [s.right _ (by omega) (by omega), ← h.inn' k (by omega) (by omega)]
  congr 1; omega
 inn' := fun k h1 h2 => by
  have e1 := h.hi
  rw [s.same _ (by omega) (by omega)]; exact h.inn' k (by omega) (by omega)
theorem RotJ.right {a m b i j : Nat} {d d' d'' : Array α} (h : RotJ a m b i j d d') (ham : a ≤ m) (hmb : m ≤ b) (hb : b ≤ d.size) (hij : i < j) (s : SR (m - i) (m + j - i) i d' d'') : RotJ a m b i (j - i) d d'' where
 hi := h.hi
 hj := by have := h.hj; omega
 size := by rw [s.size, h.size]
 perm := permIn_trans _ _ _ _ _ h.perm (s.perm a b (by have := h.hi; omega) (by have := h.hj; omega) (by rw [h.size]; exact hb))
 out := fun k h1 h2 => by rw [s.same k (by omega) (by omega)]; exact h.out k h1 h2
 out' := fun k h1 h2 => by
  have e1 := h.hi
  by_cases hk : m + j ≤ k
  ·
   rw [s.same k (by omega) (by omega)]; exact h.out' k hk h2
  ·
   rw [s.right k (by omega) (by omega), ← h.inn' k (by omega) (by omega)]
   congr 1; omega
 inn := fun k h1 h2 => by
  have e1 := h.hi
  rw [s.same _ (by omega) (by omega)]; exact h.inn k (by omega) (by omega)
 inn' := fun k h1 h2 => by
  have e1 := h.hi
  rw [s.left _ (by omega) (by omega), ← h.inn k (by omega) (by omega)]
  congr 1; omega
theorem RotJ.done {a m b i : Nat} {d d' d'' : Array α} (h : RotJ a m b i i d d') (ham : a ≤ m) (hmb : m ≤ b) (hb : b ≤ d.size) (s : SR (m - i) m i d' d'') : Rot a m b d d'' := by
 have e1 := h.hi
 have e2 := h.hj
 have hT : ∀ k, a ≤ k → k < b → d''[k]! = rotT a m b d k := fun k h1 h2 => by
  by_cases hk : k < m - i
  ·
   rw [s.same k (by omega) (by omega)]; exact h.out k h1 hk
  ·
   by_cases hk2 : m + i ≤ k
   ·
    rw [s.same k (by omega) (by omega)]; exact h.out' k hk2 h2
   ·
    by_cases hk3 : k < m
    ·
     rw [s.left k (by omega) (by omega), ← h.inn k (by omega) (by omega)]; congr 1; omega
    ·
     rw [s.right k (by omega) (by omega), ← h.inn' k (by omega) (by omega)]; congr 1; omega
 refine ⟨by rw [s.size, h.size], fun k h1 h2 => ?_, fun k h1 h2 => ?_, permIn_trans _ _ _ _ _ h.perm (s.perm a b (by omega) (by omega) (by rw [h.size]; exact hb))⟩
 ·
  rw [hT k h1 (by omega), rotT, if_pos h2]
 ·
  rw [hT k (by omega) h2, rotT, if_neg (by omega)]
/-- What 'not less' gives, in a strict weak order. -/
theorem swo_lt_of {lt : α → α → Bool} (O : SWO lt) {x y z : α} (h1 : lt x y = true) (h2 : lt z y = false) : lt x z = true := by
 cases h : lt x z with
 | true => rfl
 | false => rw [O.ntrans x z y h h2] at h1; cases h1
theorem swo_lt_of' {lt : α → α → Bool} (O : SWO lt) {x y z : α} (h1 : lt x y = true) (h2 : lt x z = false) : lt z y = true := by
 cases h : lt z y with
 | true => rfl
 | false => rw [O.ntrans x z y h2 h] at h1; cases h1
theorem swo_asym {lt : α → α → Bool} (O : SWO lt) {x y : α} (h1 : lt x y = true) : lt y x = false := by
 cases h : lt y x with
 | false => rfl
 | true => have := O.trans x y x h1 h; rw [O.irrefl] at this; cases this
/-- One element, put into the sorted range behind it. -/
structure PutR (a i b : Nat) (d d' : Array α) (k : Nat) : Prop where
 size : d'.size = d.size
 perm : PermIn a b d d'
 lo : ∀ t, a ≤ t → t < k → d'[t]! = d[t + 1]!
 at_ : d'[k]! = d[a]!
 hi : ∀ t, k < t → d'[t]! = d[t]!
theorem PutR.start (a i b : Nat) (d : Array α) : PutR a i b d d a := ⟨rfl, permIn_refl d a b, fun t h1 h2 => by omega, rfl, fun _ _ => rfl⟩
theorem PutR.step {a i b k : Nat} {d d' : Array α} (h : PutR a i b d d' k) (hk : a ≤ k) (hkb : k + 1 < b) (hb : b ≤ d.size) : PutR a i b d (swp d' k (k + 1)) (k + 1) := by
 have hs := h.size
 refine ⟨by rw [size_swp, hs], permIn_trans _ _ _ _ _ h.perm (swp_permIn d' a b k (k + 1) (by omega) (by omega) (by omega) (by omega) (by omega)), fun t h1 h2 => ?_, ?_, fun t h1 => ?_⟩
 ·
  by_cases e : t = k
  ·
   subst e; rw [swp_left _ _ _ (by omega) (by omega)]; exact h.hi _ (by omega)
  ·
   rw [swp_other _ _ _ _ e (by omega)]; exact h.lo t h1 (by omega)
 ·
  rw [swp_right _ _ _ (by omega)]; exact h.at_
 ·
  rw [swp_other _ _ _ _ (by omega) (by omega)]; exact h.hi t (by omega)
theorem PutR.sorted {lt : α → α → Bool} (O : SWO lt) {a i b : Nat} {d d' : Array α} (h : PutR a i b d d' (i - 1)) (hai : a + 1 ≤ i) (hib : i ≤ b) (hY : SortedIn lt (a + 1) b d) (h1 : ∀ k, a + 1 ≤ k → k < i → lt d[k]! d[a]! = true) (h2 : ∀ k, i ≤ k → k < b → lt d[k]! d[a]! = false) : SortedIn lt a b d' := by
 intro p q hp hpq hq
 by_cases hp1 : p < i - 1
 ·
  rw [h.lo p hp hp1]
  by_cases hq1 : q < i - 1
  ·
   rw [h.lo q (by omega) hq1]; exact hY _ _ (by omega) (by omega) (by omega)
  ·
   by_cases hq2 : q = i - 1
   ·
    subst hq2; rw [h.at_]; exact swo_asym O (h1 _ (by omega) (by omega))
   ·
    rw [h.hi q (by omega)]; exact hY _ _ (by omega) (by omega) (by omega)
 ·
  by_cases hp2 : p = i - 1
  ·
   subst hp2; rw [h.at_, h.hi q (by omega)]; exact h2 q (by omega) hq
  ·
   rw [h.hi p (by omega), h.hi q (by omega)]; exact hY _ _ (by omega) (by omega) (by omega)
/-- The last element, put into the sorted range in front of it. -/
structure PutL (a m : Nat) (d d' : Array α) (k : Nat) : Prop where
 size : d'.size = d.size
 perm : PermIn a (m + 1) d d'
 lo : ∀ t, t < k → d'[t]! = d[t]!
 at_ : d'[k]! = d[m]!
 hi : ∀ t, k < t → t < m + 1 → d'[t]! = d[t - 1]!
theorem PutL.start (a m : Nat) (d : Array α) : PutL a m d d m := ⟨rfl, permIn_refl d a _, fun _ _ => rfl, rfl, fun t h1 h2 => by omega⟩
theorem PutL.step {a m k : Nat} {d d' : Array α} (h : PutL a m d d' (k + 1)) (hk : a ≤ k) (hkm : k + 1 ≤ m) (hb : m + 1 ≤ d.size) : PutL a m d (swp d' (k + 1) k) k := by
 have hs := h.size
 refine ⟨by rw [size_swp, hs], permIn_trans _ _ _ _ _ h.perm (swp_permIn d' a (m + 1) (k + 1) k (by omega) (by omega) (by omega) (by omega) (by omega)), fun t h1 => ?_, ?_, fun t h1 h2 => ?_⟩
 ·
  rw [swp_other _ _ _ _ (by omega) (by omega)]; exact h.lo t (by omega)
 ·
  rw [swp_right _ _ _ (by omega)]; exact h.at_
 ·
  by_cases e : t = k + 1
  ·
   subst e; rw [swp_left _ _ _ (by omega) (by omega)]; exact h.lo _ (by omega)
  ·
   rw [swp_other _ _ _ _ e (by omega)]; exact h.hi t (by omega) h2
theorem PutL.sorted {lt : α → α → Bool} (O : SWO lt) {a i m : Nat} {d d' : Array α} (h : PutL a m d d' i) (hai : a ≤ i) (him : i ≤ m) (hX : SortedIn lt a m d) (h1 : ∀ k, a ≤ k → k < i → lt d[m]! d[k]! = false) (h2 : ∀ k, i ≤ k → k < m → lt d[m]! d[k]! = true) : SortedIn lt a (m + 1) d' := by
 intro p q hp hpq hq
 by_cases hp1 : p < i
 ·
  rw [h.lo p hp1]
  by_cases hq1 : q < i
  ·
   rw [h.lo q hq1]; exact hX _ _ hp hpq (by omega)
  ·
   by_cases hq2 : q = i
   ·
    subst hq2; rw [h.at_]; exact h1 p hp hp1
   ·
    rw [h.hi q (by omega) hq]; exact hX _ _ hp (by omega) (by omega)
 ·
  by_cases hp2 : p = i
  ·
   subst hp2; rw [h.at_, h.hi q (by omega) hq]; exact swo_asym O (h2 _ (by omega) (by omega))
  ·
   rw [h.hi p (by omega) (by omega), h.hi q (by omega) hq]; exact hX _ _ (by omega) (by omega) (by omega)
/-- Both halves merged where the cut is right: the whole is sorted. -/
theorem merge_whole {lt : α → α → Bool} {a s m e mid b : Nat} {d d1 d2 d3 : Array α} (O : SWO lt) (has : a ≤ s) (hsm : s ≤ m) (hme : m ≤ e) (heb : e ≤ b) (hb : b ≤ d.size) (hmid : mid = s + (e - m))
  (hX : SortedIn lt a m d) (hY : SortedIn lt m b d)
  (h1 : ∀ p q, a ≤ p → p < s → e ≤ q → q < b → lt d[q]! d[p]! = false)
  (h2 : ∀ p q, m ≤ p → p < e → s ≤ q → q < m → lt d[q]! d[p]! = false)
  (r : Rot s m e d d1) (p1 : PermIn a mid d1 d2) (p2 : PermIn mid b d2 d3) (s1 : SortedIn lt a mid d2) (s2 : SortedIn lt mid b d3) : SortedIn lt a b d3 ∧ PermIn a b d d3 := by
 have z1 := r.size
 have z2 := p1.1
 have z3 := p2.1
 have hP : PermIn a b d d3 := permIn_trans _ _ _ _ _ (permIn_mono _ _ _ _ _ _ has heb hb r.perm) (permIn_trans _ _ _ _ _ (permIn_mono _ _ _ _ _ _ (Nat.le_refl _) (by omega) (by omega) p1) (permIn_mono _ _ _ _ _ _ (by omega) (Nat.le_refl _) (by omega) p2))
 refine ⟨?_, hP⟩
 -- what stands in front of the middle is not greater than what stands behind it
 have hlow : ∀ p, a ≤ p → p < mid → ∀ q, mid ≤ q → q < b → lt d1[q]! d1[p]! = false := by
  intro p hp hpm q hq hqb
  have hpv : (p < s ∧ d1[p]! = d[p]!) ∨ (s ≤ p ∧ d1[p]! = d[p + (m - s)]!) := by
   by_cases h : p < s
   ·
    exact .inl ⟨h, r.perm.2.1 p (.inl h)⟩
   ·
    exact .inr ⟨by omega, r.left p (by omega) (by omega)⟩
  have hqv : (q < e ∧ d1[q]! = d[q - (e - m)]!) ∨ (e ≤ q ∧ d1[q]! = d[q]!) := by
   by_cases h : q < e
   ·
    exact .inl ⟨h, r.right q (by omega) h⟩
   ·
    exact .inr ⟨by omega, r.perm.2.1 q (.inr (by omega))⟩
  rcases hpv with ⟨c1, e1⟩ | ⟨c1, e1⟩ <;> rcases hqv with ⟨c2, e2⟩ | ⟨c2, e2⟩ <;> rw [e1, e2]
  ·
   exact hX _ _ (by omega) (by omega) (by omega)
  ·
   exact h1 _ _ hp c1 c2 hqb
  ·
   exact h2 _ _ (by omega) (by omega) (by omega) (by omega)
  ·
   exact hY _ _ (by omega) (by omega) hqb
 have hlow2 : ∀ q, mid ≤ q → q < b → ∀ p, a ≤ p → p < mid → lt d1[q]! d2[p]! = false := fun q hq hqb p hp hpm =>
  permIn_all d1 d2 a mid (fun x => lt d1[q]! x = false) (by omega) p1 (fun i h3 h4 => hlow i h3 h4 q hq hqb) p hp hpm
 have hlow3 : ∀ p, a ≤ p → p < mid → ∀ q, mid ≤ q → q < b → lt d3[q]! d2[p]! = false := fun p hp hpm q hq hqb =>
  permIn_all d2 d3 mid b (fun x => lt x d2[p]! = false) (by omega) p2 (fun i h3 h4 => by rw [p1.2.1 i (.inr h3)]; exact hlow2 i h3 h4 p hp hpm) q hq hqb
 intro p q hp hpq hq
 by_cases hqm : q < mid
 ·
  rw [p2.2.1 p (.inl (by omega)), p2.2.1 q (.inl hqm)]; exact s1 p q hp hpq hqm
 ·
  by_cases hpm : p < mid
  ·
   rw [p2.2.1 p (.inl hpm)]; exact hlow3 p hp hpm q (by omega) hq
  ·
   exact s2 p q (by omega) hpq hq
/-- Sorted in ranges of B places. -/
def BlkS (lt : α → α → Bool) (B n : Nat) (d : Array α) : Prop := ∀ lo, B ∣ lo → SortedIn lt lo (min (lo + B) n) d
theorem dvd_gap {c lo a : Nat} (h : c ∣ lo) (h' : c ∣ a) (hl : lo < a) : lo + c ≤ a := by
 obtain ⟨x, rfl⟩ := h
 obtain ⟨y, rfl⟩ := h'
 have hxy : x < y := Nat.lt_of_mul_lt_mul_left hl
 calc c * x + c = c * (x + 1) := by rw [Nat.mul_add, Nat.mul_one]
  _ ≤ c * y := Nat.mul_le_mul_left c hxy
theorem sorted_same {lt : α → α → Bool} {lo hi a b : Nat} {d d' : Array α} (h : SortedIn lt lo hi d) (p : PermIn a b d d') (ho : hi ≤ a ∨ b ≤ lo) : SortedIn lt lo hi d' := by
 intro x y h1 h2 h3
 rw [p.2.1 x (by omega), p.2.1 y (by omega)]
 exact h x y h1 h2 h3
theorem sorted_short {lt : α → α → Bool} {lo hi : Nat} {d : Array α} (h : hi ≤ lo + 1) : SortedIn lt lo hi d := fun x y h1 h2 h3 => by omega
theorem sorted_sub {lt : α → α → Bool} {lo hi lo' hi' : Nat} {d : Array α} (h : SortedIn lt lo hi d) (h1 : lo ≤ lo') (h2 : hi' ≤ hi) : SortedIn lt lo' hi' d := fun x y h3 h4 h5 => h x y (by omega) h4 (by omega)
/-- Blocks sorted up to a. -/
structure BlkA (lt : α → α → Bool) (B n a : Nat) (d0 d : Array α) : Prop where
 perm : PermIn 0 n d0 d
 dvd : B ∣ a
 le : a ≤ n
 lo : ∀ l, B ∣ l → l < a → SortedIn lt l (l + B) d
theorem BlkA.start (lt : α → α → Bool) (B n : Nat) (d : Array α) : BlkA lt B n 0 d d := ⟨permIn_refl d 0 n, ⟨0, rfl⟩, Nat.zero_le _, fun l _ h => by omega⟩
theorem BlkA.step {lt : α → α → Bool} {B n a : Nat} {d0 d d' : Array α} (h : BlkA lt B n a d0 d) (hb : a + B ≤ n) (hn : n ≤ d0.size) (p : PermIn a (a + B) d d') (s : SortedIn lt a (a + B) d') : BlkA lt B n (a + B) d0 d' where
 perm := permIn_trans _ _ _ _ _ h.perm (permIn_mono _ _ _ _ _ _ (Nat.zero_le _) hb (by rw [h.perm.1]; exact hn) p)
 dvd := Nat.dvd_add h.dvd (Nat.dvd_refl _)
 le := hb
 lo := fun l hl hla => by
  by_cases e : l < a
  ·
   exact sorted_same (h.lo l hl e) p (.inl (dvd_gap hl h.dvd e))
  ·
   have hla2 : l = a := by
    by_cases e2 : l = a
    ·
     exact e2
    ·
     have := dvd_gap h.dvd hl (by omega); omega
   subst hla2; exact s
theorem BlkA.done {lt : α → α → Bool} {B n a : Nat} {d0 d d' : Array α} (h : BlkA lt B n a d0 d) (hb : n < a + B) (hn : n ≤ d0.size) (p : PermIn a n d d') (s : SortedIn lt a n d') : PermIn 0 n d0 d' ∧ BlkS lt B n d' := by
 have hle := h.le
 refine ⟨permIn_trans _ _ _ _ _ h.perm (permIn_mono _ _ _ _ _ _ (Nat.zero_le _) (Nat.le_refl _) (by rw [h.perm.1]; exact hn) p), fun l hl => ?_⟩
 by_cases e : l < a
 ·
  have := dvd_gap hl h.dvd e
  exact sorted_sub (sorted_same (h.lo l hl e) p (.inl this)) (Nat.le_refl _) (by omega)
 ·
  by_cases e2 : l = a
  ·
   subst e2; exact sorted_sub s (Nat.le_refl _) (by omega)
  ·
   have := dvd_gap h.dvd hl (by omega)
   exact sorted_short (by omega)
/-- Pairs of blocks merged up to a. -/
structure BlkM (lt : α → α → Bool) (B n a : Nat) (d0 d : Array α) : Prop where
 perm : PermIn 0 n d0 d
 dvd : 2 * B ∣ a
 le : a ≤ n
 lo : ∀ l, 2 * B ∣ l → l < a → SortedIn lt l (l + 2 * B) d
 hi : ∀ l, B ∣ l → a ≤ l → SortedIn lt l (min (l + B) n) d
theorem BlkM.start {lt : α → α → Bool} {B n : Nat} {d0 d : Array α} (p : PermIn 0 n d0 d) (h : BlkS lt B n d) : BlkM lt B n 0 d0 d := ⟨p, ⟨0, rfl⟩, Nat.zero_le _, fun l _ h => by omega, fun l hl _ => h l hl⟩
theorem BlkM.halves {lt : α → α → Bool} {B n a : Nat} {d0 d : Array α} (h : BlkM lt B n a d0 d) : B ∣ a ∧ B ∣ a + B := by
 have : B ∣ a := Nat.dvd_trans ⟨2, Nat.mul_comm 2 B⟩ h.dvd
 exact ⟨this, Nat.dvd_add this (Nat.dvd_refl _)⟩
theorem BlkM.left {lt : α → α → Bool} {B n a : Nat} {d0 d : Array α} (h : BlkM lt B n a d0 d) (hb : a + B ≤ n) : SortedIn lt a (a + B) d := sorted_sub (h.hi a h.halves.1 (Nat.le_refl _)) (Nat.le_refl _) (by omega)
theorem BlkM.right {lt : α → α → Bool} {B n a e : Nat} {d0 d : Array α} (h : BlkM lt B n a d0 d) (he : e ≤ n) (he2 : e ≤ a + 2 * B) : SortedIn lt (a + B) e d := sorted_sub (h.hi (a + B) h.halves.2 (by omega)) (Nat.le_refl _) (by omega)
theorem BlkM.step {lt : α → α → Bool} {B n a : Nat} {d0 d d' : Array α} (h : BlkM lt B n a d0 d) (hB : 0 < B) (hb : a + 2 * B ≤ n) (hn : n ≤ d0.size) (p : PermIn a (a + 2 * B) d d') (s : SortedIn lt a (a + 2 * B) d') : BlkM lt B n (a + 2 * B) d0 d' where
 perm := permIn_trans _ _ _ _ _ h.perm (permIn_mono _ _ _ _ _ _ (Nat.zero_le _) hb (by rw [h.perm.1]; exact hn) p)
 dvd := Nat.dvd_add h.dvd (Nat.dvd_refl _)
 le := hb
 lo := fun l hl hla => by
  by_cases e : l < a
  ·
   exact sorted_same (h.lo l hl e) p (.inl (dvd_gap hl h.dvd e))
  ·
   have hla2 : l = a := by
    by_cases e2 : l = a
    ·
     exact e2
    ·
     have := dvd_gap h.dvd hl (by omega); omega
   subst hla2; exact s
 hi := fun l hl hla => sorted_same (h.hi l hl (by omega)) p (.inr (by omega))
theorem BlkM.done {lt : α → α → Bool} {B n a : Nat} {d0 d d' : Array α} (h : BlkM lt B n a d0 d) (hB : 0 < B) (hb : n < a + 2 * B) (hn : n ≤ d0.size) (p : PermIn a n d d') (s : SortedIn lt a n d') : PermIn 0 n d0 d' ∧ BlkS lt (2 * B) n d' := by
 have hle := h.le
 refine ⟨permIn_trans _ _ _ _ _ h.perm (permIn_mono _ _ _ _ _ _ (Nat.zero_le _) (Nat.le_refl _) (by rw [h.perm.1]; exact hn) p), fun l hl => ?_⟩
 by_cases e : l < a
 ·
  have := dvd_gap hl h.dvd e
  exact sorted_sub (sorted_same (h.lo l hl e) p (.inl this)) (Nat.le_refl _) (by omega)
 ·
  by_cases e2 : l = a
  ·
   subst e2; exact sorted_sub s (Nat.le_refl _) (by omega)
  ·
   have := dvd_gap h.dvd hl (by omega)
   exact sorted_short (by omega)
theorem BlkM.done1 {lt : α → α → Bool} {B n a : Nat} {d0 d : Array α} (h : BlkM lt B n a d0 d) (hB : 0 < B) (hb : n ≤ a + B) (hn : n ≤ d0.size) : PermIn 0 n d0 d ∧ BlkS lt (2 * B) n d :=
 h.done hB (by omega) hn (permIn_refl d a n) (sorted_sub (h.hi a h.halves.1 (Nat.le_refl _)) (Nat.le_refl _) (by omega))
theorem BlkS.whole {lt : α → α → Bool} {B n : Nat} {d : Array α} (h : BlkS lt B n d) (hB : n ≤ B) : SortedIn lt 0 n d := sorted_sub (h 0 ⟨0, rfl⟩) (Nat.le_refl _) (by omega)
end

open Go.Shelf Go.RowKit Go.Lib Go.Sort
section
variable {α : Type} [Inhabited α] {enc : α → Value} {w0 W : World} {blk off : Nat} {dk d0 : Array α}
/-- A world of the sort's, however often the tape was asked. -/
def SD (enc : α → Value) (w0 : World) (blk off : Nat) (dk : Array α) (W : World) : Prop := ∃ (d : Nat) (W0 : World), SW enc w0 blk off dk W0 ∧ W = redrawn W0 d
/-- What is asked of the comparison: it may lay blocks and draw; it turns nothing. -/
def CmpB (g : Nat) (cb : Array Value) (enc : α → Value) (cf : α → α → Int) (blk off size : Nat) (w0 : World) : Prop :=
 ∀ (W : World) (dk : Array α), dk.size = size → SD enc w0 blk off dk W → ∀ x y : α, Calls Try.prog g (#[enc x, enc y] ++ cb) W fun e w' => e = .returned (.int .i64 (cf x y)) ∧ Below W.heap.size W w'
theorem SD.start (h : Holds enc w0 blk off dk) : SD enc w0 blk off dk w0 := ⟨w0.drawn, w0, SW.start h, rfl⟩
theorem SD.c1 (h : SD enc w0 blk off dk W) (R : Row1 enc w0 blk off d0) (hs : dk.size = d0.size) (i : Nat) (hi : i < dk.size) : W.cell? ⟨blk, off + i, none⟩ = some (enc dk[i]!) := by
 obtain ⟨d, W0, h, rfl⟩ := h
 exact h.c1 R hs i hi
theorem SD.f1 (h : SD enc w0 blk off dk W) (R : Row1 enc w0 blk off d0) (hs : dk.size = d0.size) (i : Nat) (hi : i < dk.size) : W.frozen? ⟨blk, off + i, none⟩ = false := by
 obtain ⟨d, W0, h, rfl⟩ := h
 exact h.f1 R hs i hi
theorem SD.grown (h : SD enc w0 blk off dk W) (d : Nat) (os : Array Obj) : SD enc w0 blk off dk (grow (redrawn W d) os) := by
 obtain ⟨d2, W0, h, rfl⟩ := h
 exact ⟨d, grow (W0.drewN 0) os, h.grown 0 os, rfl⟩
theorem SD.drew (h : SD enc w0 blk off dk W) : SD enc w0 blk off dk W.drew := by
 obtain ⟨d2, W0, h, rfl⟩ := h
 exact ⟨d2 + 1, W0, h, rfl⟩
theorem SD.drewN (h : SD enc w0 blk off dk W) (q : Nat) : SD enc w0 blk off dk (W.drewN q) := by
 obtain ⟨d2, W0, h, rfl⟩ := h
 exact ⟨d2 + q, W0, h, rfl⟩
theorem SD.cl (h : SD enc w0 blk off dk W) (R : Row1 enc w0 blk off d0) (hs : dk.size = d0.size) (i : Nat) (hi : i < dk.size) (d : Nat) (os : Array Obj) : (grow (redrawn W d) os).cell? ⟨blk, off + i, none⟩ = some (enc dk[i]!) := (h.grown d os).c1 R hs i hi
theorem SD.cmp {g : Nat} {cb : Array Value} {cf : α → α → Int} {size : Nat} (h : SD enc w0 blk off dk W) (hC : CmpB g cb enc cf blk off size w0) (hs : dk.size = size) (x y : α) (d : Nat) (os : Array Obj) :
  Calls Try.prog g (#[enc x, enc y] ++ cb) (grow (redrawn W d) os) fun e w' => e = .returned (.int .i64 (cf x y)) ∧ Below (grow (redrawn W d) os).heap.size (grow (redrawn W d) os) w' := hC _ dk hs (h.grown d os) x y
theorem SD.c2 (h : SD enc w0 blk off dk W) (R : Row1 enc w0 blk off d0) (hs : dk.size = d0.size) (i j : Nat) (hi : i < dk.size) (hj : j < dk.size) (v : Value) :
  ∃ u, (W.setCell ⟨blk, off + i, none⟩ v).cell? ⟨blk, off + j, none⟩ = some u := by
 obtain ⟨d, W0, h, rfl⟩ := h
 exact h.c2 R hs i j hi hj v
theorem SD.swapped (h : SD enc w0 blk off dk W) (R : Row1 enc w0 blk off d0) (i j : Nat) (hi : i < dk.size) (hj : j < dk.size) :
  SD enc w0 blk off (swp dk i j) ((W.setCell ⟨blk, off + i, none⟩ (enc dk[j]!)).setCell ⟨blk, off + j, none⟩ (enc dk[i]!)).drew := by
 obtain ⟨d, W0, h, rfl⟩ := h
 exact ⟨d + 1, _, h.swap R.hblk i j hi hj, rfl⟩
end
section
variable {α : Type} [Inhabited α]

set_option maxHeartbeats 16000000 in
set_option maxRecDepth 1000000 in
theorem insertion (enc : α → Value) (cf : α → α → Int) (g : Nat) (cb : Array Value) (blk off cap a b : Nat) (d0 d : Array α) (w0 w : World)
  (eg : ∀ args w, (callFunc g args).run Try.prog w = .ok (.enter g args) w) (hcmp : CmpB g cb enc cf blk off d0.size w0)
  (R : Row1 enc w0 blk off d0) (hs : d0.size = d.size) (S : SD enc w0 blk off d w) (hab : a ≤ b) (hb : b ≤ d.size) (hsz : d.size < 2305843009213693952) :
  Calls Try.prog 76 #[.slice (some ⟨blk, off, none⟩) d.size cap, .int .i64 a, .int .i64 b, .func (.func g) #[] cb] w fun e w' => e = .returned (.tuple #[]) ∧ SD enc w0 blk off (Sort.insertionSort (ltOf cf) d a b) w' := by
 have hcl0 := R.hO.cells
 simp only [Value.cells] at hcl0
 have hst := R.hO.store Try.prog
 have mixed : Try.prog.follows .mixedOrders = true := by kernel_rfl
 have S0 : Aside (SD enc w0 blk off d w) := S
 have HC : Aside _ := hcmp
 clear S hcmp
 go_enter Try.func76, Try.ntmps76
 go_wp2
 go_loopg [8] (b - a) (fun g1 vi wr => ∃ (i : Nat) (dk : Array α), vi = .int .i64 i ∧ a < i ∧ i ≤ b + 1 ∧ b + 1 - i ≤ g1 + 1 ∧ dk.size = d.size ∧ Aside (SD enc w0 blk off dk wr) ∧ Hid (insOuter (ltOf cf) a b i dk = insOuter (ltOf cf) a b (a + 1) d))
 case atStart => exact ⟨a + 1, d, by go_num, by omega, by omega, by omega, rfl, S0, rfl⟩
 case round =>
  clear S0
  obtain ⟨i, dk, rfl, hai, hib, hg1, hsk, S1, HO⟩ := hrel
  by_cases hlt : i < b
  ·
   have hltz : (i : Int) < (b : Int) := by omega
   go_wp2
   go_loopg [9] i (fun g2 vj wr2 => ∃ (j : Nat) (dj : Array α), vj = .int .i64 j ∧ a ≤ j ∧ j ≤ i ∧ j ≤ g2 ∧ dj.size = d.size ∧ Aside (SD enc w0 blk off dj wr2) ∧ Hid (insInner (ltOf cf) a j dj = insInner (ltOf cf) a i dk))
   case atStart => exact ⟨i, dk, rfl, by omega, Nat.le_refl _, Nat.le_refl _, hsk, S1, rfl⟩
   case round =>
    clear S1
    obtain ⟨j, dj, rfl, haj, hji, hg2, hsj, SJ, HI⟩ := hrel
    have out : (j ≤ a ∨ (ltOf cf) dj[j]! dj[j - 1]! = false) → Hid (insOuter (ltOf cf) a b (i + 1) dj = insOuter (ltOf cf) a b (a + 1) d) := fun hs => by
     show _ = _
     rw [← HO.out, insOuter_go _ _ _ _ _ hlt, ← HI.out, insInner_stop _ _ _ _ hs]
    have OUT : Aside _ := out
    clear out
    by_cases hja : a < j
    ·
     have hjaz : (a : Int) < (j : Int) := by omega
     obtain ⟨jp, hjp⟩ : ∃ q, q + 1 = j := ⟨j - 1, by omega⟩
     have zjp : (j : Int) = (jp : Int) + 1 := by omega
     have hjad : decide ((jp : Int) + 1 > (a : Int)) = true := decide_eq_true (by omega)
     have hjaz' : (a : Int) < (jp : Int) + 1 := by omega
     cases hlv : (ltOf cf) dj[j]! dj[j - 1]! with
     | true =>
      obtain ⟨iN1, hiN1⟩ : ∃ q, q = j := ⟨_, rfl⟩
      obtain ⟨jN1, hjN1⟩ : ∃ q, q = j - 1 := ⟨_, rfl⟩
      have ea1 : ((jp : Int) + 1).toNat = iN1 := by omega
      have pa1 : (0 : Int) ≤ (jp : Int) + 1 := by omega
      have ba1 : (jp : Int) + 1 < (d.size : Int) := by omega
      have ra1 : IntKind.i64.wrap ((jp : Int) + 1) = (jp : Int) + 1 := by rw [IntKind.wrap_i64]; omega
      have ec1 : ((jp : Int)).toNat = jN1 := by omega
      have pc1 : (0 : Int) ≤ (jp : Int) := by omega
      have bc1 : (jp : Int) < (d.size : Int) := by omega
      have rc1 : IntKind.i64.wrap ((jp : Int)) = (jp : Int) := by rw [IntKind.wrap_i64]; omega
      obtain ⟨x1, hx1⟩ : ∃ x, x = dj[j]! := ⟨_, rfl⟩
      obtain ⟨y1, hy1⟩ : ∃ x, x = dj[j - 1]! := ⟨_, rfl⟩
      have l1a := SJ.out.cl R (by omega) (j) (by omega)
      have l1b := SJ.out.cl R (by omega) (j - 1) (by omega)
      rw [← hx1, ← hiN1] at l1a
      rw [← hy1, ← hjN1] at l1b
      have hc1 := SJ.out.cmp HC.out (by omega) x1 y1
      have hv1 : cf x1 y1 < 0 := by rw [hx1, hy1]; exact of_decide_eq_true hlv
      have hd1 : decide (cf x1 y1 < 0) = true := decide_eq_true hv1
      clear hx1 hy1 hiN1 hjN1
      go_wp2_with fail
      refine wp_region_quiet_below (by assumption) (by kernel_rfl) ?_
      repeat (quiet_step (first | (go_at_fn g; refine Calls.regrown_of (hc1 _ _))))
      refine wpQuiet_nil ?_
      intro _ hw'
      obtain ⟨⟨nq, osq⟩, hw''⟩ := hw'
      subst hw''
      have S2 : Aside (SD enc w0 blk off dj (grow (redrawn wr nq) osq)) := SJ.out.grown nq osq
      clear l1a l1b hc1 SJ
      generalize grow (redrawn wr nq) osq = w2 at S2 ⊢
      clear nq osq
      clear ea1 ec1 pa1 ba1 ra1 pc1 bc1 rc1
      go_wp2_with fail
      obtain ⟨iN2, hiN2⟩ : ∃ q, q = j := ⟨_, rfl⟩
      obtain ⟨jN2, hjN2⟩ : ∃ q, q = j - 1 := ⟨_, rfl⟩
      have ea2 : ((jp : Int) + 1).toNat = iN2 := by omega
      have pa2 : (0 : Int) ≤ (jp : Int) + 1 := by omega
      have ba2 : (jp : Int) + 1 < (d.size : Int) := by omega
      have ra2 : IntKind.i64.wrap ((jp : Int) + 1) = (jp : Int) + 1 := by rw [IntKind.wrap_i64]; omega
      have ec2 : ((jp : Int)).toNat = jN2 := by omega
      have pc2 : (0 : Int) ≤ (jp : Int) := by omega
      have bc2 : (jp : Int) < (d.size : Int) := by omega
      have rc2 : IntKind.i64.wrap ((jp : Int)) = (jp : Int) := by rw [IntKind.wrap_i64]; omega
      obtain ⟨x2, hx2⟩ : ∃ x, x = dj[j]! := ⟨_, rfl⟩
      obtain ⟨y2, hy2⟩ : ∃ x, x = dj[j - 1]! := ⟨_, rfl⟩
      have S3 : Aside (SD enc w0 blk off (swp dj (j) (j - 1)) ((w2.setCell ⟨blk, off + iN2, none⟩ (enc y2)).setCell ⟨blk, off + jN2, none⟩ (enc x2)).drew) := by rw [hiN2, hjN2, hx2, hy2]; exact S2.out.swapped R (j) (j - 1) (by omega) (by omega)
      have c2a := S2.out.c1 R (by omega) (j) (by omega)
      have c2b := S2.out.c1 R (by omega) (j - 1) (by omega)
      have f2a := S2.out.f1 R (by omega) (j) (by omega)
      have f2b := S2.out.f1 R (by omega) (j - 1) (by omega)
      obtain ⟨u2, c2c⟩ := S2.out.c2 R (by omega) (j) (j - 1) (by omega) (by omega) (enc y2)
      rw [← hjN2, ← hiN2] at c2c
      rw [← hx2, ← hiN2] at c2a
      rw [← hy2, ← hjN2] at c2b
      rw [← hiN2] at f2a
      rw [← hjN2] at f2b
      clear S2 hx2 hy2 hiN2 hjN2
      go_wp2_with fail
      go_big_region_o
      clear c2a c2b c2c f2a f2b
      generalize ((w2.setCell ⟨blk, off + iN2, none⟩ (enc y2)).setCell ⟨blk, off + jN2, none⟩ (enc x2)).drew = w3 at S3 ⊢
      clear ea2 ec2 pa2 ba2 ra2 pc2 bc2 rc2
      go_wp2
      go_roundg (j - 1)
      case measure => omega
      case rel => exact ⟨j - 1, swp dj j (j - 1), by first | rfl | go_num | (congr 1; omega), by omega, by omega, Nat.le_refl _, by rw [size_swp]; exact hsj, S3, (show Hid _ from by rw [← HI.out, insInner_go (ltOf cf) a j dj hja hlv]; exact rfl)⟩
     | false =>
      obtain ⟨iN3, hiN3⟩ : ∃ q, q = j := ⟨_, rfl⟩
      obtain ⟨jN3, hjN3⟩ : ∃ q, q = j - 1 := ⟨_, rfl⟩
      have ea3 : ((jp : Int) + 1).toNat = iN3 := by omega
      have pa3 : (0 : Int) ≤ (jp : Int) + 1 := by omega
      have ba3 : (jp : Int) + 1 < (d.size : Int) := by omega
      have ra3 : IntKind.i64.wrap ((jp : Int) + 1) = (jp : Int) + 1 := by rw [IntKind.wrap_i64]; omega
      have ec3 : ((jp : Int)).toNat = jN3 := by omega
      have pc3 : (0 : Int) ≤ (jp : Int) := by omega
      have bc3 : (jp : Int) < (d.size : Int) := by omega
      have rc3 : IntKind.i64.wrap ((jp : Int)) = (jp : Int) := by rw [IntKind.wrap_i64]; omega
      obtain ⟨x3, hx3⟩ : ∃ x, x = dj[j]! := ⟨_, rfl⟩
      obtain ⟨y3, hy3⟩ : ∃ x, x = dj[j - 1]! := ⟨_, rfl⟩
      have l3a := SJ.out.cl R (by omega) (j) (by omega)
      have l3b := SJ.out.cl R (by omega) (j - 1) (by omega)
      rw [← hx3, ← hiN3] at l3a
      rw [← hy3, ← hjN3] at l3b
      have hc3 := SJ.out.cmp HC.out (by omega) x3 y3
      have hv3 : ¬ cf x3 y3 < 0 := by rw [hx3, hy3]; exact of_decide_eq_false hlv
      have hd3 : decide (cf x3 y3 < 0) = false := decide_eq_false hv3
      clear hx3 hy3 hiN3 hjN3
      go_wp2_with fail
      refine wp_region_quiet_below (by assumption) (by kernel_rfl) ?_
      repeat (quiet_step (first | (go_at_fn g; refine Calls.regrown_of (hc3 _ _))))
      refine wpQuiet_nil ?_
      intro _ hw'
      obtain ⟨⟨nq, osq⟩, hw''⟩ := hw'
      subst hw''
      have S2 : Aside (SD enc w0 blk off dj (grow (redrawn wr nq) osq)) := SJ.out.grown nq osq
      clear l3a l3b hc3 SJ
      generalize grow (redrawn wr nq) osq = w2 at S2 ⊢
      clear nq osq
      clear ea3 ec3 pa3 ba3 ra3 pc3 bc3 rc3
      go_wp2
      go_roundg (b - (i + 1))
      case measure => omega
      case rel => exact ⟨i + 1, dj, by go_num, by omega, by omega, by omega, hsj, S2, OUT.out (Or.inr hlv)⟩
    ·
     have hjaz : decide ((j : Int) > (a : Int)) = false := decide_eq_false (by omega)
     have hjaz' : ¬ (a : Int) < (j : Int) := by omega
     go_wp2_with fail
     go_big_region_o
     have S2 : Aside (SD enc w0 blk off dj wr.drew) := SJ.out.drew
     clear SJ
     generalize wr.drew = w2 at S2 ⊢
     go_wp2
     go_roundg (b - (i + 1))
     case measure => omega
     case rel => exact ⟨i + 1, dj, by go_num, by omega, by omega, by omega, hsj, S2, OUT.out (Or.inl (by omega))⟩
  ·
   have hltz : ¬ (i : Int) < (b : Int) := by omega
   go_wp2
   go_end0
   exact ⟨rfl, by unfold Sort.insertionSort; rw [← HO.out, insOuter_stop _ _ _ _ _ hlt]; exact S1.out⟩

set_option maxHeartbeats 8000000 in
set_option maxRecDepth 1000000 in
theorem swapRange (enc : α → Value) (g : Nat) (cb : Array Value) (blk off cap a b n : Nat) (d0 d : Array α) (w0 w : World)
  (R : Row1 enc w0 blk off d0) (hs : d0.size = d.size) (S : SD enc w0 blk off d w) (hab : a + n ≤ b) (hb : b + n ≤ d.size) (hsz : d.size < 2305843009213693952) :
  Calls Try.prog 79 #[.slice (some ⟨blk, off, none⟩) d.size cap, .int .i64 a, .int .i64 b, .int .i64 n, .func (.func g) #[] cb] w fun e w' => e = .returned (.tuple #[]) ∧ ∃ d', SD enc w0 blk off d' w' ∧ SR a b n d d' := by
 have hcl0 := R.hO.cells
 simp only [Value.cells] at hcl0
 have hst := R.hO.store Try.prog
 have mixed : Try.prog.follows .mixedOrders = true := by kernel_rfl
 have S0 : Aside (SD enc w0 blk off d w) := S
 clear S
 go_enter Try.func79, Try.ntmps79
 go_wp2
 go_loopg [10] n (fun kx s10 wr => ∃ (k : Nat) (dk : Array α), s10 = .int .i64 k ∧ k ≤ n ∧ n - k ≤ kx ∧ Aside (SD enc w0 blk off dk wr) ∧ Aside (SR a b k d dk))
 case atStart => exact ⟨0, d, rfl, by omega, by omega, S0, SR.zero a b d⟩
 case round =>
  clear S0
  obtain ⟨k, dk, rfl, hk, hkx, S1, HR⟩ := hrel
  have hds := HR.out.size
  by_cases hlt : (k : Int) < (n : Int)
  ·
   have hltd : decide ((k : Int) < (n : Int)) = true := decide_eq_true hlt
   go_wp2_with fail
   obtain ⟨iN1, hiN1⟩ : ∃ q, q = a + k := ⟨_, rfl⟩
   obtain ⟨jN1, hjN1⟩ : ∃ q, q = b + k := ⟨_, rfl⟩
   have ea1 : ((a : Int) + (k : Int)).toNat = iN1 := by omega
   have pa1 : (0 : Int) ≤ (a : Int) + (k : Int) := by omega
   have ba1 : (a : Int) + (k : Int) < (d.size : Int) := by omega
   have ra1 : IntKind.i64.wrap ((a : Int) + (k : Int)) = (a : Int) + (k : Int) := by rw [IntKind.wrap_i64]; omega
   have ec1 : ((b : Int) + (k : Int)).toNat = jN1 := by omega
   have pc1 : (0 : Int) ≤ (b : Int) + (k : Int) := by omega
   have bc1 : (b : Int) + (k : Int) < (d.size : Int) := by omega
   have rc1 : IntKind.i64.wrap ((b : Int) + (k : Int)) = (b : Int) + (k : Int) := by rw [IntKind.wrap_i64]; omega
   obtain ⟨x1, hx1⟩ : ∃ x, x = dk[a + k]! := ⟨_, rfl⟩
   obtain ⟨y1, hy1⟩ : ∃ x, x = dk[b + k]! := ⟨_, rfl⟩
   have S2 : Aside (SD enc w0 blk off (swp dk (a + k) (b + k)) ((wr.setCell ⟨blk, off + iN1, none⟩ (enc y1)).setCell ⟨blk, off + jN1, none⟩ (enc x1)).drew) := by rw [hiN1, hjN1, hx1, hy1]; exact S1.out.swapped R (a + k) (b + k) (by omega) (by omega)
   have c1a := S1.out.c1 R (by omega) (a + k) (by omega)
   have c1b := S1.out.c1 R (by omega) (b + k) (by omega)
   have f1a := S1.out.f1 R (by omega) (a + k) (by omega)
   have f1b := S1.out.f1 R (by omega) (b + k) (by omega)
   obtain ⟨u1, c1c⟩ := S1.out.c2 R (by omega) (a + k) (b + k) (by omega) (by omega) (enc y1)
   rw [← hjN1, ← hiN1] at c1c
   rw [← hx1, ← hiN1] at c1a
   rw [← hy1, ← hjN1] at c1b
   rw [← hiN1] at f1a
   rw [← hjN1] at f1b
   clear S1 hx1 hy1 hiN1 hjN1
   go_wp2_with fail
   go_big_region_o
   clear c1a c1b c1c f1a f1b
   generalize ((wr.setCell ⟨blk, off + iN1, none⟩ (enc y1)).setCell ⟨blk, off + jN1, none⟩ (enc x1)).drew = w2 at S2 ⊢
   clear ea1 ec1 pa1 ba1 ra1 pc1 bc1 rc1
   go_wp2
   go_roundg (n - (k + 1))
   case measure => omega
   case rel => exact ⟨k + 1, swp dk (a + k) (b + k), by first | rfl | go_num | (congr 1; omega), by omega, Nat.le_refl _, S2, SR.step HR.out (by omega) (by omega)⟩
  ·
   have hltd : decide ((k : Int) < (n : Int)) = false := decide_eq_false hlt
   have hkn : k = n := by omega
   subst hkn
   go_wp2
   go_end0
   exact ⟨rfl, dk, S1.out, HR.out⟩

set_option maxHeartbeats 8000000 in
set_option maxRecDepth 1000000 in
theorem rotate (enc : α → Value) (g : Nat) (cb : Array Value) (blk off cap a m b : Nat) (d0 d : Array α) (w0 w : World)
  (R : Row1 enc w0 blk off d0) (hs : d0.size = d.size) (S : SD enc w0 blk off d w) (ham : a < m) (hmb : m < b) (hb : b ≤ d.size) (hsz : d.size < 2305843009213693952) :
  Calls Try.prog 78 #[.slice (some ⟨blk, off, none⟩) d.size cap, .int .i64 a, .int .i64 m, .int .i64 b, .func (.func g) #[] cb] w fun e w' => e = .returned (.tuple #[]) ∧ ∃ d', SD enc w0 blk off d' w' ∧ Rot a m b d d' := by
 have hcl0 := R.hO.cells
 simp only [Value.cells] at hcl0
 have hst := R.hO.store Try.prog
 have mixed : Try.prog.follows .mixedOrders = true := by kernel_rfl
 have S0 : Aside (SD enc w0 blk off d w) := S
 clear S
 have z1 : (m : Int) - (a : Int) = ((m - a : Nat) : Int) := by omega
 have z2 : (b : Int) - (m : Int) = ((b - m : Nat) : Int) := by omega
 go_enter Try.func78, Try.ntmps78
 go_wp2
 go_loopg [10, 11] (b - a) (fun kx s10 s11 wr => ∃ (i j : Nat) (dk : Array α), s10 = .int .i64 i ∧ s11 = .int .i64 j ∧ 1 ≤ i ∧ 1 ≤ j ∧ i + j ≤ kx ∧ Aside (SD enc w0 blk off dk wr) ∧ Aside (RotJ a m b i j d dk))
 case atStart => exact ⟨m - a, b - m, d, by first | rfl | go_num | (congr 1; omega), by first | rfl | go_num | (congr 1; omega), by omega, by omega, by omega, S0, RotJ.start (by omega) (by omega) d⟩
 case round =>
  clear S0 z1 z2
  obtain ⟨i, j, dk, rfl, rfl, hi1, hj1, hkx, S1, HR⟩ := hrel
  have hds := HR.out.size
  have hi2 := HR.out.hi
  have hj2 := HR.out.hj
  have z1 : (m : Int) - (i : Int) = ((m - i : Nat) : Int) := by omega
  by_cases hij : i = j
  ·
   have e1 : ((i : Int) != (j : Int)) = false := by rw [hij]; exact bne_self_eq_false _
   have e2 : ((i : Int) == (j : Int)) = true := by rw [hij]; exact beq_self_eq_true _
   subst hij
   have hc := swapRange enc g cb blk off cap (m - i) m i d0 dk w0 _ R (by omega) S1.out (by omega) (by omega) (by omega)
   rw [hds] at hc
   have HC2 : Aside (Calls _ _ _ _ _) := hc
   clear hc
   go_wp2_with (first | (go_at_call 79; refine HC2.out.mono ?_; rintro e w2 ⟨rfl, d2, S2, HS2⟩))
   go_end0
   exact ⟨rfl, d2, S2, RotJ.done HR.out (by omega) (by omega) hb HS2⟩
  ·
   have e1 : ((i : Int) != (j : Int)) = true := bne_iff_ne.mpr (by omega)
   have e2 : ((i : Int) == (j : Int)) = false := beq_eq_false_iff_ne.mpr (by omega)
   by_cases hgt : j < i
   ·
    have e3 : decide ((i : Int) > (j : Int)) = true := decide_eq_true (by omega)
    have e4 : decide ((j : Int) < (i : Int)) = true := decide_eq_true (by omega)
    have hc := swapRange enc g cb blk off cap (m - i) m j d0 dk w0 _ R (by omega) S1.out (by omega) (by omega) (by omega)
    rw [hds] at hc
    have HC2 : Aside (Calls _ _ _ _ _) := hc
    clear hc
    go_wp2_with (first | (go_at_call 79; refine HC2.out.mono ?_; rintro e w2 ⟨rfl, d2, S2, HS2⟩))
    go_roundg (i - j + j)
    case measure => omega
    case rel => exact ⟨i - j, j, d2, by first | rfl | go_num | (congr 1; omega), rfl, by omega, hj1, Nat.le_refl _, S2, RotJ.left HR.out (by omega) (by omega) hb hgt HS2⟩
   ·
    have e3 : decide ((i : Int) > (j : Int)) = false := decide_eq_false (by omega)
    have e4 : decide ((j : Int) < (i : Int)) = false := decide_eq_false (by omega)
    have z2 : (m : Int) + (j : Int) - (i : Int) = ((m + j - i : Nat) : Int) := by omega
    have hc := swapRange enc g cb blk off cap (m - i) (m + j - i) i d0 dk w0 _ R (by omega) S1.out (by omega) (by omega) (by omega)
    rw [hds] at hc
    have HC2 : Aside (Calls _ _ _ _ _) := hc
    clear hc
    go_wp2_with (first | (go_at_call 79; refine HC2.out.mono ?_; rintro e w2 ⟨rfl, d2, S2, HS2⟩))
    go_roundg (i + (j - i))
    case measure => omega
    case rel => exact ⟨i, j - i, d2, rfl, by first | rfl | go_num | (congr 1; omega), hi1, by omega, Nat.le_refl _, S2, RotJ.right HR.out (by omega) (by omega) hb (by omega) HS2⟩

set_option maxHeartbeats 8000000 in
set_option maxRecDepth 1000000 in
theorem merge_one (enc : α → Value) (cf : α → α → Int) (hO : SWO (ltOf cf)) (g : Nat) (cb : Array Value) (blk off cap a m b : Nat) (d0 d : Array α) (w0 w : World)
  (eg : ∀ args w, (callFunc g args).run Try.prog w = .ok (.enter g args) w) (hcmp : CmpB g cb enc cf blk off d0.size w0)
  (R : Row1 enc w0 blk off d0) (hs : d0.size = d.size) (S : SD enc w0 blk off d w) (ham : a < m) (hma : m ≤ a + 1) (hmb : m < b) (hb : b ≤ d.size) (hsz : d.size < 2305843009213693952) (hY : SortedIn (ltOf cf) m b d) :
  Calls Try.prog 77 #[.slice (some ⟨blk, off, none⟩) d.size cap, .int .i64 a, .int .i64 m, .int .i64 b, .func (.func g) #[] cb] w fun e w' => e = .returned (.tuple #[]) ∧ ∃ d', SD enc w0 blk off d' w' ∧ SortedIn (ltOf cf) a b d' ∧ PermIn a b d d' := by
 have hcl0 := R.hO.cells
 simp only [Value.cells] at hcl0
 have hst := R.hO.store Try.prog
 have mixed : Try.prog.follows .mixedOrders = true := by kernel_rfl
 have S0 : Aside (SD enc w0 blk off d w) := S
 have HC : Aside _ := hcmp
 clear S hcmp
 have z1 : (m : Int) - (a : Int) = 1 := by omega
 have z2 : ((m : Int) - (a : Int) == 1) = true := by rw [z1]; rfl
 go_enter Try.func77, Try.ntmps77
 go_wp2
 go_loopg [10, 11] (b - m) (fun kx s10 s11 wr => ∃ (i j : Nat), s10 = .int .i64 i ∧ s11 = .int .i64 j ∧ m ≤ i ∧ i ≤ j ∧ j ≤ b ∧ j - i ≤ kx ∧ Aside (SD enc w0 blk off d wr) ∧ Aside (∀ k, m ≤ k → k < i → ltOf cf d[k]! d[a]! = true) ∧ Aside (∀ k, j ≤ k → k < b → ltOf cf d[k]! d[a]! = false))
 case atStart => exact ⟨m, b, rfl, rfl, by omega, by omega, by omega, by omega, S0, (fun k h1 h2 => by omega), (fun k h1 h2 => by omega)⟩
 case round =>
  clear S0
  obtain ⟨i, j, rfl, rfl, hi1, hij, hj1, hkx, S1, HL, HG⟩ := hrel
  by_cases hlt : (i : Int) < (j : Int)
  ·
   have hltd : decide ((i : Int) < (j : Int)) = true := decide_eq_true hlt
   obtain ⟨h, hh⟩ : ∃ q, q = (i + j) / 2 := ⟨_, rfl⟩
   have hi2 : i ≤ h := by omega
   have hj2 : h < j := by omega
   cases hlv : ltOf cf d[h]! d[a]! with
   | true =>
    go_wp2_with fail
    obtain ⟨iN1, hiN1⟩ : ∃ q, q = h := ⟨_, rfl⟩
    obtain ⟨jN1, hjN1⟩ : ∃ q, q = a := ⟨_, rfl⟩
    have ea1 : (((i : Int) + (j : Int)) / 2).toNat = iN1 := by omega
    have pa1 : (0 : Int) ≤ ((i : Int) + (j : Int)) / 2 := by omega
    have ba1 : ((i : Int) + (j : Int)) / 2 < (d.size : Int) := by omega
    have ra1 : IntKind.i64.wrap (((i : Int) + (j : Int)) / 2) = ((i : Int) + (j : Int)) / 2 := by rw [IntKind.wrap_i64]; omega
    have ec1 : ((a : Int)).toNat = jN1 := by omega
    have pc1 : (0 : Int) ≤ (a : Int) := by omega
    have bc1 : (a : Int) < (d.size : Int) := by omega
    have rc1 : IntKind.i64.wrap ((a : Int)) = (a : Int) := by rw [IntKind.wrap_i64]; omega
    obtain ⟨x1, hx1⟩ : ∃ x, x = d[h]! := ⟨_, rfl⟩
    obtain ⟨y1, hy1⟩ : ∃ x, x = d[a]! := ⟨_, rfl⟩
    have l1a := S1.out.cl R (by omega) (h) (by omega)
    have l1b := S1.out.cl R (by omega) (a) (by omega)
    rw [← hx1, ← hiN1] at l1a
    rw [← hy1, ← hjN1] at l1b
    have hc1 := S1.out.cmp HC.out (by omega) x1 y1
    have hv1 : cf x1 y1 < 0 := by rw [hx1, hy1]; exact of_decide_eq_true hlv
    have hd1 : decide (cf x1 y1 < 0) = true := decide_eq_true hv1
    clear hx1 hy1 hiN1 hjN1
    go_wp2_with fail
    refine wp_region_quiet_below (by assumption) (by kernel_rfl) ?_
    repeat (quiet_step (first | (go_at_fn g; refine Calls.regrown_of (hc1 _ _))))
    refine wpQuiet_nil ?_
    intro _ hw'
    obtain ⟨⟨nq, osq⟩, hw''⟩ := hw'
    subst hw''
    have S2 : Aside (SD enc w0 blk off d (grow (redrawn wr nq) osq)) := S1.out.grown nq osq
    clear l1a l1b hc1 S1
    generalize grow (redrawn wr nq) osq = w2 at S2 ⊢
    clear nq osq
    clear ea1 ec1 pa1 ba1 ra1 pc1 bc1 rc1
    go_wp2
    go_roundg (j - (h + 1))
    case measure => omega
    case rel => exact ⟨h + 1, j, by first | rfl | go_num | (congr 1; omega), rfl, by omega, by omega, hj1, Nat.le_refl _, S2, (show Aside _ from fun k h1 h2 => by
     by_cases hk : k < h
     ·
      exact swo_lt_of' hO hlv (hY k h (by omega) hk (by omega))
     ·
      have : k = h := by omega
      subst this; exact hlv), HG⟩
   | false =>
    go_wp2_with fail
    obtain ⟨iN2, hiN2⟩ : ∃ q, q = h := ⟨_, rfl⟩
    obtain ⟨jN2, hjN2⟩ : ∃ q, q = a := ⟨_, rfl⟩
    have ea2 : (((i : Int) + (j : Int)) / 2).toNat = iN2 := by omega
    have pa2 : (0 : Int) ≤ ((i : Int) + (j : Int)) / 2 := by omega
    have ba2 : ((i : Int) + (j : Int)) / 2 < (d.size : Int) := by omega
    have ra2 : IntKind.i64.wrap (((i : Int) + (j : Int)) / 2) = ((i : Int) + (j : Int)) / 2 := by rw [IntKind.wrap_i64]; omega
    have ec2 : ((a : Int)).toNat = jN2 := by omega
    have pc2 : (0 : Int) ≤ (a : Int) := by omega
    have bc2 : (a : Int) < (d.size : Int) := by omega
    have rc2 : IntKind.i64.wrap ((a : Int)) = (a : Int) := by rw [IntKind.wrap_i64]; omega
    obtain ⟨x2, hx2⟩ : ∃ x, x = d[h]! := ⟨_, rfl⟩
    obtain ⟨y2, hy2⟩ : ∃ x, x = d[a]! := ⟨_, rfl⟩
    have l2a := S1.out.cl R (by omega) (h) (by omega)
    have l2b := S1.out.cl R (by omega) (a) (by omega)
    rw [← hx2, ← hiN2] at l2a
    rw [← hy2, ← hjN2] at l2b
    have hc2 := S1.out.cmp HC.out (by omega) x2 y2
    have hv2 : ¬ cf x2 y2 < 0 := by rw [hx2, hy2]; exact of_decide_eq_false hlv
    have hd2 : decide (cf x2 y2 < 0) = false := decide_eq_false hv2
    clear hx2 hy2 hiN2 hjN2
    go_wp2_with fail
    refine wp_region_quiet_below (by assumption) (by kernel_rfl) ?_
    repeat (quiet_step (first | (go_at_fn g; refine Calls.regrown_of (hc2 _ _))))
    refine wpQuiet_nil ?_
    intro _ hw'
    obtain ⟨⟨nq, osq⟩, hw''⟩ := hw'
    subst hw''
    have S2 : Aside (SD enc w0 blk off d (grow (redrawn wr nq) osq)) := S1.out.grown nq osq
    clear l2a l2b hc2 S1
    generalize grow (redrawn wr nq) osq = w2 at S2 ⊢
    clear nq osq
    clear ea2 ec2 pa2 ba2 ra2 pc2 bc2 rc2
    go_wp2
    go_roundg (h - i)
    case measure => omega
    case rel => exact ⟨i, h, rfl, by first | rfl | go_num | (congr 1; omega), hi1, hi2, by omega, Nat.le_refl _, S2, HL, (show Aside _ from fun k h1 h2 => by
     by_cases hk : h < k
     ·
      exact hO.ntrans _ _ _ (hY h k (by omega) hk (by omega)) hlv
     ·
      have : k = h := by omega
      subst this; exact hlv)⟩
  ·
   have hltd : decide ((i : Int) < (j : Int)) = false := decide_eq_false hlt
   have hje : j = i := by omega
   subst hje
   go_wp2
   go_loopg [13] (j - 1 - a) (fun kx s13 wr => ∃ (k : Nat) (dk : Array α), s13 = .int .i64 k ∧ a ≤ k ∧ k ≤ j - 1 ∧ j - 1 - k ≤ kx ∧ Aside (SD enc w0 blk off dk wr) ∧ Aside (PutR a j b d dk k))
   case atStart => exact ⟨a, d, rfl, Nat.le_refl _, by omega, by omega, S1, PutR.start a j b d⟩
   case round =>
    clear S1
    obtain ⟨k, dk, rfl, hk1, hk2, hkx2, S1, HR⟩ := hrel
    have hds := HR.out.size
    by_cases hlk : (k : Int) < (j : Int) - 1
    ·
     have hlkd : decide ((k : Int) < (j : Int) - 1) = true := decide_eq_true hlk
     go_wp2_with fail
     obtain ⟨iN3, hiN3⟩ : ∃ q, q = k := ⟨_, rfl⟩
     obtain ⟨jN3, hjN3⟩ : ∃ q, q = k + 1 := ⟨_, rfl⟩
     have ea3 : ((k : Int)).toNat = iN3 := by omega
     have pa3 : (0 : Int) ≤ (k : Int) := by omega
     have ba3 : (k : Int) < (d.size : Int) := by omega
     have ra3 : IntKind.i64.wrap ((k : Int)) = (k : Int) := by rw [IntKind.wrap_i64]; omega
     have ec3 : ((k : Int) + 1).toNat = jN3 := by omega
     have pc3 : (0 : Int) ≤ (k : Int) + 1 := by omega
     have bc3 : (k : Int) + 1 < (d.size : Int) := by omega
     have rc3 : IntKind.i64.wrap ((k : Int) + 1) = (k : Int) + 1 := by rw [IntKind.wrap_i64]; omega
     obtain ⟨x3, hx3⟩ : ∃ x, x = dk[k]! := ⟨_, rfl⟩
     obtain ⟨y3, hy3⟩ : ∃ x, x = dk[k + 1]! := ⟨_, rfl⟩
     have S2 : Aside (SD enc w0 blk off (swp dk (k) (k + 1)) ((wr.setCell ⟨blk, off + iN3, none⟩ (enc y3)).setCell ⟨blk, off + jN3, none⟩ (enc x3)).drew) := by rw [hiN3, hjN3, hx3, hy3]; exact S1.out.swapped R (k) (k + 1) (by omega) (by omega)
     have c3a := S1.out.c1 R (by omega) (k) (by omega)
     have c3b := S1.out.c1 R (by omega) (k + 1) (by omega)
     have f3a := S1.out.f1 R (by omega) (k) (by omega)
     have f3b := S1.out.f1 R (by omega) (k + 1) (by omega)
     obtain ⟨u3, c3c⟩ := S1.out.c2 R (by omega) (k) (k + 1) (by omega) (by omega) (enc y3)
     rw [← hjN3, ← hiN3] at c3c
     rw [← hx3, ← hiN3] at c3a
     rw [← hy3, ← hjN3] at c3b
     rw [← hiN3] at f3a
     rw [← hjN3] at f3b
     clear S1 hx3 hy3 hiN3 hjN3
     go_wp2_with fail
     go_big_region_o
     clear c3a c3b c3c f3a f3b
     generalize ((wr.setCell ⟨blk, off + iN3, none⟩ (enc y3)).setCell ⟨blk, off + jN3, none⟩ (enc x3)).drew = w2 at S2 ⊢
     clear ea3 ec3 pa3 ba3 ra3 pc3 bc3 rc3
     go_wp2
     go_roundg (j - 1 - (k + 1))
     case measure => omega
     case rel => exact ⟨k + 1, swp dk k (k + 1), by first | rfl | go_num | (congr 1; omega), by omega, by omega, Nat.le_refl _, S2, PutR.step HR.out hk1 (by omega) hb⟩
    ·
     have hlkd : decide ((k : Int) < (j : Int) - 1) = false := decide_eq_false hlk
     have hke : k = j - 1 := by omega
     subst hke
     go_wp2
     (try simp only [Exit.inBlock, Exit.then]); refine bodyPost_ret (results_none rfl _ _ _) rfl ?_
     obtain rfl : m = a + 1 := by omega
     exact ⟨rfl, dk, S1.out, PutR.sorted hO HR.out hi1 hj1 hY HL.out HG.out, HR.out.perm⟩

set_option maxHeartbeats 8000000 in
set_option maxRecDepth 1000000 in
theorem merge_last (enc : α → Value) (cf : α → α → Int) (hO : SWO (ltOf cf)) (g : Nat) (cb : Array Value) (blk off cap a m b : Nat) (d0 d : Array α) (w0 w : World)
  (eg : ∀ args w, (callFunc g args).run Try.prog w = .ok (.enter g args) w) (hcmp : CmpB g cb enc cf blk off d0.size w0)
  (R : Row1 enc w0 blk off d0) (hs : d0.size = d.size) (S : SD enc w0 blk off d w) (ham : a + 1 < m) (hmb : m < b) (hbm : b ≤ m + 1) (hb : b ≤ d.size) (hsz : d.size < 2305843009213693952) (hX : SortedIn (ltOf cf) a m d) :
  Calls Try.prog 77 #[.slice (some ⟨blk, off, none⟩) d.size cap, .int .i64 a, .int .i64 m, .int .i64 b, .func (.func g) #[] cb] w fun e w' => e = .returned (.tuple #[]) ∧ ∃ d', SD enc w0 blk off d' w' ∧ SortedIn (ltOf cf) a b d' ∧ PermIn a b d d' := by
 have hcl0 := R.hO.cells
 simp only [Value.cells] at hcl0
 have hst := R.hO.store Try.prog
 have mixed : Try.prog.follows .mixedOrders = true := by kernel_rfl
 have S0 : Aside (SD enc w0 blk off d w) := S
 have HC : Aside _ := hcmp
 clear S hcmp
 have z1 : (b : Int) - (m : Int) = 1 := by omega
 have z2 : ((m : Int) - (a : Int) == 1) = false := beq_eq_false_iff_ne.mpr (by omega)
 go_enter Try.func77, Try.ntmps77
 go_wp2
 go_loopg [14, 15] (m - a) (fun kx s14 s15 wr => ∃ (i j : Nat), s14 = .int .i64 i ∧ s15 = .int .i64 j ∧ a ≤ i ∧ i ≤ j ∧ j ≤ m ∧ j - i ≤ kx ∧ Aside (SD enc w0 blk off d wr) ∧ Aside (∀ k, a ≤ k → k < i → ltOf cf d[m]! d[k]! = false) ∧ Aside (∀ k, j ≤ k → k < m → ltOf cf d[m]! d[k]! = true))
 case atStart => exact ⟨a, m, rfl, rfl, by omega, by omega, by omega, by omega, S0, (fun k h1 h2 => by omega), (fun k h1 h2 => by omega)⟩
 case round =>
  clear S0
  obtain ⟨i, j, rfl, rfl, hi1, hij, hj1, hkx, S1, HL, HG⟩ := hrel
  by_cases hlt : (i : Int) < (j : Int)
  ·
   have hltd : decide ((i : Int) < (j : Int)) = true := decide_eq_true hlt
   obtain ⟨h, hh⟩ : ∃ q, q = (i + j) / 2 := ⟨_, rfl⟩
   have hi2 : i ≤ h := by omega
   have hj2 : h < j := by omega
   cases hlv : ltOf cf d[m]! d[h]! with
   | false =>
    go_wp2_with fail
    obtain ⟨iN1, hiN1⟩ : ∃ q, q = m := ⟨_, rfl⟩
    obtain ⟨jN1, hjN1⟩ : ∃ q, q = h := ⟨_, rfl⟩
    have ea1 : ((m : Int)).toNat = iN1 := by omega
    have pa1 : (0 : Int) ≤ (m : Int) := by omega
    have ba1 : (m : Int) < (d.size : Int) := by omega
    have ra1 : IntKind.i64.wrap ((m : Int)) = (m : Int) := by rw [IntKind.wrap_i64]; omega
    have ec1 : (((i : Int) + (j : Int)) / 2).toNat = jN1 := by omega
    have pc1 : (0 : Int) ≤ ((i : Int) + (j : Int)) / 2 := by omega
    have bc1 : ((i : Int) + (j : Int)) / 2 < (d.size : Int) := by omega
    have rc1 : IntKind.i64.wrap (((i : Int) + (j : Int)) / 2) = ((i : Int) + (j : Int)) / 2 := by rw [IntKind.wrap_i64]; omega
    obtain ⟨x1, hx1⟩ : ∃ x, x = d[m]! := ⟨_, rfl⟩
    obtain ⟨y1, hy1⟩ : ∃ x, x = d[h]! := ⟨_, rfl⟩
    have l1a := S1.out.cl R (by omega) (m) (by omega)
    have l1b := S1.out.cl R (by omega) (h) (by omega)
    rw [← hx1, ← hiN1] at l1a
    rw [← hy1, ← hjN1] at l1b
    have hc1 := S1.out.cmp HC.out (by omega) x1 y1
    have hv1 : ¬ cf x1 y1 < 0 := by rw [hx1, hy1]; exact of_decide_eq_false hlv
    have hd1 : decide (cf x1 y1 < 0) = false := decide_eq_false hv1
    clear hx1 hy1 hiN1 hjN1
    go_wp2_with fail
    refine wp_region_quiet_below (by assumption) (by kernel_rfl) ?_
    repeat (quiet_step (first | (go_at_fn g; refine Calls.regrown_of (hc1 _ _))))
    refine wpQuiet_nil ?_
    intro _ hw'
    obtain ⟨⟨nq, osq⟩, hw''⟩ := hw'
    subst hw''
    have S2 : Aside (SD enc w0 blk off d (grow (redrawn wr nq) osq)) := S1.out.grown nq osq
    clear l1a l1b hc1 S1
    generalize grow (redrawn wr nq) osq = w2 at S2 ⊢
    clear nq osq
    clear ea1 ec1 pa1 ba1 ra1 pc1 bc1 rc1
    go_wp2
    go_roundg (j - (h + 1))
    case measure => omega
    case rel => exact ⟨h + 1, j, by first | rfl | go_num | (congr 1; omega), rfl, by omega, by omega, hj1, Nat.le_refl _, S2, (show Aside _ from fun k h1 h2 => by
     by_cases hk : k < h
     ·
      exact hO.ntrans _ _ _ hlv (hX k h (by omega) hk (by omega))
     ·
      have : k = h := by omega
      subst this; exact hlv), HG⟩
   | true =>
    go_wp2_with fail
    obtain ⟨iN2, hiN2⟩ : ∃ q, q = m := ⟨_, rfl⟩
    obtain ⟨jN2, hjN2⟩ : ∃ q, q = h := ⟨_, rfl⟩
    have ea2 : ((m : Int)).toNat = iN2 := by omega
    have pa2 : (0 : Int) ≤ (m : Int) := by omega
    have ba2 : (m : Int) < (d.size : Int) := by omega
    have ra2 : IntKind.i64.wrap ((m : Int)) = (m : Int) := by rw [IntKind.wrap_i64]; omega
    have ec2 : (((i : Int) + (j : Int)) / 2).toNat = jN2 := by omega
    have pc2 : (0 : Int) ≤ ((i : Int) + (j : Int)) / 2 := by omega
    have bc2 : ((i : Int) + (j : Int)) / 2 < (d.size : Int) := by omega
    have rc2 : IntKind.i64.wrap (((i : Int) + (j : Int)) / 2) = ((i : Int) + (j : Int)) / 2 := by rw [IntKind.wrap_i64]; omega
    obtain ⟨x2, hx2⟩ : ∃ x, x = d[m]! := ⟨_, rfl⟩
    obtain ⟨y2, hy2⟩ : ∃ x, x = d[h]! := ⟨_, rfl⟩
    have l2a := S1.out.cl R (by omega) (m) (by omega)
    have l2b := S1.out.cl R (by omega) (h) (by omega)
    rw [← hx2, ← hiN2] at l2a
    rw [← hy2, ← hjN2] at l2b
    have hc2 := S1.out.cmp HC.out (by omega) x2 y2
    have hv2 : cf x2 y2 < 0 := by rw [hx2, hy2]; exact of_decide_eq_true hlv
    have hd2 : decide (cf x2 y2 < 0) = true := decide_eq_true hv2
    clear hx2 hy2 hiN2 hjN2
    go_wp2_with fail
    refine wp_region_quiet_below (by assumption) (by kernel_rfl) ?_
    repeat (quiet_step (first | (go_at_fn g; refine Calls.regrown_of (hc2 _ _))))
    refine wpQuiet_nil ?_
    intro _ hw'
    obtain ⟨⟨nq, osq⟩, hw''⟩ := hw'
    subst hw''
    have S2 : Aside (SD enc w0 blk off d (grow (redrawn wr nq) osq)) := S1.out.grown nq osq
    clear l2a l2b hc2 S1
    generalize grow (redrawn wr nq) osq = w2 at S2 ⊢
    clear nq osq
    clear ea2 ec2 pa2 ba2 ra2 pc2 bc2 rc2
    go_wp2
    go_roundg (h - i)
    case measure => omega
    case rel => exact ⟨i, h, rfl, by first | rfl | go_num | (congr 1; omega), hi1, hi2, by omega, Nat.le_refl _, S2, HL, (show Aside _ from fun k h1 h2 => by
     by_cases hk : h < k
     ·
      exact swo_lt_of hO hlv (hX h k (by omega) hk (by omega))
     ·
      have : k = h := by omega
      subst this; exact hlv)⟩
  ·
   have hltd : decide ((i : Int) < (j : Int)) = false := decide_eq_false hlt
   have hje : j = i := by omega
   subst hje
   go_wp2
   go_loopg [17] (m - j) (fun kx s17 wr => ∃ (k : Nat) (dk : Array α), s17 = .int .i64 k ∧ j ≤ k ∧ k ≤ m ∧ k - j ≤ kx ∧ Aside (SD enc w0 blk off dk wr) ∧ Aside (PutL a m d dk k))
   case atStart => exact ⟨m, d, rfl, hj1, Nat.le_refl _, Nat.le_refl _, S1, PutL.start a m d⟩
   case round =>
    clear S1
    obtain ⟨k, dk, rfl, hk1, hk2, hkx2, S1, HR⟩ := hrel
    have hds := HR.out.size
    by_cases hlk : (j : Int) < (k : Int)
    ·
     have hlkd : decide ((k : Int) > (j : Int)) = true := decide_eq_true hlk
     obtain ⟨kp, hkp⟩ : ∃ q, q + 1 = k := ⟨k - 1, by omega⟩
     have zkp : (k : Int) = (kp : Int) + 1 := by omega
     have hlk2 : decide ((kp : Int) + 1 > (j : Int)) = true := decide_eq_true (by omega)
     have hlk3 : (j : Int) < (kp : Int) + 1 := by omega
     go_wp2_with fail
     obtain ⟨iN3, hiN3⟩ : ∃ q, q = k := ⟨_, rfl⟩
     obtain ⟨jN3, hjN3⟩ : ∃ q, q = k - 1 := ⟨_, rfl⟩
     have ea3 : ((kp : Int) + 1).toNat = iN3 := by omega
     have pa3 : (0 : Int) ≤ (kp : Int) + 1 := by omega
     have ba3 : (kp : Int) + 1 < (d.size : Int) := by omega
     have ra3 : IntKind.i64.wrap ((kp : Int) + 1) = (kp : Int) + 1 := by rw [IntKind.wrap_i64]; omega
     have ec3 : ((kp : Int)).toNat = jN3 := by omega
     have pc3 : (0 : Int) ≤ (kp : Int) := by omega
     have bc3 : (kp : Int) < (d.size : Int) := by omega
     have rc3 : IntKind.i64.wrap ((kp : Int)) = (kp : Int) := by rw [IntKind.wrap_i64]; omega
     obtain ⟨x3, hx3⟩ : ∃ x, x = dk[k]! := ⟨_, rfl⟩
     obtain ⟨y3, hy3⟩ : ∃ x, x = dk[k - 1]! := ⟨_, rfl⟩
     have S2 : Aside (SD enc w0 blk off (swp dk (k) (k - 1)) ((wr.setCell ⟨blk, off + iN3, none⟩ (enc y3)).setCell ⟨blk, off + jN3, none⟩ (enc x3)).drew) := by rw [hiN3, hjN3, hx3, hy3]; exact S1.out.swapped R (k) (k - 1) (by omega) (by omega)
     have c3a := S1.out.c1 R (by omega) (k) (by omega)
     have c3b := S1.out.c1 R (by omega) (k - 1) (by omega)
     have f3a := S1.out.f1 R (by omega) (k) (by omega)
     have f3b := S1.out.f1 R (by omega) (k - 1) (by omega)
     obtain ⟨u3, c3c⟩ := S1.out.c2 R (by omega) (k) (k - 1) (by omega) (by omega) (enc y3)
     rw [← hjN3, ← hiN3] at c3c
     rw [← hx3, ← hiN3] at c3a
     rw [← hy3, ← hjN3] at c3b
     rw [← hiN3] at f3a
     rw [← hjN3] at f3b
     clear S1 hx3 hy3 hiN3 hjN3
     go_wp2_with fail
     go_big_region_o
     clear c3a c3b c3c f3a f3b
     generalize ((wr.setCell ⟨blk, off + iN3, none⟩ (enc y3)).setCell ⟨blk, off + jN3, none⟩ (enc x3)).drew = w2 at S2 ⊢
     clear ea3 ec3 pa3 ba3 ra3 pc3 bc3 rc3
     go_wp2
     go_roundg (kp - j)
     case measure => omega
     case rel =>
      subst hkp
      exact ⟨kp, swp dk (kp + 1) kp, by first | rfl | go_num | (congr 1; omega), by omega, by omega, Nat.le_refl _, S2, PutL.step HR.out (by omega) hk2 (by omega)⟩
    ·
     have hlkd : decide ((k : Int) > (j : Int)) = false := decide_eq_false hlk
     have hke : k = j := by omega
     subst hke
     go_wp2
     (try simp only [Exit.inBlock, Exit.then]); refine bodyPost_ret (results_none rfl _ _ _) rfl ?_
     obtain rfl : b = m + 1 := by omega
     exact ⟨rfl, dk, S1.out, PutL.sorted hO HR.out hi1 hj1 hX HL.out HG.out, HR.out.perm⟩

/-- Where both halves are parted: what stands in front of the places s and e belongs in front. -/
structure Cut (lt : α → α → Bool) (a m b e s : Nat) (d : Array α) : Prop where
 hs : a ≤ s ∧ s ≤ m
 he : m ≤ e ∧ e ≤ b
 h1 : ∀ p q, a ≤ p → p < s → e ≤ q → q < b → lt d[q]! d[p]! = false
 h2 : ∀ p q, m ≤ p → p < e → s ≤ q → q < m → lt d[q]! d[p]! = false
theorem Cut.of {lt : α → α → Bool} (O : SWO lt) {a m b e s : Nat} {d : Array α} (hX : SortedIn lt a m d) (hY : SortedIn lt m b d) (hs : a ≤ s ∧ s ≤ m) (he : m ≤ e ∧ e ≤ b)
  (h1 : s = a ∨ e = b ∨ lt d[e]! d[s - 1]! = false) (h2 : s = m ∨ e = m ∨ lt d[e - 1]! d[s]! = true) : Cut lt a m b e s d := by
 refine ⟨hs, he, fun p q h3 h4 h5 h6 => ?_, fun p q h3 h4 h5 h6 => ?_⟩
 ·
  rcases h1 with h | h | h
  ·
   omega
  ·
   omega
  ·
   have u : lt d[e]! d[p]! = false := by
    by_cases hp : p < s - 1
    ·
     exact O.ntrans _ _ _ h (hX p (s - 1) h3 hp (by omega))
    ·
     rw [show p = s - 1 by omega]; exact h
   by_cases hq : e < q
   ·
    exact O.ntrans _ _ _ (hY e q (by omega) hq h6) u
   ·
    rw [show q = e by omega]; exact u
 ·
  rcases h2 with h | h | h
  ·
   omega
  ·
   omega
  ·
   have h' := swo_asym O h
   have u : lt d[s]! d[p]! = false := by
    by_cases hp : p < e - 1
    ·
     exact O.ntrans _ _ _ h' (hY p (e - 1) h3 hp (by omega))
    ·
     rw [show p = e - 1 by omega]; exact h'
   by_cases hq : s < q
   ·
    exact O.ntrans _ _ _ (hX s q (by omega) hq h6) u
   ·
    rw [show q = s by omega]; exact u
theorem Rot.triv {s m e : Nat} (d : Array α) (hsm : s ≤ m) (hme : m ≤ e) (h : s = m ∨ e = m) : Rot s m e d d :=
 ⟨rfl, fun k h1 h2 => by (rcases h with h | h); (congr 1; omega); omega, fun k h1 h2 => by (rcases h with h | h); omega; (congr 1; omega), permIn_refl d s e⟩
theorem Rot.empty {lt : α → α → Bool} {a s mid : Nat} {d : Array α} (h1 : SortedIn lt a s d) (h2 : SortedIn lt s mid d) (h : s ≤ a ∨ mid ≤ s) : SortedIn lt a mid d := by
 rcases h with h | h
 ·
  exact sorted_sub h2 h (Nat.le_refl _)
 ·
  exact sorted_sub h1 (Nat.le_refl _) h
theorem Rot.parts {lt : α → α → Bool} {a s m e mid b : Nat} {d d1 : Array α} (r : Rot s m e d d1) (hs : a ≤ s ∧ s ≤ m) (he : m ≤ e ∧ e ≤ b) (hmid : mid = s + (e - m)) (hX : SortedIn lt a m d) (hY : SortedIn lt m b d) :
  SortedIn lt a s d1 ∧ SortedIn lt s mid d1 ∧ SortedIn lt mid e d1 ∧ SortedIn lt e b d1 := by
 refine ⟨sorted_same (sorted_sub hX (Nat.le_refl _) hs.2) r.perm (.inl (Nat.le_refl _)), fun i j h1 h2 h3 => ?_, fun i j h1 h2 h3 => ?_, sorted_same (sorted_sub hY he.1 (Nat.le_refl _)) r.perm (.inr (Nat.le_refl _))⟩
 ·
  rw [r.left i h1 (by omega), r.left j (by omega) (by omega)]; exact hY _ _ (by omega) (by omega) (by omega)
 ·
  rw [r.right i (by omega) (by omega), r.right j (by omega) h3]; exact hX _ _ (by omega) (by omega) (by omega)
set_option maxHeartbeats 8000000 in
set_option maxRecDepth 1000000 in
theorem merge_main (enc : α → Value) (cf : α → α → Int) (hO : SWO (ltOf cf)) (g : Nat) (cb : Array Value) (blk off cap a m b : Nat) (d0 d : Array α) (w0 w : World)
  (eg : ∀ args w, (callFunc g args).run Try.prog w = .ok (.enter g args) w) (hcmp : CmpB g cb enc cf blk off d0.size w0)
  (R : Row1 enc w0 blk off d0) (hs : d0.size = d.size) (S : SD enc w0 blk off d w) (ham : a + 1 < m) (hmb : m + 1 < b) (hb : b ≤ d.size) (hsz : d.size < 2305843009213693952) (hX : SortedIn (ltOf cf) a m d) (hY : SortedIn (ltOf cf) m b d)
  (IH : ∀ (a' m' b' : Nat) (d' : Array α) (w' : World), b' - a' < b - a → a' < m' → m' < b' → b' ≤ d'.size → d0.size = d'.size → SortedIn (ltOf cf) a' m' d' → SortedIn (ltOf cf) m' b' d' → SD enc w0 blk off d' w' →
   Calls Try.prog 77 #[.slice (some ⟨blk, off, none⟩) d'.size cap, .int .i64 a', .int .i64 m', .int .i64 b', .func (.func g) #[] cb] w' fun e w' => e = .returned (.tuple #[]) ∧ ∃ d2, SD enc w0 blk off d2 w' ∧ SortedIn (ltOf cf) a' b' d2 ∧ PermIn a' b' d' d2) :
  Calls Try.prog 77 #[.slice (some ⟨blk, off, none⟩) d.size cap, .int .i64 a, .int .i64 m, .int .i64 b, .func (.func g) #[] cb] w fun e w' => e = .returned (.tuple #[]) ∧ ∃ d', SD enc w0 blk off d' w' ∧ SortedIn (ltOf cf) a b d' ∧ PermIn a b d d' := by
 have hcl0 := R.hO.cells
 simp only [Value.cells] at hcl0
 have hst := R.hO.store Try.prog
 have mixed : Try.prog.follows .mixedOrders = true := by kernel_rfl
 have S0 : Aside (SD enc w0 blk off d w) := S
 have HC : Aside _ := hcmp
 have HIH : Aside _ := IH
 clear S hcmp IH
 have z1 : ((m : Int) - (a : Int) == 1) = false := beq_eq_false_iff_ne.mpr (by omega)
 have z2 : ((b : Int) - (m : Int) == 1) = false := beq_eq_false_iff_ne.mpr (by omega)
 go_enter Try.func77, Try.ntmps77
 go_upto_if 140 with fail
 go_cut [18, 19, 20, 21] (fun v18 v19 v20 v21 wc => ∃ (mid n s0 r0 : Nat), v18 = .int .i64 mid ∧ v19 = .int .i64 n ∧ v20 = .int .i64 s0 ∧ v21 = .int .i64 r0 ∧ Aside (SD enc w0 blk off d wc) ∧ (2 * mid ≤ a + b ∧ a + b ≤ 2 * mid + 1) ∧ (n ≤ mid + m ∧ mid + m ≤ n) ∧ ((mid < m ∧ s0 + b ≤ n ∧ n ≤ s0 + b ∧ r0 ≤ mid ∧ mid ≤ r0) ∨ (m ≤ mid ∧ s0 ≤ a ∧ a ≤ s0 ∧ r0 ≤ m ∧ m ≤ r0)))
 case first => as_aux_lemma =>
  by_cases hmm : ((a : Int) + (b : Int)) / 2 < (m : Int)
  ·
   have hmd : decide ((m : Int) > ((a : Int) + (b : Int)) / 2) = true := decide_eq_true hmm
   go_wp2
   go_meet
   case rel => exact ⟨(a + b) / 2, (a + b) / 2 + m, (a + b) / 2 + m - b, (a + b) / 2, by first | rfl | go_num | (congr 1; omega), by first | rfl | go_num | (congr 1; omega), by first | rfl | go_num | (congr 1; omega), by first | rfl | go_num | (congr 1; omega), S0, by omega, by omega, by omega⟩
  ·
   have hmd : decide ((m : Int) > ((a : Int) + (b : Int)) / 2) = false := decide_eq_false hmm
   go_wp2
   go_meet
   case rel => exact ⟨(a + b) / 2, (a + b) / 2 + m, a, m, by first | rfl | go_num | (congr 1; omega), by first | rfl | go_num | (congr 1; omega), by first | rfl | go_num | (congr 1; omega), by first | rfl | go_num | (congr 1; omega), S0, by omega, by omega, by omega⟩
 case rest => as_aux_lemma =>
  clear S0
  obtain ⟨mid, n, s0, r0, rfl, rfl, rfl, rfl, S1, hmid, hn, hcase⟩ := hcut
  have hsr0 : a ≤ s0 ∧ s0 ≤ r0 ∧ r0 ≤ m ∧ r0 ≤ mid ∧ n ≤ s0 + b := by omega
  have HCA : Aside _ := hcase
  clear hcase
  go_upto_block 8 with fail
  go_cut [20] (fun v20 wc => ∃ (s e : Nat), v20 = .int .i64 s ∧ (e + s ≤ n ∧ n ≤ e + s) ∧ Aside (SD enc w0 blk off d wc) ∧ Aside (Cut (ltOf cf) a m b e s d) ∧ s ≤ mid)
  case first => as_aux_lemma =>
   go_wp2_with fail
   go_loopg [20, 21] (b - a) (fun kx s20 s21 wr => ∃ (s r : Nat), s20 = .int .i64 s ∧ s21 = .int .i64 r ∧ s0 ≤ s ∧ s ≤ r ∧ r ≤ r0 ∧ r - s ≤ kx ∧ Aside (SD enc w0 blk off d wr) ∧ Aside (s ≤ s0 ∨ ltOf cf d[n - s]! d[s - 1]! = false) ∧ Aside (r0 ≤ r ∨ ltOf cf d[n - 1 - r]! d[r]! = true))
   case atStart => exact ⟨s0, r0, rfl, rfl, Nat.le_refl _, by omega, Nat.le_refl _, by omega, S1, .inl (Nat.le_refl _), .inl (Nat.le_refl _)⟩
   case round =>
    clear S1
    obtain ⟨s, r, rfl, rfl, hs1, hsr, hr1, hkx, S1, HL, HG⟩ := hrel
    by_cases hlt : (s : Int) < (r : Int)
    ·
     have hltd : decide ((s : Int) < (r : Int)) = true := decide_eq_true hlt
     obtain ⟨c, hc⟩ : ∃ q, q = (s + r) / 2 := ⟨_, rfl⟩
     have hc2 : s ≤ c := by omega
     have hc3 : c < r := by omega
     obtain ⟨q, hq1, hq2⟩ : ∃ q, q ≤ n - 1 - c ∧ n - 1 - c ≤ q := ⟨n - 1 - c, Nat.le_refl _, Nat.le_refl _⟩
     have zq : (n : Int) - 1 - ((s : Int) + (r : Int)) / 2 = (q : Int) := by omega
     cases hlv : ltOf cf d[n - 1 - c]! d[c]! with
     | false =>
      go_wp2_with fail
      obtain ⟨iN1, hiN1⟩ : ∃ q, q = n - 1 - c := ⟨_, rfl⟩
      obtain ⟨jN1, hjN1⟩ : ∃ q, q = c := ⟨_, rfl⟩
      have ea1 : ((q : Int)).toNat = iN1 := by omega
      have pa1 : (0 : Int) ≤ (q : Int) := by omega
      have ba1 : (q : Int) < (d.size : Int) := by omega
      have ra1 : IntKind.i64.wrap ((q : Int)) = (q : Int) := by rw [IntKind.wrap_i64]; omega
      have ec1 : (((s : Int) + (r : Int)) / 2).toNat = jN1 := by omega
      have pc1 : (0 : Int) ≤ ((s : Int) + (r : Int)) / 2 := by omega
      have bc1 : ((s : Int) + (r : Int)) / 2 < (d.size : Int) := by omega
      have rc1 : IntKind.i64.wrap (((s : Int) + (r : Int)) / 2) = ((s : Int) + (r : Int)) / 2 := by rw [IntKind.wrap_i64]; omega
      obtain ⟨x1, hx1⟩ : ∃ x, x = d[n - 1 - c]! := ⟨_, rfl⟩
      obtain ⟨y1, hy1⟩ : ∃ x, x = d[c]! := ⟨_, rfl⟩
      have l1a := S1.out.cl R (by omega) (n - 1 - c) (by omega)
      have l1b := S1.out.cl R (by omega) (c) (by omega)
      rw [← hx1, ← hiN1] at l1a
      rw [← hy1, ← hjN1] at l1b
      have hc1 := S1.out.cmp HC.out (by omega) x1 y1
      have hv1 : ¬ cf x1 y1 < 0 := by rw [hx1, hy1]; exact of_decide_eq_false hlv
      have hd1 : decide (cf x1 y1 < 0) = false := decide_eq_false hv1
      clear hx1 hy1 hiN1 hjN1
      go_wp2_with fail
      refine wp_region_quiet_below (by assumption) (by kernel_rfl) ?_
      repeat (quiet_step (first | (go_at_fn g; refine Calls.regrown_of (hc1 _ _))))
      refine wpQuiet_nil ?_
      intro _ hw'
      obtain ⟨⟨nq, osq⟩, hw''⟩ := hw'
      subst hw''
      have S2 : Aside (SD enc w0 blk off d (grow (redrawn wr nq) osq)) := S1.out.grown nq osq
      clear l1a l1b hc1 S1
      generalize grow (redrawn wr nq) osq = w2 at S2 ⊢
      clear nq osq
      clear ea1 ec1 pa1 ba1 ra1 pc1 bc1 rc1
      go_wp2
      go_roundg (r - (c + 1))
      case measure => omega
      case rel => exact ⟨c + 1, r, by first | rfl | go_num | (congr 1; omega), rfl, by omega, by omega, hr1, Nat.le_refl _, S2, .inr (by rw [show n - (c + 1) = n - 1 - c by omega, Nat.add_sub_cancel]; exact hlv), HG⟩
     | true =>
      go_wp2_with fail
      obtain ⟨iN2, hiN2⟩ : ∃ q, q = n - 1 - c := ⟨_, rfl⟩
      obtain ⟨jN2, hjN2⟩ : ∃ q, q = c := ⟨_, rfl⟩
      have ea2 : ((q : Int)).toNat = iN2 := by omega
      have pa2 : (0 : Int) ≤ (q : Int) := by omega
      have ba2 : (q : Int) < (d.size : Int) := by omega
      have ra2 : IntKind.i64.wrap ((q : Int)) = (q : Int) := by rw [IntKind.wrap_i64]; omega
      have ec2 : (((s : Int) + (r : Int)) / 2).toNat = jN2 := by omega
      have pc2 : (0 : Int) ≤ ((s : Int) + (r : Int)) / 2 := by omega
      have bc2 : ((s : Int) + (r : Int)) / 2 < (d.size : Int) := by omega
      have rc2 : IntKind.i64.wrap (((s : Int) + (r : Int)) / 2) = ((s : Int) + (r : Int)) / 2 := by rw [IntKind.wrap_i64]; omega
      obtain ⟨x2, hx2⟩ : ∃ x, x = d[n - 1 - c]! := ⟨_, rfl⟩
      obtain ⟨y2, hy2⟩ : ∃ x, x = d[c]! := ⟨_, rfl⟩
      have l2a := S1.out.cl R (by omega) (n - 1 - c) (by omega)
      have l2b := S1.out.cl R (by omega) (c) (by omega)
      rw [← hx2, ← hiN2] at l2a
      rw [← hy2, ← hjN2] at l2b
      have hc2 := S1.out.cmp HC.out (by omega) x2 y2
      have hv2 : cf x2 y2 < 0 := by rw [hx2, hy2]; exact of_decide_eq_true hlv
      have hd2 : decide (cf x2 y2 < 0) = true := decide_eq_true hv2
      clear hx2 hy2 hiN2 hjN2
      go_wp2_with fail
      refine wp_region_quiet_below (by assumption) (by kernel_rfl) ?_
      repeat (quiet_step (first | (go_at_fn g; refine Calls.regrown_of (hc2 _ _))))
      refine wpQuiet_nil ?_
      intro _ hw'
      obtain ⟨⟨nq, osq⟩, hw''⟩ := hw'
      subst hw''
      have S2 : Aside (SD enc w0 blk off d (grow (redrawn wr nq) osq)) := S1.out.grown nq osq
      clear l2a l2b hc2 S1
      generalize grow (redrawn wr nq) osq = w2 at S2 ⊢
      clear nq osq
      clear ea2 ec2 pa2 ba2 ra2 pc2 bc2 rc2
      go_wp2
      go_roundg (c - s)
      case measure => omega
      case rel => exact ⟨s, c, rfl, by first | rfl | go_num | (congr 1; omega), hs1, hc2, by omega, Nat.le_refl _, S2, HL, .inr hlv⟩
    ·
     have hltd : decide ((s : Int) < (r : Int)) = false := decide_eq_false hlt
     have hre : r = s := by omega
     subst hre
     go_wp2
     go_meet
     case rel =>
      have hcase := HCA.out
      refine ⟨r, n - r, rfl, by omega, S1, Cut.of hO hX hY (by omega) (by omega) ?_ ?_, by omega⟩
      ·
       rcases HL.out with h | h
       ·
        omega
       ·
        exact .inr (.inr h)
      ·
       rcases HG.out with h | h
       ·
        omega
       ·
        rw [show n - r - 1 = n - 1 - r by omega]; exact .inr (.inr h)
  case rest => as_aux_lemma =>
   clear S1
   obtain ⟨s, e, rfl, hes, S1, HCU, hsm⟩ := hcut
   have hcs := HCU.out.hs
   have hce := HCU.out.he
   have ze : (n : Int) - (s : Int) = (e : Int) := by omega
   go_upto_region 39 with fail
   go_cut [24, 185] (fun v24 v185 wc => v24 = .int .i64 e ∧ v185 = .bool (decide (s < m ∧ m < e)) ∧ Aside (SD enc w0 blk off d wc))
   case first => as_aux_lemma =>
    by_cases c1 : (s : Int) < (m : Int)
    ·
     have c1d : decide ((s : Int) < (m : Int)) = true := decide_eq_true c1
     by_cases c2 : (m : Int) < (e : Int)
     ·
      have c2d : decide ((m : Int) < (e : Int)) = true := decide_eq_true c2
      go_wp2
      go_meet
      case rel => exact ⟨by first | rfl | go_num | (congr 1; omega), by rw [decide_eq_true (show s < m ∧ m < e by omega)], S1⟩
     ·
      have c2d : decide ((m : Int) < (e : Int)) = false := decide_eq_false c2
      go_wp2
      go_meet
      case rel => exact ⟨by first | rfl | go_num | (congr 1; omega), by rw [decide_eq_false (show ¬ (s < m ∧ m < e) by omega)], S1⟩
    ·
     have c1d : decide ((s : Int) < (m : Int)) = false := decide_eq_false c1
     go_wp2
     go_meet
     case rel => exact ⟨by first | rfl | go_num | (congr 1; omega), by rw [decide_eq_false (show ¬ (s < m ∧ m < e) by omega)], S1⟩
   case rest => as_aux_lemma =>
   clear S1 ze
   obtain ⟨rfl, rfl, S1⟩ := hcut
   go_upto_if 185 with fail
   go_cut [24] (fun v24 wc => ∃ (d1 : Array α), v24 = .int .i64 e ∧ Aside (SD enc w0 blk off d1 wc) ∧ Aside (Rot s m e d d1))
   case first => as_aux_lemma =>
    by_cases c : s < m ∧ m < e
    ·
     have cd : decide (s < m ∧ m < e) = true := decide_eq_true c
     have hc := rotate enc g cb blk off cap s m e d0 d w0 _ R hs S1.out (by omega) (by omega) (by omega) hsz
     have HC2 : Aside (Calls _ _ _ _ _) := hc
     clear hc
     rw [cd]
     go_wp2_with (first | (go_at_call 78; refine HC2.out.mono ?_; rintro e_ w2 ⟨rfl, d2, S2, HS2⟩))
     go_meet
     case rel => exact ⟨d2, rfl, S2, HS2⟩
    ·
     have cd : decide (s < m ∧ m < e) = false := decide_eq_false c
     rw [cd]
     go_wp2
     go_meet
     case rel => exact ⟨d, rfl, S1, Rot.triv d hcs.2 hce.1 (by omega)⟩
   case rest => as_aux_lemma =>
    clear S1
    obtain ⟨d1, rfl, S1, HR⟩ := hcut
    have hz1 := HR.out.size
    have HP : Aside (SortedIn (ltOf cf) a s d1 ∧ SortedIn (ltOf cf) s mid d1 ∧ SortedIn (ltOf cf) mid e d1 ∧ SortedIn (ltOf cf) e b d1) := Rot.parts HR.out hcs hce (by omega) hX hY
    go_upto_region 41 with fail
    go_cut [199] (fun v199 wc => v199 = .bool (decide (a < s ∧ s < mid)) ∧ Aside (SD enc w0 blk off d1 wc))
    case first => as_aux_lemma =>
     by_cases c1 : (a : Int) < (s : Int)
     ·
      have c1d : decide ((a : Int) < (s : Int)) = true := decide_eq_true c1
      by_cases c2 : (s : Int) < (mid : Int)
      ·
       have c2d : decide ((s : Int) < (mid : Int)) = true := decide_eq_true c2
       go_wp2
       go_meet
       case rel => exact ⟨by rw [decide_eq_true (show a < s ∧ s < mid by omega)], S1⟩
      ·
       have c2d : decide ((s : Int) < (mid : Int)) = false := decide_eq_false c2
       go_wp2
       go_meet
       case rel => exact ⟨by rw [decide_eq_false (show ¬ (a < s ∧ s < mid) by omega)], S1⟩
     ·
      have c1d : decide ((a : Int) < (s : Int)) = false := decide_eq_false c1
      go_wp2
      go_meet
      case rel => exact ⟨by rw [decide_eq_false (show ¬ (a < s ∧ s < mid) by omega)], S1⟩
    case rest => as_aux_lemma =>
    clear S1
    obtain ⟨rfl, S1⟩ := hcut
    go_upto_if 199 with fail
    go_cut [24] (fun v24 wc => ∃ (d2 : Array α), v24 = .int .i64 e ∧ Aside (SD enc w0 blk off d2 wc) ∧ Aside (SortedIn (ltOf cf) a mid d2) ∧ Aside (PermIn a mid d1 d2))
    case first => as_aux_lemma =>
     by_cases c : a < s ∧ s < mid
     ·
      have cd : decide (a < s ∧ s < mid) = true := decide_eq_true c
      have hc := HIH.out a s mid d1 _ (by omega) (by omega) (by omega) (by omega) (by omega) HP.out.1 HP.out.2.1 S1.out
      rw [hz1] at hc
      have HC2 : Aside (Calls _ _ _ _ _) := hc
      clear hc
      rw [cd]
      go_wp2_with (first | (go_at_call 77; refine HC2.out.mono ?_; rintro e_ w2 ⟨rfl, d2, S2, HS2, HS3⟩))
      go_meet
      case rel => exact ⟨d2, rfl, S2, HS2, HS3⟩
     ·
      have cd : decide (a < s ∧ s < mid) = false := decide_eq_false c
      rw [cd]
      go_wp2
      go_meet
      case rel => exact ⟨d1, rfl, S1, Rot.empty HP.out.1 HP.out.2.1 (by omega), permIn_refl d1 a mid⟩
    case rest => as_aux_lemma =>
     clear S1
     obtain ⟨d2, rfl, S1, HQ, HR2⟩ := hcut
     have hz2 := HR2.out.1
     have fin : ∀ d3 : Array α, SortedIn (ltOf cf) mid b d3 → PermIn mid b d2 d3 → SortedIn (ltOf cf) a b d3 ∧ PermIn a b d d3 := fun d3 q1 q2 =>
      merge_whole hO hcs.1 hcs.2 hce.1 hce.2 hb (by omega) hX hY HCU.out.h1 HCU.out.h2 HR.out HR2.out q2 HQ.out q1
     have FIN : Aside _ := fin
     clear fin
     by_cases c1 : (mid : Int) < (e : Int)
     ·
      have c1d : decide ((mid : Int) < (e : Int)) = true := decide_eq_true c1
      by_cases c2 : (e : Int) < (b : Int)
      ·
       have c2d : decide ((e : Int) < (b : Int)) = true := decide_eq_true c2
       have hc := HIH.out mid e b d2 _ (by omega) (by omega) (by omega) (by omega) (by omega) (sorted_same HP.out.2.2.1 HR2.out (.inr (Nat.le_refl _))) (sorted_same HP.out.2.2.2 HR2.out (.inr (by omega))) S1.out
       rw [hz2, hz1] at hc
       have HC2 : Aside (Calls _ _ _ _ _) := hc
       clear hc
       go_wp2_with (first | (go_at_call 77; refine HC2.out.mono ?_; rintro e_ w2 ⟨rfl, d3, S2, HS2, HS3⟩))
       go_end0
       exact ⟨rfl, d3, S2, FIN.out d3 HS2 HS3⟩
      ·
       have c2d : decide ((e : Int) < (b : Int)) = false := decide_eq_false c2
       go_wp2
       go_end0
       exact ⟨rfl, d2, S1.out, FIN.out d2 (sorted_sub (sorted_same HP.out.2.2.1 HR2.out (.inr (Nat.le_refl _))) (Nat.le_refl _) (by omega)) (permIn_refl d2 mid b)⟩
     ·
      have c1d : decide ((mid : Int) < (e : Int)) = false := decide_eq_false c1
      go_wp2
      go_end0
      exact ⟨rfl, d2, S1.out, FIN.out d2 (sorted_sub (sorted_same HP.out.2.2.2 HR2.out (.inr (by omega))) (by omega) (Nat.le_refl _)) (permIn_refl d2 mid b)⟩

theorem merge (enc : α → Value) (cf : α → α → Int) (hO : SWO (ltOf cf)) (g : Nat) (cb : Array Value) (blk off cap : Nat) (d0 : Array α) (w0 : World)
  (eg : ∀ args w, (callFunc g args).run Try.prog w = .ok (.enter g args) w) (hcmp : CmpB g cb enc cf blk off d0.size w0) (R : Row1 enc w0 blk off d0) (hsz : d0.size < 2305843009213693952) :
  ∀ (N a m b : Nat) (d : Array α) (w : World), b - a < N → a < m → m < b → b ≤ d.size → d0.size = d.size → SortedIn (ltOf cf) a m d → SortedIn (ltOf cf) m b d → SD enc w0 blk off d w →
   Calls Try.prog 77 #[.slice (some ⟨blk, off, none⟩) d.size cap, .int .i64 a, .int .i64 m, .int .i64 b, .func (.func g) #[] cb] w fun e w' => e = .returned (.tuple #[]) ∧ ∃ d2, SD enc w0 blk off d2 w' ∧ SortedIn (ltOf cf) a b d2 ∧ PermIn a b d d2
 | 0, a, m, b, d, w, hN, _, _, _, _, _, _, _ => by omega
 | N + 1, a, m, b, d, w, hN, ham, hmb, hb, hs, hX, hY, S => by
  by_cases h1 : m ≤ a + 1
  ·
   exact merge_one enc cf hO g cb blk off cap a m b d0 d w0 w eg hcmp R hs S ham h1 hmb hb (by omega) hY
  ·
   by_cases h2 : b ≤ m + 1
   ·
    exact merge_last enc cf hO g cb blk off cap a m b d0 d w0 w eg hcmp R hs S (by omega) hmb h2 hb (by omega) hX
   ·
    exact merge_main enc cf hO g cb blk off cap a m b d0 d w0 w eg hcmp R hs S (by omega) (by omega) hb (by omega) hX hY
     (fun a' m' b' d' w' hl h3 h4 h5 h6 h7 h8 h9 => merge enc cf hO g cb blk off cap d0 w0 eg hcmp R hsz N a' m' b' d' w' (by omega) h3 h4 h5 h6 h7 h8 h9)

set_option maxHeartbeats 16000000 in
set_option maxRecDepth 1000000 in
theorem stable (enc : α → Value) (cf : α → α → Int) (hO : SWO (ltOf cf)) (g : Nat) (cb : Array Value) (blk off cap : Nat) (d : Array α) (w : World)
  (eg : ∀ args w, (callFunc g args).run Try.prog w = .ok (.enter g args) w) (hcmp : CmpB g cb enc cf blk off d.size w)
  (R : Row1 enc w blk off d) (hsz : d.size < 1152921504606846976) :
  Calls Try.prog 74 #[.slice (some ⟨blk, off, none⟩) d.size cap, .int .i64 d.size, .func (.func g) #[] cb] w fun e w' => e = .returned (.tuple #[]) ∧ ∃ d', SD enc w blk off d' w' ∧ SortedIn (ltOf cf) 0 d.size d' ∧ PermIn 0 d.size d d' := by
 have hcl0 := R.hO.cells
 simp only [Value.cells] at hcl0
 have hst := R.hO.store Try.prog
 have mixed : Try.prog.follows .mixedOrders = true := by kernel_rfl
 have HC : Aside _ := hcmp
 have S0 : Aside (SD enc w blk off d w) := SD.start R.hH
 clear hcmp
 obtain ⟨n, hn1, hn2⟩ : ∃ n, n ≤ d.size ∧ d.size ≤ n := ⟨d.size, Nat.le_refl _, Nat.le_refl _⟩
 go_enter Try.func74, Try.ntmps74
 go_wp2
 go_loopg [7, 8] d.size (fun kx s7 s8 wr => ∃ (a : Nat) (dk : Array α), s7 = .int .i64 a ∧ s8 = .int .i64 ((a + 20 : Nat) : Int) ∧ a ≤ d.size ∧ d.size - a ≤ kx ∧ Aside (SD enc w blk off dk wr) ∧ Aside (BlkA (ltOf cf) 20 d.size a d dk))
 case atStart => exact ⟨0, d, rfl, rfl, Nat.zero_le _, by omega, S0, BlkA.start (ltOf cf) 20 d.size d⟩
 case round =>
  clear S0
  obtain ⟨a, dk, rfl, rfl, hle, hkx, S1, HA⟩ := hrel
  have hds := HA.out.perm.1
  by_cases hlt : ((a + 20 : Nat) : Int) ≤ (d.size : Int)
  ·
   have hltd : decide (((a + 20 : Nat) : Int) ≤ (d.size : Int)) = true := decide_eq_true hlt
   have hc := insertion enc cf g cb blk off cap a (a + 20) d dk w _ eg HC.out R (by omega) S1.out (by omega) (by omega) (by omega)
   rw [hds] at hc
   have HC2 : Aside (Calls _ _ _ _ _) := hc
   clear hc
   have hi := insertionSort_holds (lt := ltOf cf) hO dk a (a + 20) (by omega) (by omega)
   go_wp2_with (first | (go_at_call 76; refine HC2.out.mono ?_; rintro e_ w2 ⟨rfl, S2⟩))
   go_roundg (d.size - (a + 20))
   case measure => omega
   case rel => exact ⟨a + 20, _, rfl, by first | rfl | go_num | (congr 1; omega), by omega, Nat.le_refl _, S2, BlkA.step HA.out (by omega) (Nat.le_refl _) hi.1 hi.2⟩
  ·
   have hltd : decide (((a + 20 : Nat) : Int) ≤ (d.size : Int)) = false := decide_eq_false hlt
   have hc := insertion enc cf g cb blk off cap a d.size d dk w _ eg HC.out R (by omega) S1.out (by omega) (by omega) (by omega)
   rw [hds] at hc
   have HC2 : Aside (Calls _ _ _ _ _) := hc
   clear hc
   have hi := insertionSort_holds (lt := ltOf cf) hO dk a d.size (by omega) (by omega)
   have HB : Aside (PermIn 0 d.size d (Sort.insertionSort (ltOf cf) dk a d.size) ∧ BlkS (ltOf cf) 20 d.size (Sort.insertionSort (ltOf cf) dk a d.size)) := BlkA.done HA.out (by omega) (Nat.le_refl _) hi.1 hi.2
   clear hi
   generalize hd1 : Sort.insertionSort (ltOf cf) dk a d.size = d1 at HB HC2
   clear hd1
   go_wp2_with (first | (go_at_call 76; refine HC2.out.mono ?_; rintro e_ w2 ⟨rfl, S2⟩))
   have S3 : Aside (SD enc w blk off d1 w2) := S2
   clear S2 S1 HA HC2
   go_loopg [6, 7, 8, 9] d.size (fun kx s6 s7 s8 s9 wr => ∃ (B : Nat) (dk : Array α), s6 = .int .i64 B ∧ 0 < B ∧ B ≤ 2 * d.size + 20 ∧ d.size - B ≤ kx ∧ Aside (SD enc w blk off dk wr) ∧ Aside (PermIn 0 d.size d dk ∧ BlkS (ltOf cf) B d.size dk))
   case atStart => exact ⟨20, d1, rfl, by omega, by omega, by omega, S3, HB⟩
   case round =>
    clear S3 HB
    obtain ⟨B, d2, rfl, hB, hB2, hkx2, S3, HB⟩ := hrel
    have hds2 := HB.out.1.1
    by_cases hlt2 : (B : Int) < (d.size : Int)
    ·
     have hlt2d : decide ((B : Int) < (d.size : Int)) = true := decide_eq_true hlt2
     go_wp2
     go_loopg [7, 8] d.size (fun kx s7 s8 wr => ∃ (a : Nat) (dk : Array α), s7 = .int .i64 a ∧ s8 = .int .i64 ((a + 2 * B : Nat) : Int) ∧ a ≤ d.size ∧ d.size - a ≤ kx ∧ Aside (SD enc w blk off dk wr) ∧ Aside (BlkM (ltOf cf) B d.size a d dk))
     case atStart => exact ⟨0, d2, rfl, by first | rfl | go_num | (congr 1; omega), Nat.zero_le _, by omega, S3, BlkM.start HB.out.1 HB.out.2⟩
     case round =>
      clear S3
      obtain ⟨a, dk, rfl, rfl, hle, hkx, S1, HA⟩ := hrel
      have hds := HA.out.perm.1
      obtain ⟨m, hm1, hm2⟩ : ∃ m, m ≤ a + B ∧ a + B ≤ m := ⟨a + B, Nat.le_refl _, Nat.le_refl _⟩
      have zB : (a : Int) + (B : Int) = (m : Int) := by omega
      by_cases hlt3 : ((a + 2 * B : Nat) : Int) ≤ (d.size : Int)
      ·
       have hlt3d : decide (((a + 2 * B : Nat) : Int) ≤ (d.size : Int)) = true := decide_eq_true hlt3
       have hc := merge enc cf hO g cb blk off cap d w eg HC.out R (by omega) _ a m (a + 2 * B) dk _ (Nat.lt_succ_self _) (by omega) (by omega) (by omega) (by omega) (by rw [show m = a + B by omega]; exact BlkM.left HA.out (by omega)) (by rw [show m = a + B by omega]; exact BlkM.right HA.out (by omega) (by omega)) S1.out
       rw [hds] at hc
       have HC2 : Aside (Calls _ _ _ _ _) := hc
       clear hc
       go_wp2_with (first | (go_at_call 77; refine HC2.out.mono ?_; rintro e_ w2 ⟨rfl, d3, S2, HS2, HS3⟩))
       go_roundg (d.size - (a + 2 * B))
       case measure => omega
       case rel => exact ⟨a + 2 * B, d3, rfl, by first | rfl | go_num | (congr 1; omega), by omega, Nat.le_refl _, S2, BlkM.step HA.out hB (by omega) (Nat.le_refl _) HS3 HS2⟩
      ·
       have hlt3d : decide (((a + 2 * B : Nat) : Int) ≤ (d.size : Int)) = false := decide_eq_false hlt3
       by_cases hlt4 : (m : Int) < (d.size : Int)
       ·
        have hlt4d : decide ((m : Int) < (d.size : Int)) = true := decide_eq_true hlt4
        have hc := merge enc cf hO g cb blk off cap d w eg HC.out R (by omega) _ a m d.size dk _ (Nat.lt_succ_self _) (by omega) (by omega) (by omega) (by omega) (by rw [show m = a + B by omega]; exact BlkM.left HA.out (by omega)) (by rw [show m = a + B by omega]; exact BlkM.right HA.out (Nat.le_refl _) (by omega)) S1.out
        rw [hds] at hc
        have HC2 : Aside (Calls _ _ _ _ _) := hc
        clear hc
        go_wp2_with (first | (go_at_call 77; refine HC2.out.mono ?_; rintro e_ w2 ⟨rfl, d3, S2, HS2, HS3⟩))
        go_roundg (d.size - 2 * B)
        case measure => omega
        case rel => exact ⟨2 * B, d3, by first | rfl | go_num | (congr 1; omega), by omega, by omega, Nat.le_refl _, S2, BlkM.done HA.out hB (by omega) (Nat.le_refl _) HS3 HS2⟩
       ·
        have hlt4d : decide ((m : Int) < (d.size : Int)) = false := decide_eq_false hlt4
        go_wp2
        go_roundg (d.size - 2 * B)
        case measure => omega
        case rel => exact ⟨2 * B, dk, by first | rfl | go_num | (congr 1; omega), by omega, by omega, Nat.le_refl _, S1, BlkM.done1 HA.out hB (by omega) (Nat.le_refl _)⟩
    ·
     have hlt2d : decide ((B : Int) < (d.size : Int)) = false := decide_eq_false hlt2
     go_wp2
     go_end0
     exact ⟨rfl, d2, S3.out, BlkS.whole HB.out.2 (by omega), HB.out.1⟩

set_option maxHeartbeats 8000000 in
set_option maxRecDepth 1000000 in
theorem sortStable (enc : α → Value) (cf : α → α → Int) (hO : SWO (ltOf cf)) (g : Nat) (cb : Array Value) (blk off cap : Nat) (d : Array α) (w : World)
  (eg : ∀ args w, (callFunc g args).run Try.prog w = .ok (.enter g args) w) (hcmp : CmpB g cb enc cf blk off d.size w)
  (R : Row1 enc w blk off d) (hsz : d.size < 1152921504606846976) :
  Calls Try.prog 69 #[.slice (some ⟨blk, off, none⟩) d.size cap, .func (.func g) #[] cb] w fun e w' => e = .returned (.tuple #[]) ∧ ∃ d', SD enc w blk off d' w' ∧ SortedIn (ltOf cf) 0 d.size d' ∧ PermIn 0 d.size d d' := by
 have hc := stable enc cf hO g cb blk off cap d w eg hcmp R hsz
 have HC2 : Aside (Calls _ _ _ _ _) := hc
 clear hc hcmp R
 go_enter Try.func69, Try.ntmps69
 go_wp2_with (first | (go_at_call 74; refine HC2.out.mono ?_; rintro e_ w2 ⟨rfl, d2, S2, HS2, HS3⟩))
 go_end0
 exact ⟨rfl, d2, S2, HS2, HS3⟩
end
set_option maxHeartbeats 8000000 in
set_option maxRecDepth 1000000 in
theorem insertion_nil (A : Option Addr) (c : Nat) (fv : Value) (w : World) :
  Calls Try.prog 76 #[.slice A 0 c, .int .i64 0, .int .i64 0, fv] w fun e w' => e = .returned (.tuple #[]) ∧ Below w.heap.size w w' := by
 have HB : Aside (Below w.heap.size w w) := Below.refl w.heap.size w
 go_enter Try.func76, Try.ntmps76
 go_wp2
 go_loopg [8] 1 (fun g1 vi wr => vi = .int .i64 1 ∧ Aside (Below w.heap.size w wr))
 case atStart => exact ⟨rfl, HB⟩
 case round =>
  clear HB
  obtain ⟨rfl, HB⟩ := hrel
  go_wp2
  go_end0
  exact ⟨rfl, HB.out⟩
set_option maxHeartbeats 8000000 in
set_option maxRecDepth 1000000 in
theorem stable_nil (A : Option Addr) (c : Nat) (fv : Value) (w : World) :
  Calls Try.prog 74 #[.slice A 0 c, .int .i64 0, fv] w fun e w' => e = .returned (.tuple #[]) ∧ Below w.heap.size w w' := by
 have mixed : Try.prog.follows .mixedOrders = true := by kernel_rfl
 have HB : Aside (Below w.heap.size w w) := Below.refl w.heap.size w
 go_enter Try.func74, Try.ntmps74
 go_wp2
 go_loopg [7, 8] 1 (fun g1 va vb wr => va = .int .i64 0 ∧ vb = .int .i64 20 ∧ Aside (Below w.heap.size w wr))
 case atStart => exact ⟨rfl, rfl, HB⟩
 case round =>
  clear HB
  obtain ⟨rfl, rfl, HB⟩ := hrel
  go_wp2_with (first | (go_at_call 76; refine (insertion_nil A c fv _).mono ?_; rintro e_ w2 ⟨rfl, hb⟩; have HB2 : Aside (Below w.heap.size w w2) := Below.trans HB.out (Below.mono hb HB.out.size); clear HB hb))
  go_loopg [6, 7, 8, 9] 1 (fun g1 vs va vb vm wr2 => vs = .int .i64 20 ∧ Aside (Below w.heap.size w wr2))
  case atStart => exact ⟨rfl, HB2⟩
  case round =>
   clear HB2
   obtain ⟨rfl, HB2⟩ := hrel
   go_wp2
   go_end0
   exact ⟨rfl, HB2.out⟩
set_option maxHeartbeats 8000000 in
set_option maxRecDepth 1000000 in
theorem sortStable_nil (A : Option Addr) (c : Nat) (fv : Value) (w : World) :
  Calls Try.prog 69 #[.slice A 0 c, fv] w fun e w' => e = .returned (.tuple #[]) ∧ Below w.heap.size w w' := by
 go_enter Try.func69, Try.ntmps69
 go_wp2_with (first | (go_at_call 74; refine (stable_nil A c fv _).mono ?_; rintro e_ w2 ⟨rfl, hb⟩))
 go_end0
 exact ⟨rfl, hb⟩
end Go.Proofs.Ytmidgjmlgjjobaa.Stab

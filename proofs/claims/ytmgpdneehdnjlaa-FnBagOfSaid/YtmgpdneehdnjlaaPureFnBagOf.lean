/- The law FnBagOf returns true for every input that the statement lets in; no condition of our own. -/
import Derived.Test.YtmgpdneehdnjlaaCgx3
namespace Go.Proofs.Ytmgpdneehdnjlaa.Pure
open Go.RowKit Go.Proofs.Ytmgpdneehdnjlaa.Cg Go.Proofs.YtmgpdneehdnjlaaW.PrintWords Go.Proofs.YtmgpdneehdnjlaaW.PrintLast
set_option linter.unusedVariables false
set_option linter.unusedSimpArgs false

-- part: base
/-! ### words of mine -/
theorem ev_s {α : Type} {g : Nat → Option α} {r : α} (h : Ev (fun k => g (k + 1)) r) : Ev g r := Ev.step (fun _ => rfl) h
theorem ev_eq {α : Type} {g : Nat → Option α} {r q : α} (h : Ev g r) (e : r = q) : Ev g q := e ▸ h
theorem ev_now {α : Type} {r q : α} (e : r = q) : Ev (fun _ => some r) q := e ▸ Ev.now r
theorem wrap_in {x : Int} (h0 : -9223372036854775808 ≤ x) (h1 : x ≤ 9223372036854775807) : wrap64 x = x := by unfold wrap64; omega
theorem rd_eq (xs : List Int) (i : Nat) : rd xs (i : Int) = xs.getD i 0 := by simp [rd]
theorem rd_get {xs : List Int} {i : Nat} (h : i < xs.length) : rd xs (i : Int) = xs[i] := by simp [rd, h]
theorem wrap_nat2 (a b : Nat) (h : a + b < 4611686018427387904) : wrap64 ((a : Int) + (b : Int)) = ((a + b : Nat) : Int) := by rw [wrap_in (by omega) (by omega)]; omega
theorem ev_const {α : Type} {x : Option α} {a : α} (h : x = some a) : Ev (fun _ => x) a := by subst h; exact Ev.now a

-- part: eqLoop
theorem eqIntS_l0 (F : Nat → List Int → List Int → Int → Option Bool)
    (h0 : ∀ k a b i, F (k + 1) a b i = if i < (a.length : Int) then (if 0 ≤ i then (if i < (b.length : Int) then (if (rd a i) = (rd b i) then (F k a b (wrap64 (i + 1))) else (some false)) else none) else none) else some true)
    (a b : List Int) (hl : a.length = b.length) (hb : a.length ≤ 140737488351232) : ∀ (d i : Nat), i + d = a.length → a.take i = b.take i → Ev (fun k => F k a b i) (decide (a = b)) := by
  intro d
  induction d with
  | zero =>
    intro i h ht
    refine ev_s ?_
    simp only [h0]
    simp only [if_neg (show ¬ ((i : Int) < (a.length : Int)) by omega)]
    rw [List.take_of_length_le (by omega), List.take_of_length_le (by omega)] at ht
    simp only [ht, decide_true]; exact Ev.now _
  | succ d ih =>
    intro i h ht
    refine ev_s ?_
    simp only [h0]
    simp only [if_pos (show (i : Int) < (a.length : Int) by omega), if_pos (show (0 : Int) ≤ (i : Int) by omega), if_pos (show (i : Int) < (b.length : Int) by omega), show wrap64 ((i : Int) + 1) = ((i + 1 : Nat) : Int) by rw [wrap_in (by omega) (by omega)]; rfl]
    rw [rd_get (show i < a.length by omega), rd_get (show i < b.length by omega)]
    by_cases he : a[i] = b[i]
    · simp only [if_pos he]
      refine ih (i + 1) (by omega) ?_
      rw [List.take_succ_eq_append_getElem (by omega), List.take_succ_eq_append_getElem (by omega), ht, he]
    · simp only [if_neg he]
      refine ev_now (Eq.symm (decide_eq_false (fun hab => he ?_)))
      subst hab; rfl

-- part: sameInts
theorem sameInts_ev (a b : List Int) (hb : a.length ≤ 140737488351232) : Ev (fun k => laws_sameInts.f k a b) (decide (a = b)) := by
  simp only [laws_sameInts.f]
  by_cases hl : a.length = b.length
  · simp only [if_pos (show (a.length : Int) = (b.length : Int) by omega)]
    exact eqIntS_l0 laws_sameInts.l0 (fun _ _ _ _ => rfl) a b hl hb a.length 0 (by omega) (by simp)
  · simp only [if_neg (show ¬ ((a.length : Int) = (b.length : Int)) by omega)]
    exact ev_now (Eq.symm (decide_eq_false (fun hab => hl (by rw [hab]))))

-- part: l1In
theorem l1In_eq (n lo hi : Int) : spec_l1In.f n lo hi = some (decide (lo ≤ n ∧ n ≤ hi)) := by
  unfold spec_l1In.f
  by_cases h : n ≥ lo
  · rw [if_pos h]; simp [show lo ≤ n from h]
  · rw [if_neg h]; simp [show ¬ lo ≤ n from h]

-- part: allB
def allB (f : Nat → Bool) : Nat → Nat → Bool
  | 0, _ => true
  | d + 1, i => f i && allB f d (i + 1)
theorem allB_iff (f : Nat → Bool) : ∀ d i, allB f d i = true ↔ ∀ m, i ≤ m → m < i + d → f m = true
  | 0, i => by simp [allB]; omega
  | d + 1, i => by
    rw [allB, Bool.and_eq_true, allB_iff f d (i + 1)]
    constructor
    · rintro ⟨h1, h2⟩ m hm hm2
      by_cases h : m = i
      · subst h; exact h1
      · exact h2 m (by omega) (by omega)
    · intro h
      exact ⟨h i (by omega) (by omega), fun m h1 h2 => h m (by omega) (by omega)⟩

-- part: BagValid
/-- What both of them ask at a place. -/
def bagAt (l : List Int) (i : Nat) : Bool := decide (0 ≤ rd l (i : Int) ∧ rd l (i : Int) ≤ 9 ∧ (0 < i → rd l (i : Int) ≤ rd l ((i - 1 : Nat) : Int)))
def bagOk (l : List Int) : Bool := allB (bagAt l) l.length 0 && decide (l.length ≤ 16)
theorem impl_BagValid_l0 (l : List Int) (hb : l.length ≤ 140737488351232) : ∀ (d i : Nat), i + d = l.length → Ev (fun k => impl_BagValid.l0 k l l (l.length : Int) (i : Int)) (allB (bagAt l) d i && decide (l.length ≤ 16)) := by
  intro d
  induction d with
  | zero =>
    intro i h
    refine ev_s ?_
    simp only [impl_BagValid.l0, if_neg (show ¬ ((i : Int) < (l.length : Int)) by omega), allB, Bool.true_and]
    exact ev_now (decide_eq_decide.mpr (by omega))
  | succ d ih =>
    intro i h
    refine ev_s ?_
    simp only [impl_BagValid.l0, if_pos (show (i : Int) < (l.length : Int) by omega), if_pos (show (0 : Int) ≤ (i : Int) by omega), show wrap64 ((i : Int) + 1) = ((i + 1 : Nat) : Int) by rw [wrap_in (by omega) (by omega)]; rfl, allB]
    by_cases h1 : rd l (i : Int) < 0
    · have hf : bagAt l i = false := decide_eq_false (fun hh => by omega)
      simp only [if_pos h1, hf, Bool.false_and]; exact Ev.now _
    · by_cases h9 : rd l (i : Int) > 9
      · have hf : bagAt l i = false := decide_eq_false (fun hh => by omega)
        simp only [if_neg h1, if_pos h9, hf, Bool.false_and]; exact Ev.now _
      · simp only [if_neg h1, if_neg h9]
        by_cases h0 : (i : Int) > 0
        · have e : wrap64 ((i : Int) - 1) = ((i - 1 : Nat) : Int) := by rw [wrap_in (by omega) (by omega)]; omega
          simp only [if_pos h0, e, if_pos (show (0 : Int) ≤ ((i - 1 : Nat) : Int) by omega), if_pos (show ((i - 1 : Nat) : Int) < (l.length : Int) by omega)]
          by_cases h2 : rd l (i : Int) > rd l ((i - 1 : Nat) : Int)
          · have hf : bagAt l i = false := decide_eq_false (fun hh => by have := hh.2.2 (by omega); omega)
            simp only [if_pos h2, hf, Bool.false_and]; exact Ev.now _
          · have ht : bagAt l i = true := decide_eq_true ⟨by omega, by omega, fun _ => by omega⟩
            simp only [if_neg h2, ht, Bool.true_and]; exact ih (i + 1) (by omega)
        · have ht : bagAt l i = true := decide_eq_true ⟨by omega, by omega, fun _ => by omega⟩
          simp only [if_neg h0, ht, Bool.true_and]; exact ih (i + 1) (by omega)
theorem impl_BagValid_ev (l : List Int) (hb : l.length ≤ 140737488351232) : Ev (fun k => impl_BagValid.f k l) (bagOk l) := impl_BagValid_l0 l hb l.length 0 (by omega)
theorem rd_drop (l : List Int) (a i : Nat) : rd (l.drop a) (i : Int) = rd l ((a + i : Nat) : Int) := by simp only [rd, Int.toNat_natCast, List.getD_eq_getElem?_getD, List.getElem?_drop]
theorem bagOk_drop {l : List Int} (h : bagOk l = true) (a : Nat) : bagOk (l.drop a) = true := by
  simp only [bagOk, Bool.and_eq_true, allB_iff, decide_eq_true_eq, bagAt, rd_drop] at h ⊢
  refine ⟨fun m _ hm => ?_, by simp; omega⟩
  rw [List.length_drop] at hm
  obtain ⟨h1, h2, h3⟩ := h.1 (a + m) (by omega) (by omega)
  refine ⟨h1, h2, fun h0 => ?_⟩
  have := h3 (by omega)
  rw [show a + m - 1 = a + (m - 1) by omega] at this
  exact this

-- part: l6Many
theorem l6Many_l0 (l : List Int) (n : Int) (hb : l.length ≤ 140737488351232) : ∀ (d i c : Nat), i + d = l.length → c ≤ i → Ev (fun k => spec_l6Many.l0 k l n (c : Int) (i : Int)) ((c + (l.drop i).count n : Nat) : Int) := by
  intro d
  induction d with
  | zero =>
    intro i c h _
    refine ev_s ?_
    simp only [spec_l6Many.l0, if_neg (show ¬ ((i : Int) < (l.length : Int)) by omega)]
    rw [List.drop_of_length_le (by omega)]
    exact Ev.now _
  | succ d ih =>
    intro i c h hc
    refine ev_s ?_
    simp only [spec_l6Many.l0, if_pos (show (i : Int) < (l.length : Int) by omega), if_pos (show (0 : Int) ≤ (i : Int) by omega), show wrap64 ((i : Int) + 1) = ((i + 1 : Nat) : Int) by rw [wrap_in (by omega) (by omega)]; rfl, show wrap64 ((c : Int) + 1) = ((c + 1 : Nat) : Int) by rw [wrap_in (by omega) (by omega)]; rfl]
    rw [rd_get (show i < l.length by omega), List.drop_eq_getElem_cons (show i < l.length by omega)]
    by_cases he : l[i] = n
    · simp only [if_pos he]
      rw [he, List.count_cons_self, show c + ((l.drop (i + 1)).count n + 1) = (c + 1) + (l.drop (i + 1)).count n by omega]
      exact ih (i + 1) (c + 1) (by omega) (by omega)
    · simp only [if_neg he]
      rw [List.count_cons_of_ne (fun e => he e)]
      exact ih (i + 1) c (by omega) (by omega)
theorem l6Many_ev (l : List Int) (n : Int) (hb : l.length ≤ 140737488351232) : Ev (fun k => spec_l6Many.f k l n) ((l.count n : Nat) : Int) :=
  ev_eq (l6Many_l0 l n hb l.length 0 0 (by omega) (by omega)) (by simp)

-- part: bagCn
/-! ### how often a number is in a multiset -/
def cn (l : List Int) (n : Int) : Int := ((l.countP (fun x => x == n) : Nat) : Int)
theorem cn_nonneg (l : List Int) (n : Int) : 0 ≤ cn l n := by unfold cn; omega
theorem cn_le (l : List Int) (n : Int) : cn l n ≤ l.length := by
  have := List.countP_le_length (p := fun x => x == n) (l := l)
  unfold cn; omega
theorem l6Many_cn (l : List Int) (n : Int) (hb : l.length ≤ 140737488351232) : Ev (fun k => spec_l6Many.f k l n) (cn l n) := l6Many_ev l n hb
theorem bagOk_all {l : List Int} (h : bagOk l = true) : (∀ x ∈ l, 0 ≤ x ∧ x < 10) ∧ l.length ≤ 16 := by
  simp only [bagOk, Bool.and_eq_true, allB_iff, decide_eq_true_eq, bagAt] at h
  refine ⟨fun x hx => ?_, h.2⟩
  obtain ⟨i, hi, rfl⟩ := List.mem_iff_getElem.1 hx
  have := h.1 i (by omega) (by omega)
  rw [rd_get hi] at this
  omega

-- part: bagExt
theorem cn_cons (x : Int) (l : List Int) (n : Int) : cn (x :: l) n = cn l n + if x = n then 1 else 0 := by
  unfold cn; rw [List.countP_cons]
  by_cases h : x = n <;> simp [h]
theorem cn_pos {l : List Int} {n : Int} (h : 0 < cn l n) : n ∈ l := by
  unfold cn at h
  have : 0 < l.countP (fun x => x == n) := by omega
  obtain ⟨x, hx, he⟩ := List.countP_pos_iff.1 this
  have : x = n := by simpa using he
  exact this ▸ hx
theorem bagOk_head {x : Int} {l : List Int} (h : bagOk (x :: l) = true) : ∀ y ∈ l, y ≤ x := by
  have hd := h
  simp only [bagOk, Bool.and_eq_true, allB_iff, decide_eq_true_eq, bagAt] at h
  have key : ∀ i, i < (x :: l).length → rd (x :: l) (i : Int) ≤ x := by
    intro i
    induction i with
    | zero => intro _; simp [rd]
    | succ i ih =>
      intro hi
      have h3 := (h.1 (i + 1) (by omega) (by omega)).2.2 (by omega)
      have := ih (by omega)
      rw [Nat.add_sub_cancel] at h3
      omega
  intro y hy
  obtain ⟨i, hi, rfl⟩ := List.mem_iff_getElem.1 hy
  have := key (i + 1) (by simp; omega)
  rw [rd_get (by simp; omega)] at this
  simpa using this
theorem bag_ext : ∀ (a b : List Int), bagOk a = true → bagOk b = true → (∀ n : Int, cn a n = cn b n) → a = b
  | [], [], _, _, _ => rfl
  | [], y :: b, _, _, h => by
    have h1 := h y
    rw [cn_cons, if_pos rfl] at h1
    have h2 := cn_nonneg b y
    have h3 : cn [] y = 0 := rfl
    omega
  | x :: a, [], _, _, h => by
    have h1 := h x
    rw [cn_cons, if_pos rfl] at h1
    have h2 := cn_nonneg a x
    have h3 : cn [] x = 0 := rfl
    omega
  | x :: a, y :: b, ha, hb, h => by
    have hxy : x = y := by
      have hx := h x
      have hy := h y
      rw [cn_cons, if_pos rfl] at hx
      rw [cn_cons y b y, if_pos rfl] at hy
      have p1 := cn_nonneg a x
      have p2 := cn_nonneg b y
      have m1 : x ∈ y :: b := cn_pos (by omega)
      have m2 : y ∈ x :: a := cn_pos (by omega)
      have l1 : x ≤ y := by
        rcases List.mem_cons.1 m1 with e | e
        · omega
        · exact bagOk_head hb x e
      have l2 : y ≤ x := by
        rcases List.mem_cons.1 m2 with e | e
        · omega
        · exact bagOk_head ha y e
      omega
    subst hxy
    have ha' : bagOk a = true := bagOk_drop ha 1
    have hb' : bagOk b = true := bagOk_drop hb 1
    rw [bag_ext a b ha' hb' (fun n => by have := h n; rw [cn_cons, cn_cons] at this; omega)]
theorem cn_out {l : List Int} (h : bagOk l = true) {n : Int} (hn : ¬ (0 ≤ n ∧ n < 10)) : cn l n = 0 := by
  have h0 := cn_nonneg l n
  by_cases hp : 0 < cn l n
  · exact absurd ((bagOk_all h).1 n (cn_pos hp)) hn
  · omega

-- part: specBagOf
/-- The numbers below n, the greater ones first. -/
def bagFrom (l : List Int) : Nat → List Int
  | 0 => []
  | n + 1 => List.replicate (l.count (n : Int)) (n : Int) ++ bagFrom l n
def inAll (l : List Int) : Bool := l.all (fun x => decide (0 ≤ x ∧ x ≤ 9))
def bagOf (l : List Int) : List Int := if inAll l = true ∧ l.length ≤ 16 then bagFrom l 10 else []
theorem spec_BagOf_l2 (l : List Int) (n : Int) (r : List Int) : ∀ (m : Nat) (out : List Int), out.length + m ≤ 1000 → Ev (fun k => spec_BagOf.l1 k l (out ++ List.replicate m n) (wrap64 (n - 1))) r → Ev (fun k => spec_BagOf.l2 k l out n (m : Int)) r
  | 0, out, _, hc => by
    refine ev_s ?_
    simp only [spec_BagOf.l2, if_neg (show ¬ (((0 : Nat) : Int) > 0) by omega)]
    simpa using hc
  | m + 1, out, hm, hc => by
    refine ev_s ?_
    simp only [spec_BagOf.l2, if_pos (show ((m + 1 : Nat) : Int) > 0 by omega), if_pos (show out.length < 17592186044416 by omega), show wrap64 (((m + 1 : Nat) : Int) - 1) = (m : Int) by rw [wrap_in (by omega) (by omega)]; omega]
    refine spec_BagOf_l2 l n r m (out ++ [n]) (by simp; omega) ?_
    simpa [List.append_assoc, List.replicate_succ] using hc
theorem spec_BagOf_l1 (l : List Int) (hl : l.length ≤ 16) : ∀ (n : Nat) (out : List Int), n ≤ 10 → out.length + 16 * n ≤ 900 → Ev (fun k => spec_BagOf.l1 k l out ((n : Int) - 1)) (out ++ bagFrom l n)
  | 0, out, _, _ => by
    refine ev_s ?_
    simp only [spec_BagOf.l1, if_neg (show ¬ (((0 : Nat) : Int) - 1 ≥ 0) by omega)]
    refine ev_s ?_
    simp only [spec_BagOf.j2, Bool.false_eq_true, if_false]
    exact ev_now (by simp [bagFrom])
  | n + 1, out, hn, ho => by
    have hc : l.count (n : Int) ≤ l.length := List.count_le_length
    refine ev_s ?_
    simp only [show ((n + 1 : Nat) : Int) - 1 = (n : Int) by omega, spec_BagOf.l1, if_pos (show (n : Int) ≥ 0 by omega), show decide ((l.length : Int) ≤ 16) = true from decide_eq_true (by omega)]
    refine ev_s ?_
    simp only [spec_BagOf.j2, if_true]
    refine Ev.bind (l6Many_ev l (n : Int) (by omega)) ?_
    refine spec_BagOf_l2 l (n : Int) _ _ out (by omega) ?_
    rw [show wrap64 ((n : Int) - 1) = (n : Int) - 1 from wrap_in (by omega) (by omega)]
    have := spec_BagOf_l1 l hl n (out ++ List.replicate (l.count (n : Int)) (n : Int)) (by omega) (by simp; omega)
    rw [List.append_assoc] at this
    exact this
theorem spec_BagOf_l0 (l : List Int) (hb : l.length ≤ 140737488351232) : ∀ (d i : Nat), i + d = l.length → Ev (fun k => spec_BagOf.l0 k l [] (i : Int)) (if (l.drop i).all (fun x => decide (0 ≤ x ∧ x ≤ 9)) = true ∧ l.length ≤ 16 then bagFrom l 10 else []) := by
  intro d
  induction d with
  | zero =>
    intro i h
    refine ev_s ?_
    simp only [spec_BagOf.l0, if_neg (show ¬ ((i : Int) < (l.length : Int)) by omega)]
    rw [List.drop_of_length_le (by omega)]
    by_cases h16 : l.length ≤ 16
    · rw [if_pos ⟨rfl, h16⟩]
      exact spec_BagOf_l1 l h16 10 [] (by omega) (by simp)
    · rw [if_neg (fun hh => h16 hh.2)]
      refine ev_s ?_
      simp only [spec_BagOf.l1, if_pos (show (9 : Int) ≥ 0 by decide), show decide ((l.length : Int) ≤ 16) = false from decide_eq_false (by omega)]
      refine ev_s ?_
      simp only [spec_BagOf.j2, Bool.false_eq_true, if_false]
      exact Ev.now _
  | succ d ih =>
    intro i h
    refine ev_s ?_
    simp only [spec_BagOf.l0, l1In_eq, Option.bind_some, if_pos (show (i : Int) < (l.length : Int) by omega), if_pos (show (0 : Int) ≤ (i : Int) by omega), show wrap64 ((i : Int) + 1) = ((i + 1 : Nat) : Int) by rw [wrap_in (by omega) (by omega)]; rfl]
    rw [rd_get (show i < l.length by omega), List.drop_eq_getElem_cons (show i < l.length by omega), List.all_cons]
    by_cases hc : 0 ≤ l[i] ∧ l[i] ≤ 9
    · simp only [decide_eq_true hc, Bool.true_and, if_true]
      exact ih (i + 1) (by omega)
    · simp only [decide_eq_false hc, Bool.false_and, Bool.false_eq_true, if_false, false_and]
      exact Ev.now _
theorem spec_BagOf_ev (l : List Int) (hb : l.length ≤ 140737488351232) : Ev (fun k => spec_BagOf.f k l) (bagOf l) := spec_BagOf_l0 l hb l.length 0 (by omega)
theorem bagFrom_length (l : List Int) (hl : l.length ≤ 16) : ∀ n, (bagFrom l n).length ≤ 16 * n
  | 0 => by simp [bagFrom]
  | n + 1 => by have := bagFrom_length l hl n; have : l.count (n : Int) ≤ l.length := List.count_le_length; simp only [bagFrom, List.length_append, List.length_replicate]; omega
theorem bagOf_length (l : List Int) : (bagOf l).length ≤ 160 := by
  unfold bagOf; split
  · rename_i h; have := bagFrom_length l h.2 10; omega
  · simp

-- part: bagRev
/-! ### the other way round -/
theorem rev_done (l x : List Int) (i : Nat) (hx : x.length = l.length) (hi : l.length ≤ 2 * i + 1) (hp : ∀ p : Nat, p < l.length → x[p]? = if p < i ∨ l.length ≤ p + i then l[l.length - 1 - p]? else l[p]?) : x = l.reverse := by
  refine List.ext_getElem? fun p => ?_
  by_cases h : p < l.length
  · rw [hp p h, List.getElem?_reverse h]
    split
    · rfl
    · rename_i hn
      have : l.length - 1 - p = p := by omega
      rw [this]
  · rw [List.getElem?_eq_none (by omega), List.getElem?_eq_none (by simp; omega)]
theorem rev_l0 (l : List Int) (hb : l.length ≤ 140737488351232) : ∀ (d i : Nat) (x : List Int), x.length = l.length → l.length ≤ 2 * i + d → 2 * i ≤ l.length + 1 → (∀ p : Nat, p < l.length → x[p]? = if p < i ∨ l.length ≤ p + i then l[l.length - 1 - p]? else l[p]?) → Ev (fun k => slices_Reverse_int_int.l0 k x (i : Int) ((l.length : Int) - 1 - (i : Int))) l.reverse := by
  intro d
  induction d with
  | zero =>
    intro i x hx hd hi hp
    refine ev_s ?_
    simp only [slices_Reverse_int_int.l0, if_neg (show ¬ ((i : Int) < (l.length : Int) - 1 - (i : Int)) by omega)]
    exact ev_now (rev_done l x i hx (by omega) hp)
  | succ d ih =>
    intro i x hx hd hi hp
    refine ev_s ?_
    by_cases hc : (i : Int) < (l.length : Int) - 1 - (i : Int)
    · have e1 : (l.length : Int) - 1 - (i : Int) = ((l.length - 1 - i : Nat) : Int) := by omega
      have e2 : wrap64 (((l.length - 1 - i : Nat) : Int) - 1) = (l.length : Int) - 1 - ((i + 1 : Nat) : Int) := by rw [wrap_in (by omega) (by omega)]; omega
      have e3 : wrap64 ((i : Int) + 1) = ((i + 1 : Nat) : Int) := wrap_nat2 i 1 (by omega)
      rw [e1] at hc ⊢
      simp only [slices_Reverse_int_int.l0, if_pos hc, if_pos (show (0 : Int) ≤ ((l.length - 1 - i : Nat) : Int) by omega), if_pos (show ((l.length - 1 - i : Nat) : Int) < (x.length : Int) by omega), if_pos (show (0 : Int) ≤ (i : Int) by omega), if_pos (show (i : Int) < (x.length : Int) by omega), e2, e3, Int.toNat_natCast]
      clear e2 e3
      have hri : x[i]? = some (rd x (i : Int)) := by rw [rd_get (by omega), List.getElem?_eq_getElem (by omega)]
      have hrj : x[l.length - 1 - i]? = some (rd x ((l.length - 1 - i : Nat) : Int)) := by rw [rd_get (by omega), List.getElem?_eq_getElem (by omega)]
      have pi := hp i (by omega)
      have pj := hp (l.length - 1 - i) (by omega)
      rw [if_neg (by omega)] at pi pj
      refine ih (i + 1) _ (by simp [hx]) (by omega) (by omega) fun p hpl => ?_
      rw [List.getElem?_set, List.getElem?_set]
      simp only [List.length_set]
      by_cases h1 : l.length - 1 - i = p
      · rw [if_pos h1, if_pos (by omega), if_pos (by omega), ← hri, pi]
        congr 1; omega
      · rw [if_neg h1]
        by_cases h2 : i = p
        · rw [if_pos h2, if_pos (by omega), if_pos (by omega), ← hrj, pj]
          congr 1; omega
        · rw [if_neg h2, hp p hpl]
          by_cases h3 : p < i ∨ l.length ≤ p + i
          · rw [if_pos h3, if_pos (by omega)]
          · rw [if_neg h3, if_neg (by omega)]
    · simp only [slices_Reverse_int_int.l0, if_neg hc]
      exact ev_now (rev_done l x i hx (by omega) hp)
theorem rev_ev (l : List Int) (hb : l.length ≤ 140737488351232) : Ev (fun k => slices_Reverse_int_int.f k l) l.reverse := by
  simp only [slices_Reverse_int_int.f, show wrap64 ((l.length : Int) - 1) = (l.length : Int) - 1 - ((0 : Nat) : Int) by rw [wrap_in (by omega) (by omega)]; omega]
  refine rev_l0 l hb l.length 0 l rfl (by omega) (by omega) fun p hp => ?_
  rw [if_neg (by omega)]

-- part: bagSort
/-! ### multisets out of lists -/
def Desc (l : List Int) : Prop := l.Pairwise (fun a b => b ≤ a)
theorem bagOk_of {l : List Int} (h1 : ∀ x ∈ l, 0 ≤ x ∧ x < 10) (h2 : l.length ≤ 16) (h3 : Desc l) : bagOk l = true := by
  simp only [bagOk, Bool.and_eq_true, allB_iff, decide_eq_true_eq, bagAt]
  refine ⟨fun m _ hm => ?_, h2⟩
  have hm' : m < l.length := by omega
  have h4 := h1 l[m] (List.getElem_mem hm')
  rw [rd_get hm']
  refine ⟨h4.1, by omega, fun h0 => ?_⟩
  rw [rd_get (show m - 1 < l.length by omega)]
  exact List.pairwise_iff_getElem.1 h3 (m - 1) m (by omega) hm' (by omega)
theorem bagFrom_mem (l : List Int) : ∀ n : Nat, ∀ x ∈ bagFrom l n, 0 ≤ x ∧ x < (n : Int)
  | 0, x, h => by simp [bagFrom] at h
  | n + 1, x, h => by
    rw [bagFrom, List.mem_append] at h
    rcases h with h | h
    · have := (List.mem_replicate.1 h).2; omega
    · have := bagFrom_mem l n x h; omega
theorem bagFrom_desc (l : List Int) : ∀ n : Nat, Desc (bagFrom l n)
  | 0 => List.Pairwise.nil
  | n + 1 => by
    rw [Desc, bagFrom, List.pairwise_append]
    refine ⟨List.pairwise_replicate.2 (.inr (Int.le_refl _)), bagFrom_desc l n, fun a ha b hb => ?_⟩
    have h1 := (List.mem_replicate.1 ha).2
    have h2 := bagFrom_mem l n b hb
    omega
theorem bagFrom_count (l : List Int) (x : Int) : ∀ n : Nat, (bagFrom l n).count x = if 0 ≤ x ∧ x < (n : Int) then l.count x else 0
  | 0 => by rw [if_neg (by omega)]; rfl
  | n + 1 => by
    rw [bagFrom, List.count_append, bagFrom_count l x n, List.count_replicate]
    by_cases h : x = (n : Int)
    · rw [if_pos (by simp [h]), if_neg (by omega), if_pos (by omega), h]; rfl
    · rw [if_neg (by simp; omega)]
      by_cases h2 : 0 ≤ x ∧ x < (n : Int)
      · rw [if_pos h2, if_pos (by omega), Nat.zero_add]
      · rw [if_neg h2, if_neg (by omega)]
theorem inAll_iff (l : List Int) : inAll l = true ↔ ∀ x ∈ l, 0 ≤ x ∧ x < 10 := by
  simp only [inAll, List.all_eq_true, decide_eq_true_eq]
  exact ⟨fun h x hx => by have := h x hx; omega, fun h x hx => by have := h x hx; omega⟩
theorem bagFrom_perm {l : List Int} (h : inAll l = true) : (bagFrom l 10).Perm l := by
  rw [List.perm_iff_count]
  intro x
  rw [bagFrom_count]
  split
  · rfl
  · rename_i hn
    refine Eq.symm (List.count_eq_zero.2 fun hx => hn ?_)
    have := (inAll_iff l).1 h x hx
    omega
theorem bagOf_ok (l : List Int) : bagOk (bagOf l) = true := by
  unfold bagOf
  split
  · rename_i h
    have hp := bagFrom_perm h.1
    exact bagOk_of (fun x hx => bagFrom_mem l 10 x hx) (by rw [hp.length_eq]; exact h.2) (bagFrom_desc l 10)
  · decide
theorem bagOf_self {l : List Int} (h : bagOk l = true) : bagOf l = l := by
  have ha := bagOk_all h
  have hi : inAll l = true := (inAll_iff l).2 ha.1
  have hok := bagOf_ok l
  have e : bagOf l = bagFrom l 10 := by unfold bagOf; rw [if_pos ⟨hi, ha.2⟩]
  refine bag_ext _ _ hok h fun n => ?_
  have := (bagFrom_perm hi).count_eq n
  rw [e]
  exact congrArg (fun m : Nat => (m : Int)) this
theorem inAll_perm {a b : List Int} (h : a.Perm b) : inAll a = inAll b := by
  rw [Bool.eq_iff_iff, inAll_iff, inAll_iff]
  exact ⟨fun g x hx => g x (h.mem_iff.2 hx), fun g x hx => g x (h.mem_iff.1 hx)⟩
theorem bagFrom_same {a b : List Int} (h : a.Perm b) : ∀ n, bagFrom a n = bagFrom b n
  | 0 => rfl
  | n + 1 => by rw [bagFrom, bagFrom, bagFrom_same h n, h.count_eq]
theorem bagOf_perm {a b : List Int} (h : a.Perm b) : bagOf a = bagOf b := by
  unfold bagOf
  rw [inAll_perm h, h.length_eq, bagFrom_same h]
def srt (l : List Int) : List Int := (l.mergeSort fun x y => decide (x ≤ y)).reverse
theorem srt_perm (l : List Int) : (srt l).Perm l := (List.reverse_perm _).trans (List.mergeSort_perm l _)
theorem srt_desc (l : List Int) : Desc (srt l) := by
  have h := List.pairwise_mergeSort (le := fun x y : Int => decide (x ≤ y)) (by simp; omega) (by simp; omega) l
  rw [Desc, srt, List.pairwise_reverse]
  exact h.imp (fun g => by simpa using g)
theorem srt_bag (l : List Int) : (if bagOk (srt l) = true then srt l else []) = bagOf l := by
  by_cases h : bagOk (srt l) = true
  · rw [if_pos h, ← bagOf_perm (srt_perm l), bagOf_self h]
  · rw [if_neg h]
    unfold bagOf
    rw [if_neg]
    rintro ⟨h1, h2⟩
    refine h (bagOk_of (fun x hx => ?_) (by rw [(srt_perm l).length_eq]; exact h2) (srt_desc l))
    exact (inAll_iff l).1 h1 x ((srt_perm l).mem_iff.1 hx)
theorem impl_BagOf_ev (l : List Int) (hl : l.length ≤ 17592186044415) : Ev (fun k => impl_BagOf.f k l) (bagOf l) := by
  have hlen : (l.mergeSort fun x y => decide (x ≤ y)).length = l.length := List.length_mergeSort l
  have hlen2 := (srt_perm l).length_eq
  simp only [impl_BagOf.f, slices_Clone_int_int.f, slices_Sort_int_int.f, if_pos (show l.length < 17592186044416 by omega), if_pos (show l.length < 4611686018427387904 by omega), Option.bind_some]
  refine Ev.bind (rev_ev _ (by omega)) ?_
  refine Ev.bind (impl_BagValid_ev (srt l) (by omega)) ?_
  rw [← srt_bag l]
  cases h : bagOk (srt l) with
  | true => simp only [if_true]; exact Ev.now _
  | false => simp only [Bool.false_eq_true, if_false]; exact Ev.now _

-- part: draw
/-! ### the reader of a code -/
def Bytes (b : List Int) : Prop := b.length ≤ 2000 ∧ ∀ x ∈ b, 0 ≤ x ∧ x ≤ 255
theorem u8_of_wf {x : Int} (h : (Lit.int .u8 x).wf = true) : 0 ≤ x ∧ x ≤ 255 := by
  simp [Lit.wf, IntKind.min, IntKind.max, IntKind.bits, IntKind.signed] at h
  omega
theorem open_ev (l : List Int) (h : ∀ x ∈ l, (Lit.int .u8 x).wf = true) : ∃ b, Bytes b ∧ spec_l20Open.f l = some (b, ((0 : Nat) : Int)) := by
  have h' : ∀ x ∈ l, 0 ≤ x ∧ x ≤ 255 := fun x hx => u8_of_wf (h x hx)
  unfold spec_l20Open.f
  by_cases hl : (l.length : Int) > 2000
  · rw [if_pos hl, if_pos (by omega)]
    exact ⟨l.take 2000, ⟨by simp; omega, fun x hx => h' x (List.mem_of_mem_take hx)⟩, rfl⟩
  · rw [if_neg hl]
    exact ⟨l, ⟨by omega, h'⟩, rfl⟩
theorem rd_byte {b : List Int} (hb : Bytes b) {i : Int} (h0 : 0 ≤ i) (h1 : i < (b.length : Int)) : 0 ≤ rd b i ∧ rd b i ≤ 255 := by
  obtain ⟨n, rfl⟩ := Int.eq_ofNat_of_zero_le h0
  rw [rd_get (show n < b.length by omega)]
  exact hb.2 _ (List.getElem_mem _)
theorem wraps_i64 (n : Int) (h0 : 0 ≤ n) (h1 : n < 2 ^ 62) : IntKind.i64.wrap n = n := by rw [IntKind.wrap_i64]; omega
theorem xor_pos (a b : Nat) (ha : a < 2 ^ 62) (hb : b < 2 ^ 62) : Go.bits .xor .i64 (a : Int) (b : Int) = ((a ^^^ b : Nat) : Int) := by
  have ha' : a % 2 ^ IntKind.i64.bits = a := Nat.mod_eq_of_lt (Nat.lt_of_lt_of_le ha (by decide))
  have hb' : b % 2 ^ IntKind.i64.bits = b := Nat.mod_eq_of_lt (Nat.lt_of_lt_of_le hb (by decide))
  simp only [bits, BitVec.ofInt_natCast, BitVec.toNat_xor, BitVec.toNat_ofNat, ha', hb']
  exact wraps_i64 _ (Int.natCast_nonneg _) (by exact_mod_cast Nat.xor_lt_two_pow ha hb)
theorem pick_sum (r1 r2 p t : Int) (h1 : 0 ≤ r1 ∧ r1 ≤ 255) (h2 : 0 ≤ r2 ∧ r2 ≤ 255) (hp : 0 ≤ p ∧ p ≤ 1000000000000) (ht : 0 ≤ t ∧ t ≤ 1000000000000) :
    wrap64 ((wrap64 ((wrap64 ((wrap64 ((wrap64 r1) * 131)) + (wrap64 ((wrap64 r2) * 1117)))) + (wrap64 (p * 29)))) + (wrap64 ((wrap64 t) * 53))) = r1 * 131 + r2 * 1117 + p * 29 + t * 53 := by
  rw [wrap_in (x := r1) (by omega) (by omega), wrap_in (x := r2) (by omega) (by omega), wrap_in (x := t) (by omega) (by omega), wrap_in (x := r1 * 131) (by omega) (by omega), wrap_in (x := r2 * 1117) (by omega) (by omega), wrap_in (x := p * 29) (by omega) (by omega), wrap_in (x := t * 53) (by omega) (by omega), wrap_in (x := r1 * 131 + r2 * 1117) (by omega) (by omega), wrap_in (x := r1 * 131 + r2 * 1117 + p * 29) (by omega) (by omega), wrap_in (by omega) (by omega)]
theorem pick_mod (x n : Int) (hx : 0 ≤ x) (hn : 0 < n) : 0 ≤ Int.tmod x n ∧ Int.tmod x n < n := by
  rw [Int.tmod_eq_emod_of_nonneg hx]
  exact ⟨Int.emod_nonneg _ (by omega), Int.emod_lt_of_pos _ hn⟩
theorem pick_ev (b : List Int) (hb : Bytes b) (p : Nat) (hp : p ≤ 100000000000) (n : Int) : ∃ v : Int, 0 ≤ v ∧ (v < n ∨ v = 0) ∧ Ev (fun k => spec_l20Rd_pick.f k b (p : Int) n) (v, ((p + 1 : Nat) : Int)) := by
  have e1 : wrap64 ((p : Int) + 1) = ((p + 1 : Nat) : Int) := by rw [wrap_in (by omega) (by omega)]; rfl
  have e2 : wrap64 (((p + 1 : Nat) : Int) - 1) = (p : Int) := by rw [wrap_in (by omega) (by omega)]; omega
  by_cases hn : n < 1
  · refine ⟨0, Int.le_refl _, .inr rfl, ?_⟩
    simp only [spec_l20Rd_pick.f, if_pos hn, e1]
    refine ev_s ?_
    simp only [spec_l20Rd_pick.j0, if_true]
    exact Ev.now _
  · by_cases hl : b.length = 0
    · refine ⟨0, Int.le_refl _, .inr rfl, ?_⟩
      simp only [spec_l20Rd_pick.f, if_neg hn, e1, hl]
      refine ev_s ?_
      simp only [spec_l20Rd_pick.j0]
      exact Ev.now _
    · by_cases hlt : (p : Int) < (b.length : Int)
      · have hby := rd_byte hb (show (0 : Int) ≤ (p : Int) by omega) hlt
        have hm := pick_mod (rd b p) n hby.1 (by omega)
        refine ⟨Int.tmod (rd b p) n, hm.1, .inl hm.2, ?_⟩
        simp only [spec_l20Rd_pick.f, if_neg hn, e1, show ((b.length : Int) == 0) = false by simp; exact fun h => hl (by rw [h]; rfl)]
        refine ev_s ?_
        simp only [spec_l20Rd_pick.j0, Bool.false_eq_true, if_false, e2, if_pos hlt, if_pos (show (0 : Int) ≤ (p : Int) by omega), if_neg (show ¬ n = 0 by omega), wrap_in (x := rd b p) (by omega) (by omega)]
        exact Ev.now _
      · have hl0 : ¬ ((b.length : Int) = 0) := by omega
        have m1 := pick_mod (p : Int) (b.length : Int) (by omega) (by omega)
        have m2 := pick_mod ((p : Int) * 7 + 3) (b.length : Int) (by omega) (by omega)
        have b1 := rd_byte hb m1.1 m1.2
        have b2 := rd_byte hb m2.1 m2.2
        have d1 : 0 ≤ Int.tdiv (p : Int) (b.length : Int) := Int.tdiv_nonneg (by omega) (by omega)
        have d2 : Int.tdiv (p : Int) (b.length : Int) ≤ (p : Int) := Int.tdiv_le_self _ (by omega)
        have hs := pick_sum _ _ (p : Int) (Int.tdiv (p : Int) (b.length : Int)) b1 b2 (by omega) (by omega)
        obtain ⟨X, hX⟩ : ∃ X : Int, X = rd b (Int.tmod (p : Int) (b.length : Int)) * 131 + rd b (Int.tmod ((p : Int) * 7 + 3) (b.length : Int)) * 1117 + (p : Int) * 29 + Int.tdiv (p : Int) (b.length : Int) * 53 := ⟨_, rfl⟩
        rw [← hX] at hs
        have x0 : 0 ≤ X ∧ X < 20000000000000 := by omega
        have t0 : 0 ≤ Int.tdiv X 64 := Int.tdiv_nonneg (by omega) (by omega)
        have t1 : Int.tdiv X 64 ≤ X := Int.tdiv_le_self _ (by omega)
        have hbit : 0 ≤ Go.bits .xor .i64 X (Int.tdiv X 64) := by
          obtain ⟨u, hu⟩ := Int.eq_ofNat_of_zero_le x0.1
          obtain ⟨v, hv⟩ := Int.eq_ofNat_of_zero_le t0
          rw [hv, hu]
          rw [xor_pos u v (by omega) (by omega)]
          omega
        have hm := pick_mod _ n hbit (by omega)
        refine ⟨_, hm.1, .inl hm.2, ?_⟩
        simp only [spec_l20Rd_pick.f, if_neg hn, e1, show ((b.length : Int) == 0) = false by simp; exact fun h => hl (by rw [h]; rfl)]
        refine ev_s ?_
        simp only [spec_l20Rd_pick.j0, Bool.false_eq_true, if_false, e2, if_neg hlt, if_neg hl0, wrap_in (x := (p : Int) * 7) (by omega) (by omega), wrap_in (x := (p : Int) * 7 + 3) (by omega) (by omega), if_pos m1.1, if_pos m1.2, if_pos m2.1, if_pos m2.2, if_neg (show ¬ n = 0 by omega), hs, wrap_in (x := Int.tdiv X 64) (by omega) (by omega)]
        exact Ev.now _

-- part: alive
theorem alive_ev : Ev (fun k => laws_alive.f k) true := Ev.of laws_alive.mono (k := 20) (by decide +kernel)

-- part: law_FnBagOf
theorem FnBagOf_l0 (l : List Int) (hl : l.length ≤ 1000) : ∀ (i : Nat) (back : List Int), i ≤ l.length → back = (l.drop i).reverse → Ev (fun k => laws_FnBagOf.l0 k l (bagOf l) back ((i : Int) - 1)) true := by
  have hlen := bagOf_length l
  intro i
  induction i with
  | zero =>
    intro back _ hbk
    rw [List.drop_zero] at hbk
    refine ev_s ?_
    simp only [laws_FnBagOf.l0, if_neg (show ¬ ((((0 : Nat) : Int) - 1) ≥ 0) by decide)]
    refine Ev.bind (ev_eq (impl_BagValid_ev (bagOf l) (by omega)) (bagOf_ok l)) ?_
    simp only [if_true]
    have hp : bagOf back = bagOf l := by rw [hbk]; exact bagOf_perm (List.reverse_perm l)
    refine Ev.bind (ev_eq (impl_BagOf_ev back (by rw [hbk, List.length_reverse]; omega)) hp) ?_
    refine Ev.bind (sameInts_ev _ _ (by omega)) ?_
    simp only [decide_true, if_true]
    refine Ev.bind (ev_eq (impl_BagOf_ev (bagOf l) (by omega)) (bagOf_self (bagOf_ok l))) ?_
    refine Ev.bind (sameInts_ev _ _ (by omega)) ?_
    simp only [decide_true, if_true]
    refine Ev.bind alive_ev ?_
    exact Ev.now _
  | succ i ih =>
    intro back hi hbk
    have e : (((i + 1 : Nat) : Int) - 1) = (i : Int) := by omega
    have hbl : back.length ≤ 1000 := by rw [hbk, List.length_reverse, List.length_drop]; omega
    refine ev_s ?_
    simp only [e, laws_FnBagOf.l0, if_pos (show (i : Int) ≥ 0 by omega), if_pos (show (0 : Int) ≤ (i : Int) by omega), if_pos (show (i : Int) < (l.length : Int) by omega), if_pos (show back.length < 17592186044416 by omega), rd_get (show i < l.length by omega), show wrap64 ((i : Int) - 1) = (i : Int) - 1 from wrap_in (by omega) (by omega)]
    refine ih _ (by omega) ?_
    rw [List.drop_eq_getElem_cons (show i < l.length by omega), List.reverse_cons, hbk]
theorem DrawBagOf_l0 (b : List Int) (hb : Bytes b) : ∀ (d p : Nat) (x : List Int), p + 2 * d ≤ 1000000 → x.length + d ≤ 1000 → ∃ out : List Int, out.length ≤ 1000 ∧ Ev (fun k => spec_DrawBagOf.l0 k x (d : Int) b (p : Int)) out := by
  intro d
  induction d with
  | zero =>
    intro p x _ hx
    refine ⟨x, by omega, ev_s ?_⟩
    simp only [spec_DrawBagOf.l0, if_neg (show ¬ (((0 : Nat) : Int) > 0) by omega)]
    exact Ev.now _
  | succ d ih =>
    intro p x hp hx
    obtain ⟨v1, _, _, he1⟩ := pick_ev b hb p (by omega) 10
    obtain ⟨v2, _, _, he2⟩ := pick_ev b hb (p + 1) (by omega) 90
    obtain ⟨out, ho, hE⟩ := ih (p + 1 + 1) (x ++ [wrap64 (v1 + (wrap64 (Int.tdiv v2 89)))]) (by omega) (by simp; omega)
    refine ⟨out, ho, ev_s ?_⟩
    simp only [spec_DrawBagOf.l0, if_pos (show ((d + 1 : Nat) : Int) > 0 by omega), show wrap64 (((d + 1 : Nat) : Int) - 1) = (d : Int) by rw [wrap_in (by omega) (by omega)]; omega]
    refine Ev.bind he1 ?_
    refine Ev.bind he2 ?_
    simp only [if_pos (show x.length < 17592186044416 by omega)]
    exact hE
theorem FnBagOf : laws_FnBagOf.Pure := by
  intro l0 _ _ hw
  refine Ev.rounds ?_
  simp only [laws_FnBagOf.f]
  by_cases hb : (l0.length : Int) > 1048576
  · simp only [if_pos hb]; exact Ev.now _
  · simp only [if_neg hb]
    obtain ⟨bs, hby, ho⟩ := open_ev l0 hw
    obtain ⟨v1, h10, h11, he1⟩ := pick_ev bs hby 0 (by omega) 10
    obtain ⟨v2, h20, h21, he2⟩ := pick_ev bs hby (0 + 1) (by omega) 20
    have hd2 : 0 ≤ Int.tdiv v2 19 ∧ Int.tdiv v2 19 ≤ 1 := by rw [Int.tdiv_eq_ediv_of_nonneg h20]; omega
    have hw1 : wrap64 ((wrap64 (Int.tdiv v2 19)) * 12) = Int.tdiv v2 19 * 12 := by rw [wrap_in (x := Int.tdiv v2 19) (by omega) (by omega), wrap_in (by omega) (by omega)]
    obtain ⟨m, hm⟩ := Int.eq_ofNat_of_zero_le (show 0 ≤ v1 + Int.tdiv v2 19 * 12 by omega)
    have hm2 : m ≤ 30 := by omega
    obtain ⟨l, hl, hE⟩ := DrawBagOf_l0 bs hby m (0 + 1 + 1) [] (by omega) (by simp; omega)
    have hd : Ev (fun k => spec_DrawBagOf.f k l0) l := by
      simp only [spec_DrawBagOf.f, ho, Option.bind_some]
      refine Ev.bind he1 ?_
      refine Ev.bind he2 ?_
      simp only [hw1, hm, show wrap64 ((m : Nat) : Int) = (m : Int) from wrap_in (by clear hw1; omega) (by clear hw1; omega)]
      exact hE
    clear hw1
    have hlen := bagOf_length l
    refine Ev.bind hd ?_
    refine Ev.bind (impl_BagOf_ev l (by omega)) ?_
    refine Ev.bind (spec_BagOf_ev l (by omega)) ?_
    refine Ev.bind (sameInts_ev _ _ (by omega)) ?_
    simp only [decide_true, if_true, show wrap64 ((l.length : Int) - 1) = (l.length : Int) - 1 from wrap_in (by omega) (by omega)]
    exact FnBagOf_l0 l hl l.length [] (Nat.le_refl _) (by simp)

end Go.Proofs.Ytmgpdneehdnjlaa.Pure

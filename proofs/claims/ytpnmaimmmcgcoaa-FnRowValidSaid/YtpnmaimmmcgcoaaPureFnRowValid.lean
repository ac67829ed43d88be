/- The law FnRowValid returns true for every input that the statement lets in; no condition of our own. -/
import Derived.Test.YtpnmaimmmcgcoaaPFnRowValidx2
import Derived.Test.YtpnmaimmmcgcoaaWSized
namespace Go.Proofs.Ytpnmaimmmcgcoaa
open Go.ChangeShapes Go.WideShapes in
/-- The printed row names this word of the seat's without its first part. -/
theorem PrintWords.sized_ints {H : Type} {enc : TypeId × Value → H} {P : Program} {W : World} {base : Nat} {spare : Nat → Bool} {held : Bool} {t e : TypeId} {k : IntKind} {a : Option Addr} {len cap : Nat} {d : DataW H} {ps : List MemPlace} {ts : List TypeId} {ds : List (DataW H)} {j : Nat}
    (hsz : (DataW.weightsEach P ts ds).all (· ≤ reachBytes) = true) (ht : ts[j]? = some t) (hd : ds[j]? = some d) (hu : P.underlying t = some (.slice e)) (he : P.underlying e = some (.int k)) (hc : P.cellsOf e = 1) {B : Nat} (hB : P.bytesOf e = B)
    (h : DataW.Trod enc P W base spare held t (.slice a len cap) d ps) : len * B ≤ 140737488351232 :=
  Go.Proofs.YtpnmaimmmcgcoaaW.PrintWords.sized_ints hsz ht hd hu he hc hB h
end Go.Proofs.Ytpnmaimmmcgcoaa
namespace Go.Proofs.Ytpnmaimmmcgcoaa.Pure
open Go.RowKit Go.Proofs.Ytpnmaimmmcgcoaa.PFnRowValid Go.Proofs.YtpnmaimmmcgcoaaW.PrintWords Go.Proofs.YtpnmaimmmcgcoaaW.PrintLast
set_option linter.unusedVariables false
set_option linter.unusedSimpArgs false

-- part: base
/-! ### words of mine -/
theorem ev_s {α : Type} {g : Nat → Option α} {r : α} (h : Ev (fun k => g (k + 1)) r) : Ev g r := Ev.step (fun _ => rfl) h
theorem ev_eq {α : Type} {g : Nat → Option α} {r q : α} (h : Ev g r) (e : r = q) : Ev g q := e ▸ h
theorem ev_now {α : Type} {r q : α} (e : r = q) : Ev (fun _ => some r) q := e ▸ Ev.now r
theorem wrap_in {x : Int} (h0 : -9223372036854775808 ≤ x) (h1 : x ≤ 9223372036854775807) : wrap64 x = x := by unfold wrap64; omega
theorem rd_eq (xs : List Int) (i : Nat) : rd xs (i : Int) = xs.getD i 0 := by simp [rd]
theorem rd_get {xs : List Int} {i : Nat} (h : i < xs.length) : rd xs (i : Int) = xs[i] := by simp [rd, h]

-- part: l1In
theorem l1In_eq (n lo hi : Int) : spec_l1In.f n lo hi = some (decide (lo ≤ n ∧ n ≤ hi)) := by
  unfold spec_l1In.f
  by_cases h : n ≥ lo
  · rw [if_pos h]; simp [show lo ≤ n from h]
  · rw [if_neg h]; simp [show ¬ lo ≤ n from h]

-- part: RowValid
/-- What both of them say. -/
def rowOk (l : List Int) : Bool := l.all (fun x => decide (0 ≤ x ∧ x ≤ 9999)) && decide (1 ≤ l.length ∧ l.length ≤ 5)
theorem rowOk_drop {l : List Int} {i : Nat} (h : i < l.length) : (l.drop i).all (fun x => decide (0 ≤ x ∧ x ≤ 9999)) = (decide (0 ≤ l[i] ∧ l[i] ≤ 9999) && (l.drop (i + 1)).all (fun x => decide (0 ≤ x ∧ x ≤ 9999))) := by
  rw [List.drop_eq_getElem_cons h]; rfl
theorem spec_RowValid_l0 (l : List Int) (hb : l.length ≤ 140737488351232) : ∀ (d i : Nat), i + d = l.length → Ev (fun k => spec_RowValid.l0 k l i) ((l.drop i).all (fun x => decide (0 ≤ x ∧ x ≤ 9999)) && decide (1 ≤ l.length ∧ l.length ≤ 5)) := by
  intro d
  induction d with
  | zero =>
    intro i h
    refine ev_s ?_
    simp only [spec_RowValid.l0, l1In_eq, Option.bind_some]
    simp only [if_neg (show ¬ ((i : Int) < (l.length : Int)) by omega)]
    rw [List.drop_of_length_le (by omega)]
    refine ev_now ?_
    simp only [List.all_nil, Bool.true_and]
    exact decide_eq_decide.mpr (by omega)
  | succ d ih =>
    intro i h
    refine ev_s ?_
    simp only [spec_RowValid.l0, l1In_eq, Option.bind_some]
    simp only [if_pos (show (i : Int) < (l.length : Int) by omega), if_pos (show (0 : Int) ≤ (i : Int) by omega), show wrap64 ((i : Int) + 1) = ((i + 1 : Nat) : Int) by rw [wrap_in (by omega) (by omega)]; rfl]
    rw [rd_get (show i < l.length by omega), rowOk_drop (by omega)]
    by_cases hc : 0 ≤ l[i] ∧ l[i] ≤ 9999
    · simp only [decide_eq_true hc, Bool.true_and, if_true]
      exact ih (i + 1) (by omega)
    · simp only [decide_eq_false hc, Bool.false_and, Bool.false_eq_true, if_false]
      exact Ev.now _
theorem spec_RowValid_ev (l : List Int) (hb : l.length ≤ 140737488351232) : Ev (fun k => spec_RowValid.f k l) (rowOk l) := spec_RowValid_l0 l hb l.length 0 (by omega)
theorem impl_RowValid_l0 (l : List Int) (hb : l.length ≤ 140737488351232) : ∀ (d i : Nat), i + d = l.length → Ev (fun k => impl_RowValid.l0 k l l (l.length : Int) i) ((l.drop i).all (fun x => decide (0 ≤ x ∧ x ≤ 9999)) && decide (1 ≤ l.length ∧ l.length ≤ 5)) := by
  intro d
  induction d with
  | zero =>
    intro i h
    refine ev_s ?_
    simp only [impl_RowValid.l0]
    simp only [if_neg (show ¬ ((i : Int) < (l.length : Int)) by omega)]
    rw [List.drop_of_length_le (by omega)]
    by_cases hc : (l.length : Int) ≥ 1
    · simp only [if_pos hc]
      refine ev_now ?_
      simp only [List.all_nil, Bool.true_and]
      exact decide_eq_decide.mpr (by omega)
    · simp only [if_neg hc]
      refine ev_now ?_
      simp only [List.all_nil, Bool.true_and]
      exact (decide_eq_false (by omega)).symm
  | succ d ih =>
    intro i h
    refine ev_s ?_
    simp only [impl_RowValid.l0]
    simp only [if_pos (show (i : Int) < (l.length : Int) by omega), if_pos (show (0 : Int) ≤ (i : Int) by omega), show wrap64 ((i : Int) + 1) = ((i + 1 : Nat) : Int) by rw [wrap_in (by omega) (by omega)]; rfl]
    rw [rd_get (show i < l.length by omega), rowOk_drop (by omega)]
    by_cases h1 : l[i] < 0
    · simp only [if_pos h1, decide_eq_false (show ¬ (0 ≤ l[i] ∧ l[i] ≤ 9999) by omega), Bool.false_and]
      exact Ev.now _
    · by_cases h2 : l[i] > 9999
      · simp only [if_neg h1, if_pos h2, decide_eq_false (show ¬ (0 ≤ l[i] ∧ l[i] ≤ 9999) by omega), Bool.false_and]
        exact Ev.now _
      · simp only [if_neg h1, if_neg h2, decide_eq_true (show (0 ≤ l[i] ∧ l[i] ≤ 9999) by omega), Bool.true_and]
        exact ih (i + 1) (by omega)
theorem impl_RowValid_ev (l : List Int) (hb : l.length ≤ 140737488351232) : Ev (fun k => impl_RowValid.f k l) (rowOk l) := impl_RowValid_l0 l hb l.length 0 (by omega)

-- part: draw
/-! ### the reader of a code -/
def Bytes (b : List Int) : Prop := b.length ≤ 2000 ∧ ∀ x ∈ b, 0 ≤ x ∧ x ≤ 255
theorem u8_of_wf {x : Int} (h : (Lit.int .u8 x).wf = true) : 0 ≤ x ∧ x ≤ 255 := by
  simp [Lit.wf, IntKind.min, IntKind.max, IntKind.bits, IntKind.signed] at h
  omega
theorem open_ev (l : List Int) (h : ∀ x ∈ l, (Lit.int .u8 x).wf = true) : ∃ b, Bytes b ∧ spec_l20Open.f l = some (b, ((0 : Nat) : Int)) := by
  have h' : ∀ x ∈ l, 0 ≤ x ∧ x ≤ 255 := fun x hx => u8_of_wf (h x hx)
  unfold spec_l20Open.f
  by_cases hl : (l.length : Int) > 2000
  · rw [if_pos hl, if_pos (by omega)]
    exact ⟨l.take 2000, ⟨by simp; omega, fun x hx => h' x (List.mem_of_mem_take hx)⟩, rfl⟩
  · rw [if_neg hl]
    exact ⟨l, ⟨by omega, h'⟩, rfl⟩
theorem rd_byte {b : List Int} (hb : Bytes b) {i : Int} (h0 : 0 ≤ i) (h1 : i < (b.length : Int)) : 0 ≤ rd b i ∧ rd b i ≤ 255 := by
  obtain ⟨n, rfl⟩ := Int.eq_ofNat_of_zero_le h0
  rw [rd_get (show n < b.length by omega)]
  exact hb.2 _ (List.getElem_mem _)
theorem wraps_i64 (n : Int) (h0 : 0 ≤ n) (h1 : n < 2 ^ 62) : IntKind.i64.wrap n = n := by rw [IntKind.wrap_i64]; omega
theorem xor_pos (a b : Nat) (ha : a < 2 ^ 62) (hb : b < 2 ^ 62) : Go.bits .xor .i64 (a : Int) (b : Int) = ((a ^^^ b : Nat) : Int) := by
  have ha' : a % 2 ^ IntKind.i64.bits = a := Nat.mod_eq_of_lt (Nat.lt_of_lt_of_le ha (by decide))
  have hb' : b % 2 ^ IntKind.i64.bits = b := Nat.mod_eq_of_lt (Nat.lt_of_lt_of_le hb (by decide))
  simp only [bits, BitVec.ofInt_natCast, BitVec.toNat_xor, BitVec.toNat_ofNat, ha', hb']
  exact wraps_i64 _ (Int.natCast_nonneg _) (by exact_mod_cast Nat.xor_lt_two_pow ha hb)
theorem pick_sum (r1 r2 p t : Int) (h1 : 0 ≤ r1 ∧ r1 ≤ 255) (h2 : 0 ≤ r2 ∧ r2 ≤ 255) (hp : 0 ≤ p ∧ p ≤ 1000000000000) (ht : 0 ≤ t ∧ t ≤ 1000000000000) :
    wrap64 ((wrap64 ((wrap64 ((wrap64 ((wrap64 r1) * 131)) + (wrap64 ((wrap64 r2) * 1117)))) + (wrap64 (p * 29)))) + (wrap64 ((wrap64 t) * 53))) = r1 * 131 + r2 * 1117 + p * 29 + t * 53 := by
  rw [wrap_in (x := r1) (by omega) (by omega), wrap_in (x := r2) (by omega) (by omega), wrap_in (x := t) (by omega) (by omega), wrap_in (x := r1 * 131) (by omega) (by omega), wrap_in (x := r2 * 1117) (by omega) (by omega), wrap_in (x := p * 29) (by omega) (by omega), wrap_in (x := t * 53) (by omega) (by omega), wrap_in (x := r1 * 131 + r2 * 1117) (by omega) (by omega), wrap_in (x := r1 * 131 + r2 * 1117 + p * 29) (by omega) (by omega), wrap_in (by omega) (by omega)]
theorem pick_mod (x n : Int) (hx : 0 ≤ x) (hn : 0 < n) : 0 ≤ Int.tmod x n ∧ Int.tmod x n < n := by
  rw [Int.tmod_eq_emod_of_nonneg hx]
  exact ⟨Int.emod_nonneg _ (by omega), Int.emod_lt_of_pos _ hn⟩
theorem pick_ev (b : List Int) (hb : Bytes b) (p : Nat) (hp : p ≤ 100000000000) (n : Int) : ∃ v : Int, 0 ≤ v ∧ (v < n ∨ v = 0) ∧ Ev (fun k => spec_l20Rd_pick.f k b (p : Int) n) (v, ((p + 1 : Nat) : Int)) := by
  have e1 : wrap64 ((p : Int) + 1) = ((p + 1 : Nat) : Int) := by rw [wrap_in (by omega) (by omega)]; rfl
  have e2 : wrap64 (((p + 1 : Nat) : Int) - 1) = (p : Int) := by rw [wrap_in (by omega) (by omega)]; omega
  by_cases hn : n < 1
  · refine ⟨0, Int.le_refl _, .inr rfl, ?_⟩
    simp only [spec_l20Rd_pick.f, if_pos hn, e1]
    refine ev_s ?_
    simp only [spec_l20Rd_pick.j0, if_true]
    exact Ev.now _
  · by_cases hl : b.length = 0
    · refine ⟨0, Int.le_refl _, .inr rfl, ?_⟩
      simp only [spec_l20Rd_pick.f, if_neg hn, e1, hl]
      refine ev_s ?_
      simp only [spec_l20Rd_pick.j0]
      exact Ev.now _
    · by_cases hlt : (p : Int) < (b.length : Int)
      · have hby := rd_byte hb (show (0 : Int) ≤ (p : Int) by omega) hlt
        have hm := pick_mod (rd b p) n hby.1 (by omega)
        refine ⟨Int.tmod (rd b p) n, hm.1, .inl hm.2, ?_⟩
        simp only [spec_l20Rd_pick.f, if_neg hn, e1, show ((b.length : Int) == 0) = false by simp; exact fun h => hl (by rw [h]; rfl)]
        refine ev_s ?_
        simp only [spec_l20Rd_pick.j0, Bool.false_eq_true, if_false, e2, if_pos hlt, if_pos (show (0 : Int) ≤ (p : Int) by omega), if_neg (show ¬ n = 0 by omega), wrap_in (x := rd b p) (by omega) (by omega)]
        exact Ev.now _
      · have hl0 : ¬ ((b.length : Int) = 0) := by omega
        have m1 := pick_mod (p : Int) (b.length : Int) (by omega) (by omega)
        have m2 := pick_mod ((p : Int) * 7 + 3) (b.length : Int) (by omega) (by omega)
        have b1 := rd_byte hb m1.1 m1.2
        have b2 := rd_byte hb m2.1 m2.2
        have d1 : 0 ≤ Int.tdiv (p : Int) (b.length : Int) := Int.tdiv_nonneg (by omega) (by omega)
        have d2 : Int.tdiv (p : Int) (b.length : Int) ≤ (p : Int) := Int.tdiv_le_self _ (by omega)
        have hs := pick_sum _ _ (p : Int) (Int.tdiv (p : Int) (b.length : Int)) b1 b2 (by omega) (by omega)
        obtain ⟨X, hX⟩ : ∃ X : Int, X = rd b (Int.tmod (p : Int) (b.length : Int)) * 131 + rd b (Int.tmod ((p : Int) * 7 + 3) (b.length : Int)) * 1117 + (p : Int) * 29 + Int.tdiv (p : Int) (b.length : Int) * 53 := ⟨_, rfl⟩
        rw [← hX] at hs
        have x0 : 0 ≤ X ∧ X < 20000000000000 := by omega
        have t0 : 0 ≤ Int.tdiv X 64 := Int.tdiv_nonneg (by omega) (by omega)
        have t1 : Int.tdiv X 64 ≤ X := Int.tdiv_le_self _ (by omega)
        have hbit : 0 ≤ Go.bits .xor .i64 X (Int.tdiv X 64) := by
          obtain ⟨u, hu⟩ := Int.eq_ofNat_of_zero_le x0.1
          obtain ⟨v, hv⟩ := Int.eq_ofNat_of_zero_le t0
          rw [hv, hu]
          rw [xor_pos u v (by omega) (by omega)]
          omega
        have hm := pick_mod _ n hbit (by omega)
        refine ⟨_, hm.1, .inl hm.2, ?_⟩
        simp only [spec_l20Rd_pick.f, if_neg hn, e1, show ((b.length : Int) == 0) = false by simp; exact fun h => hl (by rw [h]; rfl)]
        refine ev_s ?_
        simp only [spec_l20Rd_pick.j0, Bool.false_eq_true, if_false, e2, if_neg hlt, if_neg hl0, wrap_in (x := (p : Int) * 7) (by omega) (by omega), wrap_in (x := (p : Int) * 7 + 3) (by omega) (by omega), if_pos m1.1, if_pos m1.2, if_pos m2.1, if_pos m2.2, if_neg (show ¬ n = 0 by omega), hs, wrap_in (x := Int.tdiv X 64) (by omega) (by omega)]
        exact Ev.now _
theorem odd_ev (b : List Int) (hb : Bytes b) (p : Nat) (hp : p ≤ 100000000000) (n : Int) (hn : n ≤ 1000000) : ∃ (v : Bool) (q : Nat), q ≤ p + 1 ∧ Ev (fun k => spec_l20Rd_odd.f k b (p : Int) n) (v, (q : Int)) := by
  by_cases h : n > 0
  · obtain ⟨v, h0, h1, he⟩ := pick_ev b hb p hp n
    refine ⟨(v == wrap64 (n - 1)), p + 1, Nat.le_refl _, ?_⟩
    simp only [spec_l20Rd_odd.f, if_pos h]
    refine Ev.bind he ?_
    exact Ev.now _
  · refine ⟨false, p, by omega, ?_⟩
    simp only [spec_l20Rd_odd.f, if_neg h]
    exact Ev.now _

-- part: l20Row
theorem l20Row_l0 (b : List Int) (hb : Bytes b) (long n : Int) (hlong : 1 ≤ long ∧ long ≤ 20) (hn : n ≤ 1000000) : ∀ (d i p : Nat) (x : List Int), (i : Int) + d = long → x.length = i → p + d ≤ 1000000000 →
    ∃ (out : List Int) (q : Nat), q ≤ p + d + 5 ∧ out.length ≤ 20 ∧ Ev (fun k => spec_l20Row.l0 k long n x (i : Int) b (p : Int)) (out, (q : Int)) := by
  intro d
  induction d with
  | succ d ih =>
    intro i p x h hx hp
    obtain ⟨v, _, _, he⟩ := pick_ev b hb p (by omega) 4
    obtain ⟨out, q, hq, ho, hE⟩ := ih (i + 1) (p + 1) (x ++ [v]) (by omega) (by simp; omega) (by omega)
    refine ⟨out, q, by omega, ho, ?_⟩
    refine ev_s ?_
    simp only [spec_l20Row.l0, if_pos (show (i : Int) < long by omega), show wrap64 ((i : Int) + 1) = ((i + 1 : Nat) : Int) by rw [wrap_in (by omega) (by omega)]; rfl]
    refine Ev.bind he ?_
    simp only [if_pos (show x.length < 17592186044416 by omega)]
    exact hE
  | zero =>
    intro i p x h hx hp
    obtain ⟨o, q, hq, he⟩ := odd_ev b hb p (by omega) n hn
    cases o with
    | false =>
      refine ⟨x, q, by omega, by omega, ?_⟩
      refine ev_s ?_
      simp only [spec_l20Row.l0, if_neg (show ¬ (i : Int) < long by omega)]
      refine Ev.bind he ?_
      simp only [Bool.false_eq_true, if_false]
      exact Ev.now _
    | true =>
      obtain ⟨v, _, _, he1⟩ := pick_ev b hb q (by omega) 3
      have hd : Ev (fun k => spec_l20Row.l0 k long n x (i : Int) b (p : Int)) = Ev (fun k => spec_l20Row.l0 k long n x (i : Int) b (p : Int)) := rfl
      by_cases h0 : v = 0
      · subst h0
        refine ⟨[], q + 1, by omega, by simp, ?_⟩
        refine ev_s ?_
        simp only [spec_l20Row.l0, if_neg (show ¬ (i : Int) < long by omega)]
        refine Ev.bind he ?_
        simp only [if_true]
        refine Ev.bind he1 ?_
        simp only [if_true]
        exact Ev.now _
      · by_cases h1 : v = 1
        · subst h1
          refine ⟨List.replicate 6 0, q + 1, by omega, by simp, ?_⟩
          refine ev_s ?_
          simp only [spec_l20Row.l0, if_neg (show ¬ (i : Int) < long by omega)]
          refine Ev.bind he ?_
          simp only [if_true]
          refine Ev.bind he1 ?_
          simp only [if_neg h0, if_true, if_pos (show 6 ≤ 35184372088832 by decide)]
          exact Ev.now _
        · obtain ⟨u, hu0, hu1, he2⟩ := pick_ev b hb (q + 1) (by omega) 2
          refine ⟨x.set (0 : Int).toNat (rd [(-1), 10000] u), q + 1 + 1, by omega, by simp; omega, ?_⟩
          refine ev_s ?_
          simp only [spec_l20Row.l0, if_neg (show ¬ (i : Int) < long by omega)]
          refine Ev.bind he ?_
          simp only [if_true]
          refine Ev.bind he1 ?_
          simp only [if_neg h0, if_neg h1, Option.bind_some]
          refine Ev.bind he2 ?_
          simp only [if_pos hu0, if_pos (show u < (([(-1), 10000] : List Int).length : Int) by simp; omega), if_pos (show (0 : Int) < (x.length : Int) by omega)]
          exact Ev.now _
theorem l20Row_ev (b : List Int) (hb : Bytes b) (p : Nat) (hp : p ≤ 100000000) (long n : Int) (hlong : 1 ≤ long ∧ long ≤ 20) (hn : n ≤ 1000000) :
    ∃ (out : List Int) (q : Nat), q ≤ p + 30 ∧ out.length ≤ 20 ∧ Ev (fun k => spec_l20Row.f k b (p : Int) long n) (out, (q : Int)) := by
  obtain ⟨out, q, hq, ho, hE⟩ := l20Row_l0 b hb long n hlong hn long.toNat 0 p [] (by omega) rfl (by omega)
  exact ⟨out, q, by omega, ho, hE⟩

-- part: alive
theorem alive_ev : Ev (fun k => laws_alive.f k) true := Ev.of laws_alive.mono (k := 20) (by decide +kernel)

-- part: law_FnRowValid
theorem DrawRowValid_ev (l : List Int) (h : ∀ x ∈ l, (Lit.int .u8 x).wf = true) : ∃ out : List Int, out.length ≤ 20 ∧ Ev (fun k => spec_DrawRowValid.f k l) out := by
  obtain ⟨b, hb, ho⟩ := open_ev l h
  obtain ⟨v, hv0, hv1, he⟩ := pick_ev b hb 0 (by omega) 5
  obtain ⟨out, q, _, hl, hE⟩ := l20Row_ev b hb 1 (by omega) (1 + v) 3 (by omega) (by omega)
  refine ⟨out, hl, ?_⟩
  simp only [spec_DrawRowValid.f, ho, Option.bind_some]
  refine Ev.bind he ?_
  simp only [wrap_in (x := 1 + v) (by omega) (by omega)]
  refine Ev.bind hE ?_
  exact Ev.now _
theorem FnRowValid : laws_FnRowValid.Pure := by
  intro l0 _ _ hw
  refine Ev.rounds ?_
  simp only [laws_FnRowValid.f]
  by_cases hb : (l0.length : Int) > 1048576
  · simp only [if_pos hb]; exact Ev.now _
  · simp only [if_neg hb]
    obtain ⟨out, ho, he⟩ := DrawRowValid_ev l0 hw
    refine Ev.bind he ?_
    refine Ev.bind (impl_RowValid_ev out (by omega)) ?_
    refine Ev.bind (spec_RowValid_ev out (by omega)) ?_
    simp only [bne_self_eq_false, Bool.false_eq_true, if_false]
    have hnil : Ev (fun k => impl_RowValid.f k []) false := ev_eq (impl_RowValid_ev [] (by simp)) (by simp [rowOk])
    have hz : rowOk out = true → rowOk (List.replicate out.length 0) = true := by
      simp only [rowOk, Bool.and_eq_true, decide_eq_true_eq, List.length_replicate]
      intro h
      refine ⟨?_, h.2⟩
      simp
    cases hr : rowOk out with
    | true =>
      simp only [if_true, if_pos (show (0 : Int) ≤ (out.length : Int) by omega), Int.toNat_natCast, if_pos (show out.length ≤ 35184372088832 by omega)]
      refine Ev.bind (ev_eq (impl_RowValid_ev (List.replicate out.length 0) (by simp; omega)) (hz hr)) ?_
      simp only [if_true]
      refine Ev.bind hnil ?_
      simp only [Bool.false_eq_true, if_false]
      refine Ev.bind alive_ev ?_
      exact Ev.now _
    | false =>
      simp only [Bool.false_eq_true, if_false]
      refine Ev.bind hnil ?_
      simp only [Bool.false_eq_true, if_false]
      refine Ev.bind alive_ev ?_
      exact Ev.now _

end Go.Proofs.Ytpnmaimmmcgcoaa.Pure

-- half
-- Written by a program of this session's (wip/mp) out of the translation, over the kit's print with changes.
import Derived.Test.YtmidgjmlgjjobaaIgx0
import Derived.Test.YtmidgjmlgjjobaaIgx5
namespace Go.Proofs.Ytmidgjmlgjjobaa.Ig
open Go.RowKit Go.Proofs.YtmidgjmlgjjobaaW.PrintWords Go.Proofs.YtmidgjmlgjjobaaW.PrintLast Go.Proofs.YtmidgjmlgjjobaaW.PrintMore
attribute [local go_sem] max2_int min2_int max_two min_two max_three min_three max_four min_four   -- for this text's walks alone
set_option linter.unusedVariables false
set_option linter.unusedSimpArgs false

/-! ### impl_number: function 62 -/
def impl_number.f (a0 : Int) : Option ((List (S89))) := if a0 = 0 then (some ([] : List (S89))) else (some (([(⟨a0, ([] : List (S89))⟩ : S89)] : List (S89))))
set_option maxHeartbeats 8000000 in
set_option maxRecDepth 100000 in
theorem impl_number.calls (a0 : Int) (r : List (S89)) (w : World) (h : impl_number.f a0 = some r) :
  Calls Try.prog 62 #[.int .i64 a0] w fun e w' => ∃ v0_ : Value, e = .returned (v0_) ∧ Kd.R k89 89 w' w.heap.size (fun _ => True) v0_ r ∧ Below w.heap.size w w' := by
 have hu89 := Try.underlying89;have HB := am (Below.refl w.heap.size w);have H : (if a0 = 0 then (some ([] : List (S89))) else (some (([(⟨a0, ([] : List (S89))⟩ : S89)] : List (S89))))) = some r := h;clear h;by_cases c2 : a0 = 0
 ·
  rw [if_pos c2] at H;have c2b0 : (a0 == 0) = true := beq_iff_eq.mpr c2;have c2b1 : (a0 != 0) = false := bne_eq_false_iff_eq.mpr c2;clear c2;obtain rfl := Option.some.inj H;go_enter Try.func62, Try.ntmps62;go_wp2;go_ret;exact ⟨_, by first | rfl | (simp [errW_none, errW_some] <;> rfl) | (simp [*, errW_none, errW_some] <;> rfl), by first | exact Kd.R_nil _ _ _ _ _ | exact Kd.N_nil _ _ _ _ _ | exact Kd.V_nil _ _ _ _ _ | exact Kd.Y_nil _ _ _ _ _ | exact Kd.S_nil _ _ _ _ _, bm HB.out⟩
 ·
  rw [if_neg c2] at H;have c2b0 : (a0 == 0) = false := beq_eq_false_iff_ne.mpr c2;have c2b1 : (a0 != 0) = true := bne_iff_ne.mpr c2
  obtain ⟨y283, hy283⟩ : ∃ y_ : List (S89), y_ = (([(⟨a0, ([] : List (S89))⟩ : S89)] : List (S89))) := ⟨_, rfl⟩
  replace H : (some y283) = some r := by first | (rw [hy283]; with_reducible exact H) | (have H2_ := oB H; rw [hy283]; with_reducible exact H2_) | (have H2_ := oB H; with_reducible exact H2_) | with_reducible exact H | (rw [hy283]; exact H) | exact H
  replace hy283 := am hy283;obtain rfl := Option.some.inj H;go_enter Try.func62, Try.ntmps62;go_wp2_with (first | ((with_reducible refine gate_dst (N := 7) rfl ?_); refine Kd.R_lit k89 _ 89 ?hg (N := 7) ?hd (xs := ([(⟨a0, ([] : List (S89))⟩ : S89)] : List (S89))) (inner := [.int .i64 a0, .slice none 0 0]) (ok := fun _ => True) (okp := fun _ => True) ?hr ?hp (fun _ hk => hk) trivial (Below.refl _ _) (Nat.le_refl _) (by simp) ?_; (case hd => rfl); (case hg => rfl); (case hr => first | (go_simp; done) | (go_simp; rfl)); (case hp => exact (Reps.c2 (show Kd.M k89 _ _ _ (⟨a0, ([] : List (S89))⟩ : S89) [.int .i64 a0, .slice none 0 0] from (k89_mkM _ _ _ (⟨a0, ([] : List (S89))⟩ : S89) (Kd.R_nil _ _ _ _ _))) (Reps.none _ _))); intro v284 w3 ho4 hb hg_ hnew_; clear hg_ hnew_; (first | rw [← hy283.out] at ho4 | (simp only [Int.reduceToNat] at ho4; rw [← hy283.out] at ho4)); have HO285 := am (Kd.R_lower ho4 (below_size (bm HB.out)));replace HB := am (below_step (bm HB.out) hb); clear hb ho4));go_ret;exact ⟨_, by first | rfl | (simp [errW_none, errW_some] <;> rfl) | (simp [*, errW_none, errW_some] <;> rfl), Kd.rm HO285.out, bm HB.out⟩

/-! ### impl_OrdOf: function 42 -/
def impl_OrdOf.j0 : Nat → Int → Bool → Option (List Int)
 | 0, _, _ => none
 | k + 1, x0, x8 => if x8 = true then (some ([] : List Int)) else ((impl_number.f x0).bind fun t286 => ((impl_rowOf.f k t286).bind fun t289 => (some t289)))
def impl_OrdOf.f (k : Nat) (a0 : Int) : Option (List Int) := if a0 < 0 then (impl_OrdOf.j0 k a0 true) else (impl_OrdOf.j0 k a0 (decide (a0 > 9999)))
theorem impl_OrdOf.mono_l : ∀ k, (∀ y0 y1, LeO (impl_OrdOf.j0 k y0 y1) (impl_OrdOf.j0 (k + 1) y0 y1))
 | 0 => fun _ _ r h => by simp [impl_OrdOf.j0] at h
 | k + 1 => by
  have ih0 := impl_OrdOf.mono_l k
  ·
   intro y0 y1;unfold impl_OrdOf.j0
   repeat' first | (with_reducible exact ih0 _ _) | (with_reducible exact impl_rowOf.mono _ _) | (with_reducible exact LeO.refl _) | (with_reducible exact LeO.none _) | (with_reducible refine LeO.ite ?_ ?_) | (with_reducible refine LeO.bind ?_ (fun _ => ?_))
theorem impl_OrdOf.mono : ∀ a0 k, LeO (impl_OrdOf.f k a0) (impl_OrdOf.f (k + 1) a0) := by
 intro a0 k;have ih0 := impl_OrdOf.mono_l k;unfold impl_OrdOf.f
 repeat' first | (with_reducible exact ih0 _ _) | (with_reducible exact impl_rowOf.mono _ _) | (with_reducible exact LeO.refl _) | (with_reducible exact LeO.none _) | (with_reducible refine LeO.ite ?_ ?_) | (with_reducible refine LeO.bind ?_ (fun _ => ?_))
set_option maxHeartbeats 8000000 in
set_option maxRecDepth 100000 in
theorem impl_OrdOf.calls (k : Nat) (a0 : Int) (r : List Int) (w : World) (h : impl_OrdOf.f k a0 = some r) :
  Calls Try.prog 42 #[.int .i64 a0] w fun e w' => ∃ v0_ : Value, e = .returned (v0_) ∧ Kd.R (Kd.int .i64) 3 w' w.heap.size (fun _ => True) v0_ r ∧ Below w.heap.size w w' := by
 have HB := am (Below.refl w.heap.size w);have H : (if a0 < 0 then (impl_OrdOf.j0 k a0 true) else (impl_OrdOf.j0 k a0 (decide (a0 > 9999)))) = some r := h;clear h;have HC2 := am H;clear H;go_enter Try.func42, Try.ntmps42
 go_upto_region 1 with (fail)
 go_cut [8] (fun v8 wc => ∃ (kq : Nat) (x8_1 : Bool), v8 = .bool x8_1 ∧ Aside0 (impl_OrdOf.j0 kq a0 x8_1 = some r) ∧ Aside0 (kq ≤ k) ∧ Aside0 (Below w.heap.size w wc))
 case first =>
  have H := HC2.out;clear HC2;by_cases c3 : a0 < 0
  ·
   rw [if_pos c3] at H;have c3b0 : decide (a0 < 0) = true := decide_eq_true c3;clear c3
   (first | rw [c3b0] | (simp only [i64_w, i32_w]; rw [c3b0]) | skip)
   have H' := am H;clear H;go_wp2;go_meet
   case rel => exact ⟨_, (true), (by first | rfl | (simp; done) | (simp [*]; done)), H', ⟨by first | omega | exact Nat.le_refl _⟩, ⟨bm HB.out⟩⟩
  ·
   rw [if_neg c3] at H;have c3b0 : decide (a0 < 0) = false := decide_eq_false c3;clear c3
   (first | rw [c3b0] | (simp only [i64_w, i32_w]; rw [c3b0]) | skip)
   have H' := am H;clear H;go_wp2;go_meet
   case rel => exact ⟨_, (decide (a0 > 9999)), (by first | rfl | (simp; done) | (simp [*]; done)), H', ⟨by first | omega | exact Nat.le_refl _⟩, ⟨bm HB.out⟩⟩
 case rest =>
  clear HC2;(try clear p2);(try clear c3);(try clear c3b0);obtain ⟨kq, x8_1, rfl, HA, HJ1, HB⟩ := hcut
  cases kq with
  | zero => exact absurd HA.out (by simp [impl_OrdOf.j0])
  | succ kj1 =>
   have H := HA.out;clear HA;simp only [impl_OrdOf.j0] at H;by_cases c4 : x8_1 = true
   ·
    subst c4
    have H1 : (some ([] : List Int)) = some r := by rw [if_pos rfl] at H; exact H
    clear H;have H := H1;clear H1;obtain rfl := Option.some.inj H;go_wp2;go_ret;exact ⟨_, by first | rfl | (simp [errW_none, errW_some] <;> rfl) | (simp [*, errW_none, errW_some] <;> rfl), by first | exact Kd.R_nil _ _ _ _ _ | exact Kd.N_nil _ _ _ _ _ | exact Kd.V_nil _ _ _ _ _ | exact Kd.Y_nil _ _ _ _ _ | exact Kd.S_nil _ _ _ _ _, bm HB.out⟩
   ·
    replace c4 := Bool.eq_false_iff.mpr c4;subst c4
    have H1 : ((impl_number.f a0).bind fun t286 => ((impl_rowOf.f kj1 t286).bind fun t289 => (some t289))) = some r := by rw [if_neg (show ¬ (false = true) by decide)] at H; exact H
    clear H;have H := H1;clear H1;replace H := oE H;obtain ⟨t286, A5, H⟩ := H;replace H : ((impl_rowOf.f kj1 t286).bind fun t289 => (some t289)) = some r := H;replace A5 := am A5;replace H := oE H;obtain ⟨t289, A6, H⟩ := H;replace H : (some t289) = some r := H;replace A6 := am A6;obtain rfl := Option.some.inj H;go_wp2_with (first | ((with_reducible refine gate_callee (f := 62) rfl ?_); refine goesL_ (some 10) rfl rfl Try.func62 (by kernel_rfl) rfl #[.int .i64 a0] rfl (by (try simp only [mA, mB, mC]); first | done | rfl) ?_; (with_reducible refine (impl_number.calls a0 t286 _ A5.out).mono ?_); rintro e w7 ⟨v287, rfl, ho0, hb⟩; refine ⟨_, rfl, ?_⟩; have HO288 := am (Kd.R_lower ho0 (below_size (bm HB.out)));replace HB := am (below_step (bm HB.out) hb); (try clear hb); (try clear ho0); obtain ⟨Ao8, co8, eo8⟩ := Kd.R_slice HO288.out; subst eo8) | ((with_reducible refine gate_callee (f := 61) rfl ?_); refine goesL_ (some 11) rfl rfl Try.func61 (by kernel_rfl) rfl #[.slice Ao8 t286.length co8] rfl (by (try simp only [mA, mB, mC]); first | done | rfl) ?_; (with_reducible refine (impl_rowOf.calls kj1 _ _ t286 t289 _ ?side1 ?side2 A6.out).mono ?_); (case side1 => exact Kd.cm ((Kd.R_reads' HO288.out).2.2)); (case side2 => exact (Kd.R_reads' HO288.out).2.1); rintro e w9 ⟨v290, rfl, ho0, hb⟩; refine ⟨_, rfl, ?_⟩; replace HO288 := am (Kd.R_below (Kd.rm HO288.out) hb);have HO291 := am (Kd.R_lower ho0 (below_size (bm HB.out)));replace HB := am (below_step (bm HB.out) hb); (try clear hb); (try clear ho0)));go_ret;exact ⟨_, by first | rfl | (simp [errW_none, errW_some] <;> rfl) | (simp [*, errW_none, errW_some] <;> rfl), Kd.rm HO291.out, bm HB.out⟩

/-! ### laws_alive: function 21 -/
def laws_alive.f (k : Nat)  : Option (Bool) := (impl_OrdOf.f k 0).bind fun t292 => (if (t292.length : Int) = 1 then ((impl_OrdOf.f k 7).bind fun t295 => (some ((t295.length : Int) == 3))) else (some false))
theorem laws_alive.mono : ∀ k, LeO (laws_alive.f k ) (laws_alive.f (k + 1) ) := by
 intro  k;unfold laws_alive.f
 repeat' first | (with_reducible exact impl_OrdOf.mono _ _) | (with_reducible exact LeO.refl _) | (with_reducible exact LeO.none _) | (with_reducible refine LeO.ite ?_ ?_) | (with_reducible refine LeO.bind ?_ (fun _ => ?_))
set_option maxHeartbeats 8000000 in
set_option maxRecDepth 100000 in
theorem laws_alive.calls (k : Nat)  (r : Bool) (w : World) (h : laws_alive.f k  = some r) :
  Calls Try.prog 21 #[] w fun e w' => e = .returned (.bool r) ∧ Below w.heap.size w w' := by
 have HB := am (Below.refl w.heap.size w);have H : ((impl_OrdOf.f k 0).bind fun t292 => (if (t292.length : Int) = 1 then ((impl_OrdOf.f k 7).bind fun t295 => (some ((t295.length : Int) == 3))) else (some false))) = some r := h;clear h;replace H := oE H;obtain ⟨t292, A1, H⟩ := H;replace H : (if (t292.length : Int) = 1 then ((impl_OrdOf.f k 7).bind fun t295 => (some ((t295.length : Int) == 3))) else (some false)) = some r := H;replace A1 := am A1;by_cases c2 : (t292.length : Int) = 1
 ·
  rw [if_pos c2] at H;have c2b0 : ((t292.length : Int) == 1) = true := beq_iff_eq.mpr c2;have c2b1 : ((t292.length : Int) != 1) = false := bne_eq_false_iff_eq.mpr c2;clear c2;replace H := oE H;obtain ⟨t295, A3, H⟩ := H;replace H : (some ((t295.length : Int) == 3)) = some r := H;replace A3 := am A3;obtain rfl := Option.some.inj H;go_enter Try.func21, Try.ntmps21;go_wp2_with (first | ((with_reducible refine gate_callee (f := 42) rfl ?_); refine goesL_ (some 1) rfl rfl Try.func42 (by kernel_rfl) rfl #[.int .i64 0] rfl (by (try simp only [mA, mB, mC]); first | done | rfl) ?_; (with_reducible refine (impl_OrdOf.calls k 0 t292 _ A1.out).mono ?_); rintro e w4 ⟨v293, rfl, ho0, hb⟩; refine ⟨_, rfl, ?_⟩; have HO294 := am (Kd.R_lower ho0 (below_size (bm HB.out)));replace HB := am (below_step (bm HB.out) hb); (try clear hb); (try clear ho0); obtain ⟨Ao5, co5, eo5⟩ := Kd.R_slice HO294.out; subst eo5) | (go_at_call 42; (with_reducible refine (impl_OrdOf.calls k 7 t295 _ A3.out).mono ?_); rintro e w6 ⟨v296, rfl, ho0, hb⟩; have HO297 := am (Kd.R_lower (Kd.R_new' ho0 (Kd.R_lt (Kd.rm HO294.out))) (below_size (bm HB.out)));replace HO294 := am (Kd.R_elder' (Kd.rm HO294.out) (Kd.R_base ho0) hb);replace HB := am (below_step (bm HB.out) hb); (try clear hb); (try clear ho0); obtain ⟨Ao7, co7, eo7⟩ := Kd.R_slice HO297.out; subst eo7));go_ret;exact ⟨by first | rfl | (simp [errW_none, errW_some] <;> rfl) | (simp [*, errW_none, errW_some] <;> rfl), bm HB.out⟩
 ·
  rw [if_neg c2] at H;have c2b0 : ((t292.length : Int) == 1) = false := beq_eq_false_iff_ne.mpr c2;have c2b1 : ((t292.length : Int) != 1) = true := bne_iff_ne.mpr c2;obtain rfl := Option.some.inj H;go_enter Try.func21, Try.ntmps21;go_wp2_with (first | ((with_reducible refine gate_callee (f := 42) rfl ?_); refine goesL_ (some 1) rfl rfl Try.func42 (by kernel_rfl) rfl #[.int .i64 0] rfl (by (try simp only [mA, mB, mC]); first | done | rfl) ?_; (with_reducible refine (impl_OrdOf.calls k 0 t292 _ A1.out).mono ?_); rintro e w8 ⟨v293, rfl, ho0, hb⟩; refine ⟨_, rfl, ?_⟩; have HO294 := am (Kd.R_lower ho0 (below_size (bm HB.out)));replace HB := am (below_step (bm HB.out) hb); (try clear hb); (try clear ho0); obtain ⟨Ao9, co9, eo9⟩ := Kd.R_slice HO294.out; subst eo9));go_ret;exact ⟨by first | rfl | (simp [errW_none, errW_some] <;> rfl) | (simp [*, errW_none, errW_some] <;> rfl), bm HB.out⟩

/-! ### impl_sizeOf: function 63 -/
mutual
def impl_sizeOf.l0 : Nat → Int → List (S89) → Int → Int → Option (Int)
 | 0, _, _, _, _ => none
 | k + 1, x3, x6, x7, x8 => if x8 < x7 then (if 0 ≤ x8 then (if x8 < (x6.length : Int) then ((impl_sizeOf.f k ((rd_T89 x6 x8).f1)).bind fun t300 => (impl_sizeOf.l0 k (wrap64 (x3 + (wrap64 (1 + t300)))) x6 x7 (wrap64 (x8 + 1)))) else (none)) else (none)) else (some x3)
def impl_sizeOf.f : Nat → List (S89) → Option (Int)
 | 0, _ => none
 | k + 1, l0 => impl_sizeOf.l0 k 1 l0 (l0.length : Int) 0
end
theorem impl_sizeOf.mono_l : ∀ k, (∀ y0, LeO (impl_sizeOf.f k y0) (impl_sizeOf.f (k + 1) y0)) ∧ (∀ y0 y1 y2 y3, LeO (impl_sizeOf.l0 k y0 y1 y2 y3) (impl_sizeOf.l0 (k + 1) y0 y1 y2 y3))
 | 0 => ⟨fun _ r h => by simp [impl_sizeOf.f] at h, fun _ _ _ _ r h => by simp [impl_sizeOf.l0] at h⟩
 | k + 1 => by
  obtain ⟨ih0, ih1⟩ := impl_sizeOf.mono_l k;refine ⟨?_, ?_⟩
  all_goals (intros; first | unfold impl_sizeOf.f | unfold impl_sizeOf.l0)
  all_goals repeat' first | (with_reducible exact ih0 _) | (with_reducible exact ih1 _ _ _ _) | (with_reducible exact LeO.refl _) | (with_reducible exact LeO.none _) | (with_reducible refine LeO.ite ?_ ?_) | (with_reducible refine LeO.bind ?_ (fun _ => ?_))
theorem impl_sizeOf.mono : ∀ a0 k, LeO (impl_sizeOf.f k a0) (impl_sizeOf.f (k + 1) a0) := by
 intro a0 k;obtain ⟨ih0, ih1⟩ := impl_sizeOf.mono_l k;exact ih0 a0
set_option maxHeartbeats 8000000 in
set_option maxRecDepth 100000 in
theorem impl_sizeOf.calls (k : Nat) : ∀ (A0 : Option Addr) (c0 : Nat) (l0 : List (S89)) (r : Int) (w : World) (hr0 : Kd.C k89 w A0 l0.length l0) (hc0 : l0.length ≤ c0) (h : impl_sizeOf.f k l0 = some r),
  Calls Try.prog 63 #[.slice A0 l0.length c0] w fun e w' => e = .returned (.int .i64 r) ∧ Below w.heap.size w w' := by
 induction k using Nat.strongRecOn with
 | _ k ih =>
 intro A0 c0 l0 r w hr0 hc0 h
 cases k with
 | zero => exact absurd h (by simp [impl_sizeOf.f])
 | succ k =>
 simp only [impl_sizeOf.f] at h;have hu89 := Try.underlying89;have HR0 := am hr0;have HC0 := am hc0;clear hr0 hc0;have HB := am (Below.refl w.heap.size w);have H : (impl_sizeOf.l0 k 1 l0 (l0.length : Int) 0) = some r := h;clear h;have H' := am H;clear H;go_enter Try.func63, Try.ntmps63;go_wp2
 go_loopg [3, 8] k (fun kq v3 v8 w' => ∃ (x3_1 : Int) (x8_1 : Int), v3 = .int .i64 x3_1 ∧ v8 = .int .i64 x8_1 ∧ Aside0 (impl_sizeOf.l0 kq x3_1 l0 (l0.length : Int) x8_1 = some r) ∧ Aside0 (kq ≤ k) ∧ Aside0 (Below w.heap.size w w'))
 case atStart => exact ⟨(1), (0), (by first | rfl | (simp; done) | (simp [*]; done)), (by first | rfl | (simp; done) | (simp [*]; done)), H', ⟨Nat.le_refl _⟩, ⟨bm HB.out⟩⟩
 case round =>
  clear H';obtain ⟨x3_1, x8_1, rfl, rfl, HA, HK1, HB⟩ := hrel
  cases gk with
  | zero => exact absurd HA.out (by simp [impl_sizeOf.l0])
  | succ k1 =>
   have H := HA.out;clear HA;simp only [impl_sizeOf.l0] at H;by_cases c2 : x8_1 < (l0.length : Int)
   ·
    rw [if_pos c2] at H;have c2b0 : decide (x8_1 < (l0.length : Int)) = true := decide_eq_true c2;clear c2;by_cases c3 : 0 ≤ x8_1
    ·
     rw [if_pos c3] at H;have c3b0 : decide (0 ≤ x8_1) = true := decide_eq_true c3;clear c3;by_cases c4 : x8_1 < (l0.length : Int)
     ·
      rw [if_pos c4] at H;have c4b0 : decide (x8_1 < (l0.length : Int)) = true := decide_eq_true c4;clear c4;replace H := oE H;obtain ⟨t300, A5, H⟩ := H;replace H : (impl_sizeOf.l0 k1 (wrap64 (x3_1 + (wrap64 (1 + t300)))) l0 (l0.length : Int) (wrap64 (x8_1 + 1))) = some r := H;replace A5 := am A5;have H' := am H;clear H;have p298 : 0 ≤ (x8_1 : Int) := of_decide_eq_true (by assumption);have q298 : x8_1 < (l0.length : Int) := of_decide_eq_true (by assumption);obtain ⟨ad298, A298_1, c298_1, e298, hx298_0, hx298_1, hl298_1, hi298_1⟩ := at_T89 HR0.out x8_1 p298 q298;cases e298
      replace hx298_0 := (HB.out.cell (World.block_lt_of_cell? w _ hx298_0)).trans hx298_0;replace hx298_1 := (HB.out.cell (World.block_lt_of_cell? w _ hx298_1)).trans hx298_1;have HR298_1 := am hi298_1;have HC298_1 := am hl298_1;clear hi298_1 hl298_1;replace p298 := eq_true p298;replace q298 := eq_true q298;go_wp2_with (first | ((with_reducible refine gate_dst (N := 5) rfl ?_); refine box_event ?hg (N := 5) ?hd (cs := #[.int .i64 0, .slice none 0 0]) (t := 89) ?hr ?_; (case hd => rfl); (case hg => rfl); (case hr => first | (go_simp; done) | (go_simp; rfl)); intro gb299 hg w6 hbox hb; have BK299 := am (hbox);have GW299 := am ((by rw [hg]; exact (below_size (bm HB.out)) : w.heap.size ≤ gb299));have GE299 := am ((by rw [hg]; exact (below_size (bm HB.out)) : w.heap.size ≤ gb299));replace HB := am (below_step (bm HB.out) hb); clear hb hbox hg; have hcz7_0 : w6.cell? ⟨gb299, 0, none⟩ = some (.int .i64 0) := (blk_cell BK299.out 0).trans rfl; have hcz7_1 : w6.cell? ⟨gb299, 1, none⟩ = some (.slice none 0 0) := (blk_cell BK299.out 1).trans rfl; have hfz7_0 := blk_frozen BK299.out 0; have hfz7_1 := blk_frozen BK299.out 1) | ((with_reducible refine gate_callee (f := 63) rfl ?_); refine goesL_ (some 15) rfl rfl Try.func63 (by kernel_rfl) rfl #[.slice A298_1 ((rd_T89 l0 x8_1).f1).length c298_1] rfl (by (try simp only [mA, mB, mC]); first | done | rfl) ?_; (with_reducible refine (ih k1 (by have := HK1.out; omega) _ _ ((rd_T89 l0 x8_1).f1) t300 _ ?side1 ?side2 A5.out).mono ?_); (case side1 => exact Kd.C_below HR298_1.out (by repeat (first | (with_reducible first | exact HB.out | apply below_alloc | apply pw_below_drewN | apply below_drew1 | refine below_set ?_ GE299.out) | exact HB.out))); (case side2 => exact HC298_1.out); rintro e w8 ⟨rfl, hb⟩; refine ⟨_, rfl, ?_⟩; replace BK299 := am (blk_below (g := gb299) (o := .cells #[.int .i64 ((rd_T89 l0 x8_1).f0), .slice A298_1 ((rd_T89 l0 x8_1).f1).length c298_1] 89 (0, 0)) (by (with_reducible repeat (first | refine blk_drewN ?_ _ | refine blk_drew ?_ | refine blk_alloc ?_ _)); refine blk_put (cs := #[.int .i64 ((rd_T89 l0 x8_1).f0), .slice none 0 0]) ?_ 1 _ rfl; (with_reducible repeat (first | refine blk_drewN ?_ _ | refine blk_drew ?_ | refine blk_alloc ?_ _)); refine blk_put (cs := #[.int .i64 0, .slice none 0 0]) ?_ 0 _ rfl; (with_reducible repeat (first | refine blk_drewN ?_ _ | refine blk_drew ?_ | refine blk_alloc ?_ _)); exact BK299.out) hb);replace HB := am (below_step (by repeat (first | (with_reducible first | exact HB.out | apply below_alloc | apply pw_below_drewN | apply below_drew1 | refine below_set ?_ GE299.out) | exact HB.out)) hb); (try clear hb)))
      go_roundg k1
      case measure => have := HK1.out; omega
      case rel => exact ⟨(wrap64 (x3_1 + (wrap64 (1 + t300)))), (wrap64 (x8_1 + 1)), (by first | rfl | (simp; done) | (simp [*]; done)), (by first | rfl | (simp; done) | (simp [*]; done)), H', ⟨by have := HK1.out; omega⟩, ⟨by repeat (first | (with_reducible first | exact HB.out | apply below_alloc | apply pw_below_drewN | apply below_drew1 | refine below_set ?_ GE299.out) | exact HB.out)⟩⟩
     ·
      rw [if_neg c4] at H;exact absurd H (by simp)
    ·
     rw [if_neg c3] at H;exact absurd H (by simp)
   ·
    rw [if_neg c2] at H;have c2b0 : decide (x8_1 < (l0.length : Int)) = false := decide_eq_false c2;clear c2;obtain rfl := Option.some.inj H;go_wp2;go_ret;exact ⟨by first | rfl | (simp [errW_none, errW_some] <;> rfl) | (simp [*, errW_none, errW_some] <;> rfl), bm HB.out⟩

/-! ### impl_most: function 64 -/
mutual
def impl_most.l0 : Nat → Int → List (S89) → Int → Int → Option (Int)
 | 0, _, _, _, _ => none
 | k + 1, x3, x6, x7, x8 => if x8 < x7 then (if 0 ≤ x8 then (if x8 < (x6.length : Int) then ((impl_most.f k ((rd_T89 x6 x8).f1)).bind fun t303 => (impl_most.l0 k (mx (mx x3 ((rd_T89 x6 x8).f0)) t303) x6 x7 (wrap64 (x8 + 1)))) else (none)) else (none)) else (some x3)
def impl_most.f : Nat → List (S89) → Option (Int)
 | 0, _ => none
 | k + 1, l0 => impl_most.l0 k 0 l0 (l0.length : Int) 0
end
theorem impl_most.mono_l : ∀ k, (∀ y0, LeO (impl_most.f k y0) (impl_most.f (k + 1) y0)) ∧ (∀ y0 y1 y2 y3, LeO (impl_most.l0 k y0 y1 y2 y3) (impl_most.l0 (k + 1) y0 y1 y2 y3))
 | 0 => ⟨fun _ r h => by simp [impl_most.f] at h, fun _ _ _ _ r h => by simp [impl_most.l0] at h⟩
 | k + 1 => by
  obtain ⟨ih0, ih1⟩ := impl_most.mono_l k;refine ⟨?_, ?_⟩
  all_goals (intros; first | unfold impl_most.f | unfold impl_most.l0)
  all_goals repeat' first | (with_reducible exact ih0 _) | (with_reducible exact ih1 _ _ _ _) | (with_reducible exact LeO.refl _) | (with_reducible exact LeO.none _) | (with_reducible refine LeO.ite ?_ ?_) | (with_reducible refine LeO.bind ?_ (fun _ => ?_))
theorem impl_most.mono : ∀ a0 k, LeO (impl_most.f k a0) (impl_most.f (k + 1) a0) := by
 intro a0 k;obtain ⟨ih0, ih1⟩ := impl_most.mono_l k;exact ih0 a0
def impl_most.T5 : Bool × List (List Nat × List Nat) := (true, [([], []), ([], []), ([1], [1]), ([], []), ([3], [3]), ([4], [4]), ([0, 2, 5], [0, 2, 5]), ([6, 5, 0, 1, 2, 3, 4, 5, 6], [0, 6])])
def impl_most.B5 : List Nat := [0, 0, 2, 0, 8, 24, 63, 127]
theorem impl_most.tab5 : rtab .any (opsOf Try.f64 5) = impl_most.T5 := by kernel_rfl
theorem impl_most.bits5 : waitsOk impl_most.T5.2 impl_most.B5 = true := by kernel_rfl
set_option maxHeartbeats 8000000 in
set_option maxRecDepth 100000 in
theorem impl_most.calls (k : Nat) : ∀ (A0 : Option Addr) (c0 : Nat) (l0 : List (S89)) (r : Int) (w : World) (hr0 : Kd.C k89 w A0 l0.length l0) (hc0 : l0.length ≤ c0) (h : impl_most.f k l0 = some r),
  Calls Try.prog 64 #[.slice A0 l0.length c0] w fun e w' => e = .returned (.int .i64 r) ∧ Below w.heap.size w w' := by
 induction k using Nat.strongRecOn with
 | _ k ih =>
 intro A0 c0 l0 r w hr0 hc0 h
 cases k with
 | zero => exact absurd h (by simp [impl_most.f])
 | succ k =>
 simp only [impl_most.f] at h;have hu89 := Try.underlying89;have HR0 := am hr0;have HC0 := am hc0;clear hr0 hc0;have HB := am (Below.refl w.heap.size w);have H : (impl_most.l0 k 0 l0 (l0.length : Int) 0) = some r := h;clear h;have H' := am H;clear H;go_enter Try.func64, Try.ntmps64;go_wp2
 go_loopg [3, 8] k (fun kq v3 v8 w' => ∃ (x3_1 : Int) (x8_1 : Int), v3 = .int .i64 x3_1 ∧ v8 = .int .i64 x8_1 ∧ Aside0 (impl_most.l0 kq x3_1 l0 (l0.length : Int) x8_1 = some r) ∧ Aside0 (kq ≤ k) ∧ Aside0 (Below w.heap.size w w'))
 case atStart => exact ⟨(0), (0), (by first | rfl | (simp; done) | (simp [*]; done)), (by first | rfl | (simp; done) | (simp [*]; done)), H', ⟨Nat.le_refl _⟩, ⟨bm HB.out⟩⟩
 case round =>
  clear H';obtain ⟨x3_1, x8_1, rfl, rfl, HA, HK1, HB⟩ := hrel
  cases gk with
  | zero => exact absurd HA.out (by simp [impl_most.l0])
  | succ k1 =>
   have H := HA.out;clear HA;simp only [impl_most.l0] at H;by_cases c2 : x8_1 < (l0.length : Int)
   ·
    rw [if_pos c2] at H;have c2b0 : decide (x8_1 < (l0.length : Int)) = true := decide_eq_true c2;clear c2;by_cases c3 : 0 ≤ x8_1
    ·
     rw [if_pos c3] at H;have c3b0 : decide (0 ≤ x8_1) = true := decide_eq_true c3;clear c3;by_cases c4 : x8_1 < (l0.length : Int)
     ·
      rw [if_pos c4] at H;have c4b0 : decide (x8_1 < (l0.length : Int)) = true := decide_eq_true c4;clear c4;replace H := oE H;obtain ⟨t303, A5, H⟩ := H;replace H : (impl_most.l0 k1 (mx (mx x3_1 ((rd_T89 l0 x8_1).f0)) t303) l0 (l0.length : Int) (wrap64 (x8_1 + 1))) = some r := H;replace A5 := am A5
      obtain ⟨ji6, hji6⟩ : ∃ j_ : Int, (mx x3_1 ((rd_T89 l0 x8_1).f0)) = j_ := ⟨_, rfl⟩
      replace H : (impl_most.l0 k1 (mx (ji6) t303) l0 (l0.length : Int) (wrap64 (x8_1 + 1))) = some r := by first | (rw [hji6] at H; exact H) | (simp only [hji6] at H ⊢; exact H)
      (try rw [hji6] at A5);have hji6_ : (if x3_1 < ((rd_T89 l0 x8_1).f0) then ((rd_T89 l0 x8_1).f0) else x3_1) = ji6 := hji6
      obtain ⟨ji7, hji7⟩ : ∃ j_ : Int, (mx (ji6) t303) = j_ := ⟨_, rfl⟩
      replace H : (impl_most.l0 k1 ji7 l0 (l0.length : Int) (wrap64 (x8_1 + 1))) = some r := by first | (rw [hji7] at H; exact H) | (simp only [hji7] at H ⊢; exact H)
      (try rw [hji7] at A5);have hji7_ : (if (ji6) < t303 then t303 else (ji6)) = ji7 := hji7;have H' := am H;clear H;have p301 : 0 ≤ (x8_1 : Int) := of_decide_eq_true (by assumption);have q301 : x8_1 < (l0.length : Int) := of_decide_eq_true (by assumption);obtain ⟨ad301, A301_1, c301_1, e301, hx301_0, hx301_1, hl301_1, hi301_1⟩ := at_T89 HR0.out x8_1 p301 q301;cases e301
      replace hx301_0 := (HB.out.cell (World.block_lt_of_cell? w _ hx301_0)).trans hx301_0;replace hx301_1 := (HB.out.cell (World.block_lt_of_cell? w _ hx301_1)).trans hx301_1;have HR301_1 := am hi301_1;have HC301_1 := am hl301_1;clear hi301_1 hl301_1;replace p301 := eq_true p301;replace q301 := eq_true q301;(try go_wp2_with (first | ((with_reducible refine gate_dst (N := 5) rfl ?_); refine box_event ?hg (N := 5) ?hd (cs := #[.int .i64 0, .slice none 0 0]) (t := 89) ?hr ?_; (case hd => rfl); (case hg => rfl); (case hr => first | (go_simp; done) | (go_simp; rfl)); intro gb302 hg w8 hbox hb; have BK302 := am (hbox);have GW302 := am ((by rw [hg]; exact (below_size (bm HB.out)) : w.heap.size ≤ gb302));have GE302 := am ((by rw [hg]; exact (below_size (bm HB.out)) : w.heap.size ≤ gb302));replace HB := am (below_step (bm HB.out) hb); clear hb hbox hg; have hcz9_0 : w8.cell? ⟨gb302, 0, none⟩ = some (.int .i64 0) := (blk_cell BK302.out 0).trans rfl; have hcz9_1 : w8.cell? ⟨gb302, 1, none⟩ = some (.slice none 0 0) := (blk_cell BK302.out 1).trans rfl; have hfz9_0 := blk_frozen BK302.out 0; have hfz9_1 := blk_frozen BK302.out 1)));have n0_ : Aside0 (((w8.setCell ⟨gb302, 0, none⟩ (.int .i64 ((rd_T89 l0 x8_1).f0))).setCell ⟨gb302, 1, none⟩ (.slice A301_1 ((rd_T89 l0 x8_1).f1).length c301_1)).heap[gb302]? = some (.cells #[.int .i64 ((rd_T89 l0 x8_1).f0), .slice A301_1 ((rd_T89 l0 x8_1).f1).length c301_1] 89 (0, 0))) := ⟨by (with_reducible repeat (first | refine blk_drewN ?_ _ | refine blk_drew ?_ | refine blk_alloc ?_ _)); refine blk_put (cs := #[.int .i64 ((rd_T89 l0 x8_1).f0), .slice none 0 0]) ?_ 1 _ rfl; (with_reducible repeat (first | refine blk_drewN ?_ _ | refine blk_drew ?_ | refine blk_alloc ?_ _)); refine blk_put (cs := #[.int .i64 0, .slice none 0 0]) ?_ 0 _ rfl; (with_reducible repeat (first | refine blk_drewN ?_ _ | refine blk_drew ?_ | refine blk_alloc ?_ _)); exact BK302.out⟩;have n1_ : Aside0 (Below w.heap.size w ((w8.setCell ⟨gb302, 0, none⟩ (.int .i64 ((rd_T89 l0 x8_1).f0))).setCell ⟨gb302, 1, none⟩ (.slice A301_1 ((rd_T89 l0 x8_1).f1).length c301_1))) := ⟨by repeat (first | (with_reducible first | exact HB.out | apply below_alloc | apply pw_below_drewN | apply below_drew1 | refine below_set ?_ GE302.out) | exact HB.out)⟩;(try clear BK302);(try clear HB);generalize ((w8.setCell ⟨gb302, 0, none⟩ (.int .i64 ((rd_T89 l0 x8_1).f0))).setCell ⟨gb302, 1, none⟩ (.slice A301_1 ((rd_T89 l0 x8_1).f1).length c301_1)) = w10 at n0_ n1_ ⊢;have BK302 := n0_;have HB := n1_;clear n0_ n1_;replace BK302 := am (blk_drew BK302.out);replace HB := am (below_drew1 HB.out);refine start_ (n := 8) (S := fun w' => w'.cell? ⟨gb302, 0, none⟩ = some (.int .i64 ((rd_T89 l0 x8_1).f0)) ∧ w'.cell? ⟨gb302, 1, none⟩ = some (.slice A301_1 ((rd_T89 l0 x8_1).f1).length c301_1)) (ds := []) #[false, false, false, false, false, false, false, false] (by kernel_rfl) rfl rfl ⟨(blk_cell BK302.out 0).trans rfl, (blk_cell BK302.out 1).trans rfl⟩ (fun hHeld => ?_); refine with_tabW impl_most.tab5 impl_most.bits5 (fun HT_ HW_ => ?_);generalize w10.drew = w11 at BK302 HB hHeld ⊢;refine pure_ (i := 0) (N := some 12) (v := ?_) (a' := ?_) #[true, false, false, false, false, false, false, false] rfl rfl (any_of HT_.out (by kernel_rfl)) (fun _ _ _ h => h) (Or.inl ⟨by rfl, ?_⟩) ?_ ?_;rotate_left
      ·
       intro w';go_simp;with_reducible rfl
      rotate_left
      ·
       simp only [Act.put, sA, sB, sC, i64_w, i32_w];rfl
      refine pure_ (i := 1) (N := some 13) (v := ?_) (a' := ?_) #[true, true, false, false, false, false, false, false] rfl rfl (any_of HT_.out (by kernel_rfl)) (fun _ _ _ h => h) (Or.inl ⟨by rfl, ?_⟩) ?_ ?_;rotate_left
      ·
       intro w';go_simp;with_reducible rfl
      rotate_left
      ·
       simp only [Act.put, sA, sB, sC, i64_w, i32_w];rfl
      refine pure_ (i := 3) (N := some 15) (v := ?_) (a' := ?_) #[true, true, false, true, false, false, false, false] rfl rfl (any_of HT_.out (by kernel_rfl)) (fun _ _ _ h => h) (Or.inl ⟨by rfl, ?_⟩) ?_ ?_;rotate_left
      ·
       intro w';go_simp;with_reducible rfl
      rotate_left
      ·
       simp only [Act.put, sA, sB, sC, i64_w, i32_w];rfl
      refine take_ (i := 2) (N := some 14) (v := ?_) (a' := ?_) #[true, true, true, true, false, false, false, false] rfl rfl (take_ofW HT_.out HW_.out (by kernel_rfl)) (fun _ _ _ h => h) (Or.inl ⟨by rfl, ?_⟩) hHeld ?_ ?_;rotate_left
      ·
       rintro w' ⟨s0, s1⟩
       go_simp;with_reducible rfl
      rotate_left
      ·
       simp only [Act.put, sA, sB, sC, i64_w, i32_w];rfl
      refine take_ (i := 4) (N := some 16) (v := ?_) (a' := ?_) #[true, true, true, true, true, false, false, false] rfl rfl (take_ofW HT_.out HW_.out (by kernel_rfl)) (fun _ _ _ h => h) (Or.inl ⟨by rfl, ?_⟩) hHeld ?_ ?_;rotate_left
      ·
       rintro w' ⟨s0, s1⟩
       go_simp;with_reducible rfl
      rotate_left
      ·
       simp only [Act.put, sA, sB, sC, i64_w, i32_w];rfl
      refine one_ (i := 5) (N := some 17) #[true, true, true, true, true, true, false, false] rfl rfl (one_of HT_.out (by kernel_rfl)) (by decide) (fun K hK => ?_);refine goes_ Try.func64 (by kernel_rfl) rfl #[.slice A301_1 ((rd_T89 l0 x8_1).f1).length c301_1] (by rfl) rfl rfl (by (try simp only [mA, mB, mC]); first | done | rfl) ?_
      with_reducible refine (ih k1 (by have := HK1.out; omega) _ _ ((rd_T89 l0 x8_1).f1) t303 _ ?side1 ?side2 A5.out).mono ?_
      (case side1 => exact Kd.cm ((Kd.C_below HR301_1.out HB.out)));(case side2 => exact HC301_1.out)
      rintro e w12 ⟨rfl, hb⟩
      refine ⟨_, rfl, ?_⟩;replace BK302 := am (blk_below (g := gb302) (o := .cells #[.int .i64 ((rd_T89 l0 x8_1).f0), .slice A301_1 ((rd_T89 l0 x8_1).f1).length c301_1] 89 (0, 0)) (by (with_reducible repeat (first | refine blk_drewN ?_ _ | refine blk_drew ?_ | refine blk_alloc ?_ _)); exact BK302.out) hb);replace HB := am (below_step (by repeat (first | (with_reducible first | exact HB.out | apply below_alloc | apply pw_below_drewN | apply below_drew1 | refine below_set ?_ GE302.out) | exact HB.out)) hb);(try clear hb);refine hK.out _ _ ⟨(blk_cell BK302.out 0).trans rfl, (blk_cell BK302.out 1).trans rfl⟩ (fun hHeld => ?_);clear hK K;refine norm_ (a' := ?_) ?_ ?_;rotate_left
      ·
       show Act.put _ (some 17) _ = _
       simp only [Act.put, sA, sB, sC, i64_w, i32_w];rfl
      refine pure_ (i := 6) (N := some 18) (v := ?_) (a' := ?_) #[true, true, true, true, true, true, true, false] rfl rfl (any_of HT_.out (by kernel_rfl)) (fun _ _ _ h => h) (Or.inl ⟨by rfl, ?_⟩) ?_ ?_;rotate_left
      ·
       intro w';go_simp;with_reducible rfl
      rotate_left
      ·
       simp only [Act.put, sA, sB, sC, i64_w, i32_w];rfl
      refine pure_ (i := 7) (N := some 3) (v := ?_) (a' := ?_) #[true, true, true, true, true, true, true, true] rfl rfl (any_of HT_.out (by kernel_rfl)) (fun _ _ _ h => h) (Or.inl ⟨by rfl, ?_⟩) ?_ ?_;rotate_left
      ·
       intro w';go_simp;with_reducible rfl
      rotate_left
      ·
       simp only [Act.put, sA, sB, sC, i64_w, i32_w];rfl
      refine done_ (done_of HT_.out (by kernel_rfl)) ?_;(try go_wp2)
      go_roundg k1
      case measure => have := HK1.out; omega
      case rel => exact ⟨(ji7), (wrap64 (x8_1 + 1)), (by first | rfl | (simp; done) | (simp only [← hji7] <;> (first | rfl | simp)) | (simp [*]; done)), (by first | rfl | (simp; done) | (simp [*]; done)), H', ⟨by have := HK1.out; omega⟩, ⟨by repeat (first | (with_reducible first | exact HB.out | apply below_alloc | apply pw_below_drewN | apply below_drew1 | refine below_set ?_ GE302.out) | exact HB.out)⟩⟩
     ·
      rw [if_neg c4] at H;exact absurd H (by simp)
    ·
     rw [if_neg c3] at H;exact absurd H (by simp)
   ·
    rw [if_neg c2] at H;have c2b0 : decide (x8_1 < (l0.length : Int)) = false := decide_eq_false c2;clear c2;obtain rfl := Option.some.inj H;go_wp2;go_ret;exact ⟨by first | rfl | (simp [errW_none, errW_some] <;> rfl) | (simp [*, errW_none, errW_some] <;> rfl), bm HB.out⟩

/-- A slice that is nil where the row is empty, and only there. -/
def Nilled (v : Value) (r : List Int) : Prop := ∃ A n c, v = .slice A n c ∧ A.isNone = (r.length == 0)
theorem Nilled.of {w : World} {base : Nat} {ok : Nat → Prop} {v : Value} {r : List Int} (h : Kd.Y (Kd.int .i64) 3 w base ok v r) (hr : r ≠ []) : Nilled v r := by
 obtain ⟨A, c, e, _⟩ := Kd.Y_slice h;subst e;refine ⟨A, r.length, c, rfl, ?_⟩
 have h0 : (r.length == 0) = false := by cases r with
  | nil => exact absurd rfl hr
  | cons x xs => rfl
 rw [h0]
 cases A with
 | some a => rfl
 | none =>
  have hc := (Kd.Y_reads' h).2.2
  have hl : 0 < r.length := by cases r with
   | nil => exact absurd rfl hr
   | cons x xs => simp
  obtain ⟨ad, e, _⟩ := hc.2.2 hl;cases e
theorem impl_rowOf.ne_l : ∀ k x3 x9 x10 x11 t, x3 ≠ [] → impl_rowOf.l0 k x3 x9 x10 x11 = some t → t ≠ []
 | 0, _, _, _, _, _, _, h => by simp [impl_rowOf.l0] at h
 | k + 1, x3, x9, x10, x11, t, h0, h => by
  simp only [impl_rowOf.l0] at h
  split at h
  ·
   split at h
   ·
    split at h
    ·
     split at h
     ·
      obtain ⟨y, hy, h⟩ := Option.bind_eq_some_iff.mp h;obtain ⟨z, hz, h⟩ := Option.bind_eq_some_iff.mp h
      split at h
      ·
       refine impl_rowOf.ne_l k _ _ _ _ t ?_ h;obtain rfl := Option.some.inj hy
       simp
      ·
       cases h
     ·
      cases h
    ·
     cases h
   ·
    cases h
  ·
   obtain rfl := Option.some.inj h;exact h0
theorem impl_rowOf.clip {k : Nat} {l : List (S89)} {t s : List Int} (h : impl_rowOf.f k l = some t) (h2 : slices_Clip_int_int.f t = some s) : s ≠ [] := by
 obtain rfl := Option.some.inj h2
 cases k with
 | zero => simp [impl_rowOf.f] at h
 | succ k =>
  simp only [impl_rowOf.f] at h;exact impl_rowOf.ne_l k _ _ _ _ _ (by simp) h

/-! ### impl_told: function 43 -/
def impl_told.j0 : Nat → List (S89) → Bool → Option (List Int × Bool)
 | 0, _, _ => none
 | k + 1, x0, x11 => if x11 = true then (some (([] : List Int), false)) else ((impl_rowOf.f k x0).bind fun t306 => ((slices_Clip_int_int.f t306).bind fun t309 => (some (t309, true))))
def impl_told.f (k : Nat) (l0 : List (S89)) : Option (List Int × Bool) := (impl_sizeOf.f k l0).bind fun t304 => (if t304 > 60 then (impl_told.j0 k l0 true) else ((impl_most.f k l0).bind fun t305 => (impl_told.j0 k l0 (decide (t305 > 9999)))))
theorem impl_told.mono_l : ∀ k, (∀ y0 y1, LeO (impl_told.j0 k y0 y1) (impl_told.j0 (k + 1) y0 y1))
 | 0 => fun _ _ r h => by simp [impl_told.j0] at h
 | k + 1 => by
  have ih0 := impl_told.mono_l k
  ·
   intro y0 y1;unfold impl_told.j0
   repeat' first | (with_reducible exact ih0 _ _) | (with_reducible exact impl_most.mono _ _) | (with_reducible exact impl_rowOf.mono _ _) | (with_reducible exact impl_sizeOf.mono _ _) | (with_reducible exact LeO.refl _) | (with_reducible exact LeO.none _) | (with_reducible refine LeO.ite ?_ ?_) | (with_reducible refine LeO.bind ?_ (fun _ => ?_))
theorem impl_told.mono : ∀ a0 k, LeO (impl_told.f k a0) (impl_told.f (k + 1) a0) := by
 intro a0 k;have ih0 := impl_told.mono_l k;unfold impl_told.f
 repeat' first | (with_reducible exact ih0 _ _) | (with_reducible exact impl_most.mono _ _) | (with_reducible exact impl_rowOf.mono _ _) | (with_reducible exact impl_sizeOf.mono _ _) | (with_reducible exact LeO.refl _) | (with_reducible exact LeO.none _) | (with_reducible refine LeO.ite ?_ ?_) | (with_reducible refine LeO.bind ?_ (fun _ => ?_))
set_option maxHeartbeats 8000000 in
set_option maxRecDepth 100000 in
theorem impl_told.calls (k : Nat) (A0 : Option Addr) (c0 : Nat) (l0 : List (S89)) (r1 : List Int) (r2 : Bool) (w : World) (hr0 : Kd.C k89 w A0 l0.length l0) (hc0 : l0.length ≤ c0) (h : impl_told.f k l0 = some (r1, r2)) :
  Calls Try.prog 43 #[.slice A0 l0.length c0] w fun e w' => ∃ v0_ : Value, e = .returned (.tuple #[v0_, .bool r2]) ∧ (Kd.Y (Kd.int .i64) 3 w' w.heap.size (fun _ => True) v0_ r1 ∧ Nilled v0_ r1) ∧ Below w.heap.size w w' := by
 have HR0 := am hr0;have HC0 := am hc0;clear hr0 hc0;have HB := am (Below.refl w.heap.size w);have H : ((impl_sizeOf.f k l0).bind fun t304 => (if t304 > 60 then (impl_told.j0 k l0 true) else ((impl_most.f k l0).bind fun t305 => (impl_told.j0 k l0 (decide (t305 > 9999)))))) = some (r1, r2) := h;clear h;have HC2 := am H;clear H;go_enter Try.func43, Try.ntmps43
 go_upto_region 1 with (fail)
 go_cut [11] (fun v11 wc => ∃ (kq : Nat) (x11_1 : Bool), v11 = .bool x11_1 ∧ Aside0 (impl_told.j0 kq l0 x11_1 = some (r1, r2)) ∧ Aside0 (kq ≤ k) ∧ Aside0 (Below w.heap.size w wc))
 case first =>
  have H := HC2.out;clear HC2;replace H := oE H;obtain ⟨t304, A3, H⟩ := H;replace H : (if t304 > 60 then (impl_told.j0 k l0 true) else ((impl_most.f k l0).bind fun t305 => (impl_told.j0 k l0 (decide (t305 > 9999))))) = some (r1, r2) := H;replace A3 := am A3;by_cases c4 : t304 > 60
  ·
   rw [if_pos c4] at H;have c4b0 : decide (60 < t304) = true := decide_eq_true c4;clear c4
   (first | rw [c4b0] | (simp only [i64_w, i32_w]; rw [c4b0]) | skip)
   have H' := am H;clear H;go_wp2_with (first | ((with_reducible refine gate_callee (f := 63) rfl ?_); refine goesL_ (some 5) rfl rfl Try.func63 (by kernel_rfl) rfl #[.slice A0 l0.length c0] rfl (by (try simp only [mA, mB, mC]); first | done | rfl) ?_; (with_reducible refine (impl_sizeOf.calls k _ _ l0 t304 _ ?side1 ?side2 A3.out).mono ?_); (case side1 => exact Kd.cm ((Kd.C_below HR0.out HB.out))); (case side2 => exact HC0.out); rintro e w5 ⟨rfl, hb⟩; refine ⟨_, rfl, ?_⟩; replace HB := am (below_step (bm HB.out) hb); (try clear hb)));go_meet
   case rel => exact ⟨_, (true), (by first | rfl | (simp; done) | (simp [*]; done)), H', ⟨by first | omega | exact Nat.le_refl _⟩, ⟨bm HB.out⟩⟩
  ·
   rw [if_neg c4] at H;have c4b0 : decide (60 < t304) = false := decide_eq_false c4;clear c4
   (first | rw [c4b0] | (simp only [i64_w, i32_w]; rw [c4b0]) | skip)
   replace H := oE H;obtain ⟨t305, A6, H⟩ := H;replace H : (impl_told.j0 k l0 (decide (t305 > 9999))) = some (r1, r2) := H;replace A6 := am A6;have H' := am H;clear H;go_wp2_with (first | ((with_reducible refine gate_callee (f := 63) rfl ?_); refine goesL_ (some 5) rfl rfl Try.func63 (by kernel_rfl) rfl #[.slice A0 l0.length c0] rfl (by (try simp only [mA, mB, mC]); first | done | rfl) ?_; (with_reducible refine (impl_sizeOf.calls k _ _ l0 t304 _ ?side1 ?side2 A3.out).mono ?_); (case side1 => exact Kd.cm ((Kd.C_below HR0.out HB.out))); (case side2 => exact HC0.out); rintro e w7 ⟨rfl, hb⟩; refine ⟨_, rfl, ?_⟩; replace HB := am (below_step (bm HB.out) hb); (try clear hb)) | (go_at_call 64; (with_reducible refine (impl_most.calls k _ _ l0 t305 _ ?side1 ?side2 A6.out).mono ?_); (case side1 => exact Kd.cm ((Kd.C_below HR0.out HB.out))); (case side2 => exact HC0.out); rintro e w8 ⟨rfl, hb⟩; replace HB := am (below_step (bm HB.out) hb); (try clear hb)));go_meet
   case rel => exact ⟨_, (decide (t305 > 9999)), (by first | rfl | (simp; done) | (simp [*]; done)), H', ⟨by first | omega | exact Nat.le_refl _⟩, ⟨bm HB.out⟩⟩
 case rest =>
  clear HC2;(try clear p2);(try clear c4);(try clear c4b0);(try clear c6);obtain ⟨kq, x11_1, rfl, HA, HJ1, HB⟩ := hcut
  cases kq with
  | zero => exact absurd HA.out (by simp [impl_told.j0])
  | succ kj1 =>
   have H := HA.out;clear HA;simp only [impl_told.j0] at H;by_cases c9 : x11_1 = true
   ·
    subst c9
    have H1 : (some (([] : List Int), false)) = some (r1, r2) := by rw [if_pos rfl] at H; exact H
    clear H;have H := H1;clear H1;simp only [Option.some.injEq, Prod.mk.injEq] at H;obtain ⟨rfl, rfl⟩ := H;go_wp2;go_ret2;exact ⟨_, by first | rfl | (simp [errW_none, errW_some] <;> rfl) | (simp [*, errW_none, errW_some] <;> rfl), ⟨Kd.Y_of_R (by first | exact Kd.R_nil _ _ _ _ _ | exact Kd.N_nil _ _ _ _ _ | exact Kd.V_nil _ _ _ _ _ | exact Kd.Y_nil _ _ _ _ _ | exact Kd.S_nil _ _ _ _ _), none, 0, 0, rfl, rfl⟩, bm HB.out⟩
   ·
    replace c9 := Bool.eq_false_iff.mpr c9;subst c9
    have H1 : ((impl_rowOf.f kj1 l0).bind fun t306 => ((slices_Clip_int_int.f t306).bind fun t309 => (some (t309, true)))) = some (r1, r2) := by rw [if_neg (show ¬ (false = true) by decide)] at H; exact H
    clear H;have H := H1;clear H1;replace H := oE H;obtain ⟨t306, A10, H⟩ := H;replace H : ((slices_Clip_int_int.f t306).bind fun t309 => (some (t309, true))) = some (r1, r2) := H;replace A10 := am A10;replace H := oE H;obtain ⟨t309, A11, H⟩ := H;replace H : (some (t309, true)) = some (r1, r2) := H;replace A11 := am A11;simp only [Option.some.injEq, Prod.mk.injEq] at H;obtain ⟨rfl, rfl⟩ := H;go_wp2_with (first | ((with_reducible refine gate_callee (f := 61) rfl ?_); refine goesL_ (some 13) rfl rfl Try.func61 (by kernel_rfl) rfl #[.slice A0 l0.length c0] rfl (by (try simp only [mA, mB, mC]); first | done | rfl) ?_; (with_reducible refine (impl_rowOf.calls kj1 _ _ l0 t306 _ ?side1 ?side2 A10.out).mono ?_); (case side1 => exact Kd.cm ((Kd.C_below HR0.out HB.out))); (case side2 => exact HC0.out); rintro e w12 ⟨v307, rfl, ho0, hb⟩; refine ⟨_, rfl, ?_⟩; have HO308 := am (Kd.R_lower ho0 (below_size (bm HB.out)));replace HB := am (below_step (bm HB.out) hb); (try clear hb); (try clear ho0); obtain ⟨Ao13, co13, eo13⟩ := Kd.R_slice HO308.out; subst eo13) | ((with_reducible refine gate_callee (f := 58) rfl ?_); refine goesL_ (some 14) rfl rfl Try.func58 (by kernel_rfl) rfl #[.slice Ao13 t306.length co13] rfl (by (try simp only [mA, mB, mC]); first | done | rfl) ?_; (with_reducible refine (slices_Clip_int_int.calls (fun k_ => some k_ = (.slice Ao13 t306.length co13 : Value).ownBlock) (.slice Ao13 t306.length co13) t306 t309 w _ ?side1 ?side2 A11.out).mono ?_); (case side1 => repeat (first | (with_reducible first | exact HB.out | apply below_alloc | apply pw_below_drewN | apply below_drew1) | exact HB.out)); (case side2 => exact Kd.R_tight rfl HO308.out); rintro e w14 ⟨v310, rfl, ho0, hb, hkp⟩; refine ⟨_, rfl, ?_⟩; have HO311 := am (Kd.Y_mono (ok' := fun k_ => True) ho0 (fun k_ hk_ => trivial));replace HB := am (hb);clear HO308; (try clear hb); (try clear hkp); (try clear ho0)));go_ret2;exact ⟨_, by first | rfl | (simp [errW_none, errW_some] <;> rfl) | (simp [*, errW_none, errW_some] <;> rfl), ⟨(Kd.ym HO311.out), Nilled.of HO311.out (impl_rowOf.clip A10.out A11.out)⟩, bm HB.out⟩

/-! ### cmp_isNaN_int: function 73 -/
def cmp_isNaN_int.f (a0 : Int) : Option (Bool) := some (a0 != a0)
set_option maxHeartbeats 8000000 in
set_option maxRecDepth 100000 in
theorem cmp_isNaN_int.calls (a0 : Int) (r : Bool) (w : World) (h : cmp_isNaN_int.f a0 = some r) :
  Calls Try.prog 73 #[.int .i64 a0] w fun e w' => e = .returned (.bool r) ∧ Drawn0 w w' := by
 have H : (some (a0 != a0)) = some r := h;clear h;obtain rfl := Option.some.inj H;go_enter Try.func73, Try.ntmps73;go_wp2;go_ret;exact ⟨by first | rfl | (simp; done) | (simp [*]; done), by repeat (first | exact Drawn0.refl _ | apply Drawn0.step)⟩

/-! ### cmp_Compare_int: function 68 -/
def cmp_Compare_int.f (a0 : Int) (a1 : Int) : Option (Int) := (cmp_isNaN_int.f a0).bind fun t312 => ((cmp_isNaN_int.f a1).bind fun t313 => (if t312 = true then (if t313 = true then (some 0) else (some (-1))) else (if t313 = true then (some 1) else (if a0 < a1 then (some (-1)) else (if a0 > a1 then (some 1) else (some 0))))))
set_option maxHeartbeats 8000000 in
set_option maxRecDepth 100000 in
theorem cmp_Compare_int.calls (a0 : Int) (a1 : Int) (r : Int) (w : World) (h : cmp_Compare_int.f a0 a1 = some r) :
  Calls Try.prog 68 #[.int .i64 a0, .int .i64 a1] w fun e w' => e = .returned (.int .i64 r) ∧ Drawn0 w w' := by
 have H : ((cmp_isNaN_int.f a0).bind fun t312 => ((cmp_isNaN_int.f a1).bind fun t313 => (if t312 = true then (if t313 = true then (some 0) else (some (-1))) else (if t313 = true then (some 1) else (if a0 < a1 then (some (-1)) else (if a0 > a1 then (some 1) else (some 0))))))) = some r := h;clear h;replace H := oE H;obtain ⟨t312, A3, H⟩ := H;replace H : ((cmp_isNaN_int.f a1).bind fun t313 => (if t312 = true then (if t313 = true then (some 0) else (some (-1))) else (if t313 = true then (some 1) else (if a0 < a1 then (some (-1)) else (if a0 > a1 then (some 1) else (some 0)))))) = some r := H;replace A3 := am A3;replace H := oE H;obtain ⟨t313, A4, H⟩ := H;replace H : (if t312 = true then (if t313 = true then (some 0) else (some (-1))) else (if t313 = true then (some 1) else (if a0 < a1 then (some (-1)) else (if a0 > a1 then (some 1) else (some 0))))) = some r := H;replace A4 := am A4;by_cases c5 : t312 = true
 ·
  subst c5
  have H1 : (if t313 = true then (some 0) else (some (-1))) = some r := by rw [if_pos rfl] at H; exact H
  clear H;have H := H1;clear H1;by_cases c6 : t313 = true
  ·
   subst c6
   have H1 : (some 0) = some r := by rw [if_pos rfl] at H; exact H
   clear H;have H := H1;clear H1;obtain rfl := Option.some.inj H;go_enter Try.func68, Try.ntmps68;go_wp2_with (first | ((with_reducible refine gate_callee (f := 73) rfl ?_); refine goesL_ (some 8) rfl rfl Try.func73 (by kernel_rfl) rfl #[.int .i64 a0] rfl (by (try simp only [mA, mB, mC]); first | done | rfl) ?_; (with_reducible refine (cmp_isNaN_int.calls a0 true _ A3.out).mono ?_); rintro e w' ⟨rfl, ⟨nd, rfl⟩⟩; refine ⟨_, rfl, ?_⟩) | ((with_reducible refine gate_callee (f := 73) rfl ?_); refine goesL_ (some 10) rfl rfl Try.func73 (by kernel_rfl) rfl #[.int .i64 a1] rfl (by (try simp only [mA, mB, mC]); first | done | rfl) ?_; (with_reducible refine (cmp_isNaN_int.calls a1 true _ A4.out).mono ?_); rintro e w' ⟨rfl, ⟨nd, rfl⟩⟩; refine ⟨_, rfl, ?_⟩));go_ret;exact ⟨by first | rfl | (simp; done) | (simp [*]; done), by repeat (first | exact Drawn0.refl _ | apply Drawn0.step)⟩
  ·
   replace c6 := Bool.eq_false_iff.mpr c6;subst c6
   have H1 : (some (-1)) = some r := by rw [if_neg (show ¬ (false = true) by decide)] at H; exact H
   clear H;have H := H1;clear H1;obtain rfl := Option.some.inj H;go_enter Try.func68, Try.ntmps68;go_wp2_with (first | ((with_reducible refine gate_callee (f := 73) rfl ?_); refine goesL_ (some 8) rfl rfl Try.func73 (by kernel_rfl) rfl #[.int .i64 a0] rfl (by (try simp only [mA, mB, mC]); first | done | rfl) ?_; (with_reducible refine (cmp_isNaN_int.calls a0 true _ A3.out).mono ?_); rintro e w' ⟨rfl, ⟨nd, rfl⟩⟩; refine ⟨_, rfl, ?_⟩) | ((with_reducible refine gate_callee (f := 73) rfl ?_); refine goesL_ (some 10) rfl rfl Try.func73 (by kernel_rfl) rfl #[.int .i64 a1] rfl (by (try simp only [mA, mB, mC]); first | done | rfl) ?_; (with_reducible refine (cmp_isNaN_int.calls a1 false _ A4.out).mono ?_); rintro e w' ⟨rfl, ⟨nd, rfl⟩⟩; refine ⟨_, rfl, ?_⟩));go_ret;exact ⟨by first | rfl | (simp; done) | (simp [*]; done), by repeat (first | exact Drawn0.refl _ | apply Drawn0.step)⟩
 ·
  replace c5 := Bool.eq_false_iff.mpr c5;subst c5
  have H1 : (if t313 = true then (some 1) else (if a0 < a1 then (some (-1)) else (if a0 > a1 then (some 1) else (some 0)))) = some r := by rw [if_neg (show ¬ (false = true) by decide)] at H; exact H
  clear H;have H := H1;clear H1;by_cases c7 : t313 = true
  ·
   subst c7
   have H1 : (some 1) = some r := by rw [if_pos rfl] at H; exact H
   clear H;have H := H1;clear H1;obtain rfl := Option.some.inj H;go_enter Try.func68, Try.ntmps68;go_wp2_with (first | ((with_reducible refine gate_callee (f := 73) rfl ?_); refine goesL_ (some 8) rfl rfl Try.func73 (by kernel_rfl) rfl #[.int .i64 a0] rfl (by (try simp only [mA, mB, mC]); first | done | rfl) ?_; (with_reducible refine (cmp_isNaN_int.calls a0 false _ A3.out).mono ?_); rintro e w' ⟨rfl, ⟨nd, rfl⟩⟩; refine ⟨_, rfl, ?_⟩) | ((with_reducible refine gate_callee (f := 73) rfl ?_); refine goesL_ (some 10) rfl rfl Try.func73 (by kernel_rfl) rfl #[.int .i64 a1] rfl (by (try simp only [mA, mB, mC]); first | done | rfl) ?_; (with_reducible refine (cmp_isNaN_int.calls a1 true _ A4.out).mono ?_); rintro e w' ⟨rfl, ⟨nd, rfl⟩⟩; refine ⟨_, rfl, ?_⟩));go_ret;exact ⟨by first | rfl | (simp; done) | (simp [*]; done), by repeat (first | exact Drawn0.refl _ | apply Drawn0.step)⟩
  ·
   replace c7 := Bool.eq_false_iff.mpr c7;subst c7
   have H1 : (if a0 < a1 then (some (-1)) else (if a0 > a1 then (some 1) else (some 0))) = some r := by rw [if_neg (show ¬ (false = true) by decide)] at H; exact H
   clear H;have H := H1;clear H1;by_cases c8 : a0 < a1
   ·
    rw [if_pos c8] at H;have c8b0 : decide (a0 < a1) = true := decide_eq_true c8;clear c8;obtain rfl := Option.some.inj H;go_enter Try.func68, Try.ntmps68;go_wp2_with (first | ((with_reducible refine gate_callee (f := 73) rfl ?_); refine goesL_ (some 8) rfl rfl Try.func73 (by kernel_rfl) rfl #[.int .i64 a0] rfl (by (try simp only [mA, mB, mC]); first | done | rfl) ?_; (with_reducible refine (cmp_isNaN_int.calls a0 false _ A3.out).mono ?_); rintro e w' ⟨rfl, ⟨nd, rfl⟩⟩; refine ⟨_, rfl, ?_⟩) | ((with_reducible refine gate_callee (f := 73) rfl ?_); refine goesL_ (some 10) rfl rfl Try.func73 (by kernel_rfl) rfl #[.int .i64 a1] rfl (by (try simp only [mA, mB, mC]); first | done | rfl) ?_; (with_reducible refine (cmp_isNaN_int.calls a1 false _ A4.out).mono ?_); rintro e w' ⟨rfl, ⟨nd, rfl⟩⟩; refine ⟨_, rfl, ?_⟩));go_ret;exact ⟨by first | rfl | (simp; done) | (simp [*]; done), by repeat (first | exact Drawn0.refl _ | apply Drawn0.step)⟩
   ·
    rw [if_neg c8] at H;have c8b0 : decide (a0 < a1) = false := decide_eq_false c8;clear c8;by_cases c9 : a0 > a1
    ·
     rw [if_pos c9] at H;have c9b0 : decide (a1 < a0) = true := decide_eq_true c9;clear c9;obtain rfl := Option.some.inj H;go_enter Try.func68, Try.ntmps68;go_wp2_with (first | ((with_reducible refine gate_callee (f := 73) rfl ?_); refine goesL_ (some 8) rfl rfl Try.func73 (by kernel_rfl) rfl #[.int .i64 a0] rfl (by (try simp only [mA, mB, mC]); first | done | rfl) ?_; (with_reducible refine (cmp_isNaN_int.calls a0 false _ A3.out).mono ?_); rintro e w' ⟨rfl, ⟨nd, rfl⟩⟩; refine ⟨_, rfl, ?_⟩) | ((with_reducible refine gate_callee (f := 73) rfl ?_); refine goesL_ (some 10) rfl rfl Try.func73 (by kernel_rfl) rfl #[.int .i64 a1] rfl (by (try simp only [mA, mB, mC]); first | done | rfl) ?_; (with_reducible refine (cmp_isNaN_int.calls a1 false _ A4.out).mono ?_); rintro e w' ⟨rfl, ⟨nd, rfl⟩⟩; refine ⟨_, rfl, ?_⟩));go_ret;exact ⟨by first | rfl | (simp; done) | (simp [*]; done), by repeat (first | exact Drawn0.refl _ | apply Drawn0.step)⟩
    ·
     rw [if_neg c9] at H;have c9b0 : decide (a1 < a0) = false := decide_eq_false c9;clear c9;obtain rfl := Option.some.inj H;go_enter Try.func68, Try.ntmps68;go_wp2_with (first | ((with_reducible refine gate_callee (f := 73) rfl ?_); refine goesL_ (some 8) rfl rfl Try.func73 (by kernel_rfl) rfl #[.int .i64 a0] rfl (by (try simp only [mA, mB, mC]); first | done | rfl) ?_; (with_reducible refine (cmp_isNaN_int.calls a0 false _ A3.out).mono ?_); rintro e w' ⟨rfl, ⟨nd, rfl⟩⟩; refine ⟨_, rfl, ?_⟩) | ((with_reducible refine gate_callee (f := 73) rfl ?_); refine goesL_ (some 10) rfl rfl Try.func73 (by kernel_rfl) rfl #[.int .i64 a1] rfl (by (try simp only [mA, mB, mC]); first | done | rfl) ?_; (with_reducible refine (cmp_isNaN_int.calls a1 false _ A4.out).mono ?_); rintro e w' ⟨rfl, ⟨nd, rfl⟩⟩; refine ⟨_, rfl, ?_⟩));go_ret;exact ⟨by first | rfl | (simp; done) | (simp [*]; done), by repeat (first | exact Drawn0.refl _ | apply Drawn0.step)⟩

end Go.Proofs.Ytmidgjmlgjjobaa.Ig

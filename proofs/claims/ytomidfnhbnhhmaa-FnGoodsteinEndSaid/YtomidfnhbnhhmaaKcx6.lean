-- half
-- Written by a program of this session's (wip/mp) out of the translation, over the kit's print with changes.
import Derived.Test.YtomidfnhbnhhmaaKcx0
import Derived.Test.YtomidfnhbnhhmaaKcx5
namespace Go.Proofs.Ytomidfnhbnhhmaa.Kc
open Go.RowKit Go.Proofs.YtomidfnhbnhhmaaW.PrintWords Go.Proofs.YtomidfnhbnhhmaaW.PrintLast Go.Proofs.YtomidfnhbnhhmaaW.PrintMore
attribute [local go_sem] max2_int min2_int max_two min_two max_three min_three max_four min_four   -- for this text's walks alone
set_option linter.unusedVariables false
set_option linter.unusedSimpArgs false

/-! ### impl_GoodsteinNext: function 21 -/
def impl_GoodsteinNext.j0 : Nat → Int → Int → Bool → Option (Int)
 | 0, _, _, _ => none
 | k + 1, x0, x1, x15 => if x15 = true then (some (-1)) else ((impl_ChangeBase.f k x0 x1 (wrap64 (x1 + 1))).bind fun t230 => (if t230 < 0 then (some (-1)) else (some (wrap64 (t230 - 1)))))
def impl_GoodsteinNext.f (k : Nat) (a0 : Int) (a1 : Int) : Option (Int) := if a0 < 1 then (impl_GoodsteinNext.j0 k a0 a1 true) else (if a1 < 2 then (impl_GoodsteinNext.j0 k a0 a1 true) else (impl_GoodsteinNext.j0 k a0 a1 (decide (a1 ≥ 90))))
theorem impl_GoodsteinNext.mono_l : ∀ k, (∀ y0 y1 y2, LeO (impl_GoodsteinNext.j0 k y0 y1 y2) (impl_GoodsteinNext.j0 (k + 1) y0 y1 y2))
 | 0 => fun _ _ _ r h => by simp [impl_GoodsteinNext.j0] at h
 | k + 1 => by
  have ih0 := impl_GoodsteinNext.mono_l k
  ·
   intro y0 y1 y2;unfold impl_GoodsteinNext.j0
   repeat' first | (with_reducible exact ih0 _ _ _) | (with_reducible exact impl_ChangeBase.mono _ _ _ _) | (with_reducible exact LeO.refl _) | (with_reducible exact LeO.none _) | (with_reducible refine LeO.ite ?_ ?_) | (with_reducible refine LeO.bind ?_ (fun _ => ?_))
theorem impl_GoodsteinNext.mono : ∀ a0 a1 k, LeO (impl_GoodsteinNext.f k a0 a1) (impl_GoodsteinNext.f (k + 1) a0 a1) := by
 intro a0 a1 k;have ih0 := impl_GoodsteinNext.mono_l k;unfold impl_GoodsteinNext.f
 repeat' first | (with_reducible exact ih0 _ _ _) | (with_reducible exact impl_ChangeBase.mono _ _ _ _) | (with_reducible exact LeO.refl _) | (with_reducible exact LeO.none _) | (with_reducible refine LeO.ite ?_ ?_) | (with_reducible refine LeO.bind ?_ (fun _ => ?_))
set_option maxHeartbeats 8000000 in
set_option maxRecDepth 100000 in
theorem impl_GoodsteinNext.calls (k : Nat) (a0 : Int) (a1 : Int) (r : Int) (w : World) (h : impl_GoodsteinNext.f k a0 a1 = some r) :
  Calls Try.prog 21 #[.int .i64 a0, .int .i64 a1] w fun e w' => e = .returned (.int .i64 r) ∧ Below w.heap.size w w' := by
 have HB := am (Below.refl w.heap.size w);have H : (if a0 < 1 then (impl_GoodsteinNext.j0 k a0 a1 true) else (if a1 < 2 then (impl_GoodsteinNext.j0 k a0 a1 true) else (impl_GoodsteinNext.j0 k a0 a1 (decide (a1 ≥ 90))))) = some r := h;clear h;have HC3 := am H;clear H;go_enter Try.func21, Try.ntmps21
 go_upto_region 1 with (fail)
 go_cut [15] (fun v15 wc => ∃ (kq : Nat) (x15_2 : Bool), v15 = .bool x15_2 ∧ Aside0 (impl_GoodsteinNext.j0 kq a0 a1 x15_2 = some r) ∧ Aside0 (kq ≤ k) ∧ Aside0 (Below w.heap.size w wc))
 case first =>
  have H := HC3.out;clear HC3;by_cases c4 : a0 < 1
  ·
   rw [if_pos c4] at H;have c4b0 : decide (a0 < 1) = true := decide_eq_true c4;clear c4
   (first | rw [c4b0] | (simp only [i64_w, i32_w]; rw [c4b0]) | skip)
   have H' := am H;clear H;go_wp2;go_meet
   case rel => exact ⟨_, (true), (by first | rfl | (simp; done) | (simp [*]; done)), H', ⟨by first | omega | exact Nat.le_refl _⟩, ⟨bm HB.out⟩⟩
  ·
   rw [if_neg c4] at H;have c4b0 : decide (a0 < 1) = false := decide_eq_false c4;clear c4
   (first | rw [c4b0] | (simp only [i64_w, i32_w]; rw [c4b0]) | skip)
   by_cases c5 : a1 < 2
   ·
    rw [if_pos c5] at H;have c5b0 : decide (a1 < 2) = true := decide_eq_true c5;clear c5;have H' := am H;clear H;go_wp2;go_meet
    case rel => exact ⟨_, (true), (by first | rfl | (simp; done) | (simp [*]; done)), H', ⟨by first | omega | exact Nat.le_refl _⟩, ⟨bm HB.out⟩⟩
   ·
    rw [if_neg c5] at H;have c5b0 : decide (a1 < 2) = false := decide_eq_false c5;clear c5;have H' := am H;clear H;go_wp2;go_meet
    case rel => exact ⟨_, (decide (a1 ≥ 90)), (by first | rfl | (simp; done) | (simp [*]; done)), H', ⟨by first | omega | exact Nat.le_refl _⟩, ⟨bm HB.out⟩⟩
 case rest =>
  clear HC3;(try clear c2);(try clear p2);(try clear c4);(try clear c4b0);(try clear c5);(try clear c5b0);obtain ⟨kq, x15_2, rfl, HA, HJ2, HB⟩ := hcut
  cases kq with
  | zero => exact absurd HA.out (by simp [impl_GoodsteinNext.j0])
  | succ kj2 =>
   have H := HA.out;clear HA;simp only [impl_GoodsteinNext.j0] at H;by_cases c6 : x15_2 = true
   ·
    subst c6
    have H1 : (some (-1)) = some r := by rw [if_pos rfl] at H; exact H
    clear H;have H := H1;clear H1;obtain rfl := Option.some.inj H;go_wp2;go_ret;exact ⟨by first | rfl | (simp [errW_none, errW_some] <;> rfl) | (simp [*, errW_none, errW_some] <;> rfl), bm HB.out⟩
   ·
    replace c6 := Bool.eq_false_iff.mpr c6;subst c6
    have H1 : ((impl_ChangeBase.f kj2 a0 a1 (wrap64 (a1 + 1))).bind fun t230 => (if t230 < 0 then (some (-1)) else (some (wrap64 (t230 - 1))))) = some r := by rw [if_neg (show ¬ (false = true) by decide)] at H; exact H
    clear H;have H := H1;clear H1;replace H := oE H;obtain ⟨t230, A7, H⟩ := H;replace H : (if t230 < 0 then (some (-1)) else (some (wrap64 (t230 - 1)))) = some r := H;replace A7 := am A7;by_cases c8 : t230 < 0
    ·
     rw [if_pos c8] at H;have c8b0 : decide (t230 < 0) = true := decide_eq_true c8;clear c8;obtain rfl := Option.some.inj H;go_wp2_with (first | ((with_reducible refine gate_callee (f := 45) rfl ?_); refine goesL_ (some 20) rfl rfl Try.func45 (by kernel_rfl) rfl #[.int .i64 a0, .int .i64 a1, .int .i64 (wrap64 (a1 + 1))] rfl (by (try simp only [mA, mB, mC]); first | done | rfl) ?_; (with_reducible refine (impl_ChangeBase.calls kj2 a0 a1 (wrap64 (a1 + 1)) t230 _ A7.out).mono ?_); rintro e w9 ⟨rfl, hb⟩; refine ⟨_, rfl, ?_⟩; replace HB := am (below_step (bm HB.out) hb); (try clear hb)));go_ret;exact ⟨by first | rfl | (simp [errW_none, errW_some] <;> rfl) | (simp [*, errW_none, errW_some] <;> rfl), bm HB.out⟩
    ·
     rw [if_neg c8] at H;have c8b0 : decide (t230 < 0) = false := decide_eq_false c8;clear c8;obtain rfl := Option.some.inj H;go_wp2_with (first | ((with_reducible refine gate_callee (f := 45) rfl ?_); refine goesL_ (some 20) rfl rfl Try.func45 (by kernel_rfl) rfl #[.int .i64 a0, .int .i64 a1, .int .i64 (wrap64 (a1 + 1))] rfl (by (try simp only [mA, mB, mC]); first | done | rfl) ?_; (with_reducible refine (impl_ChangeBase.calls kj2 a0 a1 (wrap64 (a1 + 1)) t230 _ A7.out).mono ?_); rintro e w10 ⟨rfl, hb⟩; refine ⟨_, rfl, ?_⟩; replace HB := am (below_step (bm HB.out) hb); (try clear hb)));go_ret;exact ⟨by first | rfl | (simp [errW_none, errW_some] <;> rfl) | (simp [*, errW_none, errW_some] <;> rfl), bm HB.out⟩

/-! ### impl_GoodsteinRun: function 11 -/
mutual
def impl_GoodsteinRun.j0 : Nat → Int → Bool → Option (List Int)
 | 0, _, _ => none
 | k + 1, x0, x11 => if x11 = true then (some ([] : List Int)) else (impl_GoodsteinRun.l0 k (([x0] : List Int)) 2)
def impl_GoodsteinRun.l0 : Nat → List Int → Int → Option (List Int)
 | 0, _, _ => none
 | k + 1, x3, x4 => if (x3.length : Int) < 60 then (if 0 ≤ (wrap64 ((x3.length : Int) - 1)) then (if (wrap64 ((x3.length : Int) - 1)) < (x3.length : Int) then (impl_GoodsteinRun.j2 k x3 x4 ((rd x3 (wrap64 ((x3.length : Int) - 1))) != 0)) else (none)) else (none)) else (impl_GoodsteinRun.j2 k x3 x4 false)
def impl_GoodsteinRun.j2 : Nat → List Int → Int → Bool → Option (List Int)
 | 0, _, _, _ => none
 | k + 1, x3, x4, x25 => if x25 = true then (if 0 ≤ (wrap64 ((x3.length : Int) - 1)) then (if (wrap64 ((x3.length : Int) - 1)) < (x3.length : Int) then ((impl_GoodsteinNext.f k (rd x3 (wrap64 ((x3.length : Int) - 1))) x4).bind fun t236 => (if t236 < 0 then (some x3) else (if x3.length < 17592186044416 then (impl_GoodsteinRun.l0 k (x3 ++ [t236]) (wrap64 (x4 + 1))) else (none)))) else (none)) else (none)) else (some x3)
end
def impl_GoodsteinRun.f (k : Nat) (a0 : Int) : Option (List Int) := if a0 < 0 then (impl_GoodsteinRun.j0 k a0 true) else (impl_GoodsteinRun.j0 k a0 (decide (a0 > 1000000000)))
theorem impl_GoodsteinRun.mono_l : ∀ k, (∀ y0 y1, LeO (impl_GoodsteinRun.j0 k y0 y1) (impl_GoodsteinRun.j0 (k + 1) y0 y1)) ∧ (∀ y0 y1, LeO (impl_GoodsteinRun.l0 k y0 y1) (impl_GoodsteinRun.l0 (k + 1) y0 y1)) ∧ (∀ y0 y1 y2, LeO (impl_GoodsteinRun.j2 k y0 y1 y2) (impl_GoodsteinRun.j2 (k + 1) y0 y1 y2))
 | 0 => ⟨fun _ _ r h => by simp [impl_GoodsteinRun.j0] at h, fun _ _ r h => by simp [impl_GoodsteinRun.l0] at h, fun _ _ _ r h => by simp [impl_GoodsteinRun.j2] at h⟩
 | k + 1 => by
  obtain ⟨ih0, ih1, ih2⟩ := impl_GoodsteinRun.mono_l k;refine ⟨?_, ?_, ?_⟩
  all_goals (intros; first | unfold impl_GoodsteinRun.j0 | unfold impl_GoodsteinRun.l0 | unfold impl_GoodsteinRun.j2)
  all_goals repeat' first | (with_reducible exact ih0 _ _) | (with_reducible exact ih1 _ _) | (with_reducible exact ih2 _ _ _) | (with_reducible exact impl_GoodsteinNext.mono _ _ _) | (with_reducible exact LeO.refl _) | (with_reducible exact LeO.none _) | (with_reducible refine LeO.ite ?_ ?_) | (with_reducible refine LeO.bind ?_ (fun _ => ?_))
theorem impl_GoodsteinRun.mono : ∀ a0 k, LeO (impl_GoodsteinRun.f k a0) (impl_GoodsteinRun.f (k + 1) a0) := by
 intro a0 k;obtain ⟨ih0, ih1, ih2⟩ := impl_GoodsteinRun.mono_l k;unfold impl_GoodsteinRun.f
 repeat' first | (with_reducible exact ih0 _ _) | (with_reducible exact ih1 _ _) | (with_reducible exact ih2 _ _ _) | (with_reducible exact impl_GoodsteinNext.mono _ _ _) | (with_reducible exact LeO.refl _) | (with_reducible exact LeO.none _) | (with_reducible refine LeO.ite ?_ ?_) | (with_reducible refine LeO.bind ?_ (fun _ => ?_))
set_option maxHeartbeats 8000000 in
set_option maxRecDepth 100000 in
theorem impl_GoodsteinRun.calls (k : Nat) (a0 : Int) (r : List Int) (w : World) (h : impl_GoodsteinRun.f k a0 = some r) :
  Calls Try.prog 11 #[.int .i64 a0] w fun e w' => ∃ v0_ : Value, e = .returned (v0_) ∧ Kd.R (Kd.int .i64) 3 w' w.heap.size (fun _ => True) v0_ r ∧ Below w.heap.size w w' := by
 have HB := am (Below.refl w.heap.size w);have H : (if a0 < 0 then (impl_GoodsteinRun.j0 k a0 true) else (impl_GoodsteinRun.j0 k a0 (decide (a0 > 1000000000)))) = some r := h;clear h;have HC2 := am H;clear H;go_enter Try.func11, Try.ntmps11
 go_upto_region 1 with (fail)
 go_cut [11] (fun v11 wc => ∃ (kq : Nat) (x11_1 : Bool), v11 = .bool x11_1 ∧ Aside0 (impl_GoodsteinRun.j0 kq a0 x11_1 = some r) ∧ Aside0 (kq ≤ k) ∧ Aside0 (Below w.heap.size w wc))
 case first =>
  have H := HC2.out;clear HC2;by_cases c3 : a0 < 0
  ·
   rw [if_pos c3] at H;have c3b0 : decide (a0 < 0) = true := decide_eq_true c3;clear c3
   (first | rw [c3b0] | (simp only [i64_w, i32_w]; rw [c3b0]) | skip)
   have H' := am H;clear H;go_wp2;go_meet
   case rel => exact ⟨_, (true), (by first | rfl | (simp; done) | (simp [*]; done)), H', ⟨by first | omega | exact Nat.le_refl _⟩, ⟨bm HB.out⟩⟩
  ·
   rw [if_neg c3] at H;have c3b0 : decide (a0 < 0) = false := decide_eq_false c3;clear c3
   (first | rw [c3b0] | (simp only [i64_w, i32_w]; rw [c3b0]) | skip)
   have H' := am H;clear H;go_wp2;go_meet
   case rel => exact ⟨_, (decide (a0 > 1000000000)), (by first | rfl | (simp; done) | (simp [*]; done)), H', ⟨by first | omega | exact Nat.le_refl _⟩, ⟨bm HB.out⟩⟩
 case rest =>
  clear HC2;(try clear c1);(try clear p2);(try clear c3);(try clear c3b0);obtain ⟨kq, x11_1, rfl, HA, HJ1, HB⟩ := hcut
  cases kq with
  | zero => exact absurd HA.out (by simp [impl_GoodsteinRun.j0])
  | succ kj1 =>
   have H := HA.out;clear HA;simp only [impl_GoodsteinRun.j0] at H;by_cases c4 : x11_1 = true
   ·
    subst c4
    have H1 : (some ([] : List Int)) = some r := by rw [if_pos rfl] at H; exact H
    clear H;have H := H1;clear H1;obtain rfl := Option.some.inj H;go_wp2;go_ret;exact ⟨_, by first | rfl | (simp [errW_none, errW_some] <;> rfl) | (simp [*, errW_none, errW_some] <;> rfl), by first | exact Kd.R_nil _ _ _ _ _ | exact Kd.N_nil _ _ _ _ _ | exact Kd.V_nil _ _ _ _ _ | exact Kd.Y_nil _ _ _ _ _ | exact Kd.S_nil _ _ _ _ _, bm HB.out⟩
   ·
    replace c4 := Bool.eq_false_iff.mpr c4;subst c4
    have H1 : (impl_GoodsteinRun.l0 kj1 (([a0] : List Int)) 2) = some r := by rw [if_neg (show ¬ (false = true) by decide)] at H; exact H
    clear H;have H := H1;clear H1
    obtain ⟨y231, hy231⟩ : ∃ y_ : List Int, y_ = (([a0] : List Int)) := ⟨_, rfl⟩
    replace H : (impl_GoodsteinRun.l0 kj1 y231 2) = some r := by first | (rw [hy231]; with_reducible exact H) | (have H2_ := oB H; rw [hy231]; with_reducible exact H2_) | (have H2_ := oB H; with_reducible exact H2_) | with_reducible exact H | (rw [hy231]; exact H) | exact H
    replace hy231 := am hy231;have H' := am H;clear H;go_wp2_with (first | ((with_reducible refine gate_dst (N := 13) rfl ?_); (try (refine gate_guard (by rfl) ?_; dsimp only)); refine Kd.R_lit (Kd.int .i64) _ 3 ?hg (N := 13) ?hd (xs := ([a0] : List Int)) (inner := [.int .i64 a0]) (ok := fun _ => True) (okp := fun _ => True) ?hr ?hp (fun _ hk => hk) trivial (Below.refl _ _) (Nat.le_refl _) (by simp) ?_; (case hd => rfl); (case hg => rfl); (case hr => first | (go_simp; done) | (go_simp; rfl)); (case hp => exact (Reps.one (show Kd.M (Kd.int .i64) _ _ _ a0 [.int .i64 a0] from rfl) (Reps.none _ _))); intro v232 w5 ho6 hb hg_ hnew_; clear hg_ hnew_; (first | rw [← hy231.out] at ho6 | (simp only [Int.reduceToNat] at ho6; rw [← hy231.out] at ho6)); have HO233 := am (Kd.R_lower ho6 (below_size (bm HB.out)));replace HB := am (below_step (bm HB.out) hb); clear hb ho6))
    go_loopg [3, 4] kj1 (fun kq v3 v4 w' => ∃ (x3_2 : List Int) (x4_2 : Int), v4 = .int .i64 x4_2 ∧ Aside0 (impl_GoodsteinRun.l0 kq x3_2 x4_2 = some r) ∧ Aside0 (kq ≤ kj1) ∧ Aside0 (Kd.R (Kd.int .i64) 3 w' w.heap.size (fun _ => True) v3 x3_2) ∧ Aside0 (Below w.heap.size w w'))
    case atStart => exact ⟨(y231), (2), (by first | rfl | (simp; done) | (simp [*]; done)), H', ⟨Nat.le_refl _⟩, ⟨Kd.rm HO233.out⟩, ⟨bm HB.out⟩⟩
    case round =>
     clear H';(try clear c1);(try clear p2);(try clear c3);(try clear c3b0);(try clear c4);(try clear p2);(try clear HO_3);(try clear HB);obtain ⟨x3_2, x4_2, rfl, HA, HK2, HO_3, HB⟩ := hrel
     cases gk with
     | zero => exact absurd HA.out (by simp [impl_GoodsteinRun.l0])
     | succ k2 =>
      have H := HA.out;clear HA;simp only [impl_GoodsteinRun.l0] at H;have HC7 := am H;clear H
      go_upto_region 5 with (fail)
      go_cut [25] (fun v25 wc => ∃ (kq : Nat) (x25_6 : Bool), v25 = .bool x25_6 ∧ Aside0 (impl_GoodsteinRun.j2 kq x3_2 x4_2 x25_6 = some r) ∧ Aside0 (kq ≤ k2) ∧ Aside0 (Kd.R (Kd.int .i64) 3 wc w.heap.size (fun _ => True) u3 x3_2) ∧ Aside0 (Below w.heap.size w wc))
      case first =>
       have H := HC7.out;clear HC7;by_cases c8 : (x3_2.length : Int) < 60
       ·
        rw [if_pos c8] at H;have c8b0 : decide ((x3_2.length : Int) < 60) = true := decide_eq_true c8;have c8b1 : decide (x3_2.length < 60) = true := decide_eq_true (by omega);clear c8
        (first | rw [c8b0] | (simp only [i64_w, i32_w]; rw [c8b0]) | skip)
        obtain ⟨ji9, hji9⟩ : ∃ j_ : Int, (wrap64 ((x3_2.length : Int) - 1)) = j_ := ⟨_, rfl⟩
        replace H : (if 0 ≤ (ji9) then (if (ji9) < (x3_2.length : Int) then (impl_GoodsteinRun.j2 k2 x3_2 x4_2 ((rd x3_2 (ji9)) != 0)) else (none)) else (none)) = some r := by first | (rw [hji9] at H; exact H) | (simp only [hji9] at H ⊢; exact H)
        have hji9w : (IntKind.i64.wrap ((x3_2.length : Int) - 1)) = ji9 := (i64_w _).trans hji9;by_cases c10 : 0 ≤ (ji9)
        ·
         rw [if_pos c10] at H;have c10b0 : decide (0 ≤ (ji9)) = true := decide_eq_true c10;clear c10;by_cases c11 : (ji9) < (x3_2.length : Int)
         ·
          rw [if_pos c11] at H;have c11b0 : decide ((ji9) < (x3_2.length : Int)) = true := decide_eq_true c11;clear c11;have H' := am H;clear H;obtain ⟨Ao12, co12, eo12⟩ := Kd.R_slice HO_3.out;subst eo12;have p234 : 0 ≤ ((ji9) : Int) := of_decide_eq_true (by assumption);have q234 : (ji9) < (x3_2.length : Int) := of_decide_eq_true (by assumption);obtain ⟨ad234, e234, hx234_0⟩ := Kd.at_int (Kd.R_reads' HO_3.out).2.2 (ji9) p234 q234;cases e234
          replace p234 := eq_true p234;replace q234 := eq_true q234;go_wp2;go_meet
          case rel => exact ⟨_, (((rd x3_2 (ji9)) != 0)), (by first | rfl | (simp; done) | (simp only [← hji9] <;> (first | rfl | simp)) | (simp [*]; done)), H', ⟨by have := HJ1.out; have := HK2.out; first | omega | exact Nat.le_refl _⟩, ⟨Kd.rm HO_3.out⟩, ⟨bm HB.out⟩⟩
         ·
          rw [if_neg c11] at H;exact absurd H (by simp)
        ·
         rw [if_neg c10] at H;exact absurd H (by simp)
       ·
        rw [if_neg c8] at H;have c8b0 : decide ((x3_2.length : Int) < 60) = false := decide_eq_false c8;have c8b1 : decide (x3_2.length < 60) = false := decide_eq_false (by omega);clear c8
        (first | rw [c8b0] | (simp only [i64_w, i32_w]; rw [c8b0]) | skip)
        have H' := am H;clear H;obtain ⟨Ao13, co13, eo13⟩ := Kd.R_slice HO_3.out;subst eo13;go_wp2;go_meet
        case rel => exact ⟨_, (false), (by first | rfl | (simp; done) | (simp [*]; done)), H', ⟨by have := HJ1.out; have := HK2.out; first | omega | exact Nat.le_refl _⟩, ⟨Kd.rm HO_3.out⟩, ⟨bm HB.out⟩⟩
      case rest =>
       clear HC7;(try clear c1);(try clear p2);(try clear q2);(try clear hx2);(try clear c3);(try clear c3b0);(try clear c4);(try clear p6);(try clear c8);(try clear c8b0);(try clear c8b1);(try clear c10);(try clear c10b0);(try clear c11);(try clear c11b0);(try clear hx234_0);(try clear p2);(try clear p234);(try clear q234);obtain ⟨kq, x25_6, rfl, HA, HJ6, HO_3, HB⟩ := hcut
       cases kq with
       | zero => exact absurd HA.out (by simp [impl_GoodsteinRun.j2])
       | succ kj6 =>
        have H := HA.out;clear HA;simp only [impl_GoodsteinRun.j2] at H;by_cases c14 : x25_6 = true
        ·
         subst c14
         have H1 : (if 0 ≤ (wrap64 ((x3_2.length : Int) - 1)) then (if (wrap64 ((x3_2.length : Int) - 1)) < (x3_2.length : Int) then ((impl_GoodsteinNext.f kj6 (rd x3_2 (wrap64 ((x3_2.length : Int) - 1))) x4_2).bind fun t236 => (if t236 < 0 then (some x3_2) else (if x3_2.length < 17592186044416 then (impl_GoodsteinRun.l0 kj6 (x3_2 ++ [t236]) (wrap64 (x4_2 + 1))) else (none)))) else (none)) else (none)) = some r := by rw [if_pos rfl] at H; exact H
         clear H;have H := H1;clear H1
         obtain ⟨ji15, hji15⟩ : ∃ j_ : Int, (wrap64 ((x3_2.length : Int) - 1)) = j_ := ⟨_, rfl⟩
         replace H : (if 0 ≤ (ji15) then (if (ji15) < (x3_2.length : Int) then ((impl_GoodsteinNext.f kj6 (rd x3_2 (ji15)) x4_2).bind fun t236 => (if t236 < 0 then (some x3_2) else (if x3_2.length < 17592186044416 then (impl_GoodsteinRun.l0 kj6 (x3_2 ++ [t236]) (wrap64 (x4_2 + 1))) else (none)))) else (none)) else (none)) = some r := by first | (rw [hji15] at H; exact H) | (simp only [hji15] at H ⊢; exact H)
         have hji15w : (IntKind.i64.wrap ((x3_2.length : Int) - 1)) = ji15 := (i64_w _).trans hji15;by_cases c16 : 0 ≤ (ji15)
         ·
          rw [if_pos c16] at H;have c16b0 : decide (0 ≤ (ji15)) = true := decide_eq_true c16;clear c16;by_cases c17 : (ji15) < (x3_2.length : Int)
          ·
           rw [if_pos c17] at H;have c17b0 : decide ((ji15) < (x3_2.length : Int)) = true := decide_eq_true c17;clear c17;replace H := oE H;obtain ⟨t236, A18, H⟩ := H;replace H : (if t236 < 0 then (some x3_2) else (if x3_2.length < 17592186044416 then (impl_GoodsteinRun.l0 kj6 (x3_2 ++ [t236]) (wrap64 (x4_2 + 1))) else (none))) = some r := H;replace A18 := am A18;by_cases c19 : t236 < 0
           ·
            rw [if_pos c19] at H;have c19b0 : decide (t236 < 0) = true := decide_eq_true c19;clear c19;obtain rfl := Option.some.inj H;obtain ⟨Ao20, co20, eo20⟩ := Kd.R_slice HO_3.out;subst eo20;have p235 : 0 ≤ ((ji15) : Int) := of_decide_eq_true (by assumption);have q235 : (ji15) < (x3_2.length : Int) := of_decide_eq_true (by assumption);obtain ⟨ad235, e235, hx235_0⟩ := Kd.at_int (Kd.R_reads' HO_3.out).2.2 (ji15) p235 q235;cases e235
            replace p235 := eq_true p235;replace q235 := eq_true q235;go_wp2_with (first | ((with_reducible refine gate_callee (f := 21) rfl ?_); refine goesL_ (some 35) rfl rfl Try.func21 (by kernel_rfl) rfl #[.int .i64 (rd x3_2 (ji15)), .int .i64 x4_2] rfl (by (try simp only [List.map_toArray, List.map_cons, List.map_nil]); first | done | (simp only [hji15]; rfl) | rfl | (simp only [List.length_drop, List.length_take]; rfl)) ?_; (with_reducible refine (impl_GoodsteinNext.calls kj6 (rd x3_2 (ji15)) x4_2 t236 _ A18.out).mono ?_); rintro e w21 ⟨rfl, hb⟩; refine ⟨_, rfl, ?_⟩; replace HO_3 := am (Kd.R_below (Kd.rm HO_3.out) hb);replace HB := am (below_step (bm HB.out) hb); (try clear hb)));go_ret;exact ⟨_, by first | rfl | (simp [errW_none, errW_some] <;> rfl) | (simp only [← hji15]; first | rfl | (simp [errW_none, errW_some] <;> rfl)) | (simp [*, errW_none, errW_some] <;> rfl), Kd.rm HO_3.out, bm HB.out⟩
           ·
            rw [if_neg c19] at H;have c19b0 : decide (t236 < 0) = false := decide_eq_false c19;clear c19;by_cases c22 : x3_2.length < 17592186044416
            ·
             rw [if_pos c22] at H;have LMc22 := am c22;clear c22
             obtain ⟨y237, hy237⟩ : ∃ y_ : List Int, y_ = (x3_2 ++ [t236]) := ⟨_, rfl⟩
             replace H : (impl_GoodsteinRun.l0 kj6 y237 (wrap64 (x4_2 + 1))) = some r := by first | (rw [hy237]; with_reducible exact H) | (have H2_ := oB H; rw [hy237]; with_reducible exact H2_) | (have H2_ := oB H; with_reducible exact H2_) | with_reducible exact H | (rw [hy237]; exact H) | exact H
             replace hy237 := am hy237;have H' := am H;clear H;obtain ⟨Ao23, co23, eo23⟩ := Kd.R_slice HO_3.out;subst eo23;have p235 : 0 ≤ ((ji15) : Int) := of_decide_eq_true (by assumption);have q235 : (ji15) < (x3_2.length : Int) := of_decide_eq_true (by assumption);obtain ⟨ad235, e235, hx235_0⟩ := Kd.at_int (Kd.R_reads' HO_3.out).2.2 (ji15) p235 q235;cases e235
             replace p235 := eq_true p235;replace q235 := eq_true q235;go_wp2_with (first | ((with_reducible refine gate_callee (f := 21) rfl ?_); refine goesL_ (some 35) rfl rfl Try.func21 (by kernel_rfl) rfl #[.int .i64 (rd x3_2 (ji15)), .int .i64 x4_2] rfl (by (try simp only [List.map_toArray, List.map_cons, List.map_nil]); first | done | (simp only [hji15]; rfl) | rfl | (simp only [List.length_drop, List.length_take]; rfl)) ?_; (with_reducible refine (impl_GoodsteinNext.calls kj6 (rd x3_2 (ji15)) x4_2 t236 _ A18.out).mono ?_); rintro e w24 ⟨rfl, hb⟩; refine ⟨_, rfl, ?_⟩; replace HO_3 := am (Kd.R_below (Kd.rm HO_3.out) hb);replace HB := am (below_step (bm HB.out) hb); (try clear hb); (try clear hk)) | ((with_reducible refine gate_builtin (b := .append) (xs := #[.tmp 38, .tmp 40]) rfl ?_); (try (refine gate_guard (by rfl) ?_; dsimp only)); at_builtin; refine Kd.R_append (Kd.int .i64) (w0 := w) w.heap.size rfl (.tmp 38) (.tmp 40) 25 3 (.int .i64 0) 8 rfl Try.underlying25 info3 rfl (by decide) (by omega) (.slice (some ad235) x3_2.length co23) x3_2 t236 [.int .i64 t236] (fun _ => True) (fun _ => False) rfl rfl ?aP (fun _ hk => hk.elim) ?aF ?aO ?aB ?aS ?aL ?_; (case aP => exact rfl); (case aB => exact (bm HB.out)); (case aF => exact (fun _ _ => trivial)); (case aO => exact (Kd.rm HO_3.out)); (case aS => exact (below_size (bm HB.out))); (case aL => have := LMc22.out; omega); intro v238 w25 ho hb hg hat; rw [← hy237.out] at ho; replace HB := am (hb);have HO239 := am (ho);clear HO_3; clear ho hb hg hat))
             go_roundg kj6
             case measure => have := HJ1.out; have := HK2.out; have := HJ6.out; omega
             case rel => exact ⟨(y237), (wrap64 (x4_2 + 1)), (by first | rfl | (simp; done) | (simp [*]; done)), H', ⟨by have := HJ1.out; have := HK2.out; have := HJ6.out; omega⟩, ⟨Kd.rm HO239.out⟩, ⟨bm HB.out⟩⟩
            ·
             rw [if_neg c22] at H;exact absurd H (by simp)
          ·
           rw [if_neg c17] at H;exact absurd H (by simp)
         ·
          rw [if_neg c16] at H;exact absurd H (by simp)
        ·
         replace c14 := Bool.eq_false_iff.mpr c14;subst c14
         have H1 : (some x3_2) = some r := by rw [if_neg (show ¬ (false = true) by decide)] at H; exact H
         clear H;have H := H1;clear H1;obtain rfl := Option.some.inj H;go_wp2;go_ret;exact ⟨_, by first | rfl | (simp [errW_none, errW_some] <;> rfl) | (simp [*, errW_none, errW_some] <;> rfl), Kd.rm HO_3.out, bm HB.out⟩

/-! ### impl_GoodsteinEnd: function 9 -/
def impl_GoodsteinEnd.f (k : Nat) (a0 : Int) : Option (Int) := (impl_GoodsteinRun.f k a0).bind fun t240 => (if (t240.length : Int) = 0 then (some (-1)) else (if 0 ≤ (wrap64 ((t240.length : Int) - 1)) then (if (wrap64 ((t240.length : Int) - 1)) < (t240.length : Int) then (if (rd t240 (wrap64 ((t240.length : Int) - 1))) = 0 then (some (t240.length : Int)) else (some (-1))) else (none)) else (none)))
theorem impl_GoodsteinEnd.mono : ∀ a0 k, LeO (impl_GoodsteinEnd.f k a0) (impl_GoodsteinEnd.f (k + 1) a0) := by
 intro a0 k;unfold impl_GoodsteinEnd.f
 repeat' first | (with_reducible exact impl_GoodsteinRun.mono _ _) | (with_reducible exact LeO.refl _) | (with_reducible exact LeO.none _) | (with_reducible refine LeO.ite ?_ ?_) | (with_reducible refine LeO.bind ?_ (fun _ => ?_))
set_option maxHeartbeats 8000000 in
set_option maxRecDepth 100000 in
theorem impl_GoodsteinEnd.calls (k : Nat) (a0 : Int) (r : Int) (w : World) (h : impl_GoodsteinEnd.f k a0 = some r) :
  Calls Try.prog 9 #[.int .i64 a0] w fun e w' => e = .returned (.int .i64 r) ∧ Below w.heap.size w w' := by
 have HB := am (Below.refl w.heap.size w);have H : ((impl_GoodsteinRun.f k a0).bind fun t240 => (if (t240.length : Int) = 0 then (some (-1)) else (if 0 ≤ (wrap64 ((t240.length : Int) - 1)) then (if (wrap64 ((t240.length : Int) - 1)) < (t240.length : Int) then (if (rd t240 (wrap64 ((t240.length : Int) - 1))) = 0 then (some (t240.length : Int)) else (some (-1))) else (none)) else (none)))) = some r := h;clear h;replace H := oE H;obtain ⟨t240, A2, H⟩ := H;replace H : (if (t240.length : Int) = 0 then (some (-1)) else (if 0 ≤ (wrap64 ((t240.length : Int) - 1)) then (if (wrap64 ((t240.length : Int) - 1)) < (t240.length : Int) then (if (rd t240 (wrap64 ((t240.length : Int) - 1))) = 0 then (some (t240.length : Int)) else (some (-1))) else (none)) else (none))) = some r := H;replace A2 := am A2;by_cases c3 : (t240.length : Int) = 0
 ·
  rw [if_pos c3] at H;have c3b0 : ((t240.length : Int) == 0) = true := beq_iff_eq.mpr c3;have c3b1 : ((t240.length : Int) != 0) = false := bne_eq_false_iff_eq.mpr c3;clear c3;obtain rfl := Option.some.inj H;go_enter Try.func9, Try.ntmps9;go_wp2_with (first | ((with_reducible refine gate_callee (f := 11) rfl ?_); refine goesL_ (some 5) rfl rfl Try.func11 (by kernel_rfl) rfl #[.int .i64 a0] rfl (by (try simp only [mA, mB, mC]); first | done | rfl) ?_; (with_reducible refine (impl_GoodsteinRun.calls k a0 t240 _ A2.out).mono ?_); rintro e w4 ⟨v241, rfl, ho0, hb⟩; refine ⟨_, rfl, ?_⟩; have HO242 := am (Kd.R_lower ho0 (below_size (bm HB.out)));replace HB := am (below_step (bm HB.out) hb); (try clear hb); (try clear ho0); obtain ⟨Ao5, co5, eo5⟩ := Kd.R_slice HO242.out; subst eo5));go_ret;exact ⟨by first | rfl | (simp [errW_none, errW_some] <;> rfl) | (simp [*, errW_none, errW_some] <;> rfl), bm HB.out⟩
 ·
  rw [if_neg c3] at H;have c3b0 : ((t240.length : Int) == 0) = false := beq_eq_false_iff_ne.mpr c3;have c3b1 : ((t240.length : Int) != 0) = true := bne_iff_ne.mpr c3
  have c3b2 : ¬ (t240 = []) := fun h_ => c3 (by rw [h_]; rfl)
  obtain ⟨ji6, hji6⟩ : ∃ j_ : Int, (wrap64 ((t240.length : Int) - 1)) = j_ := ⟨_, rfl⟩
  replace H : (if 0 ≤ (ji6) then (if (ji6) < (t240.length : Int) then (if (rd t240 (ji6)) = 0 then (some (t240.length : Int)) else (some (-1))) else (none)) else (none)) = some r := by first | (rw [hji6] at H; exact H) | (simp only [hji6] at H ⊢; exact H)
  (try rw [hji6] at A2);have hji6w : (IntKind.i64.wrap ((t240.length : Int) - 1)) = ji6 := (i64_w _).trans hji6;by_cases c7 : 0 ≤ (ji6)
  ·
   rw [if_pos c7] at H;have c7b0 : decide (0 ≤ (ji6)) = true := decide_eq_true c7;clear c7;by_cases c8 : (ji6) < (t240.length : Int)
   ·
    rw [if_pos c8] at H;have c8b0 : decide ((ji6) < (t240.length : Int)) = true := decide_eq_true c8;clear c8;by_cases c9 : (rd t240 (ji6)) = 0
    ·
     rw [if_pos c9] at H;have c9b0 : ((rd t240 (ji6)) == 0) = true := beq_iff_eq.mpr c9;have c9b1 : ((rd t240 (ji6)) != 0) = false := bne_eq_false_iff_eq.mpr c9;clear c9;obtain rfl := Option.some.inj H;go_enter Try.func9, Try.ntmps9;go_wp2_with (first | ((with_reducible refine gate_callee (f := 11) rfl ?_); refine goesL_ (some 5) rfl rfl Try.func11 (by kernel_rfl) rfl #[.int .i64 a0] rfl (by (try simp only [mA, mB, mC]); first | done | rfl) ?_; (with_reducible refine (impl_GoodsteinRun.calls k a0 t240 _ A2.out).mono ?_); rintro e w10 ⟨v241, rfl, ho0, hb⟩; refine ⟨_, rfl, ?_⟩; have HO242 := am (Kd.R_lower ho0 (below_size (bm HB.out)));replace HB := am (below_step (bm HB.out) hb); (try clear hb); (try clear ho0); obtain ⟨Ao11, co11, eo11⟩ := Kd.R_slice HO242.out; subst eo11; have p243 : 0 ≤ ((ji6) : Int) := of_decide_eq_true (by assumption); have q243 : (ji6) < (t240.length : Int) := of_decide_eq_true (by assumption); obtain ⟨ad243, e243, hx243_0⟩ := Kd.at_int (Kd.R_reads' HO242.out).2.2 (ji6) p243 q243; cases e243; replace p243 := eq_true p243; replace q243 := eq_true q243));go_ret;exact ⟨by first | rfl | (simp [errW_none, errW_some] <;> rfl) | (simp only [← hji6]; first | rfl | (simp [errW_none, errW_some] <;> rfl)) | (simp [*, errW_none, errW_some] <;> rfl), bm HB.out⟩
    ·
     rw [if_neg c9] at H;have c9b0 : ((rd t240 (ji6)) == 0) = false := beq_eq_false_iff_ne.mpr c9;have c9b1 : ((rd t240 (ji6)) != 0) = true := bne_iff_ne.mpr c9;obtain rfl := Option.some.inj H;go_enter Try.func9, Try.ntmps9;go_wp2_with (first | ((with_reducible refine gate_callee (f := 11) rfl ?_); refine goesL_ (some 5) rfl rfl Try.func11 (by kernel_rfl) rfl #[.int .i64 a0] rfl (by (try simp only [mA, mB, mC]); first | done | rfl) ?_; (with_reducible refine (impl_GoodsteinRun.calls k a0 t240 _ A2.out).mono ?_); rintro e w12 ⟨v241, rfl, ho0, hb⟩; refine ⟨_, rfl, ?_⟩; have HO242 := am (Kd.R_lower ho0 (below_size (bm HB.out)));replace HB := am (below_step (bm HB.out) hb); (try clear hb); (try clear ho0); obtain ⟨Ao13, co13, eo13⟩ := Kd.R_slice HO242.out; subst eo13; have p243 : 0 ≤ ((ji6) : Int) := of_decide_eq_true (by assumption); have q243 : (ji6) < (t240.length : Int) := of_decide_eq_true (by assumption); obtain ⟨ad243, e243, hx243_0⟩ := Kd.at_int (Kd.R_reads' HO242.out).2.2 (ji6) p243 q243; cases e243; replace p243 := eq_true p243; replace q243 := eq_true q243));go_ret;exact ⟨by first | rfl | (simp [errW_none, errW_some] <;> rfl) | (simp only [← hji6]; first | rfl | (simp [errW_none, errW_some] <;> rfl)) | (simp [*, errW_none, errW_some] <;> rfl), bm HB.out⟩
   ·
    rw [if_neg c8] at H;exact absurd H (by simp)
  ·
   rw [if_neg c7] at H;exact absurd H (by simp)

/-! ### spec_l1In: function 38 -/
def spec_l1In.f (a0 : Int) (a1 : Int) (a2 : Int) : Option (Bool) := if a0 ≥ a1 then (some (decide (a0 ≤ a2))) else (some false)
set_option maxHeartbeats 8000000 in
set_option maxRecDepth 100000 in
theorem spec_l1In.calls (a0 : Int) (a1 : Int) (a2 : Int) (r : Bool) (w : World) (h : spec_l1In.f a0 a1 a2 = some r) :
  Calls Try.prog 38 #[.int .i64 a0, .int .i64 a1, .int .i64 a2] w fun e w' => e = .returned (.bool r) ∧ Drawn0 w w' := by
 have H : (if a0 ≥ a1 then (some (decide (a0 ≤ a2))) else (some false)) = some r := h;clear h;by_cases c4 : a0 ≥ a1
 ·
  rw [if_pos c4] at H;have c4b0 : decide (a1 ≤ a0) = true := decide_eq_true c4;clear c4;obtain rfl := Option.some.inj H;go_enter Try.func38, Try.ntmps38;go_wp2;go_ret;exact ⟨by first | rfl | (simp; done) | (simp [*]; done), by repeat (first | exact Drawn0.refl _ | apply Drawn0.step)⟩
 ·
  rw [if_neg c4] at H;have c4b0 : decide (a1 ≤ a0) = false := decide_eq_false c4;clear c4;obtain rfl := Option.some.inj H;go_enter Try.func38, Try.ntmps38;go_wp2;go_ret;exact ⟨by first | rfl | (simp; done) | (simp [*]; done), by repeat (first | exact Drawn0.refl _ | apply Drawn0.step)⟩

/-! ### spec_l1Make: function 63 -/
def spec_l1Make.l0 : Nat → List Int → List (List Int) → List Int → Int → Option (List Int)
 | 0, _, _, _, _ => none
 | k + 1, x0, x1, x5, x6 => if x6 < (x0.length : Int) then (if 0 ≤ x6 then (if x5.length < 17592186044416 then ((some (x5 ++ [rd x0 x6] : List Int)).bind fun y248 => (if x6 < (x1.length : Int) then (if y248.length + (rd_L3 x1 x6).length < 17592186044416 then (spec_l1Make.l0 k x0 x1 (y248 ++ (rd_L3 x1 x6)) (wrap64 (x6 + 1))) else (none)) else (none))) else (none)) else (none)) else (some x5)
def spec_l1Make.f (k : Nat) (l0 : List Int) (l1 : List (List Int)) : Option (List Int) := spec_l1Make.l0 k l0 l1 (([(l0.length : Int)] : List Int)) 0
theorem spec_l1Make.mono_l : ∀ k, (∀ y0 y1 y2 y3, LeO (spec_l1Make.l0 k y0 y1 y2 y3) (spec_l1Make.l0 (k + 1) y0 y1 y2 y3))
 | 0 => fun _ _ _ _ r h => by simp [spec_l1Make.l0] at h
 | k + 1 => by
  have ih0 := spec_l1Make.mono_l k
  ·
   intro y0 y1 y2 y3;unfold spec_l1Make.l0
   repeat' first | (with_reducible exact ih0 _ _ _ _) | (with_reducible exact LeO.refl _) | (with_reducible exact LeO.none _) | (with_reducible refine LeO.ite ?_ ?_) | (with_reducible refine LeO.bind ?_ (fun _ => ?_))
theorem spec_l1Make.mono : ∀ a0 a1 k, LeO (spec_l1Make.f k a0 a1) (spec_l1Make.f (k + 1) a0 a1) := by
 intro a0 a1 k;have ih0 := spec_l1Make.mono_l k;unfold spec_l1Make.f
 repeat' first | (with_reducible exact ih0 _ _ _ _) | (with_reducible exact LeO.refl _) | (with_reducible exact LeO.none _) | (with_reducible refine LeO.ite ?_ ?_) | (with_reducible refine LeO.bind ?_ (fun _ => ?_))
def spec_l1Make.T5 : Bool × List (List Nat × List Nat) := (true, [([], []), ([], []), ([], []), ([1, 2], [1, 2]), ([3], [3]), ([4], [4]), ([0, 5], [0, 5]), ([], []), ([], []), ([7, 8], [7, 8]), ([9], [9]), ([6, 10, 6], [6, 10]), ([11, 11, 0, 1, 2, 3, 4, 5, 6, 7, 8, 9, 10, 11], [0, 11])])
def spec_l1Make.B5 : List Nat := [0, 0, 0, 6, 14, 30, 63, 0, 0, 384, 896, 2047, 4095]
theorem spec_l1Make.tab5 : rtab .any (opsOf Try.f63 5) = spec_l1Make.T5 := by kernel_rfl
theorem spec_l1Make.bits5 : waitsOk spec_l1Make.T5.2 spec_l1Make.B5 = true := by kernel_rfl
set_option maxHeartbeats 8000000 in
set_option maxRecDepth 100000 in
theorem spec_l1Make.calls (k : Nat) (A0 : Option Addr) (c0 : Nat) (l0 : List Int) (A1 : Option Addr) (c1 : Nat) (l1 : List (List Int)) (r : List Int) (w : World) (hr0 : Kd.C (Kd.int .i64) w A0 l0.length l0) (hc0 : l0.length ≤ c0) (hr1 : Kd.C (Kd.slice 3 (Kd.int .i64)) w A1 l1.length l1) (hc1 : l1.length ≤ c1) (h : spec_l1Make.f k l0 l1 = some r) :
  Calls Try.prog 63 #[.slice A0 l0.length c0, .slice A1 l1.length c1] w fun e w' => ∃ v0_ : Value, e = .returned (v0_) ∧ Kd.R (Kd.int .i64) 3 w' w.heap.size (fun _ => True) v0_ r ∧ Below w.heap.size w w' := by
 have HR0 := am hr0;have HC0 := am hc0;clear hr0 hc0;have HR1 := am hr1;have HC1 := am hc1;clear hr1 hc1;have HB := am (Below.refl w.heap.size w);have H : (spec_l1Make.l0 k l0 l1 (([(l0.length : Int)] : List Int)) 0) = some r := h;clear h
 obtain ⟨y244, hy244⟩ : ∃ y_ : List Int, y_ = (([(l0.length : Int)] : List Int)) := ⟨_, rfl⟩
 replace H : (spec_l1Make.l0 k l0 l1 y244 0) = some r := by first | (rw [hy244]; with_reducible exact H) | (have H2_ := oB H; rw [hy244]; with_reducible exact H2_) | (have H2_ := oB H; with_reducible exact H2_) | with_reducible exact H | (rw [hy244]; exact H) | exact H
 replace hy244 := am hy244;have H' := am H;clear H;go_enter Try.func63, Try.ntmps63;go_wp2_with (first | ((with_reducible refine gate_dst (N := 9) rfl ?_); refine Kd.R_lit (Kd.int .i64) _ 3 ?hg (N := 9) ?hd (xs := ([(l0.length : Int)] : List Int)) (inner := [.int .i64 (l0.length : Int)]) (ok := fun _ => True) (okp := fun _ => True) ?hr ?hp (fun _ hk => hk) trivial (Below.refl _ _) (Nat.le_refl _) (by simp) ?_; (case hd => rfl); (case hg => rfl); (case hr => first | (go_simp; done) | (go_simp; rfl)); (case hp => exact (Reps.one (show Kd.M (Kd.int .i64) _ _ _ (l0.length : Int) [.int .i64 (l0.length : Int)] from rfl) (Reps.none _ _))); intro v245 w3 ho4 hb hg_ hnew_; clear hg_ hnew_; (first | rw [← hy244.out] at ho4 | (simp only [Int.reduceToNat] at ho4; rw [← hy244.out] at ho4)); have HO246 := am (Kd.R_lower ho4 (below_size (bm HB.out)));replace HB := am (below_step (bm HB.out) hb); clear hb ho4))
 go_loopg [5, 6] k (fun kq v5 v6 w' => ∃ (x5_1 : List Int) (x6_1 : Int), v6 = .int .i64 x6_1 ∧ Aside0 (spec_l1Make.l0 kq l0 l1 x5_1 x6_1 = some r) ∧ Aside0 (kq ≤ k) ∧ Aside0 (Kd.R (Kd.int .i64) 3 w' w.heap.size (fun _ => True) v5 x5_1) ∧ Aside0 (Below w.heap.size w w'))
 case atStart => exact ⟨(y244), (0), (by first | rfl | (simp; done) | (simp [*]; done)), H', ⟨Nat.le_refl _⟩, ⟨Kd.rm HO246.out⟩, ⟨bm HB.out⟩⟩
 case round =>
  clear H';(try clear c1);(try clear p2);(try clear HO_5);(try clear HB);obtain ⟨x5_1, x6_1, rfl, HA, HK1, HO_5, HB⟩ := hrel
  cases gk with
  | zero => exact absurd HA.out (by simp [spec_l1Make.l0])
  | succ k1 =>
   have H := HA.out;clear HA;simp only [spec_l1Make.l0] at H;by_cases c5 : x6_1 < (l0.length : Int)
   ·
    rw [if_pos c5] at H;have c5b0 : decide (x6_1 < (l0.length : Int)) = true := decide_eq_true c5;clear c5;by_cases c6 : 0 ≤ x6_1
    ·
     rw [if_pos c6] at H;have c6b0 : decide (0 ≤ x6_1) = true := decide_eq_true c6;clear c6;by_cases c7 : x5_1.length < 17592186044416
     ·
      rw [if_pos c7] at H;have LMc7 := am c7;clear c7
      obtain ⟨y248, hy248⟩ : ∃ y_ : List Int, y_ = (x5_1 ++ [rd l0 x6_1]) := ⟨_, rfl⟩
      replace H : (if x6_1 < (l1.length : Int) then (if y248.length + (rd_L3 l1 x6_1).length < 17592186044416 then (spec_l1Make.l0 k1 l0 l1 (y248 ++ (rd_L3 l1 x6_1)) (wrap64 (x6_1 + 1))) else (none)) else (none)) = some r := by first | (rw [hy248]; with_reducible exact H) | (have H2_ := oB H; rw [hy248]; with_reducible exact H2_) | (have H2_ := oB H; with_reducible exact H2_) | with_reducible exact H | (rw [hy248]; exact H) | exact H
      replace hy248 := am hy248;by_cases c8 : x6_1 < (l1.length : Int)
      ·
       rw [if_pos c8] at H;have c8b0 : decide (x6_1 < (l1.length : Int)) = true := decide_eq_true c8;clear c8;by_cases c9 : y248.length + (rd_L3 l1 x6_1).length < 17592186044416
       ·
        rw [if_pos c9] at H;have LMc9 := am c9;clear c9
        obtain ⟨y252, hy252⟩ : ∃ y_ : List Int, y_ = (y248 ++ (rd_L3 l1 x6_1)) := ⟨_, rfl⟩
        replace H : (spec_l1Make.l0 k1 l0 l1 y252 (wrap64 (x6_1 + 1))) = some r := by first | (rw [hy252]; with_reducible exact H) | (have H2_ := oB H; rw [hy252]; with_reducible exact H2_) | (have H2_ := oB H; with_reducible exact H2_) | with_reducible exact H | (rw [hy252]; exact H) | exact H
        replace hy252 := am hy252;have H' := am H;clear H;(try go_wp2);replace HO_5 := am (Kd.R_drew HO_5.out);replace HB := am (below_drew1 HB.out);have p247 : 0 ≤ (x6_1 : Int) := of_decide_eq_true (by assumption);have q247 : x6_1 < (l0.length : Int) := of_decide_eq_true (by assumption);obtain ⟨ad247, e247, hx247_0⟩ := Kd.at_int HR0.out x6_1 p247 q247;have hw247_0 := hx247_0;cases e247
        replace hx247_0 := (HB.out.cell (World.block_lt_of_cell? w _ hx247_0)).trans hx247_0;replace p247 := eq_true p247;replace q247 := eq_true q247;have p251 : 0 ≤ (x6_1 : Int) := of_decide_eq_true (by assumption);have q251 : x6_1 < (l1.length : Int) := of_decide_eq_true (by assumption);obtain ⟨ad251, A251_0, c251_0, e251, hx251_0, hl251_0, hi251_0⟩ := at_L3 HR1.out x6_1 p251 q251;have hw251_0 := hx251_0;cases e251
        replace hx251_0 := (HB.out.cell (World.block_lt_of_cell? w _ hx251_0)).trans hx251_0;have HR251_0 := am hi251_0;have HC251_0 := am hl251_0;clear hi251_0 hl251_0;replace p251 := eq_true p251;replace q251 := eq_true q251;refine start_ (n := 13) (S := fun w' => w'.cell? (ad247.add (x6_1).toNat) = some (.int .i64 (rd l0 x6_1)) ∧ w'.cell? (ad251.add (x6_1).toNat) = some (.slice A251_0 (rd_L3 l1 x6_1).length c251_0)) (ds := []) #[false, false, false, false, false, false, false, false, false, false, false, false, false] (by kernel_rfl) rfl rfl ⟨((HB.out.cell (World.block_lt_of_cell? w _ hw247_0)).trans hw247_0), ((HB.out.cell (World.block_lt_of_cell? w _ hw251_0)).trans hw251_0)⟩ (fun hHeld => ?_); refine with_tabW spec_l1Make.tab5 spec_l1Make.bits5 (fun HT_ HW_ => ?_);generalize wr.drew = w10 at HO_5 HB HR251_0 hx247_0 hx251_0 hHeld ⊢;refine pure_ (i := 0) (N := some 16) (v := ?_) (a' := ?_) #[true, false, false, false, false, false, false, false, false, false, false, false, false] rfl rfl (any_of HT_.out (by kernel_rfl)) (fun _ _ _ h => h) (Or.inl ⟨by rfl, ?_⟩) ?_ ?_;rotate_left
        ·
         intro w';go_simp;with_reducible rfl
        rotate_left
        ·
         simp only [Act.put, sA, sB, sC, i64_w, i32_w];rfl
        refine pure_ (i := 1) (N := some 17) (v := ?_) (a' := ?_) #[true, true, false, false, false, false, false, false, false, false, false, false, false] rfl rfl (any_of HT_.out (by kernel_rfl)) (fun _ _ _ h => h) (Or.inl ⟨by rfl, ?_⟩) ?_ ?_;rotate_left
        ·
         intro w';go_simp;with_reducible rfl
        rotate_left
        ·
         simp only [Act.put, sA, sB, sC, i64_w, i32_w];rfl
        refine pure_ (i := 2) (N := some 18) (v := ?_) (a' := ?_) #[true, true, true, false, false, false, false, false, false, false, false, false, false] rfl rfl (any_of HT_.out (by kernel_rfl)) (fun _ _ _ h => h) (Or.inl ⟨by rfl, ?_⟩) ?_ ?_;rotate_left
        ·
         intro w';go_simp;with_reducible rfl
        rotate_left
        ·
         simp only [Act.put, sA, sB, sC, i64_w, i32_w];rfl
        refine pure_ (i := 3) (N := some 19) (v := ?_) (a' := ?_) #[true, true, true, true, false, false, false, false, false, false, false, false, false] rfl rfl (any_of HT_.out (by kernel_rfl)) (fun _ _ _ h => h) (Or.inl ⟨by rfl, ?_⟩) ?_ ?_;rotate_left
        ·
         intro w';go_simp;with_reducible rfl
        rotate_left
        ·
         simp only [Act.put, sA, sB, sC, i64_w, i32_w];rfl
        refine pure_ (i := 7) (N := some 23) (v := ?_) (a' := ?_) #[true, true, true, true, false, false, false, true, false, false, false, false, false] rfl rfl (any_of HT_.out (by kernel_rfl)) (fun _ _ _ h => h) (Or.inl ⟨by rfl, ?_⟩) ?_ ?_;rotate_left
        ·
         intro w';go_simp;with_reducible rfl
        rotate_left
        ·
         simp only [Act.put, sA, sB, sC, i64_w, i32_w];rfl
        refine pure_ (i := 8) (N := some 24) (v := ?_) (a' := ?_) #[true, true, true, true, false, false, false, true, true, false, false, false, false] rfl rfl (any_of HT_.out (by kernel_rfl)) (fun _ _ _ h => h) (Or.inl ⟨by rfl, ?_⟩) ?_ ?_;rotate_left
        ·
         intro w';go_simp;with_reducible rfl
        rotate_left
        ·
         simp only [Act.put, sA, sB, sC, i64_w, i32_w];rfl
        refine pure_ (i := 9) (N := some 25) (v := ?_) (a' := ?_) #[true, true, true, true, false, false, false, true, true, true, false, false, false] rfl rfl (any_of HT_.out (by kernel_rfl)) (fun _ _ _ h => h) (Or.inl ⟨by rfl, ?_⟩) ?_ ?_;rotate_left
        ·
         intro w';go_simp;with_reducible rfl
        rotate_left
        ·
         simp only [Act.put, sA, sB, sC, i64_w, i32_w];rfl
        refine take_ (i := 4) (N := some 20) (v := ?_) (a' := ?_) #[true, true, true, true, true, false, false, true, true, true, false, false, false] rfl rfl (take_ofW HT_.out HW_.out (by kernel_rfl)) (fun _ _ _ h => h) (Or.inl ⟨by rfl, ?_⟩) hHeld ?_ ?_;rotate_left
        ·
         rintro w' ⟨s0, s1⟩
         go_simp;with_reducible rfl
        rotate_left
        ·
         simp only [Act.put, sA, sB, sC, i64_w, i32_w];rfl
        refine take_ (i := 10) (N := some 26) (v := ?_) (a' := ?_) #[true, true, true, true, true, false, false, true, true, true, true, false, false] rfl rfl (take_ofW HT_.out HW_.out (by kernel_rfl)) (fun _ _ _ h => h) (Or.inl ⟨by rfl, ?_⟩) hHeld ?_ ?_;rotate_left
        ·
         rintro w' ⟨s0, s1⟩
         go_simp;with_reducible rfl
        rotate_left
        ·
         simp only [Act.put, sA, sB, sC, i64_w, i32_w];rfl
        refine one_ (i := 5) (N := some 21) #[true, true, true, true, true, true, false, true, true, true, true, false, false] rfl rfl (one_of HT_.out (by kernel_rfl)) (by decide) (fun K hK => ?_);refine value_ (w1 := ?_) (v := ?_) (by rfl) rfl ?_ ?_;rotate_left 2
        ·
         go_simp
         constructor
         ·
          rfl
         ·
          rfl
        refine hK.out _ _ ⟨(World.cell?_alloc_lt _ _ _ (World.block_lt_of_cell? _ _ (((HB.out.cell (World.block_lt_of_cell? w _ hw247_0)).trans hw247_0)))).trans (((HB.out.cell (World.block_lt_of_cell? w _ hw247_0)).trans hw247_0)), (World.cell?_alloc_lt _ _ _ (World.block_lt_of_cell? _ _ (((HB.out.cell (World.block_lt_of_cell? w _ hw251_0)).trans hw251_0)))).trans (((HB.out.cell (World.block_lt_of_cell? w _ hw251_0)).trans hw251_0))⟩ (fun hHeld => ?_);clear hK K;refine norm_ (a' := ?_) ?_ ?_;rotate_left
        ·
         show Act.put _ (some 21) _ = _
         simp only [Act.put, sA, sB, sC, i64_w, i32_w];rfl
        refine one_ (i := 6) (N := some 22) #[true, true, true, true, true, true, true, true, true, true, true, false, false] rfl rfl (one_of HT_.out (by kernel_rfl)) (by decide) (fun K hK => ?_);refine Kd.R_append_step (Kd.int .i64) (w0 := w) w.heap.size (by rfl) (.tmp 16) (.tmp 21) 25 3 (.int .i64 0) 8 rfl Try.underlying25 info3 rfl (by decide) (by omega) u5 x5_1 (rd l0 x6_1) [.int .i64 (rd l0 x6_1)] (fun _ => True) (fun _ => False) rfl rfl ?aP (fun _ hk => hk.elim) ?aF ?aO ?aB ?aS ?aL ?_
        (case aP => exact rfl)
        (case aB => exact (bm HB.out))
        (case aF => exact (fun _ _ => trivial))
        (case aO => exact (Kd.rm HO_5.out))
        (case aS => exact (below_size (bm HB.out)))
        (case aL => have := LMc7.out; omega)
        intro v249 w11 ho hb hg hat;rw [← hy248.out] at ho;replace HB := am (hb);have HO250 := am (ho);clear HO_5;clear ho hb hg hat;refine hK.out _ _ ⟨((HB.out.cell (World.block_lt_of_cell? w _ hw247_0)).trans hw247_0), ((HB.out.cell (World.block_lt_of_cell? w _ hw251_0)).trans hw251_0)⟩ (fun hHeld => ?_);clear hK K;refine norm_ (a' := ?_) ?_ ?_;rotate_left
        ·
         show Act.put _ (some 22) _ = _
         simp only [Act.put, sA, sB, sC, i64_w, i32_w];rfl
        refine one_ (i := 11) (N := some 27) #[true, true, true, true, true, true, true, true, true, true, true, true, false] rfl rfl (one_of HT_.out (by kernel_rfl)) (by decide) (fun K hK => ?_);refine Kd.R_append_rows_step (Kd.int .i64) (w0 := w) w.heap.size (by rfl) (.tmp 22) (.tmp 26) 25 3 (.int .i64 0) 8 rfl Try.underlying25 info3 rfl (by decide) (by omega) v249 y248 (rd_L3 l1 x6_1) _ _ _ (fun _ => True) (fun _ => False) rfl rfl ?aO ?aR (fun _ _ h => h) (fun _ h => h.elim) ?aF ?aB ?aS ?aL ?_
        (case aR => exact Kd.cm ((Kd.C_below HR251_0.out HB.out)))
        (case aB => exact (bm HB.out))
        (case aF => exact (fun _ _ => trivial))
        (case aO => exact (Kd.rm HO250.out))
        (case aS => exact (below_size (bm HB.out)))
        (case aL => have := LMc9.out; omega)
        intro v253 w12 ho hb hg hat;rw [← hy252.out] at ho;replace HB := am (hb);have HO254 := am (ho);clear HO250;clear ho hb hg hat;refine hK.out _ _ ⟨((HB.out.cell (World.block_lt_of_cell? w _ hw247_0)).trans hw247_0), ((HB.out.cell (World.block_lt_of_cell? w _ hw251_0)).trans hw251_0)⟩ (fun hHeld => ?_);clear hK K;refine norm_ (a' := ?_) ?_ ?_;rotate_left
        ·
         show Act.put _ (some 27) _ = _
         simp only [Act.put, sA, sB, sC, i64_w, i32_w];rfl
        refine pure_ (i := 12) (N := some 5) (v := ?_) (a' := ?_) #[true, true, true, true, true, true, true, true, true, true, true, true, true] rfl rfl (any_of HT_.out (by kernel_rfl)) (fun _ _ _ h => h) (Or.inl ⟨by rfl, ?_⟩) ?_ ?_;rotate_left
        ·
         intro w';go_simp;with_reducible rfl
        rotate_left
        ·
         simp only [Act.put, sA, sB, sC, i64_w, i32_w];rfl
        refine done_ (done_of HT_.out (by kernel_rfl)) ?_;(try go_wp2)
        go_roundg k1
        case measure => have := HK1.out; omega
        case rel => exact ⟨(y252), (wrap64 (x6_1 + 1)), (by first | rfl | (simp; done) | (simp [*]; done)), H', ⟨by have := HK1.out; omega⟩, ⟨Kd.rm HO254.out⟩, ⟨bm HB.out⟩⟩
       ·
        rw [if_neg c9] at H;exact absurd H (by simp)
      ·
       rw [if_neg c8] at H;exact absurd H (by simp)
     ·
      rw [if_neg c7] at H;exact absurd H (by simp)
    ·
     rw [if_neg c6] at H;exact absurd H (by simp)
   ·
    rw [if_neg c5] at H;have c5b0 : decide (x6_1 < (l0.length : Int)) = false := decide_eq_false c5;clear c5;obtain rfl := Option.some.inj H;go_wp2;go_ret;exact ⟨_, by first | rfl | (simp [errW_none, errW_some] <;> rfl) | (simp [*, errW_none, errW_some] <;> rfl), Kd.rm HO_5.out, bm HB.out⟩

end Go.Proofs.Ytomidfnhbnhhmaa.Kc

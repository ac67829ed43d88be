-- half
-- Written by a program of this session's (wip/mp) out of the translation, over the kit's print with changes.
import Derived.Test.YtahhdbjjfdjloaaJex0
namespace Go.Proofs.Ytahhdbjjfdjloaa.Je
open Go.RowKit Go.Proofs.YtahhdbjjfdjloaaW.PrintWords Go.Proofs.YtahhdbjjfdjloaaW.PrintLast Go.Proofs.YtahhdbjjfdjloaaW.PrintMore
attribute [local go_sem] max2_int min2_int max_two min_two max_three min_three max_four min_four   -- for this text's walks alone
set_option linter.unusedVariables false
set_option linter.unusedSimpArgs false

/-! ### spec_l1In: function 58 -/
def spec_l1In.f (a0 : Int) (a1 : Int) (a2 : Int) : Option (Bool) := if a0 ≥ a1 then (some (decide (a0 ≤ a2))) else (some false)
set_option maxHeartbeats 8000000 in
set_option maxRecDepth 100000 in
theorem spec_l1In.calls (a0 : Int) (a1 : Int) (a2 : Int) (r : Bool) (w : World) (h : spec_l1In.f a0 a1 a2 = some r) :
  Calls Try.prog 58 #[.int .i64 a0, .int .i64 a1, .int .i64 a2] w fun e w' => e = .returned (.bool r) ∧ Drawn0 w w' := by
 have H : (if a0 ≥ a1 then (some (decide (a0 ≤ a2))) else (some false)) = some r := h;clear h;by_cases c4 : a0 ≥ a1
 ·
  rw [if_pos c4] at H;have c4b0 : decide (a1 ≤ a0) = true := decide_eq_true c4;clear c4;obtain rfl := Option.some.inj H;go_enter Try.func58, Try.ntmps58;go_wp2;go_ret;exact ⟨by first | rfl | (simp; done) | (simp [*]; done), by repeat (first | exact Drawn0.refl _ | apply Drawn0.step)⟩
 ·
  rw [if_neg c4] at H;have c4b0 : decide (a1 ≤ a0) = false := decide_eq_false c4;clear c4;obtain rfl := Option.some.inj H;go_enter Try.func58, Try.ntmps58;go_wp2;go_ret;exact ⟨by first | rfl | (simp; done) | (simp [*]; done), by repeat (first | exact Drawn0.refl _ | apply Drawn0.step)⟩

/-! ### spec_l5End: function 59 -/
mutual
def spec_l5End.j0 : Nat → List Int → Int → Bool → Option (Int)
 | 0, _, _, _ => none
 | k + 1, x0, x1, x18 => if x18 = true then (some (-1)) else (if 0 ≤ x1 then (if x1 < (x0.length : Int) then (spec_l5End.l0 k x0 (wrap64 (x1 + 1)) (rd x0 x1) 0) else (none)) else (none))
def spec_l5End.l0 : Nat → List Int → Int → Int → Int → Option (Int)
 | 0, _, _, _, _ => none
 | k + 1, x0, x1, x5, x6 => if x6 < x5 then (if x1 ≥ 0 then ((spec_l5End.f k x0 x1).bind fun t261 => (spec_l5End.l0 k x0 t261 x5 (wrap64 (x6 + 1)))) else (some x1)) else (some x1)
def spec_l5End.f : Nat → List Int → Int → Option (Int)
 | 0, _, _ => none
 | k + 1, l0, a1 => if a1 ≥ (l0.length : Int) then (spec_l5End.j0 k l0 a1 true) else (if 0 ≤ a1 then (if a1 < (l0.length : Int) then ((spec_l1In.f (rd l0 a1) 0 60).bind fun t259 => (spec_l5End.j0 k l0 a1 (!t259))) else (none)) else (none))
end
theorem spec_l5End.mono_l : ∀ k, (∀ y0 y1, LeO (spec_l5End.f k y0 y1) (spec_l5End.f (k + 1) y0 y1)) ∧ (∀ y0 y1 y2, LeO (spec_l5End.j0 k y0 y1 y2) (spec_l5End.j0 (k + 1) y0 y1 y2)) ∧ (∀ y0 y1 y2 y3, LeO (spec_l5End.l0 k y0 y1 y2 y3) (spec_l5End.l0 (k + 1) y0 y1 y2 y3))
 | 0 => ⟨fun _ _ r h => by simp [spec_l5End.f] at h, fun _ _ _ r h => by simp [spec_l5End.j0] at h, fun _ _ _ _ r h => by simp [spec_l5End.l0] at h⟩
 | k + 1 => by
  obtain ⟨ih0, ih1, ih2⟩ := spec_l5End.mono_l k;refine ⟨?_, ?_, ?_⟩
  all_goals (intros; first | unfold spec_l5End.f | unfold spec_l5End.j0 | unfold spec_l5End.l0)
  all_goals repeat' first | (with_reducible exact ih0 _ _) | (with_reducible exact ih1 _ _ _) | (with_reducible exact ih2 _ _ _ _) | (with_reducible exact LeO.refl _) | (with_reducible exact LeO.none _) | (with_reducible refine LeO.ite ?_ ?_) | (with_reducible refine LeO.bind ?_ (fun _ => ?_))
theorem spec_l5End.mono : ∀ a0 a1 k, LeO (spec_l5End.f k a0 a1) (spec_l5End.f (k + 1) a0 a1) := by
 intro a0 a1 k;obtain ⟨ih0, ih1, ih2⟩ := spec_l5End.mono_l k;exact ih0 a0 a1
set_option maxHeartbeats 8000000 in
set_option maxRecDepth 100000 in
theorem spec_l5End.calls (k : Nat) : ∀ (A0 : Option Addr) (c0 : Nat) (l0 : List Int) (a1 : Int) (r : Int) (w : World) (hr0 : Kd.C (Kd.int .i64) w A0 l0.length l0) (hc0 : l0.length ≤ c0) (h : spec_l5End.f k l0 a1 = some r),
  Calls Try.prog 59 #[.slice A0 l0.length c0, .int .i64 a1] w fun e w' => e = .returned (.int .i64 r) ∧ Drawn0 w w' := by
 induction k using Nat.strongRecOn with
 | _ k ih =>
 intro A0 c0 l0 a1 r w hr0 hc0 h
 cases k with
 | zero => exact absurd h (by simp [spec_l5End.f])
 | succ k =>
 simp only [spec_l5End.f] at h;have HR0 := am hr0;have HC0 := am hc0;clear hr0 hc0;have H : (if a1 ≥ (l0.length : Int) then (spec_l5End.j0 k l0 a1 true) else (if 0 ≤ a1 then (if a1 < (l0.length : Int) then ((spec_l1In.f (rd l0 a1) 0 60).bind fun t259 => (spec_l5End.j0 k l0 a1 (!t259))) else (none)) else (none))) = some r := h;clear h;have HC3 := am H;clear H;go_enter Try.func59, Try.ntmps59
 go_upto_region 1 with (fail)
 go_cut [18] (fun v18 wc => ∃ (kq : Nat) (x18_2 : Bool), v18 = .bool x18_2 ∧ Aside0 (spec_l5End.j0 kq l0 a1 x18_2 = some r) ∧ Aside0 (kq ≤ k) ∧ Drawn0 w wc)
 case first =>
  have H := HC3.out;clear HC3;by_cases c4 : a1 ≥ (l0.length : Int)
  ·
   rw [if_pos c4] at H;have c4b0 : decide ((l0.length : Int) ≤ a1) = true := decide_eq_true c4;clear c4
   (first | rw [c4b0] | (simp only [i64_w, i32_w]; rw [c4b0]) | skip)
   have H' := am H;clear H;go_wp2;go_meet
   case rel => exact ⟨_, (true), (by first | rfl | (simp; done) | (simp [*]; done)), H', ⟨by first | omega | exact Nat.le_refl _⟩, by repeat (first | exact Drawn0.refl _ | apply Drawn0.step)⟩
  ·
   rw [if_neg c4] at H;have c4b0 : decide ((l0.length : Int) ≤ a1) = false := decide_eq_false c4;clear c4
   (first | rw [c4b0] | (simp only [i64_w, i32_w]; rw [c4b0]) | skip)
   by_cases c5 : 0 ≤ a1
   ·
    rw [if_pos c5] at H;have c5b0 : decide (0 ≤ a1) = true := decide_eq_true c5;clear c5;by_cases c6 : a1 < (l0.length : Int)
    ·
     rw [if_pos c6] at H;have c6b0 : decide (a1 < (l0.length : Int)) = true := decide_eq_true c6;clear c6;replace H := oE H;obtain ⟨t259, A7, H⟩ := H;replace H : (spec_l5End.j0 k l0 a1 (!t259)) = some r := H;replace A7 := am A7;have H' := am H;clear H;have p258 : 0 ≤ (a1 : Int) := of_decide_eq_true (by assumption);have q258 : a1 < (l0.length : Int) := of_decide_eq_true (by assumption);obtain ⟨ad258, e258, hx258_0⟩ := Kd.at_int HR0.out a1 p258 q258;cases e258
     replace p258 := eq_true p258;replace q258 := eq_true q258;go_wp2_with (first | (go_at_call 58; (with_reducible refine (spec_l1In.calls (rd l0 a1) 0 60 t259 _ A7.out).mono ?_); rintro e w' ⟨rfl, ⟨nd, rfl⟩⟩));go_meet
     case rel => exact ⟨_, (!t259), (by first | rfl | (simp; done) | (simp [*]; done)), H', ⟨by first | omega | exact Nat.le_refl _⟩, by repeat (first | exact Drawn0.refl _ | apply Drawn0.step)⟩
    ·
     rw [if_neg c6] at H;exact absurd H (by simp)
   ·
    rw [if_neg c5] at H;exact absurd H (by simp)
 case rest =>
  clear HC3;(try clear p2);(try clear q2);(try clear hx2);(try clear c4);(try clear c4b0);(try clear c5);(try clear c5b0);(try clear c6);(try clear c6b0);(try clear hx258_0);(try clear p258);(try clear q258);obtain ⟨kq, x18_2, rfl, HA, HJ2, ⟨mc2, rfl⟩⟩ := hcut
  cases kq with
  | zero => exact absurd HA.out (by simp [spec_l5End.j0])
  | succ kj2 =>
   have H := HA.out;clear HA;simp only [spec_l5End.j0] at H;by_cases c8 : x18_2 = true
   ·
    subst c8
    have H1 : (some (-1)) = some r := by rw [if_pos rfl] at H; exact H
    clear H;have H := H1;clear H1;obtain rfl := Option.some.inj H;go_wp2;go_ret;exact ⟨by first | rfl | (simp; done) | (simp [*]; done), by repeat (first | exact Drawn0.refl _ | apply Drawn0.step)⟩
   ·
    replace c8 := Bool.eq_false_iff.mpr c8;subst c8
    have H1 : (if 0 ≤ a1 then (if a1 < (l0.length : Int) then (spec_l5End.l0 kj2 l0 (wrap64 (a1 + 1)) (rd l0 a1) 0) else (none)) else (none)) = some r := by rw [if_neg (show ¬ (false = true) by decide)] at H; exact H
    clear H;have H := H1;clear H1;by_cases c9 : 0 ≤ a1
    ·
     rw [if_pos c9] at H;have c9b0 : decide (0 ≤ a1) = true := decide_eq_true c9;clear c9;by_cases c10 : a1 < (l0.length : Int)
     ·
      rw [if_pos c10] at H;have c10b0 : decide (a1 < (l0.length : Int)) = true := decide_eq_true c10;clear c10;have H' := am H;clear H;have p260 : 0 ≤ (a1 : Int) := of_decide_eq_true (by assumption);have q260 : a1 < (l0.length : Int) := of_decide_eq_true (by assumption);obtain ⟨ad260, e260, hx260_0⟩ := Kd.at_int HR0.out a1 p260 q260;cases e260
      replace p260 := eq_true p260;replace q260 := eq_true q260;go_wp2
      go_loopg [1, 6] kj2 (fun kq v1 v6 w' => ∃ (x1_2 : Int) (x6_2 : Int), v1 = .int .i64 x1_2 ∧ v6 = .int .i64 x6_2 ∧ Aside0 (spec_l5End.l0 kq l0 x1_2 (rd l0 a1) x6_2 = some r) ∧ Aside0 (kq ≤ kj2) ∧ Drawn0 w w')
      case atStart => exact ⟨(wrap64 (a1 + 1)), (0), (by first | rfl | (simp; done) | (simp [*]; done)), (by first | rfl | (simp; done) | (simp [*]; done)), H', ⟨Nat.le_refl _⟩, by repeat (first | exact Drawn0.refl _ | apply Drawn0.step)⟩
      case round =>
       clear H';(try clear c1);(try clear c2);(try clear p2);(try clear q2);(try clear hx2);(try clear c4);(try clear c4b0);(try clear c5);(try clear c5b0);(try clear c6);(try clear c6b0);(try clear p6);(try clear c8);(try clear c9);(try clear c9b0);(try clear c10);(try clear c10b0);(try clear hx258_0);(try clear hx260_0);(try clear p2);(try clear p258);(try clear p260);(try clear q2);(try clear q258);(try clear q260);obtain ⟨x1_2, x6_2, rfl, rfl, HA, HK2, ⟨m2, rfl⟩⟩ := hrel
       cases gk with
       | zero => exact absurd HA.out (by simp [spec_l5End.l0])
       | succ k2 =>
        have H := HA.out;clear HA;simp only [spec_l5End.l0] at H;by_cases c11 : x6_2 < (rd l0 a1)
        ·
         rw [if_pos c11] at H;have c11b0 : decide (x6_2 < (rd l0 a1)) = true := decide_eq_true c11;clear c11;by_cases c12 : x1_2 ≥ 0
         ·
          rw [if_pos c12] at H;have c12b0 : decide (0 ≤ x1_2) = true := decide_eq_true c12;clear c12;replace H := oE H;obtain ⟨t261, A13, H⟩ := H;replace H : (spec_l5End.l0 k2 l0 t261 (rd l0 a1) (wrap64 (x6_2 + 1))) = some r := H;replace A13 := am A13;have H' := am H;clear H;go_wp2_with (first | ((with_reducible refine gate_callee (f := 59) rfl ?_); refine goesL_ (some 36) rfl rfl Try.func59 (by kernel_rfl) rfl #[.slice (some ad260) l0.length c0, .int .i64 x1_2] rfl (by (try simp only [mA, mB, mC]); first | done | rfl) ?_; (with_reducible refine (ih k2 (by have := HJ2.out; have := HK2.out; omega) _ _ l0 x1_2 t261 _ ?side1 ?side2 A13.out).mono ?_); (case side1 => exact Kd.cm HR0.out); (case side2 => exact HC0.out); rintro e w' ⟨rfl, ⟨nd, rfl⟩⟩; refine ⟨_, rfl, ?_⟩))
          go_roundg k2
          case measure => have := HJ2.out; have := HK2.out; omega
          case rel => exact ⟨(t261), (wrap64 (x6_2 + 1)), (by first | rfl | (simp; done) | (simp [*]; done)), (by first | rfl | (simp; done) | (simp [*]; done)), H', ⟨by have := HJ2.out; have := HK2.out; omega⟩, by repeat (first | exact Drawn0.refl _ | apply Drawn0.step)⟩
         ·
          rw [if_neg c12] at H;have c12b0 : decide (0 ≤ x1_2) = false := decide_eq_false c12;clear c12;obtain rfl := Option.some.inj H;go_wp2;go_ret;exact ⟨by first | rfl | (simp; done) | (simp [*]; done), by repeat (first | exact Drawn0.refl _ | apply Drawn0.step)⟩
        ·
         rw [if_neg c11] at H;have c11b0 : decide (x6_2 < (rd l0 a1)) = false := decide_eq_false c11;clear c11;obtain rfl := Option.some.inj H;go_wp2;go_ret;exact ⟨by first | rfl | (simp; done) | (simp [*]; done), by repeat (first | exact Drawn0.refl _ | apply Drawn0.step)⟩
     ·
      rw [if_neg c10] at H;exact absurd H (by simp)
    ·
     rw [if_neg c9] at H;exact absurd H (by simp)

/-! ### spec_HydraValid: function 33 -/
def spec_HydraValid.f (k : Nat) (l0 : List Int) : Option (Bool) := (spec_l1In.f (l0.length : Int) 1 60).bind fun t262 => (if t262 = true then ((spec_l5End.f k l0 0).bind fun t263 => (some (t263 == (l0.length : Int)))) else (some false))
theorem spec_HydraValid.mono : ∀ a0 k, LeO (spec_HydraValid.f k a0) (spec_HydraValid.f (k + 1) a0) := by
 intro a0 k;unfold spec_HydraValid.f
 repeat' first | (with_reducible exact spec_l5End.mono _ _ _) | (with_reducible exact LeO.refl _) | (with_reducible exact LeO.none _) | (with_reducible refine LeO.ite ?_ ?_) | (with_reducible refine LeO.bind ?_ (fun _ => ?_))
set_option maxHeartbeats 8000000 in
set_option maxRecDepth 100000 in
theorem spec_HydraValid.calls (k : Nat) (A0 : Option Addr) (c0 : Nat) (l0 : List Int) (r : Bool) (w : World) (hr0 : Kd.C (Kd.int .i64) w A0 l0.length l0) (hc0 : l0.length ≤ c0) (h : spec_HydraValid.f k l0 = some r) :
  Calls Try.prog 33 #[.slice A0 l0.length c0] w fun e w' => e = .returned (.bool r) ∧ Drawn0 w w' := by
 have HR0 := am hr0;have HC0 := am hc0;clear hr0 hc0;have H : ((spec_l1In.f (l0.length : Int) 1 60).bind fun t262 => (if t262 = true then ((spec_l5End.f k l0 0).bind fun t263 => (some (t263 == (l0.length : Int)))) else (some false))) = some r := h;clear h;replace H := oE H;obtain ⟨t262, A2, H⟩ := H;replace H : (if t262 = true then ((spec_l5End.f k l0 0).bind fun t263 => (some (t263 == (l0.length : Int)))) else (some false)) = some r := H;replace A2 := am A2;by_cases c3 : t262 = true
 ·
  subst c3
  have H1 : ((spec_l5End.f k l0 0).bind fun t263 => (some (t263 == (l0.length : Int)))) = some r := by rw [if_pos rfl] at H; exact H
  clear H;have H := H1;clear H1;replace H := oE H;obtain ⟨t263, A4, H⟩ := H;replace H : (some (t263 == (l0.length : Int))) = some r := H;replace A4 := am A4;obtain rfl := Option.some.inj H;go_enter Try.func33, Try.ntmps33;go_wp2_with (first | ((with_reducible refine gate_callee (f := 58) rfl ?_); refine goesL_ (some 5) rfl rfl Try.func58 (by kernel_rfl) rfl #[.int .i64 (l0.length : Int), .int .i64 1, .int .i64 60] rfl (by (try simp only [mA, mB, mC]); first | done | rfl) ?_; (with_reducible refine (spec_l1In.calls (l0.length : Int) 1 60 true _ A2.out).mono ?_); rintro e w' ⟨rfl, ⟨nd, rfl⟩⟩; refine ⟨_, rfl, ?_⟩) | (go_at_call 59; (with_reducible refine (spec_l5End.calls k _ _ l0 0 t263 _ ?side1 ?side2 A4.out).mono ?_); (case side1 => exact Kd.cm HR0.out); (case side2 => exact HC0.out); rintro e w' ⟨rfl, ⟨nd, rfl⟩⟩));go_ret;exact ⟨by first | rfl | (simp; done) | (simp [*]; done), by repeat (first | exact Drawn0.refl _ | apply Drawn0.step)⟩
 ·
  replace c3 := Bool.eq_false_iff.mpr c3;subst c3
  have H1 : (some false) = some r := by rw [if_neg (show ¬ (false = true) by decide)] at H; exact H
  clear H;have H := H1;clear H1;obtain rfl := Option.some.inj H;go_enter Try.func33, Try.ntmps33;go_wp2_with (first | ((with_reducible refine gate_callee (f := 58) rfl ?_); refine goesL_ (some 5) rfl rfl Try.func58 (by kernel_rfl) rfl #[.int .i64 (l0.length : Int), .int .i64 1, .int .i64 60] rfl (by (try simp only [mA, mB, mC]); first | done | rfl) ?_; (with_reducible refine (spec_l1In.calls (l0.length : Int) 1 60 false _ A2.out).mono ?_); rintro e w' ⟨rfl, ⟨nd, rfl⟩⟩; refine ⟨_, rfl, ?_⟩));go_ret;exact ⟨by first | rfl | (simp; done) | (simp [*]; done), by repeat (first | exact Drawn0.refl _ | apply Drawn0.step)⟩

/-! ### spec_l1Same: function 56 -/
mutual
def spec_l1Same.l0 : Nat → List Int → List Int → Int → Option (Bool)
 | 0, _, _, _ => none
 | k + 1, x0, x1, x5 => if x5 < (x0.length : Int) then (spec_l1Same.j1 k x0 x1 x5 (decide (x5 < (x1.length : Int)))) else (spec_l1Same.j1 k x0 x1 x5 false)
def spec_l1Same.j1 : Nat → List Int → List Int → Int → Bool → Option (Bool)
 | 0, _, _, _, _ => none
 | k + 1, x0, x1, x5, x15 => if x15 = true then (if 0 ≤ x5 then (if x5 < (x0.length : Int) then (if x5 < (x1.length : Int) then (if (rd x0 x5) = (rd x1 x5) then (spec_l1Same.l0 k x0 x1 (wrap64 (x5 + 1))) else (some false)) else (none)) else (none)) else (none)) else (some ((x0.length : Int) == (x1.length : Int)))
end
def spec_l1Same.f (k : Nat) (l0 : List Int) (l1 : List Int) : Option (Bool) := spec_l1Same.l0 k l0 l1 0
theorem spec_l1Same.mono_l : ∀ k, (∀ y0 y1 y2, LeO (spec_l1Same.l0 k y0 y1 y2) (spec_l1Same.l0 (k + 1) y0 y1 y2)) ∧ (∀ y0 y1 y2 y3, LeO (spec_l1Same.j1 k y0 y1 y2 y3) (spec_l1Same.j1 (k + 1) y0 y1 y2 y3))
 | 0 => ⟨fun _ _ _ r h => by simp [spec_l1Same.l0] at h, fun _ _ _ _ r h => by simp [spec_l1Same.j1] at h⟩
 | k + 1 => by
  obtain ⟨ih0, ih1⟩ := spec_l1Same.mono_l k;refine ⟨?_, ?_⟩
  all_goals (intros; first | unfold spec_l1Same.l0 | unfold spec_l1Same.j1)
  all_goals repeat' first | (with_reducible exact ih0 _ _ _) | (with_reducible exact ih1 _ _ _ _) | (with_reducible exact LeO.refl _) | (with_reducible exact LeO.none _) | (with_reducible refine LeO.ite ?_ ?_) | (with_reducible refine LeO.bind ?_ (fun _ => ?_))
theorem spec_l1Same.mono : ∀ a0 a1 k, LeO (spec_l1Same.f k a0 a1) (spec_l1Same.f (k + 1) a0 a1) := by
 intro a0 a1 k;obtain ⟨ih0, ih1⟩ := spec_l1Same.mono_l k;unfold spec_l1Same.f
 repeat' first | (with_reducible exact ih0 _ _ _) | (with_reducible exact ih1 _ _ _ _) | (with_reducible exact LeO.refl _) | (with_reducible exact LeO.none _) | (with_reducible refine LeO.ite ?_ ?_) | (with_reducible refine LeO.bind ?_ (fun _ => ?_))
set_option maxHeartbeats 8000000 in
set_option maxRecDepth 100000 in
theorem spec_l1Same.calls (k : Nat) (A0 : Option Addr) (c0 : Nat) (l0 : List Int) (A1 : Option Addr) (c1 : Nat) (l1 : List Int) (r : Bool) (w : World) (hr0 : Kd.C (Kd.int .i64) w A0 l0.length l0) (hc0 : l0.length ≤ c0) (hr1 : Kd.C (Kd.int .i64) w A1 l1.length l1) (hc1 : l1.length ≤ c1) (h : spec_l1Same.f k l0 l1 = some r) :
  Calls Try.prog 56 #[.slice A0 l0.length c0, .slice A1 l1.length c1] w fun e w' => e = .returned (.bool r) ∧ Drawn0 w w' := by
 have HR0 := am hr0;have HC0 := am hc0;clear hr0 hc0;have HR1 := am hr1;have HC1 := am hc1;clear hr1 hc1;have H : (spec_l1Same.l0 k l0 l1 0) = some r := h;clear h;have H' := am H;clear H;go_enter Try.func56, Try.ntmps56;go_wp2
 repeat (go_quiet (fail); try go_wp2)
 go_loopg [5] k (fun kq v5 w' => ∃ (x5_1 : Int), v5 = .int .i64 x5_1 ∧ Aside0 (spec_l1Same.l0 kq l0 l1 x5_1 = some r) ∧ Aside0 (kq ≤ k) ∧ Drawn0 w w')
 case atStart => exact ⟨(0), (by first | rfl | (simp; done) | (simp [*]; done)), H', ⟨Nat.le_refl _⟩, by repeat (first | exact Drawn0.refl _ | apply Drawn0.step)⟩
 case round =>
  clear H';(try clear c1);(try clear p2);obtain ⟨x5_1, rfl, HA, HK1, ⟨m1, rfl⟩⟩ := hrel
  cases gk with
  | zero => exact absurd HA.out (by simp [spec_l1Same.l0])
  | succ k1 =>
   have H := HA.out;clear HA;simp only [spec_l1Same.l0] at H;have HC3 := am H;clear H
   go_upto_region 2 with (fail)
   repeat (go_quiet (fail); go_upto_region 2 with (fail))
   go_cut [15] (fun v15 wc => ∃ (kq : Nat) (x15_2 : Bool), v15 = .bool x15_2 ∧ Aside0 (spec_l1Same.j1 kq l0 l1 x5_1 x15_2 = some r) ∧ Aside0 (kq ≤ k1) ∧ Drawn0 w wc)
   case first =>
    have H := HC3.out;clear HC3;by_cases c4 : x5_1 < (l0.length : Int)
    ·
     rw [if_pos c4] at H;have c4b0 : decide (x5_1 < (l0.length : Int)) = true := decide_eq_true c4;clear c4
     (first | rw [c4b0] | (simp only [i64_w, i32_w]; rw [c4b0]) | skip)
     have H' := am H;clear H;go_wp2
     repeat (go_quiet (fail); try go_wp2)
     go_meet
     case rel => exact ⟨_, (decide (x5_1 < (l1.length : Int))), (by first | rfl | (simp; done) | (simp [*]; done)), H', ⟨by have := HK1.out; first | omega | exact Nat.le_refl _⟩, by repeat (first | exact Drawn0.refl _ | apply Drawn0.step)⟩
    ·
     rw [if_neg c4] at H;have c4b0 : decide (x5_1 < (l0.length : Int)) = false := decide_eq_false c4;clear c4
     (first | rw [c4b0] | (simp only [i64_w, i32_w]; rw [c4b0]) | skip)
     have H' := am H;clear H;go_wp2
     repeat (go_quiet (fail); try go_wp2)
     go_meet
     case rel => exact ⟨_, (false), (by first | rfl | (simp; done) | (simp [*]; done)), H', ⟨by have := HK1.out; first | omega | exact Nat.le_refl _⟩, by repeat (first | exact Drawn0.refl _ | apply Drawn0.step)⟩
   case rest =>
    clear HC3;(try clear c1);(try clear p2);(try clear c4);(try clear c4b0);(try clear p2);obtain ⟨kq, x15_2, rfl, HA, HJ2, ⟨mc2, rfl⟩⟩ := hcut
    cases kq with
    | zero => exact absurd HA.out (by simp [spec_l1Same.j1])
    | succ kj2 =>
     have H := HA.out;clear HA;simp only [spec_l1Same.j1] at H;by_cases c5 : x15_2 = true
     ·
      subst c5
      have H1 : (if 0 ≤ x5_1 then (if x5_1 < (l0.length : Int) then (if x5_1 < (l1.length : Int) then (if (rd l0 x5_1) = (rd l1 x5_1) then (spec_l1Same.l0 kj2 l0 l1 (wrap64 (x5_1 + 1))) else (some false)) else (none)) else (none)) else (none)) = some r := by rw [if_pos rfl] at H; exact H
      clear H;have H := H1;clear H1;by_cases c6 : 0 ≤ x5_1
      ·
       rw [if_pos c6] at H;have c6b0 : decide (0 ≤ x5_1) = true := decide_eq_true c6;clear c6;by_cases c7 : x5_1 < (l0.length : Int)
       ·
        rw [if_pos c7] at H;have c7b0 : decide (x5_1 < (l0.length : Int)) = true := decide_eq_true c7;clear c7;by_cases c8 : x5_1 < (l1.length : Int)
        ·
         rw [if_pos c8] at H;have c8b0 : decide (x5_1 < (l1.length : Int)) = true := decide_eq_true c8;clear c8;by_cases c9 : (rd l0 x5_1) = (rd l1 x5_1)
         ·
          rw [if_pos c9] at H;have c9b0 : ((rd l0 x5_1) == (rd l1 x5_1)) = true := beq_iff_eq.mpr c9;have c9b1 : ((rd l0 x5_1) != (rd l1 x5_1)) = false := bne_eq_false_iff_eq.mpr c9;clear c9;have H' := am H;clear H;have p264 : 0 ≤ (x5_1 : Int) := of_decide_eq_true (by assumption);have q264 : x5_1 < (l0.length : Int) := of_decide_eq_true (by assumption);obtain ⟨ad264, e264, hx264_0⟩ := Kd.at_int HR0.out x5_1 p264 q264;cases e264
          replace p264 := eq_true p264;replace q264 := eq_true q264;have p265 : 0 ≤ (x5_1 : Int) := of_decide_eq_true (by assumption);have q265 : x5_1 < (l1.length : Int) := of_decide_eq_true (by assumption);obtain ⟨ad265, e265, hx265_0⟩ := Kd.at_int HR1.out x5_1 p265 q265;cases e265
          replace p265 := eq_true p265;replace q265 := eq_true q265;go_wp2
          repeat (go_quiet (fail); try go_wp2)
          go_roundg kj2
          case measure => have := HK1.out; have := HJ2.out; omega
          case rel => exact ⟨(wrap64 (x5_1 + 1)), (by first | rfl | (simp; done) | (simp [*]; done)), H', ⟨by have := HK1.out; have := HJ2.out; omega⟩, by repeat (first | exact Drawn0.refl _ | apply Drawn0.step)⟩
         ·
          rw [if_neg c9] at H;have c9b0 : ((rd l0 x5_1) == (rd l1 x5_1)) = false := beq_eq_false_iff_ne.mpr c9;have c9b1 : ((rd l0 x5_1) != (rd l1 x5_1)) = true := bne_iff_ne.mpr c9;obtain rfl := Option.some.inj H;have p264 : 0 ≤ (x5_1 : Int) := of_decide_eq_true (by assumption);have q264 : x5_1 < (l0.length : Int) := of_decide_eq_true (by assumption);obtain ⟨ad264, e264, hx264_0⟩ := Kd.at_int HR0.out x5_1 p264 q264;cases e264
          replace p264 := eq_true p264;replace q264 := eq_true q264;have p265 : 0 ≤ (x5_1 : Int) := of_decide_eq_true (by assumption);have q265 : x5_1 < (l1.length : Int) := of_decide_eq_true (by assumption);obtain ⟨ad265, e265, hx265_0⟩ := Kd.at_int HR1.out x5_1 p265 q265;cases e265
          replace p265 := eq_true p265;replace q265 := eq_true q265;go_wp2
          repeat (go_quiet (fail); try go_wp2)
          go_ret;exact ⟨by first | rfl | (simp; done) | (simp [*]; done), by repeat (first | exact Drawn0.refl _ | apply Drawn0.step)⟩
        ·
         rw [if_neg c8] at H;exact absurd H (by simp)
       ·
        rw [if_neg c7] at H;exact absurd H (by simp)
      ·
       rw [if_neg c6] at H;exact absurd H (by simp)
     ·
      replace c5 := Bool.eq_false_iff.mpr c5;subst c5
      have H1 : (some ((l0.length : Int) == (l1.length : Int))) = some r := by rw [if_neg (show ¬ (false = true) by decide)] at H; exact H
      clear H;have H := H1;clear H1;obtain rfl := Option.some.inj H;go_wp2
      repeat (go_quiet (fail); try go_wp2)
      go_ret;exact ⟨by first | rfl | (simp; done) | (simp [*]; done), by repeat (first | exact Drawn0.refl _ | apply Drawn0.step)⟩

/-! ### spec_l5Branches: function 61 -/
def spec_l5Branches.l0 : Nat → List Int → List (List Int) → Int → Option ((List (List Int)))
 | 0, _, _, _ => none
 | k + 1, x0, x3, x4 => if x4 < (x0.length : Int) then ((spec_l5End.f k x0 x4).bind fun t269 => (if 0 ≤ x4 then (if x4 ≤ t269 then (if t269 ≤ (x0.length : Int) then (if x3.length < 5864062014805 then (spec_l5Branches.l0 k x0 (x3 ++ [((x0.take (t269 : Int).toNat).drop (x4 : Int).toNat)]) t269) else (none)) else (none)) else (none)) else (none))) else (some x3)
def spec_l5Branches.f (k : Nat) (l0 : List Int) : Option ((List (List Int))) := spec_l5Branches.l0 k l0 (([] : List (List Int))) 1
theorem spec_l5Branches.mono_l : ∀ k, (∀ y0 y1 y2, LeO (spec_l5Branches.l0 k y0 y1 y2) (spec_l5Branches.l0 (k + 1) y0 y1 y2))
 | 0 => fun _ _ _ r h => by simp [spec_l5Branches.l0] at h
 | k + 1 => by
  have ih0 := spec_l5Branches.mono_l k
  ·
   intro y0 y1 y2;unfold spec_l5Branches.l0
   repeat' first | (with_reducible exact ih0 _ _ _) | (with_reducible exact spec_l5End.mono _ _ _) | (with_reducible exact LeO.refl _) | (with_reducible exact LeO.none _) | (with_reducible refine LeO.ite ?_ ?_) | (with_reducible refine LeO.bind ?_ (fun _ => ?_))
theorem spec_l5Branches.mono : ∀ a0 k, LeO (spec_l5Branches.f k a0) (spec_l5Branches.f (k + 1) a0) := by
 intro a0 k;have ih0 := spec_l5Branches.mono_l k;unfold spec_l5Branches.f
 repeat' first | (with_reducible exact ih0 _ _ _) | (with_reducible exact spec_l5End.mono _ _ _) | (with_reducible exact LeO.refl _) | (with_reducible exact LeO.none _) | (with_reducible refine LeO.ite ?_ ?_) | (with_reducible refine LeO.bind ?_ (fun _ => ?_))
set_option maxHeartbeats 8000000 in
set_option maxRecDepth 100000 in
theorem spec_l5Branches.calls (k : Nat) (P0_ : Nat → Prop) (A0 : Option Addr) (c0 : Nat) (l0 : List Int) (r : List (List Int)) (w : World) (hs0 : Kd.V (Kd.int .i64) 3 w w.heap.size (fun k_ => P0_ k_) (.slice A0 l0.length c0) l0) (h : spec_l5Branches.f k l0 = some r) :
  Calls Try.prog 61 #[.slice A0 l0.length c0] w fun e w' => ∃ v0_ : Value, e = .returned (v0_) ∧ Kd.N (Kd.slice 3 (Kd.int .i64)) 22 w' w.heap.size (fun k_ => (P0_ k_ ∨ w.heap.size ≤ k_)) v0_ r ∧ Below w.heap.size w w' := by
 have HO0 := am (show Kd.V (Kd.int .i64) 3 w w.heap.size (fun k_ => (P0_ k_ ∨ w.heap.size ≤ k_)) (.slice A0 l0.length c0) l0 from Kd.V_mono hs0 (fun k_ hk => .inl hk));have HB := am (Below.refl w.heap.size w);have H : (spec_l5Branches.l0 k l0 (([] : List (List Int))) 1) = some r := h;clear h
 obtain ⟨y266, hy266⟩ : ∃ y_ : List (List Int), y_ = (([] : List (List Int))) := ⟨_, rfl⟩
 replace H : (spec_l5Branches.l0 k l0 y266 1) = some r := by first | (rw [hy266]; with_reducible exact H) | (have H2_ := oB H; rw [hy266]; with_reducible exact H2_) | (have H2_ := oB H; with_reducible exact H2_) | with_reducible exact H | (rw [hy266]; exact H) | exact H
 replace hy266 := am hy266;have H' := am H;clear H;go_enter Try.func61, Try.ntmps61;go_wp2_with (first | ((with_reducible refine gate_dst (N := 6) rfl ?_); refine Kd.N_lit (Kd.slice 3 (Kd.int .i64)) _ 22 ?hg (N' := 6) ?hd (xs := ([] : List (List Int))) (inner := []) (ok := (fun k_ => (P0_ k_ ∨ w.heap.size ≤ k_))) (okp := (fun k_ => (P0_ k_ ∨ w.heap.size ≤ k_))) ?hr ?hp (fun _ hk => hk) ((show ∀ k_, w.heap.size ≤ k_ → (fun k_ => (P0_ k_ ∨ w.heap.size ≤ k_)) k_ from fun k_ hk => (.inr (Nat.le_trans (below_size (bm HB.out)) hk))) _ (Nat.le_refl _)) (Below.refl _ _) (Nat.le_refl _) (by simp) ?_; (case hd => rfl); (case hg => rfl); (case hr => first | (go_simp; done) | (go_simp; rfl)); (case hp => exact (Reps.none _ _)); intro v267 w2 ho3 hb hg_ hnew_; clear hg_ hnew_; (first | rw [← hy266.out] at ho3 | (simp only [Int.reduceToNat] at ho3; rw [← hy266.out] at ho3)); replace HO0 := am (Kd.V_elder' (Kd.vm HO0.out) (Kd.N_base ho3) hb);have HO268 := am (Kd.N_lower ho3 (below_size (bm HB.out)));replace HB := am (below_step (bm HB.out) hb); clear hb ho3))
 go_loopg [3, 4] k (fun kq v3 v4 w' => ∃ (x3_1 : List (List Int)) (x4_1 : Int), v4 = .int .i64 x4_1 ∧ Aside0 (spec_l5Branches.l0 kq l0 x3_1 x4_1 = some r) ∧ Aside0 (kq ≤ k) ∧ Aside0 (Kd.V (Kd.int .i64) 3 w' w.heap.size (fun k_ => (P0_ k_ ∨ w.heap.size ≤ k_) ∧ some k_ ≠ (v3 : Value).ownBlock) (.slice A0 l0.length c0) l0) ∧ Aside0 (Kd.N (Kd.slice 3 (Kd.int .i64)) 22 w' w.heap.size (fun k_ => (P0_ k_ ∨ w.heap.size ≤ k_)) v3 x3_1) ∧ Aside0 (Below w.heap.size w w'))
 case atStart => exact ⟨(y266), (1), (by first | rfl | (simp; done) | (simp [*]; done)), H', ⟨Nat.le_refl _⟩, ⟨Kd.vm HO0.out⟩, ⟨Kd.nm HO268.out⟩, ⟨bm HB.out⟩⟩
 case round =>
  clear H';(try clear p2);(try clear HO_0);(try clear HO_3);(try clear HB);obtain ⟨x3_1, x4_1, rfl, HA, HK1, HO_0, HO_3, HB⟩ := hrel
  cases gk with
  | zero => exact absurd HA.out (by simp [spec_l5Branches.l0])
  | succ k1 =>
   have H := HA.out;clear HA;simp only [spec_l5Branches.l0] at H;by_cases c4 : x4_1 < (l0.length : Int)
   ·
    rw [if_pos c4] at H;have c4b0 : decide (x4_1 < (l0.length : Int)) = true := decide_eq_true c4;clear c4;replace H := oE H;obtain ⟨t269, A5, H⟩ := H;replace H : (if 0 ≤ x4_1 then (if x4_1 ≤ t269 then (if t269 ≤ (l0.length : Int) then (if x3_1.length < 5864062014805 then (spec_l5Branches.l0 k1 l0 (x3_1 ++ [((l0.take (t269 : Int).toNat).drop (x4_1 : Int).toNat)]) t269) else (none)) else (none)) else (none)) else (none)) = some r := H;replace A5 := am A5;by_cases c6 : 0 ≤ x4_1
    ·
     rw [if_pos c6] at H;have c6b0 := eq_true c6;have c6b1 : decide (0 ≤ x4_1) = true := decide_eq_true c6;clear c6;by_cases c7 : x4_1 ≤ t269
     ·
      rw [if_pos c7] at H;have c7b0 := eq_true c7;have c7b1 : decide (x4_1 ≤ t269) = true := decide_eq_true c7;clear c7;by_cases c8 : t269 ≤ (l0.length : Int)
      ·
       rw [if_pos c8] at H;have c8b0 := eq_true c8;have c8b1 : decide (t269 ≤ (l0.length : Int)) = true := decide_eq_true c8;clear c8
       obtain ⟨y270, hy270⟩ : ∃ y_ : List Int, y_ = ((l0.take (t269 : Int).toNat).drop (x4_1 : Int).toNat) := ⟨_, rfl⟩
       replace H : (if x3_1.length < 5864062014805 then (spec_l5Branches.l0 k1 l0 (x3_1 ++ [y270]) t269) else (none)) = some r := by first | (rw [hy270]; with_reducible exact H) | (have H2_ := oB H; rw [hy270]; with_reducible exact H2_) | (have H2_ := oB H; with_reducible exact H2_) | with_reducible exact H | (rw [hy270]; exact H) | exact H
       replace hy270 := am hy270;by_cases c9 : x3_1.length < 5864062014805
       ·
        rw [if_pos c9] at H;have LMc9 := am c9;clear c9
        obtain ⟨y275, hy275⟩ : ∃ y_ : List (List Int), y_ = (x3_1 ++ [y270]) := ⟨_, rfl⟩
        replace H : (spec_l5Branches.l0 k1 l0 y275 t269) = some r := by first | (rw [hy275]; with_reducible exact H) | (have H2_ := oB H; rw [hy275]; with_reducible exact H2_) | (have H2_ := oB H; with_reducible exact H2_) | with_reducible exact H | (rw [hy275]; exact H) | exact H
        replace hy275 := am hy275;have H' := am H;clear H;go_wp2_with (first | ((with_reducible refine gate_callee (f := 59) rfl ?_); refine goesL_ (some 13) rfl rfl Try.func59 (by kernel_rfl) rfl #[.slice A0 l0.length c0, .int .i64 x4_1] rfl (by (try simp only [mA, mB, mC]); first | done | rfl) ?_; (with_reducible refine (spec_l5End.calls k1 _ _ l0 x4_1 t269 _ ?side1 ?side2 A5.out).mono ?_); (case side1 => exact Kd.cm ((Kd.V_reads' HO_0.out).2.2)); (case side2 => exact (Kd.V_reads' HO_0.out).2.1); rintro e w' ⟨rfl, ⟨nd, rfl⟩⟩; refine ⟨_, rfl, ?_⟩; have q10 : (t269 : Int) ≤ ((l0.length : Int) : Int) := of_decide_eq_true (by assumption); obtain ⟨i010, hi010, _, hsz10, _⟩ := info_parts info3; have hroom10 : l0.length ≤ c0 := (Kd.V_reads' HO_0.out).2.1; have hC10 : Kd.F (Kd.int .i64) _ _ A0 l0.length l0 := (Kd.V_at (base := w.heap.size) HO_0.out).2.2; have ql10 : (x4_1 : Int) ≤ (t269 : Int) := of_decide_eq_true (by assumption); have q010 : (0 : Int) ≤ (x4_1 : Int) := of_decide_eq_true (by assumption); have hcut10 := cut_mid (P := Try.prog) 22 3 .i64 .i64 Try.underlying22 hi010 1 hsz10 A0 l0.length c0 x4_1 t269 q010 ql10 q10 hroom10; have hr10 := Kd.F_mid (lo := (x4_1 : Int).toNat) (hi := (t269 : Int).toNat) (c := c0) hC10 (by omega) (by omega) hroom10; obtain ⟨A10, hA10⟩ : ∃ A1, A1 = (if c0 = (x4_1 : Int).toNat then A0 else (A0 : Option Addr).map (·.add ((x4_1 : Int).toNat * 1))) := ⟨_, rfl⟩; obtain ⟨c10, hc10⟩ : ∃ c1, c1 = c0 - (x4_1 : Int).toNat := ⟨_, rfl⟩; have hy10 : y270.length = (t269 : Int).toNat - (x4_1 : Int).toNat := (by rw [hy270.out, List.length_drop, List.length_take] <;> omega); rw [show ((l0).take (t269 : Int).toNat).drop (x4_1 : Int).toNat = y270 from hy270.out.symm] at hr10; replace hr10 : Kd.F (Kd.int .i64) _ _ A10 y270.length y270 := (by rw [hA10]; exact hr10); rw [← hy10, ← hA10, ← hc10] at hcut10; have HO274 := am (show Kd.V (Kd.int .i64) 3 _ w.heap.size _ (.slice A10 y270.length c10) y270 from Kd.V_mk (by rw [hy10, hc10]; exact Nat.sub_le_sub_right (Nat.le_trans (by omega) hroom10) _) hr10); have HC274 := am (show y270.length ≤ c10 from by rw [hy10, hc10]; exact Nat.sub_le_sub_right (Nat.le_trans (by omega) hroom10) _); clear hr10 hC10 hroom10 hi010 hsz10 hc10; have KY10 := am hy10; have KA10 := am hA10; clear hy10 hA10; replace q10 := eq_true q10) | ((with_reducible refine gate_builtin (b := .append) (xs := #[.tmp 14, .tmp 19]) rfl ?_); at_builtin; refine Kd.N_append (Kd.slice 3 (Kd.int .i64)) (w0 := w) w.heap.size rfl (.tmp 14) (.tmp 19) 64 22 (.slice none 0 0) 24 rfl Try.underlying64 info22 rfl (by decide) (by omega) u3 x3_1 y270 [.slice A10 y270.length c10] (fun k_ => (P0_ k_ ∨ w.heap.size ≤ k_)) (fun k_ => ((fun k_ => (P0_ k_ ∨ w.heap.size ≤ k_))) k_ ∧ some k_ ≠ (u3 : Value).ownBlock) rfl rfl ?aP (fun _ hk => hk) ?aF ?aO ?aB ?aS ?aL ?_; (case aP => first | exact (Kd.FK_slice_mk (Kd.V_reads' (Kd.V_mono (ok' := (fun k_ => ((fun k_ => (P0_ k_ ∨ w.heap.size ≤ k_))) k_ ∧ some k_ ≠ (u3 : Value).ownBlock)) (HO274.out) (fun k_ hk => ⟨hk.1, hk.2⟩))).2.1 (Kd.V_F (Kd.V_mono (ok' := (fun k_ => ((fun k_ => (P0_ k_ ∨ w.heap.size ≤ k_))) k_ ∧ some k_ ≠ (u3 : Value).ownBlock)) (HO274.out) (fun k_ hk => ⟨hk.1, hk.2⟩)))) | exact (Kd.FK_slice_mk (Kd.V_reads' (Kd.V_mono (ok' := (fun k_ => ((fun k_ => (P0_ k_ ∨ w.heap.size ≤ k_))) k_ ∧ some k_ ≠ (u3 : Value).ownBlock)) (HO274.out) (fun k_ hk => ⟨hk.1, hk.2⟩))).2.1 (Kd.V_F (Kd.V_mono (ok' := (fun k_ => ((fun k_ => (P0_ k_ ∨ w.heap.size ≤ k_))) k_ ∧ some k_ ≠ (u3 : Value).ownBlock)) (Kd.V_drewN HO274.out _) (fun k_ hk => ⟨hk.1, hk.2⟩))))); (case aB => exact (bm HB.out)); (case aF => exact (fun k_ hk => (.inr (Nat.le_trans (below_size (bm HB.out)) hk)))); (case aO => exact (Kd.nm HO_3.out)); (case aS => exact (below_size (bm HB.out))); (case aL => have := LMc9.out; omega); intro v276 w11 ho hb hg hat; rw [← hy275.out] at ho; replace HO_0 := am (Kd.V_afterv (ok := (fun k_ => (P0_ k_ ∨ w.heap.size ≤ k_))) (Kd.vm HO_0.out) hg hat);replace HO274 := am (Kd.V_afterv (ok := (fun k_ => (P0_ k_ ∨ w.heap.size ≤ k_))) (Kd.vm HO274.out) hg hat);replace HB := am (hb);have HO277 := am (ho);clear HO_3; clear ho hb hg hat))
        go_roundg k1
        case measure => have := HK1.out; omega
        case rel => exact ⟨(y275), (t269), (by first | rfl | (simp; done) | (simp [*]; done)), H', ⟨by have := HK1.out; omega⟩, ⟨Kd.vm HO_0.out⟩, ⟨Kd.nm HO277.out⟩, ⟨bm HB.out⟩⟩
       ·
        rw [if_neg c9] at H;exact absurd H (by simp)
      ·
       rw [if_neg c8] at H;exact absurd H (by simp)
     ·
      rw [if_neg c7] at H;exact absurd H (by simp)
    ·
     rw [if_neg c6] at H;exact absurd H (by simp)
   ·
    rw [if_neg c4] at H;have c4b0 : decide (x4_1 < (l0.length : Int)) = false := decide_eq_false c4;clear c4;obtain rfl := Option.some.inj H;go_wp2;go_ret;exact ⟨_, by first | rfl | (simp [errW_none, errW_some] <;> rfl) | (simp [*, errW_none, errW_some] <;> rfl), Kd.nm HO_3.out, bm HB.out⟩

/-! ### spec_l1Span: function 88 -/
mutual
def spec_l1Span.l0 : Nat → List Int → Int → Int → Int → Option (Int)
 | 0, _, _, _, _ => none
 | k + 1, x0, x1, x5, x6 => if x6 < x5 then ((spec_l1Span.f k x0 (wrap64 (x1 + 1))).bind fun t279 => (spec_l1Span.l0 k x0 t279 x5 (wrap64 (x6 + 1)))) else (some x1)
def spec_l1Span.f : Nat → List Int → Int → Option (Int)
 | 0, _, _ => none
 | k + 1, l0, a1 => if 0 ≤ a1 then (if a1 < (l0.length : Int) then (spec_l1Span.l0 k l0 (wrap64 (a1 + 1)) (rd l0 a1) 0) else (none)) else (none)
end
theorem spec_l1Span.mono_l : ∀ k, (∀ y0 y1, LeO (spec_l1Span.f k y0 y1) (spec_l1Span.f (k + 1) y0 y1)) ∧ (∀ y0 y1 y2 y3, LeO (spec_l1Span.l0 k y0 y1 y2 y3) (spec_l1Span.l0 (k + 1) y0 y1 y2 y3))
 | 0 => ⟨fun _ _ r h => by simp [spec_l1Span.f] at h, fun _ _ _ _ r h => by simp [spec_l1Span.l0] at h⟩
 | k + 1 => by
  obtain ⟨ih0, ih1⟩ := spec_l1Span.mono_l k;refine ⟨?_, ?_⟩
  all_goals (intros; first | unfold spec_l1Span.f | unfold spec_l1Span.l0)
  all_goals repeat' first | (with_reducible exact ih0 _ _) | (with_reducible exact ih1 _ _ _ _) | (with_reducible exact LeO.refl _) | (with_reducible exact LeO.none _) | (with_reducible refine LeO.ite ?_ ?_) | (with_reducible refine LeO.bind ?_ (fun _ => ?_))
theorem spec_l1Span.mono : ∀ a0 a1 k, LeO (spec_l1Span.f k a0 a1) (spec_l1Span.f (k + 1) a0 a1) := by
 intro a0 a1 k;obtain ⟨ih0, ih1⟩ := spec_l1Span.mono_l k;exact ih0 a0 a1
set_option maxHeartbeats 8000000 in
set_option maxRecDepth 100000 in
theorem spec_l1Span.calls (k : Nat) : ∀ (A0 : Option Addr) (c0 : Nat) (l0 : List Int) (a1 : Int) (r : Int) (w : World) (hr0 : Kd.C (Kd.int .i64) w A0 l0.length l0) (hc0 : l0.length ≤ c0) (h : spec_l1Span.f k l0 a1 = some r),
  Calls Try.prog 88 #[.slice A0 l0.length c0, .int .i64 a1] w fun e w' => e = .returned (.int .i64 r) ∧ Drawn0 w w' := by
 induction k using Nat.strongRecOn with
 | _ k ih =>
 intro A0 c0 l0 a1 r w hr0 hc0 h
 cases k with
 | zero => exact absurd h (by simp [spec_l1Span.f])
 | succ k =>
 simp only [spec_l1Span.f] at h;have HR0 := am hr0;have HC0 := am hc0;clear hr0 hc0;have H : (if 0 ≤ a1 then (if a1 < (l0.length : Int) then (spec_l1Span.l0 k l0 (wrap64 (a1 + 1)) (rd l0 a1) 0) else (none)) else (none)) = some r := h;clear h;by_cases c3 : 0 ≤ a1
 ·
  rw [if_pos c3] at H;have c3b0 : decide (0 ≤ a1) = true := decide_eq_true c3;clear c3;by_cases c4 : a1 < (l0.length : Int)
  ·
   rw [if_pos c4] at H;have c4b0 : decide (a1 < (l0.length : Int)) = true := decide_eq_true c4;clear c4;have H' := am H;clear H;have p278 : 0 ≤ (a1 : Int) := of_decide_eq_true (by assumption);have q278 : a1 < (l0.length : Int) := of_decide_eq_true (by assumption);obtain ⟨ad278, e278, hx278_0⟩ := Kd.at_int HR0.out a1 p278 q278;cases e278
   replace p278 := eq_true p278;replace q278 := eq_true q278;go_enter Try.func88, Try.ntmps88;go_wp2
   go_loopg [1, 6] k (fun kq v1 v6 w' => ∃ (x1_1 : Int) (x6_1 : Int), v1 = .int .i64 x1_1 ∧ v6 = .int .i64 x6_1 ∧ Aside0 (spec_l1Span.l0 kq l0 x1_1 (rd l0 a1) x6_1 = some r) ∧ Aside0 (kq ≤ k) ∧ Drawn0 w w')
   case atStart => exact ⟨(wrap64 (a1 + 1)), (0), (by first | rfl | (simp; done) | (simp [*]; done)), (by first | rfl | (simp; done) | (simp [*]; done)), H', ⟨Nat.le_refl _⟩, by repeat (first | exact Drawn0.refl _ | apply Drawn0.step)⟩
   case round =>
    clear H';(try clear p2);(try clear q2);(try clear hx2);(try clear c3);(try clear c3b0);(try clear c4);(try clear c4b0);(try clear hx278_0);(try clear p278);(try clear q278);obtain ⟨x1_1, x6_1, rfl, rfl, HA, HK1, ⟨m1, rfl⟩⟩ := hrel
    cases gk with
    | zero => exact absurd HA.out (by simp [spec_l1Span.l0])
    | succ k1 =>
     have H := HA.out;clear HA;simp only [spec_l1Span.l0] at H;by_cases c5 : x6_1 < (rd l0 a1)
     ·
      rw [if_pos c5] at H;have c5b0 : decide (x6_1 < (rd l0 a1)) = true := decide_eq_true c5;clear c5;replace H := oE H;obtain ⟨t279, A6, H⟩ := H;replace H : (spec_l1Span.l0 k1 l0 t279 (rd l0 a1) (wrap64 (x6_1 + 1))) = some r := H;replace A6 := am A6;have H' := am H;clear H;go_wp2_with (first | ((with_reducible refine gate_callee (f := 88) rfl ?_); refine goesL_ (some 21) rfl rfl Try.func88 (by kernel_rfl) rfl #[.slice (some ad278) l0.length c0, .int .i64 (wrap64 (x1_1 + 1))] rfl (by (try simp only [mA, mB, mC]); first | done | rfl) ?_; (with_reducible refine (ih k1 (by have := HK1.out; omega) _ _ l0 (wrap64 (x1_1 + 1)) t279 _ ?side1 ?side2 A6.out).mono ?_); (case side1 => exact Kd.cm HR0.out); (case side2 => exact HC0.out); rintro e w' ⟨rfl, ⟨nd, rfl⟩⟩; refine ⟨_, rfl, ?_⟩))
      go_roundg k1
      case measure => have := HK1.out; omega
      case rel => exact ⟨(t279), (wrap64 (x6_1 + 1)), (by first | rfl | (simp; done) | (simp [*]; done)), (by first | rfl | (simp; done) | (simp [*]; done)), H', ⟨by have := HK1.out; omega⟩, by repeat (first | exact Drawn0.refl _ | apply Drawn0.step)⟩
     ·
      rw [if_neg c5] at H;have c5b0 : decide (x6_1 < (rd l0 a1)) = false := decide_eq_false c5;clear c5;obtain rfl := Option.some.inj H;go_wp2;go_ret;exact ⟨by first | rfl | (simp; done) | (simp [*]; done), by repeat (first | exact Drawn0.refl _ | apply Drawn0.step)⟩
  ·
   rw [if_neg c4] at H;exact absurd H (by simp)
 ·
  rw [if_neg c3] at H;exact absurd H (by simp)

end Go.Proofs.Ytahhdbjjfdjloaa.Je

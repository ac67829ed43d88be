-- half
-- Written by a program of this session's (wip/mp) out of the translation, over the kit's print with changes.
import Derived.Test.YtmidgjmlgjjobaaIgx0
namespace Go.Proofs.Ytmidgjmlgjjobaa.Ig
open Go.RowKit Go.Proofs.YtmidgjmlgjjobaaW.PrintWords Go.Proofs.YtmidgjmlgjjobaaW.PrintLast Go.Proofs.YtmidgjmlgjjobaaW.PrintMore
attribute [local go_sem] max2_int min2_int max_two min_two max_three min_three max_four min_four   -- for this text's walks alone
set_option linter.unusedVariables false
set_option linter.unusedSimpArgs false

/-! ### spec_l1In: function 30 -/
def spec_l1In.f (a0 : Int) (a1 : Int) (a2 : Int) : Option (Bool) := if a0 ≥ a1 then (some (decide (a0 ≤ a2))) else (some false)
set_option maxHeartbeats 8000000 in
set_option maxRecDepth 100000 in
theorem spec_l1In.calls (a0 : Int) (a1 : Int) (a2 : Int) (r : Bool) (w : World) (h : spec_l1In.f a0 a1 a2 = some r) :
  Calls Try.prog 30 #[.int .i64 a0, .int .i64 a1, .int .i64 a2] w fun e w' => e = .returned (.bool r) ∧ Drawn0 w w' := by
 have H : (if a0 ≥ a1 then (some (decide (a0 ≤ a2))) else (some false)) = some r := h;clear h;by_cases c4 : a0 ≥ a1
 ·
  rw [if_pos c4] at H;have c4b0 : decide (a1 ≤ a0) = true := decide_eq_true c4;clear c4;obtain rfl := Option.some.inj H;go_enter Try.func30, Try.ntmps30;go_wp2;go_ret;exact ⟨by first | rfl | (simp; done) | (simp [*]; done), by repeat (first | exact Drawn0.refl _ | apply Drawn0.step)⟩
 ·
  rw [if_neg c4] at H;have c4b0 : decide (a1 ≤ a0) = false := decide_eq_false c4;clear c4;obtain rfl := Option.some.inj H;go_enter Try.func30, Try.ntmps30;go_wp2;go_ret;exact ⟨by first | rfl | (simp; done) | (simp [*]; done), by repeat (first | exact Drawn0.refl _ | apply Drawn0.step)⟩

/-! ### spec_l5End: function 47 -/
mutual
def spec_l5End.j0 : Nat → List Int → Int → Bool → Option (Int)
 | 0, _, _, _ => none
 | k + 1, x0, x1, x18 => if x18 = true then (some (-1)) else (if 0 ≤ x1 then (if x1 < (x0.length : Int) then (spec_l5End.l0 k x0 (wrap64 (x1 + 1)) (rd x0 x1) 0) else (none)) else (none))
def spec_l5End.l0 : Nat → List Int → Int → Int → Int → Option (Int)
 | 0, _, _, _, _ => none
 | k + 1, x0, x1, x5, x6 => if x6 < x5 then (if x1 ≥ 0 then ((spec_l5End.f k x0 x1).bind fun t104 => (spec_l5End.l0 k x0 t104 x5 (wrap64 (x6 + 1)))) else (some x1)) else (some x1)
def spec_l5End.f : Nat → List Int → Int → Option (Int)
 | 0, _, _ => none
 | k + 1, l0, a1 => if a1 ≥ (l0.length : Int) then (spec_l5End.j0 k l0 a1 true) else (if 0 ≤ a1 then (if a1 < (l0.length : Int) then ((spec_l1In.f (rd l0 a1) 0 60).bind fun t102 => (spec_l5End.j0 k l0 a1 (!t102))) else (none)) else (none))
end
theorem spec_l5End.mono_l : ∀ k, (∀ y0 y1, LeO (spec_l5End.f k y0 y1) (spec_l5End.f (k + 1) y0 y1)) ∧ (∀ y0 y1 y2, LeO (spec_l5End.j0 k y0 y1 y2) (spec_l5End.j0 (k + 1) y0 y1 y2)) ∧ (∀ y0 y1 y2 y3, LeO (spec_l5End.l0 k y0 y1 y2 y3) (spec_l5End.l0 (k + 1) y0 y1 y2 y3))
 | 0 => ⟨fun _ _ r h => by simp [spec_l5End.f] at h, fun _ _ _ r h => by simp [spec_l5End.j0] at h, fun _ _ _ _ r h => by simp [spec_l5End.l0] at h⟩
 | k + 1 => by
  obtain ⟨ih0, ih1, ih2⟩ := spec_l5End.mono_l k;refine ⟨?_, ?_, ?_⟩
  all_goals (intros; first | unfold spec_l5End.f | unfold spec_l5End.j0 | unfold spec_l5End.l0)
  all_goals repeat' first | (with_reducible exact ih0 _ _) | (with_reducible exact ih1 _ _ _) | (with_reducible exact ih2 _ _ _ _) | (with_reducible exact LeO.refl _) | (with_reducible exact LeO.none _) | (with_reducible refine LeO.ite ?_ ?_) | (with_reducible refine LeO.bind ?_ (fun _ => ?_))
theorem spec_l5End.mono : ∀ a0 a1 k, LeO (spec_l5End.f k a0 a1) (spec_l5End.f (k + 1) a0 a1) := by
 intro a0 a1 k;obtain ⟨ih0, ih1, ih2⟩ := spec_l5End.mono_l k;exact ih0 a0 a1
set_option maxHeartbeats 8000000 in
set_option maxRecDepth 100000 in
theorem spec_l5End.calls (k : Nat) : ∀ (A0 : Option Addr) (c0 : Nat) (l0 : List Int) (a1 : Int) (r : Int) (w : World) (hr0 : Kd.C (Kd.int .i64) w A0 l0.length l0) (hc0 : l0.length ≤ c0) (h : spec_l5End.f k l0 a1 = some r),
  Calls Try.prog 47 #[.slice A0 l0.length c0, .int .i64 a1] w fun e w' => e = .returned (.int .i64 r) ∧ Drawn0 w w' := by
 induction k using Nat.strongRecOn with
 | _ k ih =>
 intro A0 c0 l0 a1 r w hr0 hc0 h
 cases k with
 | zero => exact absurd h (by simp [spec_l5End.f])
 | succ k =>
 simp only [spec_l5End.f] at h;have HR0 := am hr0;have HC0 := am hc0;clear hr0 hc0;have H : (if a1 ≥ (l0.length : Int) then (spec_l5End.j0 k l0 a1 true) else (if 0 ≤ a1 then (if a1 < (l0.length : Int) then ((spec_l1In.f (rd l0 a1) 0 60).bind fun t102 => (spec_l5End.j0 k l0 a1 (!t102))) else (none)) else (none))) = some r := h;clear h;have HC3 := am H;clear H;go_enter Try.func47, Try.ntmps47
 go_upto_region 1 with (fail)
 go_cut [18] (fun v18 wc => ∃ (kq : Nat) (x18_2 : Bool), v18 = .bool x18_2 ∧ Aside0 (spec_l5End.j0 kq l0 a1 x18_2 = some r) ∧ Aside0 (kq ≤ k) ∧ Drawn0 w wc)
 case first =>
  have H := HC3.out;clear HC3;by_cases c4 : a1 ≥ (l0.length : Int)
  ·
   rw [if_pos c4] at H;have c4b0 : decide ((l0.length : Int) ≤ a1) = true := decide_eq_true c4;clear c4
   (first | rw [c4b0] | (simp only [i64_w, i32_w]; rw [c4b0]) | skip)
   have H' := am H;clear H;go_wp2;go_meet
   case rel => exact ⟨_, (true), (by first | rfl | (simp; done) | (simp [*]; done)), H', ⟨by first | omega | exact Nat.le_refl _⟩, by repeat (first | exact Drawn0.refl _ | apply Drawn0.step)⟩
  ·
   rw [if_neg c4] at H;have c4b0 : decide ((l0.length : Int) ≤ a1) = false := decide_eq_false c4;clear c4
   (first | rw [c4b0] | (simp only [i64_w, i32_w]; rw [c4b0]) | skip)
   by_cases c5 : 0 ≤ a1
   ·
    rw [if_pos c5] at H;have c5b0 : decide (0 ≤ a1) = true := decide_eq_true c5;clear c5;by_cases c6 : a1 < (l0.length : Int)
    ·
     rw [if_pos c6] at H;have c6b0 : decide (a1 < (l0.length : Int)) = true := decide_eq_true c6;clear c6;replace H := oE H;obtain ⟨t102, A7, H⟩ := H;replace H : (spec_l5End.j0 k l0 a1 (!t102)) = some r := H;replace A7 := am A7;have H' := am H;clear H;have p101 : 0 ≤ (a1 : Int) := of_decide_eq_true (by assumption);have q101 : a1 < (l0.length : Int) := of_decide_eq_true (by assumption);obtain ⟨ad101, e101, hx101_0⟩ := Kd.at_int HR0.out a1 p101 q101;cases e101
     replace p101 := eq_true p101;replace q101 := eq_true q101;go_wp2_with (first | (go_at_call 30; (with_reducible refine (spec_l1In.calls (rd l0 a1) 0 60 t102 _ A7.out).mono ?_); rintro e w' ⟨rfl, ⟨nd, rfl⟩⟩));go_meet
     case rel => exact ⟨_, (!t102), (by first | rfl | (simp; done) | (simp [*]; done)), H', ⟨by first | omega | exact Nat.le_refl _⟩, by repeat (first | exact Drawn0.refl _ | apply Drawn0.step)⟩
    ·
     rw [if_neg c6] at H;exact absurd H (by simp)
   ·
    rw [if_neg c5] at H;exact absurd H (by simp)
 case rest =>
  clear HC3;(try clear p1);(try clear q1);(try clear hx1);(try clear p2);(try clear c4);(try clear c4b0);(try clear c5);(try clear c5b0);(try clear c6);(try clear c6b0);(try clear hx101_0);(try clear p101);(try clear q101);obtain ⟨kq, x18_2, rfl, HA, HJ2, ⟨mc2, rfl⟩⟩ := hcut
  cases kq with
  | zero => exact absurd HA.out (by simp [spec_l5End.j0])
  | succ kj2 =>
   have H := HA.out;clear HA;simp only [spec_l5End.j0] at H;by_cases c8 : x18_2 = true
   ·
    subst c8
    have H1 : (some (-1)) = some r := by rw [if_pos rfl] at H; exact H
    clear H;have H := H1;clear H1;obtain rfl := Option.some.inj H;go_wp2;go_ret;exact ⟨by first | rfl | (simp; done) | (simp [*]; done), by repeat (first | exact Drawn0.refl _ | apply Drawn0.step)⟩
   ·
    replace c8 := Bool.eq_false_iff.mpr c8;subst c8
    have H1 : (if 0 ≤ a1 then (if a1 < (l0.length : Int) then (spec_l5End.l0 kj2 l0 (wrap64 (a1 + 1)) (rd l0 a1) 0) else (none)) else (none)) = some r := by rw [if_neg (show ¬ (false = true) by decide)] at H; exact H
    clear H;have H := H1;clear H1;by_cases c9 : 0 ≤ a1
    ·
     rw [if_pos c9] at H;have c9b0 : decide (0 ≤ a1) = true := decide_eq_true c9;clear c9;by_cases c10 : a1 < (l0.length : Int)
     ·
      rw [if_pos c10] at H;have c10b0 : decide (a1 < (l0.length : Int)) = true := decide_eq_true c10;clear c10;have H' := am H;clear H;have p103 : 0 ≤ (a1 : Int) := of_decide_eq_true (by assumption);have q103 : a1 < (l0.length : Int) := of_decide_eq_true (by assumption);obtain ⟨ad103, e103, hx103_0⟩ := Kd.at_int HR0.out a1 p103 q103;cases e103
      replace p103 := eq_true p103;replace q103 := eq_true q103;go_wp2
      go_loopg [1, 6] kj2 (fun kq v1 v6 w' => ∃ (x1_2 : Int) (x6_2 : Int), v1 = .int .i64 x1_2 ∧ v6 = .int .i64 x6_2 ∧ Aside0 (spec_l5End.l0 kq l0 x1_2 (rd l0 a1) x6_2 = some r) ∧ Aside0 (kq ≤ kj2) ∧ Drawn0 w w')
      case atStart => exact ⟨(wrap64 (a1 + 1)), (0), (by first | rfl | (simp; done) | (simp [*]; done)), (by first | rfl | (simp; done) | (simp [*]; done)), H', ⟨Nat.le_refl _⟩, by repeat (first | exact Drawn0.refl _ | apply Drawn0.step)⟩
      case round =>
       clear H';(try clear c1);(try clear p1);(try clear q1);(try clear hx1);(try clear c2);(try clear p2);(try clear c4);(try clear c4b0);(try clear c5);(try clear c5b0);(try clear c6);(try clear c6b0);(try clear p6);(try clear c8);(try clear c9);(try clear c9b0);(try clear c10);(try clear c10b0);(try clear p10);(try clear q10);(try clear hx10);(try clear hx101_0);(try clear hx103_0);(try clear p1);(try clear p101);(try clear p103);(try clear p2);(try clear q1);(try clear q101);(try clear q103);obtain ⟨x1_2, x6_2, rfl, rfl, HA, HK2, ⟨m2, rfl⟩⟩ := hrel
       cases gk with
       | zero => exact absurd HA.out (by simp [spec_l5End.l0])
       | succ k2 =>
        have H := HA.out;clear HA;simp only [spec_l5End.l0] at H;by_cases c11 : x6_2 < (rd l0 a1)
        ·
         rw [if_pos c11] at H;have c11b0 : decide (x6_2 < (rd l0 a1)) = true := decide_eq_true c11;clear c11;by_cases c12 : x1_2 ≥ 0
         ·
          rw [if_pos c12] at H;have c12b0 : decide (0 ≤ x1_2) = true := decide_eq_true c12;clear c12;replace H := oE H;obtain ⟨t104, A13, H⟩ := H;replace H : (spec_l5End.l0 k2 l0 t104 (rd l0 a1) (wrap64 (x6_2 + 1))) = some r := H;replace A13 := am A13;have H' := am H;clear H;go_wp2_with (first | ((with_reducible refine gate_callee (f := 47) rfl ?_); refine goesL_ (some 36) rfl rfl Try.func47 (by kernel_rfl) rfl #[.slice (some ad103) l0.length c0, .int .i64 x1_2] rfl (by (try simp only [mA, mB, mC]); first | done | rfl) ?_; (with_reducible refine (ih k2 (by have := HJ2.out; have := HK2.out; omega) _ _ l0 x1_2 t104 _ ?side1 ?side2 A13.out).mono ?_); (case side1 => exact Kd.cm HR0.out); (case side2 => exact HC0.out); rintro e w' ⟨rfl, ⟨nd, rfl⟩⟩; refine ⟨_, rfl, ?_⟩))
          go_roundg k2
          case measure => have := HJ2.out; have := HK2.out; omega
          case rel => exact ⟨(t104), (wrap64 (x6_2 + 1)), (by first | rfl | (simp; done) | (simp [*]; done)), (by first | rfl | (simp; done) | (simp [*]; done)), H', ⟨by have := HJ2.out; have := HK2.out; omega⟩, by repeat (first | exact Drawn0.refl _ | apply Drawn0.step)⟩
         ·
          rw [if_neg c12] at H;have c12b0 : decide (0 ≤ x1_2) = false := decide_eq_false c12;clear c12;obtain rfl := Option.some.inj H;go_wp2;go_ret;exact ⟨by first | rfl | (simp; done) | (simp [*]; done), by repeat (first | exact Drawn0.refl _ | apply Drawn0.step)⟩
        ·
         rw [if_neg c11] at H;have c11b0 : decide (x6_2 < (rd l0 a1)) = false := decide_eq_false c11;clear c11;obtain rfl := Option.some.inj H;go_wp2;go_ret;exact ⟨by first | rfl | (simp; done) | (simp [*]; done), by repeat (first | exact Drawn0.refl _ | apply Drawn0.step)⟩
     ·
      rw [if_neg c10] at H;exact absurd H (by simp)
    ·
     rw [if_neg c9] at H;exact absurd H (by simp)

/-! ### spec_HydraValid: function 27 -/
def spec_HydraValid.f (k : Nat) (l0 : List Int) : Option (Bool) := (spec_l1In.f (l0.length : Int) 1 60).bind fun t105 => (if t105 = true then ((spec_l5End.f k l0 0).bind fun t106 => (some (t106 == (l0.length : Int)))) else (some false))
theorem spec_HydraValid.mono : ∀ a0 k, LeO (spec_HydraValid.f k a0) (spec_HydraValid.f (k + 1) a0) := by
 intro a0 k;unfold spec_HydraValid.f
 repeat' first | (with_reducible exact spec_l5End.mono _ _ _) | (with_reducible exact LeO.refl _) | (with_reducible exact LeO.none _) | (with_reducible refine LeO.ite ?_ ?_) | (with_reducible refine LeO.bind ?_ (fun _ => ?_))
set_option maxHeartbeats 8000000 in
set_option maxRecDepth 100000 in
theorem spec_HydraValid.calls (k : Nat) (A0 : Option Addr) (c0 : Nat) (l0 : List Int) (r : Bool) (w : World) (hr0 : Kd.C (Kd.int .i64) w A0 l0.length l0) (hc0 : l0.length ≤ c0) (h : spec_HydraValid.f k l0 = some r) :
  Calls Try.prog 27 #[.slice A0 l0.length c0] w fun e w' => e = .returned (.bool r) ∧ Drawn0 w w' := by
 have HR0 := am hr0;have HC0 := am hc0;clear hr0 hc0;have H : ((spec_l1In.f (l0.length : Int) 1 60).bind fun t105 => (if t105 = true then ((spec_l5End.f k l0 0).bind fun t106 => (some (t106 == (l0.length : Int)))) else (some false))) = some r := h;clear h;replace H := oE H;obtain ⟨t105, A2, H⟩ := H;replace H : (if t105 = true then ((spec_l5End.f k l0 0).bind fun t106 => (some (t106 == (l0.length : Int)))) else (some false)) = some r := H;replace A2 := am A2;by_cases c3 : t105 = true
 ·
  subst c3
  have H1 : ((spec_l5End.f k l0 0).bind fun t106 => (some (t106 == (l0.length : Int)))) = some r := by rw [if_pos rfl] at H; exact H
  clear H;have H := H1;clear H1;replace H := oE H;obtain ⟨t106, A4, H⟩ := H;replace H : (some (t106 == (l0.length : Int))) = some r := H;replace A4 := am A4;obtain rfl := Option.some.inj H;go_enter Try.func27, Try.ntmps27;go_wp2_with (first | ((with_reducible refine gate_callee (f := 30) rfl ?_); refine goesL_ (some 5) rfl rfl Try.func30 (by kernel_rfl) rfl #[.int .i64 (l0.length : Int), .int .i64 1, .int .i64 60] rfl (by (try simp only [mA, mB, mC]); first | done | rfl) ?_; (with_reducible refine (spec_l1In.calls (l0.length : Int) 1 60 true _ A2.out).mono ?_); rintro e w' ⟨rfl, ⟨nd, rfl⟩⟩; refine ⟨_, rfl, ?_⟩) | (go_at_call 47; (with_reducible refine (spec_l5End.calls k _ _ l0 0 t106 _ ?side1 ?side2 A4.out).mono ?_); (case side1 => exact Kd.cm HR0.out); (case side2 => exact HC0.out); rintro e w' ⟨rfl, ⟨nd, rfl⟩⟩));go_ret;exact ⟨by first | rfl | (simp; done) | (simp [*]; done), by repeat (first | exact Drawn0.refl _ | apply Drawn0.step)⟩
 ·
  replace c3 := Bool.eq_false_iff.mpr c3;subst c3
  have H1 : (some false) = some r := by rw [if_neg (show ¬ (false = true) by decide)] at H; exact H
  clear H;have H := H1;clear H1;obtain rfl := Option.some.inj H;go_enter Try.func27, Try.ntmps27;go_wp2_with (first | ((with_reducible refine gate_callee (f := 30) rfl ?_); refine goesL_ (some 5) rfl rfl Try.func30 (by kernel_rfl) rfl #[.int .i64 (l0.length : Int), .int .i64 1, .int .i64 60] rfl (by (try simp only [mA, mB, mC]); first | done | rfl) ?_; (with_reducible refine (spec_l1In.calls (l0.length : Int) 1 60 false _ A2.out).mono ?_); rintro e w' ⟨rfl, ⟨nd, rfl⟩⟩; refine ⟨_, rfl, ?_⟩));go_ret;exact ⟨by first | rfl | (simp; done) | (simp [*]; done), by repeat (first | exact Drawn0.refl _ | apply Drawn0.step)⟩

/-! ### spec_HydraHeads: function 31 -/
def spec_HydraHeads.l0 : Nat → List Int → Int → Int → Option (Int)
 | 0, _, _, _ => none
 | k + 1, x0, x3, x4 => if x4 < (x0.length : Int) then (if 0 ≤ x4 then (if (rd x0 x4) = 0 then (spec_HydraHeads.l0 k x0 (wrap64 (x3 + 1)) (wrap64 (x4 + 1))) else (spec_HydraHeads.l0 k x0 x3 (wrap64 (x4 + 1)))) else (none)) else (some x3)
def spec_HydraHeads.f (k : Nat) (l0 : List Int) : Option (Int) := (spec_HydraValid.f k l0).bind fun t107 => (if t107 = true then (spec_HydraHeads.l0 k l0 0 1) else (some (-1)))
theorem spec_HydraHeads.mono_l : ∀ k, (∀ y0 y1 y2, LeO (spec_HydraHeads.l0 k y0 y1 y2) (spec_HydraHeads.l0 (k + 1) y0 y1 y2))
 | 0 => fun _ _ _ r h => by simp [spec_HydraHeads.l0] at h
 | k + 1 => by
  have ih0 := spec_HydraHeads.mono_l k
  ·
   intro y0 y1 y2;unfold spec_HydraHeads.l0
   repeat' first | (with_reducible exact ih0 _ _ _) | (with_reducible exact spec_HydraValid.mono _ _) | (with_reducible exact LeO.refl _) | (with_reducible exact LeO.none _) | (with_reducible refine LeO.ite ?_ ?_) | (with_reducible refine LeO.bind ?_ (fun _ => ?_))
theorem spec_HydraHeads.mono : ∀ a0 k, LeO (spec_HydraHeads.f k a0) (spec_HydraHeads.f (k + 1) a0) := by
 intro a0 k;have ih0 := spec_HydraHeads.mono_l k;unfold spec_HydraHeads.f
 repeat' first | (with_reducible exact ih0 _ _ _) | (with_reducible exact spec_HydraValid.mono _ _) | (with_reducible exact LeO.refl _) | (with_reducible exact LeO.none _) | (with_reducible refine LeO.ite ?_ ?_) | (with_reducible refine LeO.bind ?_ (fun _ => ?_))
set_option maxHeartbeats 8000000 in
set_option maxRecDepth 100000 in
theorem spec_HydraHeads.calls (k : Nat) (A0 : Option Addr) (c0 : Nat) (l0 : List Int) (r : Int) (w : World) (hr0 : Kd.C (Kd.int .i64) w A0 l0.length l0) (hc0 : l0.length ≤ c0) (h : spec_HydraHeads.f k l0 = some r) :
  Calls Try.prog 31 #[.slice A0 l0.length c0] w fun e w' => e = .returned (.int .i64 r) ∧ Drawn0 w w' := by
 have HR0 := am hr0;have HC0 := am hc0;clear hr0 hc0;have H : ((spec_HydraValid.f k l0).bind fun t107 => (if t107 = true then (spec_HydraHeads.l0 k l0 0 1) else (some (-1)))) = some r := h;clear h;replace H := oE H;obtain ⟨t107, A2, H⟩ := H;replace H : (if t107 = true then (spec_HydraHeads.l0 k l0 0 1) else (some (-1))) = some r := H;replace A2 := am A2;by_cases c3 : t107 = true
 ·
  subst c3
  have H1 : (spec_HydraHeads.l0 k l0 0 1) = some r := by rw [if_pos rfl] at H; exact H
  clear H;have H := H1;clear H1;have H' := am H;clear H;go_enter Try.func31, Try.ntmps31;go_wp2_with (first | ((with_reducible refine gate_callee (f := 27) rfl ?_); refine goesL_ (some 6) rfl rfl Try.func27 (by kernel_rfl) rfl #[.slice A0 l0.length c0] rfl (by (try simp only [mA, mB, mC]); first | done | rfl) ?_; (with_reducible refine (spec_HydraValid.calls k _ _ l0 true _ ?side1 ?side2 A2.out).mono ?_); (case side1 => exact Kd.cm HR0.out); (case side2 => exact HC0.out); rintro e w' ⟨rfl, ⟨nd, rfl⟩⟩; refine ⟨_, rfl, ?_⟩))
  go_loopg [3, 4] k (fun kq v3 v4 w' => ∃ (x3_1 : Int) (x4_1 : Int), v3 = .int .i64 x3_1 ∧ v4 = .int .i64 x4_1 ∧ Aside0 (spec_HydraHeads.l0 kq l0 x3_1 x4_1 = some r) ∧ Aside0 (kq ≤ k) ∧ Drawn0 w w')
  case atStart => exact ⟨(0), (1), (by first | rfl | (simp; done) | (simp [*]; done)), (by first | rfl | (simp; done) | (simp [*]; done)), H', ⟨Nat.le_refl _⟩, by repeat (first | exact Drawn0.refl _ | apply Drawn0.step)⟩
  case round =>
   clear H';(try clear c2);(try clear p2);(try clear c3);obtain ⟨x3_1, x4_1, rfl, rfl, HA, HK1, ⟨m1, rfl⟩⟩ := hrel
   cases gk with
   | zero => exact absurd HA.out (by simp [spec_HydraHeads.l0])
   | succ k1 =>
    have H := HA.out;clear HA;simp only [spec_HydraHeads.l0] at H;by_cases c4 : x4_1 < (l0.length : Int)
    ·
     rw [if_pos c4] at H;have c4b0 : decide (x4_1 < (l0.length : Int)) = true := decide_eq_true c4;clear c4;by_cases c5 : 0 ≤ x4_1
     ·
      rw [if_pos c5] at H;have c5b0 : decide (0 ≤ x4_1) = true := decide_eq_true c5;clear c5;by_cases c6 : (rd l0 x4_1) = 0
      ·
       rw [if_pos c6] at H;have c6b0 : ((rd l0 x4_1) == 0) = true := beq_iff_eq.mpr c6;have c6b1 : ((rd l0 x4_1) != 0) = false := bne_eq_false_iff_eq.mpr c6;clear c6;have H' := am H;clear H;have p108 : 0 ≤ (x4_1 : Int) := of_decide_eq_true (by assumption);have q108 : x4_1 < (l0.length : Int) := of_decide_eq_true (by assumption);obtain ⟨ad108, e108, hx108_0⟩ := Kd.at_int HR0.out x4_1 p108 q108;cases e108
       replace p108 := eq_true p108;replace q108 := eq_true q108;go_wp2
       go_roundg k1
       case measure => have := HK1.out; omega
       case rel => exact ⟨(wrap64 (x3_1 + 1)), (wrap64 (x4_1 + 1)), (by first | rfl | (simp; done) | (simp [*]; done)), (by first | rfl | (simp; done) | (simp [*]; done)), H', ⟨by have := HK1.out; omega⟩, by repeat (first | exact Drawn0.refl _ | apply Drawn0.step)⟩
      ·
       rw [if_neg c6] at H;have c6b0 : ((rd l0 x4_1) == 0) = false := beq_eq_false_iff_ne.mpr c6;have c6b1 : ((rd l0 x4_1) != 0) = true := bne_iff_ne.mpr c6;have H' := am H;clear H;have p108 : 0 ≤ (x4_1 : Int) := of_decide_eq_true (by assumption);have q108 : x4_1 < (l0.length : Int) := of_decide_eq_true (by assumption);obtain ⟨ad108, e108, hx108_0⟩ := Kd.at_int HR0.out x4_1 p108 q108;cases e108
       replace p108 := eq_true p108;replace q108 := eq_true q108;go_wp2
       go_roundg k1
       case measure => have := HK1.out; omega
       case rel => exact ⟨(x3_1), (wrap64 (x4_1 + 1)), (by first | rfl | (simp; done) | (simp [*]; done)), (by first | rfl | (simp; done) | (simp [*]; done)), H', ⟨by have := HK1.out; omega⟩, by repeat (first | exact Drawn0.refl _ | apply Drawn0.step)⟩
     ·
      rw [if_neg c5] at H;exact absurd H (by simp)
    ·
     rw [if_neg c4] at H;have c4b0 : decide (x4_1 < (l0.length : Int)) = false := decide_eq_false c4;clear c4;obtain rfl := Option.some.inj H;go_wp2;go_ret;exact ⟨by first | rfl | (simp; done) | (simp [*]; done), by repeat (first | exact Drawn0.refl _ | apply Drawn0.step)⟩
 ·
  replace c3 := Bool.eq_false_iff.mpr c3;subst c3
  have H1 : (some (-1)) = some r := by rw [if_neg (show ¬ (false = true) by decide)] at H; exact H
  clear H;have H := H1;clear H1;obtain rfl := Option.some.inj H;go_enter Try.func31, Try.ntmps31;go_wp2_with (first | ((with_reducible refine gate_callee (f := 27) rfl ?_); refine goesL_ (some 6) rfl rfl Try.func27 (by kernel_rfl) rfl #[.slice A0 l0.length c0] rfl (by (try simp only [mA, mB, mC]); first | done | rfl) ?_; (with_reducible refine (spec_HydraValid.calls k _ _ l0 false _ ?side1 ?side2 A2.out).mono ?_); (case side1 => exact Kd.cm HR0.out); (case side2 => exact HC0.out); rintro e w' ⟨rfl, ⟨nd, rfl⟩⟩; refine ⟨_, rfl, ?_⟩));go_ret;exact ⟨by first | rfl | (simp; done) | (simp [*]; done), by repeat (first | exact Drawn0.refl _ | apply Drawn0.step)⟩

/-! ### spec_l5Branches: function 52 -/
def spec_l5Branches.l0 : Nat → List Int → List (List Int) → Int → Option ((List (List Int)))
 | 0, _, _, _ => none
 | k + 1, x0, x3, x4 => if x4 < (x0.length : Int) then ((spec_l5End.f k x0 x4).bind fun t112 => (if 0 ≤ x4 then (if x4 ≤ t112 then (if t112 ≤ (x0.length : Int) then (if x3.length < 5864062014805 then (spec_l5Branches.l0 k x0 (x3 ++ [((x0.take (t112 : Int).toNat).drop (x4 : Int).toNat)]) t112) else (none)) else (none)) else (none)) else (none))) else (some x3)
def spec_l5Branches.f (k : Nat) (l0 : List Int) : Option ((List (List Int))) := spec_l5Branches.l0 k l0 (([] : List (List Int))) 1
theorem spec_l5Branches.mono_l : ∀ k, (∀ y0 y1 y2, LeO (spec_l5Branches.l0 k y0 y1 y2) (spec_l5Branches.l0 (k + 1) y0 y1 y2))
 | 0 => fun _ _ _ r h => by simp [spec_l5Branches.l0] at h
 | k + 1 => by
  have ih0 := spec_l5Branches.mono_l k
  ·
   intro y0 y1 y2;unfold spec_l5Branches.l0
   repeat' first | (with_reducible exact ih0 _ _ _) | (with_reducible exact spec_l5End.mono _ _ _) | (with_reducible exact LeO.refl _) | (with_reducible exact LeO.none _) | (with_reducible refine LeO.ite ?_ ?_) | (with_reducible refine LeO.bind ?_ (fun _ => ?_))
theorem spec_l5Branches.mono : ∀ a0 k, LeO (spec_l5Branches.f k a0) (spec_l5Branches.f (k + 1) a0) := by
 intro a0 k;have ih0 := spec_l5Branches.mono_l k;unfold spec_l5Branches.f
 repeat' first | (with_reducible exact ih0 _ _ _) | (with_reducible exact spec_l5End.mono _ _ _) | (with_reducible exact LeO.refl _) | (with_reducible exact LeO.none _) | (with_reducible refine LeO.ite ?_ ?_) | (with_reducible refine LeO.bind ?_ (fun _ => ?_))
set_option maxHeartbeats 8000000 in
set_option maxRecDepth 100000 in
theorem spec_l5Branches.calls (k : Nat) (P0_ : Nat → Prop) (A0 : Option Addr) (c0 : Nat) (l0 : List Int) (r : List (List Int)) (w : World) (hs0 : Kd.V (Kd.int .i64) 3 w w.heap.size (fun k_ => P0_ k_) (.slice A0 l0.length c0) l0) (h : spec_l5Branches.f k l0 = some r) :
  Calls Try.prog 52 #[.slice A0 l0.length c0] w fun e w' => ∃ v0_ : Value, e = .returned (v0_) ∧ Kd.N (Kd.slice 3 (Kd.int .i64)) 22 w' w.heap.size (fun k_ => (P0_ k_ ∨ w.heap.size ≤ k_)) v0_ r ∧ Below w.heap.size w w' := by
 have HO0 := am (show Kd.V (Kd.int .i64) 3 w w.heap.size (fun k_ => (P0_ k_ ∨ w.heap.size ≤ k_)) (.slice A0 l0.length c0) l0 from Kd.V_mono hs0 (fun k_ hk => .inl hk));have HB := am (Below.refl w.heap.size w);have H : (spec_l5Branches.l0 k l0 (([] : List (List Int))) 1) = some r := h;clear h
 obtain ⟨y109, hy109⟩ : ∃ y_ : List (List Int), y_ = (([] : List (List Int))) := ⟨_, rfl⟩
 replace H : (spec_l5Branches.l0 k l0 y109 1) = some r := by first | (rw [hy109]; with_reducible exact H) | (have H2_ := oB H; rw [hy109]; with_reducible exact H2_) | (have H2_ := oB H; with_reducible exact H2_) | with_reducible exact H | (rw [hy109]; exact H) | exact H
 replace hy109 := am hy109;have H' := am H;clear H;go_enter Try.func52, Try.ntmps52;go_wp2_with (first | ((with_reducible refine gate_dst (N := 6) rfl ?_); refine Kd.N_lit (Kd.slice 3 (Kd.int .i64)) _ 22 ?hg (N' := 6) ?hd (xs := ([] : List (List Int))) (inner := []) (ok := (fun k_ => (P0_ k_ ∨ w.heap.size ≤ k_))) (okp := (fun k_ => (P0_ k_ ∨ w.heap.size ≤ k_))) ?hr ?hp (fun _ hk => hk) ((show ∀ k_, w.heap.size ≤ k_ → (fun k_ => (P0_ k_ ∨ w.heap.size ≤ k_)) k_ from fun k_ hk => (.inr (Nat.le_trans (below_size (bm HB.out)) hk))) _ (Nat.le_refl _)) (Below.refl _ _) (Nat.le_refl _) (by simp) ?_; (case hd => rfl); (case hg => rfl); (case hr => first | (go_simp; done) | (go_simp; rfl)); (case hp => exact (Reps.none _ _)); intro v110 w2 ho3 hb hg_ hnew_; clear hg_ hnew_; (first | rw [← hy109.out] at ho3 | (simp only [Int.reduceToNat] at ho3; rw [← hy109.out] at ho3)); replace HO0 := am (Kd.V_elder' (Kd.vm HO0.out) (Kd.N_base ho3) hb);have HO111 := am (Kd.N_lower ho3 (below_size (bm HB.out)));replace HB := am (below_step (bm HB.out) hb); clear hb ho3))
 go_loopg [3, 4] k (fun kq v3 v4 w' => ∃ (x3_1 : List (List Int)) (x4_1 : Int), v4 = .int .i64 x4_1 ∧ Aside0 (spec_l5Branches.l0 kq l0 x3_1 x4_1 = some r) ∧ Aside0 (kq ≤ k) ∧ Aside0 (Kd.V (Kd.int .i64) 3 w' w.heap.size (fun k_ => (P0_ k_ ∨ w.heap.size ≤ k_) ∧ some k_ ≠ (v3 : Value).ownBlock) (.slice A0 l0.length c0) l0) ∧ Aside0 (Kd.N (Kd.slice 3 (Kd.int .i64)) 22 w' w.heap.size (fun k_ => (P0_ k_ ∨ w.heap.size ≤ k_)) v3 x3_1) ∧ Aside0 (Below w.heap.size w w'))
 case atStart => exact ⟨(y109), (1), (by first | rfl | (simp; done) | (simp [*]; done)), H', ⟨Nat.le_refl _⟩, ⟨Kd.vm HO0.out⟩, ⟨Kd.nm HO111.out⟩, ⟨bm HB.out⟩⟩
 case round =>
  clear H';(try clear p2);(try clear HO_0);(try clear HO_3);(try clear HB);obtain ⟨x3_1, x4_1, rfl, HA, HK1, HO_0, HO_3, HB⟩ := hrel
  cases gk with
  | zero => exact absurd HA.out (by simp [spec_l5Branches.l0])
  | succ k1 =>
   have H := HA.out;clear HA;simp only [spec_l5Branches.l0] at H;by_cases c4 : x4_1 < (l0.length : Int)
   ·
    rw [if_pos c4] at H;have c4b0 : decide (x4_1 < (l0.length : Int)) = true := decide_eq_true c4;clear c4;replace H := oE H;obtain ⟨t112, A5, H⟩ := H;replace H : (if 0 ≤ x4_1 then (if x4_1 ≤ t112 then (if t112 ≤ (l0.length : Int) then (if x3_1.length < 5864062014805 then (spec_l5Branches.l0 k1 l0 (x3_1 ++ [((l0.take (t112 : Int).toNat).drop (x4_1 : Int).toNat)]) t112) else (none)) else (none)) else (none)) else (none)) = some r := H;replace A5 := am A5;by_cases c6 : 0 ≤ x4_1
    ·
     rw [if_pos c6] at H;have c6b0 := eq_true c6;have c6b1 : decide (0 ≤ x4_1) = true := decide_eq_true c6;clear c6;by_cases c7 : x4_1 ≤ t112
     ·
      rw [if_pos c7] at H;have c7b0 := eq_true c7;have c7b1 : decide (x4_1 ≤ t112) = true := decide_eq_true c7;clear c7;by_cases c8 : t112 ≤ (l0.length : Int)
      ·
       rw [if_pos c8] at H;have c8b0 := eq_true c8;have c8b1 : decide (t112 ≤ (l0.length : Int)) = true := decide_eq_true c8;clear c8
       obtain ⟨y113, hy113⟩ : ∃ y_ : List Int, y_ = ((l0.take (t112 : Int).toNat).drop (x4_1 : Int).toNat) := ⟨_, rfl⟩
       replace H : (if x3_1.length < 5864062014805 then (spec_l5Branches.l0 k1 l0 (x3_1 ++ [y113]) t112) else (none)) = some r := by first | (rw [hy113]; with_reducible exact H) | (have H2_ := oB H; rw [hy113]; with_reducible exact H2_) | (have H2_ := oB H; with_reducible exact H2_) | with_reducible exact H | (rw [hy113]; exact H) | exact H
       replace hy113 := am hy113;by_cases c9 : x3_1.length < 5864062014805
       ·
        rw [if_pos c9] at H;have LMc9 := am c9;clear c9
        obtain ⟨y118, hy118⟩ : ∃ y_ : List (List Int), y_ = (x3_1 ++ [y113]) := ⟨_, rfl⟩
        replace H : (spec_l5Branches.l0 k1 l0 y118 t112) = some r := by first | (rw [hy118]; with_reducible exact H) | (have H2_ := oB H; rw [hy118]; with_reducible exact H2_) | (have H2_ := oB H; with_reducible exact H2_) | with_reducible exact H | (rw [hy118]; exact H) | exact H
        replace hy118 := am hy118;have H' := am H;clear H;go_wp2_with (first | ((with_reducible refine gate_callee (f := 47) rfl ?_); refine goesL_ (some 13) rfl rfl Try.func47 (by kernel_rfl) rfl #[.slice A0 l0.length c0, .int .i64 x4_1] rfl (by (try simp only [mA, mB, mC]); first | done | rfl) ?_; (with_reducible refine (spec_l5End.calls k1 _ _ l0 x4_1 t112 _ ?side1 ?side2 A5.out).mono ?_); (case side1 => exact Kd.cm ((Kd.V_reads' HO_0.out).2.2)); (case side2 => exact (Kd.V_reads' HO_0.out).2.1); rintro e w' ⟨rfl, ⟨nd, rfl⟩⟩; refine ⟨_, rfl, ?_⟩; have q10 : (t112 : Int) ≤ ((l0.length : Int) : Int) := of_decide_eq_true (by assumption); obtain ⟨i010, hi010, _, hsz10, _⟩ := info_parts info3; have hroom10 : l0.length ≤ c0 := (Kd.V_reads' HO_0.out).2.1; have hC10 : Kd.F (Kd.int .i64) _ _ A0 l0.length l0 := (Kd.V_at (base := w.heap.size) HO_0.out).2.2; have ql10 : (x4_1 : Int) ≤ (t112 : Int) := of_decide_eq_true (by assumption); have q010 : (0 : Int) ≤ (x4_1 : Int) := of_decide_eq_true (by assumption); have hcut10 := cut_mid (P := Try.prog) 22 3 .i64 .i64 Try.underlying22 hi010 1 hsz10 A0 l0.length c0 x4_1 t112 q010 ql10 q10 hroom10; have hr10 := Kd.F_mid (lo := (x4_1 : Int).toNat) (hi := (t112 : Int).toNat) (c := c0) hC10 (by omega) (by omega) hroom10; obtain ⟨A10, hA10⟩ : ∃ A_, A_ = (if c0 = (x4_1 : Int).toNat then A0 else (A0 : Option Addr).map (·.add ((x4_1 : Int).toNat * 1))) := ⟨_, rfl⟩; obtain ⟨c10, hc10⟩ : ∃ c_, c_ = c0 - (x4_1 : Int).toNat := ⟨_, rfl⟩; have hy10 : y113.length = (t112 : Int).toNat - (x4_1 : Int).toNat := (by rw [hy113.out, List.length_drop, List.length_take] <;> omega); rw [show ((l0).take (t112 : Int).toNat).drop (x4_1 : Int).toNat = y113 from hy113.out.symm] at hr10; replace hr10 : Kd.F (Kd.int .i64) _ _ A10 y113.length y113 := (by rw [hA10]; exact hr10); rw [← hy10, ← hA10, ← hc10] at hcut10; have HO117 := am (show Kd.V (Kd.int .i64) 3 _ w.heap.size _ (.slice A10 y113.length c10) y113 from Kd.V_mk (by rw [hy10, hc10]; exact Nat.sub_le_sub_right (Nat.le_trans (by omega) hroom10) _) hr10); have HC117 := am (show y113.length ≤ c10 from by rw [hy10, hc10]; exact Nat.sub_le_sub_right (Nat.le_trans (by omega) hroom10) _); clear hr10 hC10 hroom10 hi010 hsz10 hc10; have KY10 := am hy10; have KA10 := am hA10; clear hy10 hA10; replace q10 := eq_true q10) | ((with_reducible refine gate_builtin (b := .append) (xs := #[.tmp 14, .tmp 19]) rfl ?_); at_builtin; refine Kd.N_append (Kd.slice 3 (Kd.int .i64)) (w0 := w) w.heap.size rfl (.tmp 14) (.tmp 19) 72 22 (.slice none 0 0) 24 rfl Try.underlying72 info22 rfl (by decide) (by omega) u3 x3_1 y113 [.slice A10 y113.length c10] (fun k_ => (P0_ k_ ∨ w.heap.size ≤ k_)) (fun k_ => ((fun k_ => (P0_ k_ ∨ w.heap.size ≤ k_))) k_ ∧ some k_ ≠ (u3 : Value).ownBlock) rfl rfl ?aP (fun _ hk => hk) ?aF ?aO ?aB ?aS ?aL ?_; (case aP => first | exact (Kd.FK_slice_mk (Kd.V_reads' (Kd.V_mono (ok' := (fun k_ => ((fun k_ => (P0_ k_ ∨ w.heap.size ≤ k_))) k_ ∧ some k_ ≠ (u3 : Value).ownBlock)) (HO117.out) (fun k_ hk => ⟨hk.1, hk.2⟩))).2.1 (Kd.V_F (Kd.V_mono (ok' := (fun k_ => ((fun k_ => (P0_ k_ ∨ w.heap.size ≤ k_))) k_ ∧ some k_ ≠ (u3 : Value).ownBlock)) (HO117.out) (fun k_ hk => ⟨hk.1, hk.2⟩)))) | exact (Kd.FK_slice_mk (Kd.V_reads' (Kd.V_mono (ok' := (fun k_ => ((fun k_ => (P0_ k_ ∨ w.heap.size ≤ k_))) k_ ∧ some k_ ≠ (u3 : Value).ownBlock)) (HO117.out) (fun k_ hk => ⟨hk.1, hk.2⟩))).2.1 (Kd.V_F (Kd.V_mono (ok' := (fun k_ => ((fun k_ => (P0_ k_ ∨ w.heap.size ≤ k_))) k_ ∧ some k_ ≠ (u3 : Value).ownBlock)) (Kd.V_drewN HO117.out _) (fun k_ hk => ⟨hk.1, hk.2⟩))))); (case aB => exact (bm HB.out)); (case aF => exact (fun k_ hk => (.inr (Nat.le_trans (below_size (bm HB.out)) hk)))); (case aO => exact (Kd.nm HO_3.out)); (case aS => exact (below_size (bm HB.out))); (case aL => have := LMc9.out; omega); intro v119 w11 ho hb hg hat; rw [← hy118.out] at ho; replace HO_0 := am (Kd.V_afterv (ok := (fun k_ => (P0_ k_ ∨ w.heap.size ≤ k_))) (Kd.vm HO_0.out) hg hat);replace HO117 := am (Kd.V_afterv (ok := (fun k_ => (P0_ k_ ∨ w.heap.size ≤ k_))) (Kd.vm HO117.out) hg hat);replace HB := am (hb);have HO120 := am (ho);clear HO_3; clear ho hb hg hat))
        go_roundg k1
        case measure => have := HK1.out; omega
        case rel => exact ⟨(y118), (t112), (by first | rfl | (simp; done) | (simp [*]; done)), H', ⟨by have := HK1.out; omega⟩, ⟨Kd.vm HO_0.out⟩, ⟨Kd.nm HO120.out⟩, ⟨bm HB.out⟩⟩
       ·
        rw [if_neg c9] at H;exact absurd H (by simp)
      ·
       rw [if_neg c8] at H;exact absurd H (by simp)
     ·
      rw [if_neg c7] at H;exact absurd H (by simp)
    ·
     rw [if_neg c6] at H;exact absurd H (by simp)
   ·
    rw [if_neg c4] at H;have c4b0 : decide (x4_1 < (l0.length : Int)) = false := decide_eq_false c4;clear c4;obtain rfl := Option.some.inj H;go_wp2;go_ret;exact ⟨_, by first | rfl | (simp [errW_none, errW_some] <;> rfl) | (simp [*, errW_none, errW_some] <;> rfl), Kd.nm HO_3.out, bm HB.out⟩

/-! ### spec_l5Heads: function 53 -/
def spec_l5Heads.l0 : Nat → List Int → Int → Int → Option (Int)
 | 0, _, _, _ => none
 | k + 1, x0, x3, x4 => if x4 < (x0.length : Int) then (if 0 ≤ x4 then (if (rd x0 x4) = 0 then (spec_l5Heads.l0 k x0 (wrap64 (x3 + 1)) (wrap64 (x4 + 1))) else (spec_l5Heads.l0 k x0 x3 (wrap64 (x4 + 1)))) else (none)) else (some x3)
def spec_l5Heads.f (k : Nat) (l0 : List Int) : Option (Int) := spec_l5Heads.l0 k l0 0 0
theorem spec_l5Heads.mono_l : ∀ k, (∀ y0 y1 y2, LeO (spec_l5Heads.l0 k y0 y1 y2) (spec_l5Heads.l0 (k + 1) y0 y1 y2))
 | 0 => fun _ _ _ r h => by simp [spec_l5Heads.l0] at h
 | k + 1 => by
  have ih0 := spec_l5Heads.mono_l k
  ·
   intro y0 y1 y2;unfold spec_l5Heads.l0
   repeat' first | (with_reducible exact ih0 _ _ _) | (with_reducible exact LeO.refl _) | (with_reducible exact LeO.none _) | (with_reducible refine LeO.ite ?_ ?_) | (with_reducible refine LeO.bind ?_ (fun _ => ?_))
theorem spec_l5Heads.mono : ∀ a0 k, LeO (spec_l5Heads.f k a0) (spec_l5Heads.f (k + 1) a0) := by
 intro a0 k;have ih0 := spec_l5Heads.mono_l k;unfold spec_l5Heads.f
 repeat' first | (with_reducible exact ih0 _ _ _) | (with_reducible exact LeO.refl _) | (with_reducible exact LeO.none _) | (with_reducible refine LeO.ite ?_ ?_) | (with_reducible refine LeO.bind ?_ (fun _ => ?_))
set_option maxHeartbeats 8000000 in
set_option maxRecDepth 100000 in
theorem spec_l5Heads.calls (k : Nat) (A0 : Option Addr) (c0 : Nat) (l0 : List Int) (r : Int) (w : World) (hr0 : Kd.C (Kd.int .i64) w A0 l0.length l0) (hc0 : l0.length ≤ c0) (h : spec_l5Heads.f k l0 = some r) :
  Calls Try.prog 53 #[.slice A0 l0.length c0] w fun e w' => e = .returned (.int .i64 r) ∧ Drawn0 w w' := by
 have HR0 := am hr0;have HC0 := am hc0;clear hr0 hc0;have H : (spec_l5Heads.l0 k l0 0 0) = some r := h;clear h;have H' := am H;clear H;go_enter Try.func53, Try.ntmps53;go_wp2
 go_loopg [3, 4] k (fun kq v3 v4 w' => ∃ (x3_1 : Int) (x4_1 : Int), v3 = .int .i64 x3_1 ∧ v4 = .int .i64 x4_1 ∧ Aside0 (spec_l5Heads.l0 kq l0 x3_1 x4_1 = some r) ∧ Aside0 (kq ≤ k) ∧ Drawn0 w w')
 case atStart => exact ⟨(0), (0), (by first | rfl | (simp; done) | (simp [*]; done)), (by first | rfl | (simp; done) | (simp [*]; done)), H', ⟨Nat.le_refl _⟩, by repeat (first | exact Drawn0.refl _ | apply Drawn0.step)⟩
 case round =>
  clear H';obtain ⟨x3_1, x4_1, rfl, rfl, HA, HK1, ⟨m1, rfl⟩⟩ := hrel
  cases gk with
  | zero => exact absurd HA.out (by simp [spec_l5Heads.l0])
  | succ k1 =>
   have H := HA.out;clear HA;simp only [spec_l5Heads.l0] at H;by_cases c2 : x4_1 < (l0.length : Int)
   ·
    rw [if_pos c2] at H;have c2b0 : decide (x4_1 < (l0.length : Int)) = true := decide_eq_true c2;clear c2;by_cases c3 : 0 ≤ x4_1
    ·
     rw [if_pos c3] at H;have c3b0 : decide (0 ≤ x4_1) = true := decide_eq_true c3;clear c3;by_cases c4 : (rd l0 x4_1) = 0
     ·
      rw [if_pos c4] at H;have c4b0 : ((rd l0 x4_1) == 0) = true := beq_iff_eq.mpr c4;have c4b1 : ((rd l0 x4_1) != 0) = false := bne_eq_false_iff_eq.mpr c4;clear c4;have H' := am H;clear H;have p121 : 0 ≤ (x4_1 : Int) := of_decide_eq_true (by assumption);have q121 : x4_1 < (l0.length : Int) := of_decide_eq_true (by assumption);obtain ⟨ad121, e121, hx121_0⟩ := Kd.at_int HR0.out x4_1 p121 q121;cases e121
      replace p121 := eq_true p121;replace q121 := eq_true q121;go_wp2
      go_roundg k1
      case measure => have := HK1.out; omega
      case rel => exact ⟨(wrap64 (x3_1 + 1)), (wrap64 (x4_1 + 1)), (by first | rfl | (simp; done) | (simp [*]; done)), (by first | rfl | (simp; done) | (simp [*]; done)), H', ⟨by have := HK1.out; omega⟩, by repeat (first | exact Drawn0.refl _ | apply Drawn0.step)⟩
     ·
      rw [if_neg c4] at H;have c4b0 : ((rd l0 x4_1) == 0) = false := beq_eq_false_iff_ne.mpr c4;have c4b1 : ((rd l0 x4_1) != 0) = true := bne_iff_ne.mpr c4;have H' := am H;clear H;have p121 : 0 ≤ (x4_1 : Int) := of_decide_eq_true (by assumption);have q121 : x4_1 < (l0.length : Int) := of_decide_eq_true (by assumption);obtain ⟨ad121, e121, hx121_0⟩ := Kd.at_int HR0.out x4_1 p121 q121;cases e121
      replace p121 := eq_true p121;replace q121 := eq_true q121;go_wp2
      go_roundg k1
      case measure => have := HK1.out; omega
      case rel => exact ⟨(x3_1), (wrap64 (x4_1 + 1)), (by first | rfl | (simp; done) | (simp [*]; done)), (by first | rfl | (simp; done) | (simp [*]; done)), H', ⟨by have := HK1.out; omega⟩, by repeat (first | exact Drawn0.refl _ | apply Drawn0.step)⟩
    ·
     rw [if_neg c3] at H;exact absurd H (by simp)
   ·
    rw [if_neg c2] at H;have c2b0 : decide (x4_1 < (l0.length : Int)) = false := decide_eq_false c2;clear c2;obtain rfl := Option.some.inj H;go_wp2;go_ret;exact ⟨by first | rfl | (simp; done) | (simp [*]; done), by repeat (first | exact Drawn0.refl _ | apply Drawn0.step)⟩

/-! ### spec_l5Tree: function 54 -/
def spec_l5Tree.l0 : Nat → List (List Int) → List Int → Int → Option (List Int)
 | 0, _, _, _ => none
 | k + 1, x0, x3, x4 => if x4 < (x0.length : Int) then (if 0 ≤ x4 then (if x3.length + (rd_L1 x0 x4).length < 17592186044416 then (spec_l5Tree.l0 k x0 (x3 ++ (rd_L1 x0 x4)) (wrap64 (x4 + 1))) else (none)) else (none)) else (some x3)
def spec_l5Tree.f (k : Nat) (l0 : List (List Int)) : Option (List Int) := spec_l5Tree.l0 k l0 (([(l0.length : Int)] : List Int)) 0
theorem spec_l5Tree.mono_l : ∀ k, (∀ y0 y1 y2, LeO (spec_l5Tree.l0 k y0 y1 y2) (spec_l5Tree.l0 (k + 1) y0 y1 y2))
 | 0 => fun _ _ _ r h => by simp [spec_l5Tree.l0] at h
 | k + 1 => by
  have ih0 := spec_l5Tree.mono_l k
  ·
   intro y0 y1 y2;unfold spec_l5Tree.l0
   repeat' first | (with_reducible exact ih0 _ _ _) | (with_reducible exact LeO.refl _) | (with_reducible exact LeO.none _) | (with_reducible refine LeO.ite ?_ ?_) | (with_reducible refine LeO.bind ?_ (fun _ => ?_))
theorem spec_l5Tree.mono : ∀ a0 k, LeO (spec_l5Tree.f k a0) (spec_l5Tree.f (k + 1) a0) := by
 intro a0 k;have ih0 := spec_l5Tree.mono_l k;unfold spec_l5Tree.f
 repeat' first | (with_reducible exact ih0 _ _ _) | (with_reducible exact LeO.refl _) | (with_reducible exact LeO.none _) | (with_reducible refine LeO.ite ?_ ?_) | (with_reducible refine LeO.bind ?_ (fun _ => ?_))
set_option maxHeartbeats 8000000 in
set_option maxRecDepth 100000 in
theorem spec_l5Tree.calls (k : Nat) (A0 : Option Addr) (c0 : Nat) (l0 : List (List Int)) (r : List Int) (w : World) (hr0 : Kd.C (Kd.slice 3 (Kd.int .i64)) w A0 l0.length l0) (hc0 : l0.length ≤ c0) (h : spec_l5Tree.f k l0 = some r) :
  Calls Try.prog 54 #[.slice A0 l0.length c0] w fun e w' => ∃ v0_ : Value, e = .returned (v0_) ∧ Kd.R (Kd.int .i64) 3 w' w.heap.size (fun _ => True) v0_ r ∧ Below w.heap.size w w' := by
 have HR0 := am hr0;have HC0 := am hc0;clear hr0 hc0;have HB := am (Below.refl w.heap.size w);have H : (spec_l5Tree.l0 k l0 (([(l0.length : Int)] : List Int)) 0) = some r := h;clear h
 obtain ⟨y122, hy122⟩ : ∃ y_ : List Int, y_ = (([(l0.length : Int)] : List Int)) := ⟨_, rfl⟩
 replace H : (spec_l5Tree.l0 k l0 y122 0) = some r := by first | (rw [hy122]; with_reducible exact H) | (have H2_ := oB H; rw [hy122]; with_reducible exact H2_) | (have H2_ := oB H; with_reducible exact H2_) | with_reducible exact H | (rw [hy122]; exact H) | exact H
 replace hy122 := am hy122;have H' := am H;clear H;go_enter Try.func54, Try.ntmps54;go_wp2_with (first | ((with_reducible refine gate_dst (N := 7) rfl ?_); refine Kd.R_lit (Kd.int .i64) _ 3 ?hg (N := 7) ?hd (xs := ([(l0.length : Int)] : List Int)) (inner := [.int .i64 (l0.length : Int)]) (ok := fun _ => True) (okp := fun _ => True) ?hr ?hp (fun _ hk => hk) trivial (Below.refl _ _) (Nat.le_refl _) (by simp) ?_; (case hd => rfl); (case hg => rfl); (case hr => first | (go_simp; done) | (go_simp; rfl)); (case hp => exact (Reps.one (show Kd.M (Kd.int .i64) _ _ _ (l0.length : Int) [.int .i64 (l0.length : Int)] from rfl) (Reps.none _ _))); intro v123 w2 ho3 hb hg_ hnew_; clear hg_ hnew_; (first | rw [← hy122.out] at ho3 | (simp only [Int.reduceToNat] at ho3; rw [← hy122.out] at ho3)); have HO124 := am (Kd.R_lower ho3 (below_size (bm HB.out)));replace HB := am (below_step (bm HB.out) hb); clear hb ho3))
 go_loopg [3, 4] k (fun kq v3 v4 w' => ∃ (x3_1 : List Int) (x4_1 : Int), v4 = .int .i64 x4_1 ∧ Aside0 (spec_l5Tree.l0 kq l0 x3_1 x4_1 = some r) ∧ Aside0 (kq ≤ k) ∧ Aside0 (Kd.R (Kd.int .i64) 3 w' w.heap.size (fun _ => True) v3 x3_1) ∧ Aside0 (Below w.heap.size w w'))
 case atStart => exact ⟨(y122), (0), (by first | rfl | (simp; done) | (simp [*]; done)), H', ⟨Nat.le_refl _⟩, ⟨Kd.rm HO124.out⟩, ⟨bm HB.out⟩⟩
 case round =>
  clear H';(try clear p2);(try clear HO_3);(try clear HB);obtain ⟨x3_1, x4_1, rfl, HA, HK1, HO_3, HB⟩ := hrel
  cases gk with
  | zero => exact absurd HA.out (by simp [spec_l5Tree.l0])
  | succ k1 =>
   have H := HA.out;clear HA;simp only [spec_l5Tree.l0] at H;by_cases c4 : x4_1 < (l0.length : Int)
   ·
    rw [if_pos c4] at H;have c4b0 : decide (x4_1 < (l0.length : Int)) = true := decide_eq_true c4;clear c4;by_cases c5 : 0 ≤ x4_1
    ·
     rw [if_pos c5] at H;have c5b0 : decide (0 ≤ x4_1) = true := decide_eq_true c5;clear c5;by_cases c6 : x3_1.length + (rd_L1 l0 x4_1).length < 17592186044416
     ·
      rw [if_pos c6] at H;have LMc6 := am c6;clear c6
      obtain ⟨y126, hy126⟩ : ∃ y_ : List Int, y_ = (x3_1 ++ (rd_L1 l0 x4_1)) := ⟨_, rfl⟩
      replace H : (spec_l5Tree.l0 k1 l0 y126 (wrap64 (x4_1 + 1))) = some r := by first | (rw [hy126]; with_reducible exact H) | (have H2_ := oB H; rw [hy126]; with_reducible exact H2_) | (have H2_ := oB H; with_reducible exact H2_) | with_reducible exact H | (rw [hy126]; exact H) | exact H
      replace hy126 := am hy126;have H' := am H;clear H;have p125 : 0 ≤ (x4_1 : Int) := of_decide_eq_true (by assumption);have q125 : x4_1 < (l0.length : Int) := of_decide_eq_true (by assumption);obtain ⟨ad125, A125_0, c125_0, e125, hx125_0, hl125_0, hi125_0⟩ := at_L1 HR0.out x4_1 p125 q125;cases e125
      replace hx125_0 := (HB.out.cell (World.block_lt_of_cell? w _ hx125_0)).trans hx125_0;have HR125_0 := am hi125_0;have HC125_0 := am hl125_0;clear hi125_0 hl125_0;replace p125 := eq_true p125;replace q125 := eq_true q125;go_wp2_with (first | ((with_reducible refine gate_builtin (b := .append) (xs := #[.tmp 14, .tmp 18]) rfl ?_); at_builtin; refine Kd.R_append_rows (Kd.int .i64) (w0 := w) w.heap.size rfl (.tmp 14) (.tmp 18) 22 3 (.int .i64 0) 8 rfl Try.underlying22 info3 rfl (by decide) (by omega) u3 x3_1 (rd_L1 l0 x4_1) _ _ _ (fun _ => True) (fun _ => False) rfl rfl ?aO ?aR (fun _ _ h => h) (fun _ h => h.elim) ?aF ?aB ?aS ?aL ?_; (case aR => exact Kd.cm ((Kd.C_below HR125_0.out HB.out))); (case aB => exact (bm HB.out)); (case aF => exact (fun _ _ => trivial)); (case aO => exact (Kd.rm HO_3.out)); (case aS => exact (below_size (bm HB.out))); (case aL => have := LMc6.out; omega); intro v127 w7 ho hb hg hat; rw [← hy126.out] at ho; replace HB := am (hb);have HO128 := am (ho);clear HO_3; clear ho hb hg hat))
      go_roundg k1
      case measure => have := HK1.out; omega
      case rel => exact ⟨(y126), (wrap64 (x4_1 + 1)), (by first | rfl | (simp; done) | (simp [*]; done)), H', ⟨by have := HK1.out; omega⟩, ⟨Kd.rm HO128.out⟩, ⟨bm HB.out⟩⟩
     ·
      rw [if_neg c6] at H;exact absurd H (by simp)
    ·
     rw [if_neg c5] at H;exact absurd H (by simp)
   ·
    rw [if_neg c4] at H;have c4b0 : decide (x4_1 < (l0.length : Int)) = false := decide_eq_false c4;clear c4;obtain rfl := Option.some.inj H;go_wp2;go_ret;exact ⟨_, by first | rfl | (simp [errW_none, errW_some] <;> rfl) | (simp [*, errW_none, errW_some] <;> rfl), Kd.rm HO_3.out, bm HB.out⟩

end Go.Proofs.Ytmidgjmlgjjobaa.Ig

-- half
-- Written by a program of this session's (wip/mp) out of the translation, over the kit's print with changes.
import Derived.Test.YtomidfnhbnhhmaaKex0
import Derived.Test.YtomidfnhbnhhmaaKex6
import Derived.Test.YtomidfnhbnhhmaaKex7
namespace Go.Proofs.Ytomidfnhbnhhmaa.Ke
open Go.RowKit Go.Proofs.YtomidfnhbnhhmaaW.PrintWords Go.Proofs.YtomidfnhbnhhmaaW.PrintLast Go.Proofs.YtomidfnhbnhhmaaW.PrintMore
attribute [local go_sem] max2_int min2_int max_two min_two max_three min_three max_four min_four   -- for this text's walks alone
set_option linter.unusedVariables false
set_option linter.unusedSimpArgs false

/-! ### spec_l3Raise: function 70 -/
def spec_l3Raise.l0 : Nat → Int → Int → Int → Int → Option (Int)
 | 0, _, _, _, _ => none
 | k + 1, x0, x1, x5, x6 => if x6 < x1 then (if (wrap64 (x5 * x0)) > 1000000000 then (some (-1)) else (if x0 < 2 then (some x0) else (spec_l3Raise.l0 k x0 x1 (wrap64 (x5 * x0)) (wrap64 (x6 + 1))))) else (some x5)
def spec_l3Raise.f (k : Nat) (a0 : Int) (a1 : Int) : Option (Int) := spec_l3Raise.l0 k a0 a1 1 0
theorem spec_l3Raise.mono_l : ∀ k, (∀ y0 y1 y2 y3, LeO (spec_l3Raise.l0 k y0 y1 y2 y3) (spec_l3Raise.l0 (k + 1) y0 y1 y2 y3))
 | 0 => fun _ _ _ _ r h => by simp [spec_l3Raise.l0] at h
 | k + 1 => by
  have ih0 := spec_l3Raise.mono_l k
  ·
   intro y0 y1 y2 y3;unfold spec_l3Raise.l0
   repeat' first | (with_reducible exact ih0 _ _ _ _) | (with_reducible exact LeO.refl _) | (with_reducible exact LeO.none _) | (with_reducible refine LeO.ite ?_ ?_) | (with_reducible refine LeO.bind ?_ (fun _ => ?_))
theorem spec_l3Raise.mono : ∀ a0 a1 k, LeO (spec_l3Raise.f k a0 a1) (spec_l3Raise.f (k + 1) a0 a1) := by
 intro a0 a1 k;have ih0 := spec_l3Raise.mono_l k;unfold spec_l3Raise.f
 repeat' first | (with_reducible exact ih0 _ _ _ _) | (with_reducible exact LeO.refl _) | (with_reducible exact LeO.none _) | (with_reducible refine LeO.ite ?_ ?_) | (with_reducible refine LeO.bind ?_ (fun _ => ?_))
set_option maxHeartbeats 8000000 in
set_option maxRecDepth 100000 in
theorem spec_l3Raise.calls (k : Nat) (a0 : Int) (a1 : Int) (r : Int) (w : World) (h : spec_l3Raise.f k a0 a1 = some r) :
  Calls Try.prog 70 #[.int .i64 a0, .int .i64 a1] w fun e w' => e = .returned (.int .i64 r) ∧ Drawn0 w w' := by
 have H : (spec_l3Raise.l0 k a0 a1 1 0) = some r := h;clear h;have H' := am H;clear H;go_enter Try.func70, Try.ntmps70;go_wp2
 go_loopg [5, 6] k (fun kq v5 v6 w' => ∃ (x5_1 : Int) (x6_1 : Int), v5 = .int .i64 x5_1 ∧ v6 = .int .i64 x6_1 ∧ Aside0 (spec_l3Raise.l0 kq a0 a1 x5_1 x6_1 = some r) ∧ Aside0 (kq ≤ k) ∧ Drawn0 w w')
 case atStart => exact ⟨(1), (0), (by first | rfl | (simp; done) | (simp [*]; done)), (by first | rfl | (simp; done) | (simp [*]; done)), H', ⟨Nat.le_refl _⟩, by repeat (first | exact Drawn0.refl _ | apply Drawn0.step)⟩
 case round =>
  clear H';(try clear p2);obtain ⟨x5_1, x6_1, rfl, rfl, HA, HK1, ⟨m1, rfl⟩⟩ := hrel
  cases gk with
  | zero => exact absurd HA.out (by simp [spec_l3Raise.l0])
  | succ k1 =>
   have H := HA.out;clear HA;simp only [spec_l3Raise.l0] at H;by_cases c3 : x6_1 < a1
   ·
    rw [if_pos c3] at H;have c3b0 : decide (x6_1 < a1) = true := decide_eq_true c3;clear c3;by_cases c4 : (wrap64 (x5_1 * a0)) > 1000000000
    ·
     rw [if_pos c4] at H;have c4b0 : decide (1000000000 < (wrap64 (x5_1 * a0))) = true := decide_eq_true c4;clear c4;obtain rfl := Option.some.inj H;go_wp2;go_ret;exact ⟨by first | rfl | (simp; done) | (simp [*]; done), by repeat (first | exact Drawn0.refl _ | apply Drawn0.step)⟩
    ·
     rw [if_neg c4] at H;have c4b0 : decide (1000000000 < (wrap64 (x5_1 * a0))) = false := decide_eq_false c4;clear c4;by_cases c5 : a0 < 2
     ·
      rw [if_pos c5] at H;have c5b0 : decide (a0 < 2) = true := decide_eq_true c5;clear c5;obtain rfl := Option.some.inj H;go_wp2;go_ret;exact ⟨by first | rfl | (simp; done) | (simp [*]; done), by repeat (first | exact Drawn0.refl _ | apply Drawn0.step)⟩
     ·
      rw [if_neg c5] at H;have c5b0 : decide (a0 < 2) = false := decide_eq_false c5;clear c5;have H' := am H;clear H;go_wp2
      go_roundg k1
      case measure => have := HK1.out; omega
      case rel => exact ⟨(wrap64 (x5_1 * a0)), (wrap64 (x6_1 + 1)), (by first | rfl | (simp; done) | (simp [*]; done)), (by first | rfl | (simp; done) | (simp [*]; done)), H', ⟨by have := HK1.out; omega⟩, by repeat (first | exact Drawn0.refl _ | apply Drawn0.step)⟩
   ·
    rw [if_neg c3] at H;have c3b0 : decide (x6_1 < a1) = false := decide_eq_false c3;clear c3;obtain rfl := Option.some.inj H;go_wp2;go_ret;exact ⟨by first | rfl | (simp; done) | (simp [*]; done), by repeat (first | exact Drawn0.refl _ | apply Drawn0.step)⟩

/-! ### spec_l3Value: function 68 -/
mutual
def spec_l3Value.l0 : Nat → Int → List Int → List (List Int) → Int → Int → Option (Int)
 | 0, _, _, _, _, _ => none
 | k + 1, x1, x5, x6, x7, x8 => if x8 < (x5.length : Int) then (if 0 ≤ x8 then (if x8 < (x6.length : Int) then ((spec_l3Value.f k (rd_L2 x6 x8) x1).bind fun t318 => (if t318 < 0 then (some (-1)) else ((spec_l3Raise.f k x1 t318).bind fun t319 => (if t319 < 0 then (some (-1)) else (if (wrap64 (x7 + (wrap64 ((rd x5 x8) * t319)))) > 1000000000 then (some (-1)) else (spec_l3Value.l0 k x1 x5 x6 (wrap64 (x7 + (wrap64 ((rd x5 x8) * t319)))) (wrap64 (x8 + 1)))))))) else (none)) else (none)) else (some x7)
def spec_l3Value.f : Nat → List Int → Int → Option (Int)
 | 0, _, _ => none
 | k + 1, l0, a1 => (spec_l1Terms.f k l0).bind fun bt311 => (spec_l3Value.l0 k a1 bt311.1 bt311.2 0 0)
end
theorem spec_l3Value.mono_l : ∀ k, (∀ y0 y1, LeO (spec_l3Value.f k y0 y1) (spec_l3Value.f (k + 1) y0 y1)) ∧ (∀ y0 y1 y2 y3 y4, LeO (spec_l3Value.l0 k y0 y1 y2 y3 y4) (spec_l3Value.l0 (k + 1) y0 y1 y2 y3 y4))
 | 0 => ⟨fun _ _ r h => by simp [spec_l3Value.f] at h, fun _ _ _ _ _ r h => by simp [spec_l3Value.l0] at h⟩
 | k + 1 => by
  obtain ⟨ih0, ih1⟩ := spec_l3Value.mono_l k;refine ⟨?_, ?_⟩
  all_goals (intros; first | unfold spec_l3Value.f | unfold spec_l3Value.l0)
  all_goals repeat' first | (with_reducible exact ih0 _ _) | (with_reducible exact ih1 _ _ _ _ _) | (with_reducible exact spec_l1Terms.mono _ _) | (with_reducible exact spec_l3Raise.mono _ _ _) | (with_reducible exact LeO.refl _) | (with_reducible exact LeO.none _) | (with_reducible refine LeO.ite ?_ ?_) | (with_reducible refine LeO.bind ?_ (fun _ => ?_))
theorem spec_l3Value.mono : ∀ a0 a1 k, LeO (spec_l3Value.f k a0 a1) (spec_l3Value.f (k + 1) a0 a1) := by
 intro a0 a1 k;obtain ⟨ih0, ih1⟩ := spec_l3Value.mono_l k;exact ih0 a0 a1
set_option maxHeartbeats 8000000 in
set_option maxRecDepth 100000 in
theorem spec_l3Value.calls (k : Nat) : ∀ (A0 : Option Addr) (c0 : Nat) (l0 : List Int) (a1 : Int) (r : Int) (w : World) (hr0 : Kd.C (Kd.int .i64) w A0 l0.length l0) (hc0 : l0.length ≤ c0) (h : spec_l3Value.f k l0 a1 = some r),
  Calls Try.prog 68 #[.slice A0 l0.length c0, .int .i64 a1] w fun e w' => e = .returned (.int .i64 r) ∧ Below w.heap.size w w' := by
 induction k using Nat.strongRecOn with
 | _ k ih =>
 intro A0 c0 l0 a1 r w hr0 hc0 h
 cases k with
 | zero => exact absurd h (by simp [spec_l3Value.f])
 | succ k =>
 simp only [spec_l3Value.f] at h;have HR0 := am hr0;have HC0 := am hc0;clear hr0 hc0;have HB := am (Below.refl w.heap.size w);have H : ((spec_l1Terms.f k l0).bind fun bt311 => (spec_l3Value.l0 k a1 bt311.1 bt311.2 0 0)) = some r := h;clear h;replace H := oE H;obtain ⟨⟨t311, t314⟩, A3, H⟩ := H;replace H : (spec_l3Value.l0 k a1 t311 t314 0 0) = some r := H;replace A3 := am A3;have H' := am H;clear H;go_enter Try.func68, Try.ntmps68;go_wp2_with (first | ((with_reducible refine gate_callee (f := 58) rfl ?_); refine goesL_ (some 13) rfl rfl Try.func58 (by kernel_rfl) rfl #[.slice A0 l0.length c0] rfl (by (try simp only [mA, mB, mC]); first | done | rfl) ?_; (with_reducible refine (spec_l1Terms.calls k (fun k_ => k_ < w.heap.size) _ _ l0 t311 t314 _ ?side1 A3.out).mono ?_); (case side1 => exact Kd.V_mk HC0.out (Kd.F_below (Kd.C_F (Kd.heap_int .i64) HR0.out) (bm HB.out))); rintro e w4 ⟨v312, v315, rfl, ho0, ho1, hb⟩; refine ⟨_, rfl, ?_⟩; have HO313 := am (Kd.R_lower (Kd.R_mono (ok' := fun k_ => True) ho0 (fun _ hk_ => trivial)) (below_size (bm HB.out)));have HO316 := am (Kd.N_lower (Kd.N_mono (ok' := fun k_ => some k_ ≠ (v312 : Value).ownBlock) ho1 (fun k_ hk_ => hk_.2)) (below_size (bm HB.out)));replace HB := am (below_step (bm HB.out) hb); (try clear hb); (try clear ho0); (try clear ho1)))
 go_loopg [7, 8] k (fun kq v7 v8 w' => ∃ (x7_1 : Int) (x8_1 : Int), v7 = .int .i64 x7_1 ∧ v8 = .int .i64 x8_1 ∧ Aside0 (spec_l3Value.l0 kq a1 t311 t314 x7_1 x8_1 = some r) ∧ Aside0 (kq ≤ k) ∧ Aside0 (Kd.R (Kd.int .i64) 3 w' w.heap.size (fun _ => True) v312 t311) ∧ Aside0 (Kd.N (Kd.slice 3 (Kd.int .i64)) 25 w' w.heap.size (fun k_ => some k_ ≠ (v312 : Value).ownBlock) v315 t314) ∧ Aside0 (Below w.heap.size w w'))
 case atStart => exact ⟨(0), (0), (by first | rfl | (simp; done) | (simp [*]; done)), (by first | rfl | (simp; done) | (simp [*]; done)), H', ⟨Nat.le_refl _⟩, ⟨Kd.rm HO313.out⟩, ⟨Kd.nm HO316.out⟩, ⟨bm HB.out⟩⟩
 case round =>
  clear H';(try clear p2);(try clear HO_5);(try clear HO_6);(try clear HB);obtain ⟨x7_1, x8_1, rfl, rfl, HA, HK1, HO_5, HO_6, HB⟩ := hrel
  cases gk with
  | zero => exact absurd HA.out (by simp [spec_l3Value.l0])
  | succ k1 =>
   have H := HA.out;clear HA;simp only [spec_l3Value.l0] at H;by_cases c5 : x8_1 < (t311.length : Int)
   ·
    rw [if_pos c5] at H;have c5b0 : decide (x8_1 < (t311.length : Int)) = true := decide_eq_true c5;clear c5;by_cases c6 : 0 ≤ x8_1
    ·
     rw [if_pos c6] at H;have c6b0 : decide (0 ≤ x8_1) = true := decide_eq_true c6;clear c6;by_cases c7 : x8_1 < (t314.length : Int)
     ·
      rw [if_pos c7] at H;have c7b0 : decide (x8_1 < (t314.length : Int)) = true := decide_eq_true c7;clear c7;replace H := oE H;obtain ⟨t318, A8, H⟩ := H;replace H : (if t318 < 0 then (some (-1)) else ((spec_l3Raise.f k1 a1 t318).bind fun t319 => (if t319 < 0 then (some (-1)) else (if (wrap64 (x7_1 + (wrap64 ((rd t311 x8_1) * t319)))) > 1000000000 then (some (-1)) else (spec_l3Value.l0 k1 a1 t311 t314 (wrap64 (x7_1 + (wrap64 ((rd t311 x8_1) * t319)))) (wrap64 (x8_1 + 1))))))) = some r := H;replace A8 := am A8;by_cases c9 : t318 < 0
      ·
       rw [if_pos c9] at H;have c9b0 : decide (t318 < 0) = true := decide_eq_true c9;clear c9;obtain rfl := Option.some.inj H;obtain ⟨Ao10, co10, eo10⟩ := Kd.R_slice HO_5.out;subst eo10;obtain ⟨Ao11, co11, eo11⟩ := Kd.N_slice HO_6.out;subst eo11;have p317 : 0 ≤ (x8_1 : Int) := of_decide_eq_true (by assumption);have q317 : x8_1 < (t314.length : Int) := of_decide_eq_true (by assumption);obtain ⟨ad317, A317_0, c317_0, e317, hx317_0, hl317_0, hi317_0⟩ := at_L2 (Kd.N_reads' HO_6.out).2.2 x8_1 p317 q317;cases e317
       obtain ⟨ce317, hce317, hMe317, hcc317⟩ := Kd.N_get HO_6.out [] x8_1 p317 (by first | exact q317 | exact of_decide_eq_true (by assumption) | (have e_ := (Kd.N_reads' HO_6.out).1; omega));obtain ⟨ua317_0, uc317_0, rfl, ul317_0, ge317_0⟩ := Kd.FK_slice_open hMe317;have hv317_0 := hcc317 0 _ rfl;rw [Nat.add_zero, show ((Kd.slice 3 (Kd.int .i64))).sz = 1 from rfl, Nat.mul_one] at hv317_0;replace hv317_0 := Option.some.inj (hv317_0.symm.trans hx317_0)
       injection hv317_0 with hva_ hvn_ hvc_
       rw [hva_] at ge317_0;rw [hvc_] at ul317_0;have HL317_0 := am (show Kd.V (Kd.int .i64) 3 _ w.heap.size _ _ (rd_L2 t314 x8_1) from Kd.V_mk ul317_0 ge317_0);clear hva_ hvn_ hvc_ ge317_0 ul317_0;clear hcc317 hce317;have HR317_0 := am hi317_0;have HC317_0 := am hl317_0;clear hi317_0 hl317_0;replace p317 := eq_true p317;replace q317 := eq_true q317;go_wp2_with (first | ((with_reducible refine gate_callee (f := 68) rfl ?_); refine goesL_ (some 27) rfl rfl Try.func68 (by kernel_rfl) rfl #[.slice A317_0 (rd_L2 t314 x8_1).length c317_0, .int .i64 a1] rfl (by (try simp only [mA, mB, mC]); first | done | rfl) ?_; (with_reducible refine (ih k1 (by have := HK1.out; omega) _ _ (rd_L2 t314 x8_1) a1 t318 _ ?side1 ?side2 A8.out).mono ?_); (case side1 => exact Kd.cm ((by repeat (first | (with_reducible exact HR317_0.out) | (with_reducible refine Kd.C_alloc ?_ _) | (with_reducible refine Kd.C_drewN ?_ _) | (with_reducible refine Kd.C_drew ?_) | exact HR317_0.out)))); (case side2 => exact HC317_0.out); rintro e w12 ⟨rfl, hb⟩; refine ⟨_, rfl, ?_⟩; replace HO_5 := am (Kd.R_below (Kd.rm HO_5.out) hb);replace HO_6 := am (Kd.N_below (Kd.nm HO_6.out) hb);replace HL317_0 := am (Kd.V_below (Kd.vm HL317_0.out) hb);replace HR317_0 := am (Kd.C_below (by repeat (first | (with_reducible exact HR317_0.out) | (with_reducible refine Kd.C_alloc ?_ _) | (with_reducible refine Kd.C_drewN ?_ _) | (with_reducible refine Kd.C_drew ?_) | exact HR317_0.out)) hb);replace HB := am (below_step (bm HB.out) hb); (try clear hb)));go_ret;exact ⟨by first | rfl | (simp [errW_none, errW_some] <;> rfl) | (simp [*, errW_none, errW_some] <;> rfl), bm HB.out⟩
      ·
       rw [if_neg c9] at H;have c9b0 : decide (t318 < 0) = false := decide_eq_false c9;clear c9;replace H := oE H;obtain ⟨t319, A13, H⟩ := H;replace H : (if t319 < 0 then (some (-1)) else (if (wrap64 (x7_1 + (wrap64 ((rd t311 x8_1) * t319)))) > 1000000000 then (some (-1)) else (spec_l3Value.l0 k1 a1 t311 t314 (wrap64 (x7_1 + (wrap64 ((rd t311 x8_1) * t319)))) (wrap64 (x8_1 + 1))))) = some r := H;replace A13 := am A13;by_cases c14 : t319 < 0
       ·
        rw [if_pos c14] at H;have c14b0 : decide (t319 < 0) = true := decide_eq_true c14;clear c14;obtain rfl := Option.some.inj H;obtain ⟨Ao15, co15, eo15⟩ := Kd.R_slice HO_5.out;subst eo15;obtain ⟨Ao16, co16, eo16⟩ := Kd.N_slice HO_6.out;subst eo16;have p317 : 0 ≤ (x8_1 : Int) := of_decide_eq_true (by assumption);have q317 : x8_1 < (t314.length : Int) := of_decide_eq_true (by assumption);obtain ⟨ad317, A317_0, c317_0, e317, hx317_0, hl317_0, hi317_0⟩ := at_L2 (Kd.N_reads' HO_6.out).2.2 x8_1 p317 q317;cases e317
        obtain ⟨ce317, hce317, hMe317, hcc317⟩ := Kd.N_get HO_6.out [] x8_1 p317 (by first | exact q317 | exact of_decide_eq_true (by assumption) | (have e_ := (Kd.N_reads' HO_6.out).1; omega));obtain ⟨ua317_0, uc317_0, rfl, ul317_0, ge317_0⟩ := Kd.FK_slice_open hMe317;have hv317_0 := hcc317 0 _ rfl;rw [Nat.add_zero, show ((Kd.slice 3 (Kd.int .i64))).sz = 1 from rfl, Nat.mul_one] at hv317_0;replace hv317_0 := Option.some.inj (hv317_0.symm.trans hx317_0)
        injection hv317_0 with hva_ hvn_ hvc_
        rw [hva_] at ge317_0;rw [hvc_] at ul317_0;have HL317_0 := am (show Kd.V (Kd.int .i64) 3 _ w.heap.size _ _ (rd_L2 t314 x8_1) from Kd.V_mk ul317_0 ge317_0);clear hva_ hvn_ hvc_ ge317_0 ul317_0;clear hcc317 hce317;have HR317_0 := am hi317_0;have HC317_0 := am hl317_0;clear hi317_0 hl317_0;replace p317 := eq_true p317;replace q317 := eq_true q317;go_wp2_with (first | ((with_reducible refine gate_callee (f := 68) rfl ?_); refine goesL_ (some 27) rfl rfl Try.func68 (by kernel_rfl) rfl #[.slice A317_0 (rd_L2 t314 x8_1).length c317_0, .int .i64 a1] rfl (by (try simp only [mA, mB, mC]); first | done | rfl) ?_; (with_reducible refine (ih k1 (by have := HK1.out; omega) _ _ (rd_L2 t314 x8_1) a1 t318 _ ?side1 ?side2 A8.out).mono ?_); (case side1 => exact Kd.cm ((by repeat (first | (with_reducible exact HR317_0.out) | (with_reducible refine Kd.C_alloc ?_ _) | (with_reducible refine Kd.C_drewN ?_ _) | (with_reducible refine Kd.C_drew ?_) | exact HR317_0.out)))); (case side2 => exact HC317_0.out); rintro e w17 ⟨rfl, hb⟩; refine ⟨_, rfl, ?_⟩; replace HO_5 := am (Kd.R_below (Kd.rm HO_5.out) hb);replace HO_6 := am (Kd.N_below (Kd.nm HO_6.out) hb);replace HL317_0 := am (Kd.V_below (Kd.vm HL317_0.out) hb);replace HR317_0 := am (Kd.C_below (by repeat (first | (with_reducible exact HR317_0.out) | (with_reducible refine Kd.C_alloc ?_ _) | (with_reducible refine Kd.C_drewN ?_ _) | (with_reducible refine Kd.C_drew ?_) | exact HR317_0.out)) hb);replace HB := am (below_step (bm HB.out) hb); (try clear hb)) | ((with_reducible refine gate_callee (f := 70) rfl ?_); refine goesL_ (some 32) rfl rfl Try.func70 (by kernel_rfl) rfl #[.int .i64 a1, .int .i64 t318] rfl (by (try simp only [mA, mB, mC]); first | done | rfl) ?_; (with_reducible refine (spec_l3Raise.calls k1 a1 t318 t319 _ A13.out).mono ?_); rintro e w' ⟨rfl, ⟨nd, rfl⟩⟩; refine ⟨_, rfl, ?_⟩));go_ret;exact ⟨by first | rfl | (simp [errW_none, errW_some] <;> rfl) | (simp [*, errW_none, errW_some] <;> rfl), bm HB.out⟩
       ·
        rw [if_neg c14] at H;have c14b0 : decide (t319 < 0) = false := decide_eq_false c14;clear c14;by_cases c18 : (wrap64 (x7_1 + (wrap64 ((rd t311 x8_1) * t319)))) > 1000000000
        ·
         rw [if_pos c18] at H;have c18b0 : decide (1000000000 < (wrap64 (x7_1 + (wrap64 ((rd t311 x8_1) * t319))))) = true := decide_eq_true c18;clear c18;obtain rfl := Option.some.inj H;obtain ⟨Ao19, co19, eo19⟩ := Kd.R_slice HO_5.out;subst eo19;obtain ⟨Ao20, co20, eo20⟩ := Kd.N_slice HO_6.out;subst eo20;have p317 : 0 ≤ (x8_1 : Int) := of_decide_eq_true (by assumption);have q317 : x8_1 < (t314.length : Int) := of_decide_eq_true (by assumption);obtain ⟨ad317, A317_0, c317_0, e317, hx317_0, hl317_0, hi317_0⟩ := at_L2 (Kd.N_reads' HO_6.out).2.2 x8_1 p317 q317;cases e317
         obtain ⟨ce317, hce317, hMe317, hcc317⟩ := Kd.N_get HO_6.out [] x8_1 p317 (by first | exact q317 | exact of_decide_eq_true (by assumption) | (have e_ := (Kd.N_reads' HO_6.out).1; omega));obtain ⟨ua317_0, uc317_0, rfl, ul317_0, ge317_0⟩ := Kd.FK_slice_open hMe317;have hv317_0 := hcc317 0 _ rfl;rw [Nat.add_zero, show ((Kd.slice 3 (Kd.int .i64))).sz = 1 from rfl, Nat.mul_one] at hv317_0;replace hv317_0 := Option.some.inj (hv317_0.symm.trans hx317_0)
         injection hv317_0 with hva_ hvn_ hvc_
         rw [hva_] at ge317_0;rw [hvc_] at ul317_0;have HL317_0 := am (show Kd.V (Kd.int .i64) 3 _ w.heap.size _ _ (rd_L2 t314 x8_1) from Kd.V_mk ul317_0 ge317_0);clear hva_ hvn_ hvc_ ge317_0 ul317_0;clear hcc317 hce317;have HR317_0 := am hi317_0;have HC317_0 := am hl317_0;clear hi317_0 hl317_0;replace p317 := eq_true p317;replace q317 := eq_true q317;go_wp2_with (first | ((with_reducible refine gate_callee (f := 68) rfl ?_); refine goesL_ (some 27) rfl rfl Try.func68 (by kernel_rfl) rfl #[.slice A317_0 (rd_L2 t314 x8_1).length c317_0, .int .i64 a1] rfl (by (try simp only [mA, mB, mC]); first | done | rfl) ?_; (with_reducible refine (ih k1 (by have := HK1.out; omega) _ _ (rd_L2 t314 x8_1) a1 t318 _ ?side1 ?side2 A8.out).mono ?_); (case side1 => exact Kd.cm ((by repeat (first | (with_reducible exact HR317_0.out) | (with_reducible refine Kd.C_alloc ?_ _) | (with_reducible refine Kd.C_drewN ?_ _) | (with_reducible refine Kd.C_drew ?_) | exact HR317_0.out)))); (case side2 => exact HC317_0.out); rintro e w21 ⟨rfl, hb⟩; refine ⟨_, rfl, ?_⟩; replace HO_5 := am (Kd.R_below (Kd.rm HO_5.out) hb);replace HO_6 := am (Kd.N_below (Kd.nm HO_6.out) hb);replace HL317_0 := am (Kd.V_below (Kd.vm HL317_0.out) hb);replace HR317_0 := am (Kd.C_below (by repeat (first | (with_reducible exact HR317_0.out) | (with_reducible refine Kd.C_alloc ?_ _) | (with_reducible refine Kd.C_drewN ?_ _) | (with_reducible refine Kd.C_drew ?_) | exact HR317_0.out)) hb);replace HB := am (below_step (bm HB.out) hb); (try clear hb)) | ((with_reducible refine gate_callee (f := 70) rfl ?_); refine goesL_ (some 32) rfl rfl Try.func70 (by kernel_rfl) rfl #[.int .i64 a1, .int .i64 t318] rfl (by (try simp only [mA, mB, mC]); first | done | rfl) ?_; (with_reducible refine (spec_l3Raise.calls k1 a1 t318 t319 _ A13.out).mono ?_); rintro e w' ⟨rfl, ⟨nd, rfl⟩⟩; refine ⟨_, rfl, ?_⟩; have p320 : 0 ≤ (x8_1 : Int) := of_decide_eq_true (by assumption); have q320 : x8_1 < (t311.length : Int) := of_decide_eq_true (by assumption); obtain ⟨ad320, e320, hx320_0⟩ := Kd.at_int (Kd.R_reads' HO_5.out).2.2 x8_1 p320 q320; cases e320; replace p320 := eq_true p320; replace q320 := eq_true q320));go_ret;exact ⟨by first | rfl | (simp [errW_none, errW_some] <;> rfl) | (simp [*, errW_none, errW_some] <;> rfl), bm HB.out⟩
        ·
         rw [if_neg c18] at H;have c18b0 : decide (1000000000 < (wrap64 (x7_1 + (wrap64 ((rd t311 x8_1) * t319))))) = false := decide_eq_false c18;clear c18;have H' := am H;clear H;obtain ⟨Ao22, co22, eo22⟩ := Kd.R_slice HO_5.out;subst eo22;obtain ⟨Ao23, co23, eo23⟩ := Kd.N_slice HO_6.out;subst eo23;have p317 : 0 ≤ (x8_1 : Int) := of_decide_eq_true (by assumption);have q317 : x8_1 < (t314.length : Int) := of_decide_eq_true (by assumption);obtain ⟨ad317, A317_0, c317_0, e317, hx317_0, hl317_0, hi317_0⟩ := at_L2 (Kd.N_reads' HO_6.out).2.2 x8_1 p317 q317;cases e317
         obtain ⟨ce317, hce317, hMe317, hcc317⟩ := Kd.N_get HO_6.out [] x8_1 p317 (by first | exact q317 | exact of_decide_eq_true (by assumption) | (have e_ := (Kd.N_reads' HO_6.out).1; omega));obtain ⟨ua317_0, uc317_0, rfl, ul317_0, ge317_0⟩ := Kd.FK_slice_open hMe317;have hv317_0 := hcc317 0 _ rfl;rw [Nat.add_zero, show ((Kd.slice 3 (Kd.int .i64))).sz = 1 from rfl, Nat.mul_one] at hv317_0;replace hv317_0 := Option.some.inj (hv317_0.symm.trans hx317_0)
         injection hv317_0 with hva_ hvn_ hvc_
         rw [hva_] at ge317_0;rw [hvc_] at ul317_0;have HL317_0 := am (show Kd.V (Kd.int .i64) 3 _ w.heap.size _ _ (rd_L2 t314 x8_1) from Kd.V_mk ul317_0 ge317_0);clear hva_ hvn_ hvc_ ge317_0 ul317_0;clear hcc317 hce317;have HR317_0 := am hi317_0;have HC317_0 := am hl317_0;clear hi317_0 hl317_0;replace p317 := eq_true p317;replace q317 := eq_true q317;go_wp2_with (first | ((with_reducible refine gate_callee (f := 68) rfl ?_); refine goesL_ (some 27) rfl rfl Try.func68 (by kernel_rfl) rfl #[.slice A317_0 (rd_L2 t314 x8_1).length c317_0, .int .i64 a1] rfl (by (try simp only [mA, mB, mC]); first | done | rfl) ?_; (with_reducible refine (ih k1 (by have := HK1.out; omega) _ _ (rd_L2 t314 x8_1) a1 t318 _ ?side1 ?side2 A8.out).mono ?_); (case side1 => exact Kd.cm ((by repeat (first | (with_reducible exact HR317_0.out) | (with_reducible refine Kd.C_alloc ?_ _) | (with_reducible refine Kd.C_drewN ?_ _) | (with_reducible refine Kd.C_drew ?_) | exact HR317_0.out)))); (case side2 => exact HC317_0.out); rintro e w24 ⟨rfl, hb⟩; refine ⟨_, rfl, ?_⟩; replace HO_5 := am (Kd.R_below (Kd.rm HO_5.out) hb);replace HO_6 := am (Kd.N_below (Kd.nm HO_6.out) hb);replace HL317_0 := am (Kd.V_below (Kd.vm HL317_0.out) hb);replace HR317_0 := am (Kd.C_below (by repeat (first | (with_reducible exact HR317_0.out) | (with_reducible refine Kd.C_alloc ?_ _) | (with_reducible refine Kd.C_drewN ?_ _) | (with_reducible refine Kd.C_drew ?_) | exact HR317_0.out)) hb);replace HB := am (below_step (bm HB.out) hb); (try clear hb)) | ((with_reducible refine gate_callee (f := 70) rfl ?_); refine goesL_ (some 32) rfl rfl Try.func70 (by kernel_rfl) rfl #[.int .i64 a1, .int .i64 t318] rfl (by (try simp only [mA, mB, mC]); first | done | rfl) ?_; (with_reducible refine (spec_l3Raise.calls k1 a1 t318 t319 _ A13.out).mono ?_); rintro e w' ⟨rfl, ⟨nd, rfl⟩⟩; refine ⟨_, rfl, ?_⟩; have p320 : 0 ≤ (x8_1 : Int) := of_decide_eq_true (by assumption); have q320 : x8_1 < (t311.length : Int) := of_decide_eq_true (by assumption); obtain ⟨ad320, e320, hx320_0⟩ := Kd.at_int (Kd.R_reads' HO_5.out).2.2 x8_1 p320 q320; cases e320; replace p320 := eq_true p320; replace q320 := eq_true q320))
         go_roundg k1
         case measure => have := HK1.out; omega
         case rel => exact ⟨(wrap64 (x7_1 + (wrap64 ((rd t311 x8_1) * t319)))), (wrap64 (x8_1 + 1)), (by first | rfl | (simp; done) | (simp [*]; done)), (by first | rfl | (simp; done) | (simp [*]; done)), H', ⟨by have := HK1.out; omega⟩, ⟨Kd.rm HO_5.out⟩, ⟨Kd.nm HO_6.out⟩, ⟨bm HB.out⟩⟩
     ·
      rw [if_neg c7] at H;exact absurd H (by simp)
    ·
     rw [if_neg c6] at H;exact absurd H (by simp)
   ·
    rw [if_neg c5] at H;have c5b0 : decide (x8_1 < (t311.length : Int)) = false := decide_eq_false c5;clear c5;obtain rfl := Option.some.inj H;obtain ⟨Ao25, co25, eo25⟩ := Kd.R_slice HO_5.out;subst eo25;go_wp2;go_ret;exact ⟨by first | rfl | (simp [errW_none, errW_some] <;> rfl) | (simp [*, errW_none, errW_some] <;> rfl), bm HB.out⟩

/-! ### spec_ChangeBase: function 62 -/
def spec_ChangeBase.f (k : Nat) (a0 : Int) (a1 : Int) (a2 : Int) : Option (Int) := (spec_OrdInBase.f k a0 a1).bind fun t321 => (if (t321.length : Int) = 0 then (some (-1)) else ((spec_l1In.f a2 2 90).bind fun t324 => (if t324 = true then ((spec_l3Value.f k t321 a2).bind fun t325 => (some t325)) else (some (-1)))))
theorem spec_ChangeBase.mono : ∀ a0 a1 a2 k, LeO (spec_ChangeBase.f k a0 a1 a2) (spec_ChangeBase.f (k + 1) a0 a1 a2) := by
 intro a0 a1 a2 k;unfold spec_ChangeBase.f
 repeat' first | (with_reducible exact spec_OrdInBase.mono _ _ _) | (with_reducible exact spec_l3Value.mono _ _ _) | (with_reducible exact LeO.refl _) | (with_reducible exact LeO.none _) | (with_reducible refine LeO.ite ?_ ?_) | (with_reducible refine LeO.bind ?_ (fun _ => ?_))
set_option maxHeartbeats 8000000 in
set_option maxRecDepth 100000 in
theorem spec_ChangeBase.calls (k : Nat) (a0 : Int) (a1 : Int) (a2 : Int) (r : Int) (w : World) (h : spec_ChangeBase.f k a0 a1 a2 = some r) :
  Calls Try.prog 62 #[.int .i64 a0, .int .i64 a1, .int .i64 a2] w fun e w' => e = .returned (.int .i64 r) ∧ Below w.heap.size w w' := by
 have HB := am (Below.refl w.heap.size w);have H : ((spec_OrdInBase.f k a0 a1).bind fun t321 => (if (t321.length : Int) = 0 then (some (-1)) else ((spec_l1In.f a2 2 90).bind fun t324 => (if t324 = true then ((spec_l3Value.f k t321 a2).bind fun t325 => (some t325)) else (some (-1)))))) = some r := h;clear h;replace H := oE H;obtain ⟨t321, A4, H⟩ := H;replace H : (if (t321.length : Int) = 0 then (some (-1)) else ((spec_l1In.f a2 2 90).bind fun t324 => (if t324 = true then ((spec_l3Value.f k t321 a2).bind fun t325 => (some t325)) else (some (-1))))) = some r := H;replace A4 := am A4;by_cases c5 : (t321.length : Int) = 0
 ·
  rw [if_pos c5] at H;have c5b0 : ((t321.length : Int) == 0) = true := beq_iff_eq.mpr c5;have c5b1 : ((t321.length : Int) != 0) = false := bne_eq_false_iff_eq.mpr c5;clear c5;obtain rfl := Option.some.inj H;go_enter Try.func62, Try.ntmps62;go_wp2_with (first | ((with_reducible refine gate_callee (f := 46) rfl ?_); refine goesL_ (some 10) rfl rfl Try.func46 (by kernel_rfl) rfl #[.int .i64 a0, .int .i64 a1] rfl (by (try simp only [mA, mB, mC]); first | done | rfl) ?_; (with_reducible refine (spec_OrdInBase.calls k a0 a1 t321 _ A4.out).mono ?_); rintro e w6 ⟨v322, rfl, ho0, hb⟩; refine ⟨_, rfl, ?_⟩; have HO323 := am (Kd.R_lower ho0 (below_size (bm HB.out)));replace HB := am (below_step (bm HB.out) hb); (try clear hb); (try clear ho0); obtain ⟨Ao7, co7, eo7⟩ := Kd.R_slice HO323.out; subst eo7));go_ret;exact ⟨by first | rfl | (simp [errW_none, errW_some] <;> rfl) | (simp [*, errW_none, errW_some] <;> rfl), bm HB.out⟩
 ·
  rw [if_neg c5] at H;have c5b0 : ((t321.length : Int) == 0) = false := beq_eq_false_iff_ne.mpr c5;have c5b1 : ((t321.length : Int) != 0) = true := bne_iff_ne.mpr c5
  have c5b2 : ¬ (t321 = []) := fun h_ => c5 (by rw [h_]; rfl)
  replace H := oE H;obtain ⟨t324, A8, H⟩ := H;replace H : (if t324 = true then ((spec_l3Value.f k t321 a2).bind fun t325 => (some t325)) else (some (-1))) = some r := H;replace A8 := am A8;by_cases c9 : t324 = true
  ·
   subst c9
   have H1 : ((spec_l3Value.f k t321 a2).bind fun t325 => (some t325)) = some r := by rw [if_pos rfl] at H; exact H
   clear H;have H := H1;clear H1;replace H := oE H;obtain ⟨t325, A10, H⟩ := H;replace H : (some t325) = some r := H;replace A10 := am A10;obtain rfl := Option.some.inj H;go_enter Try.func62, Try.ntmps62;go_wp2_with (first | ((with_reducible refine gate_callee (f := 46) rfl ?_); refine goesL_ (some 10) rfl rfl Try.func46 (by kernel_rfl) rfl #[.int .i64 a0, .int .i64 a1] rfl (by (try simp only [mA, mB, mC]); first | done | rfl) ?_; (with_reducible refine (spec_OrdInBase.calls k a0 a1 t321 _ A4.out).mono ?_); rintro e w11 ⟨v322, rfl, ho0, hb⟩; refine ⟨_, rfl, ?_⟩; have HO323 := am (Kd.R_lower ho0 (below_size (bm HB.out)));replace HB := am (below_step (bm HB.out) hb); (try clear hb); (try clear ho0); obtain ⟨Ao12, co12, eo12⟩ := Kd.R_slice HO323.out; subst eo12) | (go_at_call 38; (with_reducible refine (spec_l1In.calls a2 2 90 true _ A8.out).mono ?_); rintro e w' ⟨rfl, ⟨nd, rfl⟩⟩) | ((with_reducible refine gate_callee (f := 68) rfl ?_); refine goesL_ (some 21) rfl rfl Try.func68 (by kernel_rfl) rfl #[.slice Ao12 t321.length co12, .int .i64 a2] rfl (by (try simp only [mA, mB, mC]); first | done | rfl) ?_; (with_reducible refine (spec_l3Value.calls k _ _ t321 a2 t325 _ ?side1 ?side2 A10.out).mono ?_); (case side1 => exact Kd.cm ((Kd.R_reads' HO323.out).2.2)); (case side2 => exact (Kd.R_reads' HO323.out).2.1); rintro e w13 ⟨rfl, hb⟩; refine ⟨_, rfl, ?_⟩; replace HO323 := am (Kd.R_below (Kd.rm HO323.out) hb);replace HB := am (below_step (bm HB.out) hb); (try clear hb)));go_ret;exact ⟨by first | rfl | (simp [errW_none, errW_some] <;> rfl) | (simp [*, errW_none, errW_some] <;> rfl), bm HB.out⟩
  ·
   replace c9 := Bool.eq_false_iff.mpr c9;subst c9
   have H1 : (some (-1)) = some r := by rw [if_neg (show ¬ (false = true) by decide)] at H; exact H
   clear H;have H := H1;clear H1;obtain rfl := Option.some.inj H;go_enter Try.func62, Try.ntmps62;go_wp2_with (first | ((with_reducible refine gate_callee (f := 46) rfl ?_); refine goesL_ (some 10) rfl rfl Try.func46 (by kernel_rfl) rfl #[.int .i64 a0, .int .i64 a1] rfl (by (try simp only [mA, mB, mC]); first | done | rfl) ?_; (with_reducible refine (spec_OrdInBase.calls k a0 a1 t321 _ A4.out).mono ?_); rintro e w14 ⟨v322, rfl, ho0, hb⟩; refine ⟨_, rfl, ?_⟩; have HO323 := am (Kd.R_lower ho0 (below_size (bm HB.out)));replace HB := am (below_step (bm HB.out) hb); (try clear hb); (try clear ho0); obtain ⟨Ao15, co15, eo15⟩ := Kd.R_slice HO323.out; subst eo15) | (go_at_call 38; (with_reducible refine (spec_l1In.calls a2 2 90 false _ A8.out).mono ?_); rintro e w' ⟨rfl, ⟨nd, rfl⟩⟩));go_ret;exact ⟨by first | rfl | (simp [errW_none, errW_some] <;> rfl) | (simp [*, errW_none, errW_some] <;> rfl), bm HB.out⟩

/-! ### spec_GoodsteinNext: function 44 -/
def spec_GoodsteinNext.f (k : Nat) (a0 : Int) (a1 : Int) : Option (Int) := if a0 < 1 then (some (-1)) else ((spec_l1In.f a1 2 89).bind fun t326 => (if t326 = true then ((spec_ChangeBase.f k a0 a1 (wrap64 (a1 + 1))).bind fun t327 => (if t327 < 0 then (some (-1)) else ((spec_ChangeBase.f k a0 a1 (wrap64 (a1 + 1))).bind fun t328 => (some (wrap64 (t328 - 1)))))) else (some (-1))))
theorem spec_GoodsteinNext.mono : ∀ a0 a1 k, LeO (spec_GoodsteinNext.f k a0 a1) (spec_GoodsteinNext.f (k + 1) a0 a1) := by
 intro a0 a1 k;unfold spec_GoodsteinNext.f
 repeat' first | (with_reducible exact spec_ChangeBase.mono _ _ _ _) | (with_reducible exact LeO.refl _) | (with_reducible exact LeO.none _) | (with_reducible refine LeO.ite ?_ ?_) | (with_reducible refine LeO.bind ?_ (fun _ => ?_))
set_option maxHeartbeats 8000000 in
set_option maxRecDepth 100000 in
theorem spec_GoodsteinNext.calls (k : Nat) (a0 : Int) (a1 : Int) (r : Int) (w : World) (h : spec_GoodsteinNext.f k a0 a1 = some r) :
  Calls Try.prog 44 #[.int .i64 a0, .int .i64 a1] w fun e w' => e = .returned (.int .i64 r) ∧ Below w.heap.size w w' := by
 have HB := am (Below.refl w.heap.size w);have H : (if a0 < 1 then (some (-1)) else ((spec_l1In.f a1 2 89).bind fun t326 => (if t326 = true then ((spec_ChangeBase.f k a0 a1 (wrap64 (a1 + 1))).bind fun t327 => (if t327 < 0 then (some (-1)) else ((spec_ChangeBase.f k a0 a1 (wrap64 (a1 + 1))).bind fun t328 => (some (wrap64 (t328 - 1)))))) else (some (-1))))) = some r := h;clear h;by_cases c3 : a0 < 1
 ·
  rw [if_pos c3] at H;have c3b0 : decide (a0 < 1) = true := decide_eq_true c3;clear c3;obtain rfl := Option.some.inj H;go_enter Try.func44, Try.ntmps44;go_wp2;go_ret;exact ⟨by first | rfl | (simp [errW_none, errW_some] <;> rfl) | (simp [*, errW_none, errW_some] <;> rfl), bm HB.out⟩
 ·
  rw [if_neg c3] at H;have c3b0 : decide (a0 < 1) = false := decide_eq_false c3;clear c3;replace H := oE H;obtain ⟨t326, A4, H⟩ := H;replace H : (if t326 = true then ((spec_ChangeBase.f k a0 a1 (wrap64 (a1 + 1))).bind fun t327 => (if t327 < 0 then (some (-1)) else ((spec_ChangeBase.f k a0 a1 (wrap64 (a1 + 1))).bind fun t328 => (some (wrap64 (t328 - 1)))))) else (some (-1))) = some r := H;replace A4 := am A4;by_cases c5 : t326 = true
  ·
   subst c5
   have H1 : ((spec_ChangeBase.f k a0 a1 (wrap64 (a1 + 1))).bind fun t327 => (if t327 < 0 then (some (-1)) else ((spec_ChangeBase.f k a0 a1 (wrap64 (a1 + 1))).bind fun t328 => (some (wrap64 (t328 - 1)))))) = some r := by rw [if_pos rfl] at H; exact H
   clear H;have H := H1;clear H1;replace H := oE H;obtain ⟨t327, A6, H⟩ := H;replace H : (if t327 < 0 then (some (-1)) else ((spec_ChangeBase.f k a0 a1 (wrap64 (a1 + 1))).bind fun t328 => (some (wrap64 (t328 - 1))))) = some r := H;replace A6 := am A6;by_cases c7 : t327 < 0
   ·
    rw [if_pos c7] at H;have c7b0 : decide (t327 < 0) = true := decide_eq_true c7;clear c7;obtain rfl := Option.some.inj H;go_enter Try.func44, Try.ntmps44;go_wp2_with (first | (go_at_call 38; (with_reducible refine (spec_l1In.calls a1 2 89 true _ A4.out).mono ?_); rintro e w' ⟨rfl, ⟨nd, rfl⟩⟩) | (go_at_call 62; (with_reducible refine (spec_ChangeBase.calls k a0 a1 (wrap64 (a1 + 1)) t327 _ A6.out).mono ?_); rintro e w8 ⟨rfl, hb⟩; replace HB := am (below_step (bm HB.out) hb); (try clear hb)));go_ret;exact ⟨by first | rfl | (simp [errW_none, errW_some] <;> rfl) | (simp [*, errW_none, errW_some] <;> rfl), bm HB.out⟩
   ·
    rw [if_neg c7] at H;have c7b0 : decide (t327 < 0) = false := decide_eq_false c7;clear c7;replace H := oE H;obtain ⟨t328, A9, H⟩ := H;replace H : (some (wrap64 (t328 - 1))) = some r := H;replace A9 := am A9;obtain rfl := Option.some.inj H;go_enter Try.func44, Try.ntmps44;go_wp2_with (first | (go_at_call 38; (with_reducible refine (spec_l1In.calls a1 2 89 true _ A4.out).mono ?_); rintro e w' ⟨rfl, ⟨nd, rfl⟩⟩) | (go_at_call 62; (with_reducible refine (spec_ChangeBase.calls k a0 a1 (wrap64 (a1 + 1)) t327 _ A6.out).mono ?_); rintro e w10 ⟨rfl, hb⟩; replace HB := am (below_step (bm HB.out) hb); (try clear hb)) | ((with_reducible refine gate_callee (f := 62) rfl ?_); refine goesL_ (some 24) rfl rfl Try.func62 (by kernel_rfl) rfl #[.int .i64 a0, .int .i64 a1, .int .i64 (wrap64 (a1 + 1))] rfl (by (try simp only [mA, mB, mC]); first | done | rfl) ?_; (with_reducible refine (spec_ChangeBase.calls k a0 a1 (wrap64 (a1 + 1)) t328 _ A9.out).mono ?_); rintro e w11 ⟨rfl, hb⟩; refine ⟨_, rfl, ?_⟩; replace HB := am (below_step (bm HB.out) hb); (try clear hb)));go_ret;exact ⟨by first | rfl | (simp [errW_none, errW_some] <;> rfl) | (simp [*, errW_none, errW_some] <;> rfl), bm HB.out⟩
  ·
   replace c5 := Bool.eq_false_iff.mpr c5;subst c5
   have H1 : (some (-1)) = some r := by rw [if_neg (show ¬ (false = true) by decide)] at H; exact H
   clear H;have H := H1;clear H1;obtain rfl := Option.some.inj H;go_enter Try.func44, Try.ntmps44;go_wp2_with (first | (go_at_call 38; (with_reducible refine (spec_l1In.calls a1 2 89 false _ A4.out).mono ?_); rintro e w' ⟨rfl, ⟨nd, rfl⟩⟩));go_ret;exact ⟨by first | rfl | (simp [errW_none, errW_some] <;> rfl) | (simp [*, errW_none, errW_some] <;> rfl), bm HB.out⟩

/-! ### spec_GoodsteinRun: function 20 -/
mutual
def spec_GoodsteinRun.l0 : Nat → Int → List Int → Int → Option (List Int)
 | 0, _, _, _ => none
 | k + 1, x0, x3, x4 => if x0 > 0 then (spec_GoodsteinRun.j1 k x0 x3 x4 (decide ((x3.length : Int) < 60))) else (spec_GoodsteinRun.j1 k x0 x3 x4 false)
def spec_GoodsteinRun.j1 : Nat → Int → List Int → Int → Bool → Option (List Int)
 | 0, _, _, _, _ => none
 | k + 1, x0, x3, x4, x20 => if x20 = true then ((spec_GoodsteinNext.f k x0 x4).bind fun t336 => (if t336 < 0 then (some x3) else (if x3.length < 17592186044416 then (spec_GoodsteinRun.l0 k t336 (x3 ++ [t336]) (wrap64 (x4 + 1))) else (none)))) else (some x3)
end
def spec_GoodsteinRun.f (k : Nat) (a0 : Int) : Option (List Int) := (some (([] : List Int) : List Int)).bind fun y329 => ((spec_l1In.f a0 0 1000000000).bind fun t332 => (if t332 = true then (if y329.length < 17592186044416 then (spec_GoodsteinRun.l0 k a0 (y329 ++ [a0]) 2) else (none)) else (some y329)))
theorem spec_GoodsteinRun.mono_l : ∀ k, (∀ y0 y1 y2, LeO (spec_GoodsteinRun.l0 k y0 y1 y2) (spec_GoodsteinRun.l0 (k + 1) y0 y1 y2)) ∧ (∀ y0 y1 y2 y3, LeO (spec_GoodsteinRun.j1 k y0 y1 y2 y3) (spec_GoodsteinRun.j1 (k + 1) y0 y1 y2 y3))
 | 0 => ⟨fun _ _ _ r h => by simp [spec_GoodsteinRun.l0] at h, fun _ _ _ _ r h => by simp [spec_GoodsteinRun.j1] at h⟩
 | k + 1 => by
  obtain ⟨ih0, ih1⟩ := spec_GoodsteinRun.mono_l k;refine ⟨?_, ?_⟩
  all_goals (intros; first | unfold spec_GoodsteinRun.l0 | unfold spec_GoodsteinRun.j1)
  all_goals repeat' first | (with_reducible exact ih0 _ _ _) | (with_reducible exact ih1 _ _ _ _) | (with_reducible exact spec_GoodsteinNext.mono _ _ _) | (with_reducible exact LeO.refl _) | (with_reducible exact LeO.none _) | (with_reducible refine LeO.ite ?_ ?_) | (with_reducible refine LeO.bind ?_ (fun _ => ?_))
theorem spec_GoodsteinRun.mono : ∀ a0 k, LeO (spec_GoodsteinRun.f k a0) (spec_GoodsteinRun.f (k + 1) a0) := by
 intro a0 k;obtain ⟨ih0, ih1⟩ := spec_GoodsteinRun.mono_l k;unfold spec_GoodsteinRun.f
 repeat' first | (with_reducible exact ih0 _ _ _) | (with_reducible exact ih1 _ _ _ _) | (with_reducible exact spec_GoodsteinNext.mono _ _ _) | (with_reducible exact LeO.refl _) | (with_reducible exact LeO.none _) | (with_reducible refine LeO.ite ?_ ?_) | (with_reducible refine LeO.bind ?_ (fun _ => ?_))
set_option maxHeartbeats 8000000 in
set_option maxRecDepth 100000 in
theorem spec_GoodsteinRun.calls (k : Nat) (a0 : Int) (r : List Int) (w : World) (h : spec_GoodsteinRun.f k a0 = some r) :
  Calls Try.prog 20 #[.int .i64 a0] w fun e w' => ∃ v0_ : Value, e = .returned (v0_) ∧ Kd.R (Kd.int .i64) 3 w' w.heap.size (fun _ => True) v0_ r ∧ Below w.heap.size w w' := by
 have HB := am (Below.refl w.heap.size w);have H : ((some (([] : List Int) : List Int)).bind fun y329 => ((spec_l1In.f a0 0 1000000000).bind fun t332 => (if t332 = true then (if y329.length < 17592186044416 then (spec_GoodsteinRun.l0 k a0 (y329 ++ [a0]) 2) else (none)) else (some y329)))) = some r := h;clear h
 obtain ⟨y329, hy329⟩ : ∃ y_ : List Int, y_ = (([] : List Int)) := ⟨_, rfl⟩
 replace H : ((spec_l1In.f a0 0 1000000000).bind fun t332 => (if t332 = true then (if y329.length < 17592186044416 then (spec_GoodsteinRun.l0 k a0 (y329 ++ [a0]) 2) else (none)) else (some y329))) = some r := by first | (rw [hy329]; with_reducible exact H) | (have H2_ := oB H; rw [hy329]; with_reducible exact H2_) | (have H2_ := oB H; with_reducible exact H2_) | with_reducible exact H | (rw [hy329]; exact H) | exact H
 replace hy329 := am hy329;replace H := oE H;obtain ⟨t332, A2, H⟩ := H;replace H : (if t332 = true then (if y329.length < 17592186044416 then (spec_GoodsteinRun.l0 k a0 (y329 ++ [a0]) 2) else (none)) else (some y329)) = some r := H;replace A2 := am A2;by_cases c3 : t332 = true
 ·
  subst c3
  have H1 : (if y329.length < 17592186044416 then (spec_GoodsteinRun.l0 k a0 (y329 ++ [a0]) 2) else (none)) = some r := by rw [if_pos rfl] at H; exact H
  clear H;have H := H1;clear H1;by_cases c4 : y329.length < 17592186044416
  ·
   rw [if_pos c4] at H;have LMc4 := am c4;clear c4
   obtain ⟨y333, hy333⟩ : ∃ y_ : List Int, y_ = (y329 ++ [a0]) := ⟨_, rfl⟩
   replace H : (spec_GoodsteinRun.l0 k a0 y333 2) = some r := by first | (rw [hy333]; with_reducible exact H) | (have H2_ := oB H; rw [hy333]; with_reducible exact H2_) | (have H2_ := oB H; with_reducible exact H2_) | with_reducible exact H | (rw [hy333]; exact H) | exact H
   replace hy333 := am hy333;have H' := am H;clear H;go_enter Try.func20, Try.ntmps20;go_wp2_with (first | ((with_reducible refine gate_dst (N := 5) rfl ?_); (try (refine gate_guard (by rfl) ?_; dsimp only)); refine Kd.R_lit (Kd.int .i64) _ 3 ?hg (N := 5) ?hd (xs := ([] : List Int)) (inner := []) (ok := fun _ => True) (okp := fun _ => True) ?hr ?hp (fun _ hk => hk) trivial (Below.refl _ _) (Nat.le_refl _) (by simp) ?_; (case hd => rfl); (case hg => rfl); (case hr => first | (go_simp; done) | (go_simp; rfl)); (case hp => exact (Reps.none _ _)); intro v330 w5 ho6 hb hg_ hnew_; clear hg_ hnew_; (first | rw [← hy329.out] at ho6 | (simp only [Int.reduceToNat] at ho6; rw [← hy329.out] at ho6)); have HO331 := am (Kd.R_lower ho6 (below_size (bm HB.out)));replace HB := am (below_step (bm HB.out) hb); clear hb ho6) | ((with_reducible refine gate_callee (f := 38) rfl ?_); refine goesL_ (some 7) rfl rfl Try.func38 (by kernel_rfl) rfl #[.int .i64 a0, .int .i64 0, .int .i64 1000000000] rfl (by (try simp only [mA, mB, mC]); first | done | rfl) ?_; (with_reducible refine (spec_l1In.calls a0 0 1000000000 true _ A2.out).mono ?_); rintro e w' ⟨rfl, ⟨nd, rfl⟩⟩; refine ⟨_, rfl, ?_⟩) | ((with_reducible refine gate_builtin (b := .append) (xs := #[.tmp 10, .tmp 12]) rfl ?_); (try (refine gate_guard (by rfl) ?_; dsimp only)); at_builtin; refine Kd.R_append (Kd.int .i64) (w0 := w) w.heap.size rfl (.tmp 10) (.tmp 12) 25 3 (.int .i64 0) 8 rfl Try.underlying25 info3 rfl (by decide) (by omega) v330 y329 a0 [.int .i64 a0] (fun _ => True) (fun _ => False) rfl rfl ?aP (fun _ hk => hk.elim) ?aF ?aO ?aB ?aS ?aL ?_; (case aP => exact rfl); (case aB => exact (bm HB.out)); (case aF => exact (fun _ _ => trivial)); (case aO => exact (Kd.rm HO331.out)); (case aS => exact (below_size (bm HB.out))); (case aL => have := LMc4.out; omega); intro v334 w7 ho hb hg hat; rw [← hy333.out] at ho; replace HB := am (hb);have HO335 := am (ho);clear HO331; clear ho hb hg hat))
   go_loopg [0, 3, 4] k (fun kq v0 v3 v4 w' => ∃ (x0_1 : Int) (x3_1 : List Int) (x4_1 : Int), v0 = .int .i64 x0_1 ∧ v4 = .int .i64 x4_1 ∧ Aside0 (spec_GoodsteinRun.l0 kq x0_1 x3_1 x4_1 = some r) ∧ Aside0 (kq ≤ k) ∧ Aside0 (Kd.R (Kd.int .i64) 3 w' w.heap.size (fun _ => True) v3 x3_1) ∧ Aside0 (Below w.heap.size w w'))
   case atStart => exact ⟨(a0), (y333), (2), (by first | rfl | (simp; done) | (simp [*]; done)), (by first | rfl | (simp; done) | (simp [*]; done)), H', ⟨Nat.le_refl _⟩, ⟨Kd.rm HO335.out⟩, ⟨bm HB.out⟩⟩
   case round =>
    clear H';(try clear c2);(try clear p2);(try clear c3);(try clear c4);(try clear HO_3);(try clear HB);obtain ⟨x0_1, x3_1, x4_1, rfl, rfl, HA, HK1, HO_3, HB⟩ := hrel
    cases gk with
    | zero => exact absurd HA.out (by simp [spec_GoodsteinRun.l0])
    | succ k1 =>
     have H := HA.out;clear HA;simp only [spec_GoodsteinRun.l0] at H;have HC8 := am H;clear H
     go_upto_region 6 with (fail)
     go_cut [20] (fun v20 wc => ∃ (kq : Nat) (x20_7 : Bool), v20 = .bool x20_7 ∧ Aside0 (spec_GoodsteinRun.j1 kq x0_1 x3_1 x4_1 x20_7 = some r) ∧ Aside0 (kq ≤ k1) ∧ Aside0 (Kd.R (Kd.int .i64) 3 wc w.heap.size (fun _ => True) u3 x3_1) ∧ Aside0 (Below w.heap.size w wc))
     case first =>
      have H := HC8.out;clear HC8;by_cases c9 : x0_1 > 0
      ·
       rw [if_pos c9] at H;have c9b0 : decide (0 < x0_1) = true := decide_eq_true c9;clear c9
       (first | rw [c9b0] | (simp only [i64_w, i32_w]; rw [c9b0]) | skip)
       have H' := am H;clear H;obtain ⟨Ao10, co10, eo10⟩ := Kd.R_slice HO_3.out;subst eo10;go_wp2;go_meet
       case rel => exact ⟨_, (decide ((x3_1.length : Int) < 60)), (by first | rfl | (simp; done) | (simp [*]; done)), H', ⟨by have := HK1.out; first | omega | exact Nat.le_refl _⟩, ⟨Kd.rm HO_3.out⟩, ⟨bm HB.out⟩⟩
      ·
       rw [if_neg c9] at H;have c9b0 : decide (0 < x0_1) = false := decide_eq_false c9;clear c9
       (first | rw [c9b0] | (simp only [i64_w, i32_w]; rw [c9b0]) | skip)
       have H' := am H;clear H;go_wp2;go_meet
       case rel => exact ⟨_, (false), (by first | rfl | (simp; done) | (simp [*]; done)), H', ⟨by have := HK1.out; first | omega | exact Nat.le_refl _⟩, ⟨Kd.rm HO_3.out⟩, ⟨bm HB.out⟩⟩
     case rest =>
      clear HC8;(try clear c2);(try clear p2);(try clear c3);(try clear c4);(try clear c9);(try clear c9b0);(try clear p2);obtain ⟨kq, x20_7, rfl, HA, HJ7, HO_3, HB⟩ := hcut
      cases kq with
      | zero => exact absurd HA.out (by simp [spec_GoodsteinRun.j1])
      | succ kj7 =>
       have H := HA.out;clear HA;simp only [spec_GoodsteinRun.j1] at H;by_cases c11 : x20_7 = true
       ·
        subst c11
        have H1 : ((spec_GoodsteinNext.f kj7 x0_1 x4_1).bind fun t336 => (if t336 < 0 then (some x3_1) else (if x3_1.length < 17592186044416 then (spec_GoodsteinRun.l0 kj7 t336 (x3_1 ++ [t336]) (wrap64 (x4_1 + 1))) else (none)))) = some r := by rw [if_pos rfl] at H; exact H
        clear H;have H := H1;clear H1;replace H := oE H;obtain ⟨t336, A12, H⟩ := H;replace H : (if t336 < 0 then (some x3_1) else (if x3_1.length < 17592186044416 then (spec_GoodsteinRun.l0 kj7 t336 (x3_1 ++ [t336]) (wrap64 (x4_1 + 1))) else (none))) = some r := H;replace A12 := am A12;by_cases c13 : t336 < 0
        ·
         rw [if_pos c13] at H;have c13b0 : decide (t336 < 0) = true := decide_eq_true c13;clear c13;obtain rfl := Option.some.inj H;go_wp2_with (first | ((with_reducible refine gate_callee (f := 44) rfl ?_); refine goesL_ (some 25) rfl rfl Try.func44 (by kernel_rfl) rfl #[.int .i64 x0_1, .int .i64 x4_1] rfl (by (try simp only [mA, mB, mC]); first | done | rfl) ?_; (with_reducible refine (spec_GoodsteinNext.calls kj7 x0_1 x4_1 t336 _ A12.out).mono ?_); rintro e w14 ⟨rfl, hb⟩; refine ⟨_, rfl, ?_⟩; replace HO_3 := am (Kd.R_below (Kd.rm HO_3.out) hb);replace HB := am (below_step (bm HB.out) hb); (try clear hb)));go_ret;exact ⟨_, by first | rfl | (simp [errW_none, errW_some] <;> rfl) | (simp [*, errW_none, errW_some] <;> rfl), Kd.rm HO_3.out, bm HB.out⟩
        ·
         rw [if_neg c13] at H;have c13b0 : decide (t336 < 0) = false := decide_eq_false c13;clear c13;by_cases c15 : x3_1.length < 17592186044416
         ·
          rw [if_pos c15] at H;have LMc15 := am c15;clear c15
          obtain ⟨y337, hy337⟩ : ∃ y_ : List Int, y_ = (x3_1 ++ [t336]) := ⟨_, rfl⟩
          replace H : (spec_GoodsteinRun.l0 kj7 t336 y337 (wrap64 (x4_1 + 1))) = some r := by first | (rw [hy337]; with_reducible exact H) | (have H2_ := oB H; rw [hy337]; with_reducible exact H2_) | (have H2_ := oB H; with_reducible exact H2_) | with_reducible exact H | (rw [hy337]; exact H) | exact H
          replace hy337 := am hy337;have H' := am H;clear H;go_wp2_with (first | ((with_reducible refine gate_callee (f := 44) rfl ?_); refine goesL_ (some 25) rfl rfl Try.func44 (by kernel_rfl) rfl #[.int .i64 x0_1, .int .i64 x4_1] rfl (by (try simp only [mA, mB, mC]); first | done | rfl) ?_; (with_reducible refine (spec_GoodsteinNext.calls kj7 x0_1 x4_1 t336 _ A12.out).mono ?_); rintro e w16 ⟨rfl, hb⟩; refine ⟨_, rfl, ?_⟩; replace HO_3 := am (Kd.R_below (Kd.rm HO_3.out) hb);replace HB := am (below_step (bm HB.out) hb); (try clear hb); (try clear hk)) | ((with_reducible refine gate_builtin (b := .append) (xs := #[.tmp 29, .tmp 31]) rfl ?_); (try (refine gate_guard (by rfl) ?_; dsimp only)); at_builtin; refine Kd.R_append (Kd.int .i64) (w0 := w) w.heap.size rfl (.tmp 29) (.tmp 31) 25 3 (.int .i64 0) 8 rfl Try.underlying25 info3 rfl (by decide) (by omega) u3 x3_1 t336 [.int .i64 t336] (fun _ => True) (fun _ => False) rfl rfl ?aP (fun _ hk => hk.elim) ?aF ?aO ?aB ?aS ?aL ?_; (case aP => exact rfl); (case aB => exact (bm HB.out)); (case aF => exact (fun _ _ => trivial)); (case aO => exact (Kd.rm HO_3.out)); (case aS => exact (below_size (bm HB.out))); (case aL => have := LMc15.out; omega); intro v338 w17 ho hb hg hat; rw [← hy337.out] at ho; replace HB := am (hb);have HO339 := am (ho);clear HO_3; clear ho hb hg hat))
          go_roundg kj7
          case measure => have := HK1.out; have := HJ7.out; omega
          case rel => exact ⟨(t336), (y337), (wrap64 (x4_1 + 1)), (by first | rfl | (simp; done) | (simp [*]; done)), (by first | rfl | (simp; done) | (simp [*]; done)), H', ⟨by have := HK1.out; have := HJ7.out; omega⟩, ⟨Kd.rm HO339.out⟩, ⟨bm HB.out⟩⟩
         ·
          rw [if_neg c15] at H;exact absurd H (by simp)
       ·
        replace c11 := Bool.eq_false_iff.mpr c11;subst c11
        have H1 : (some x3_1) = some r := by rw [if_neg (show ¬ (false = true) by decide)] at H; exact H
        clear H;have H := H1;clear H1;obtain rfl := Option.some.inj H;go_wp2;go_ret;exact ⟨_, by first | rfl | (simp [errW_none, errW_some] <;> rfl) | (simp [*, errW_none, errW_some] <;> rfl), Kd.rm HO_3.out, bm HB.out⟩
  ·
   rw [if_neg c4] at H;exact absurd H (by simp)
 ·
  replace c3 := Bool.eq_false_iff.mpr c3;subst c3
  have H1 : (some y329) = some r := by rw [if_neg (show ¬ (false = true) by decide)] at H; exact H
  clear H;have H := H1;clear H1;obtain rfl := Option.some.inj H;go_enter Try.func20, Try.ntmps20;go_wp2_with (first | ((with_reducible refine gate_dst (N := 5) rfl ?_); (try (refine gate_guard (by rfl) ?_; dsimp only)); refine Kd.R_lit (Kd.int .i64) _ 3 ?hg (N := 5) ?hd (xs := ([] : List Int)) (inner := []) (ok := fun _ => True) (okp := fun _ => True) ?hr ?hp (fun _ hk => hk) trivial (Below.refl _ _) (Nat.le_refl _) (by simp) ?_; (case hd => rfl); (case hg => rfl); (case hr => first | (go_simp; done) | (go_simp; rfl)); (case hp => exact (Reps.none _ _)); intro v330 w18 ho19 hb hg_ hnew_; clear hg_ hnew_; (first | rw [← hy329.out] at ho19 | (simp only [Int.reduceToNat] at ho19; rw [← hy329.out] at ho19)); have HO331 := am (Kd.R_lower ho19 (below_size (bm HB.out)));replace HB := am (below_step (bm HB.out) hb); clear hb ho19) | ((with_reducible refine gate_callee (f := 38) rfl ?_); refine goesL_ (some 7) rfl rfl Try.func38 (by kernel_rfl) rfl #[.int .i64 a0, .int .i64 0, .int .i64 1000000000] rfl (by (try simp only [mA, mB, mC]); first | done | rfl) ?_; (with_reducible refine (spec_l1In.calls a0 0 1000000000 false _ A2.out).mono ?_); rintro e w' ⟨rfl, ⟨nd, rfl⟩⟩; refine ⟨_, rfl, ?_⟩));go_ret;exact ⟨_, by first | rfl | (simp [errW_none, errW_some] <;> rfl) | (simp [*, errW_none, errW_some] <;> rfl), Kd.rm HO331.out, bm HB.out⟩

/-! ### spec_GoodsteinOrds: function 22 -/
def spec_GoodsteinOrds.l0 : Nat → List (List Int) → List Int → Int → Option ((List (List Int)))
 | 0, _, _, _ => none
 | k + 1, x3, x4, x5 => if x5 < (x4.length : Int) then (if 0 ≤ x5 then ((spec_OrdInBase.f k (rd x4 x5) (wrap64 (x5 + 2))).bind fun t347 => (if (t347.length : Int) > 0 then ((spec_l4Ord.f k (rd x4 x5) (wrap64 (x5 + 2))).bind fun t351 => (if x3.length < 5864062014805 then (spec_GoodsteinOrds.l0 k (x3 ++ [t351]) x4 (wrap64 (x5 + 1))) else (none))) else (some x3))) else (none)) else (some x3)
def spec_GoodsteinOrds.f (k : Nat) (a0 : Int) : Option ((List (List Int))) := (spec_GoodsteinRun.f k a0).bind fun t343 => (spec_GoodsteinOrds.l0 k (([] : List (List Int))) t343 0)
theorem spec_GoodsteinOrds.mono_l : ∀ k, (∀ y0 y1 y2, LeO (spec_GoodsteinOrds.l0 k y0 y1 y2) (spec_GoodsteinOrds.l0 (k + 1) y0 y1 y2))
 | 0 => fun _ _ _ r h => by simp [spec_GoodsteinOrds.l0] at h
 | k + 1 => by
  have ih0 := spec_GoodsteinOrds.mono_l k
  ·
   intro y0 y1 y2;unfold spec_GoodsteinOrds.l0
   repeat' first | (with_reducible exact ih0 _ _ _) | (with_reducible exact spec_GoodsteinRun.mono _ _) | (with_reducible exact spec_OrdInBase.mono _ _ _) | (with_reducible exact spec_l4Ord.mono _ _ _) | (with_reducible exact LeO.refl _) | (with_reducible exact LeO.none _) | (with_reducible refine LeO.ite ?_ ?_) | (with_reducible refine LeO.bind ?_ (fun _ => ?_))
theorem spec_GoodsteinOrds.mono : ∀ a0 k, LeO (spec_GoodsteinOrds.f k a0) (spec_GoodsteinOrds.f (k + 1) a0) := by
 intro a0 k;have ih0 := spec_GoodsteinOrds.mono_l k;unfold spec_GoodsteinOrds.f
 repeat' first | (with_reducible exact ih0 _ _ _) | (with_reducible exact spec_GoodsteinRun.mono _ _) | (with_reducible exact spec_OrdInBase.mono _ _ _) | (with_reducible exact spec_l4Ord.mono _ _ _) | (with_reducible exact LeO.refl _) | (with_reducible exact LeO.none _) | (with_reducible refine LeO.ite ?_ ?_) | (with_reducible refine LeO.bind ?_ (fun _ => ?_))
set_option maxHeartbeats 8000000 in
set_option maxRecDepth 100000 in
theorem spec_GoodsteinOrds.calls (k : Nat) (a0 : Int) (r : List (List Int)) (w : World) (h : spec_GoodsteinOrds.f k a0 = some r) :
  Calls Try.prog 22 #[.int .i64 a0] w fun e w' => ∃ v0_ : Value, e = .returned (v0_) ∧ Kd.S (Kd.slice 3 (Kd.int .i64)) 25 w' w.heap.size (fun _ => True) v0_ r ∧ Below w.heap.size w w' := by
 have HB := am (Below.refl w.heap.size w);have H : ((spec_GoodsteinRun.f k a0).bind fun t343 => (spec_GoodsteinOrds.l0 k (([] : List (List Int))) t343 0)) = some r := h;clear h
 obtain ⟨y340, hy340⟩ : ∃ y_ : List (List Int), y_ = (([] : List (List Int))) := ⟨_, rfl⟩
 replace H : ((spec_GoodsteinRun.f k a0).bind fun t343 => (spec_GoodsteinOrds.l0 k y340 t343 0)) = some r := by first | (rw [hy340]; with_reducible exact H) | (have H2_ := oB H; rw [hy340]; with_reducible exact H2_) | (have H2_ := oB H; with_reducible exact H2_) | with_reducible exact H | (rw [hy340]; exact H) | exact H
 replace hy340 := am hy340;replace H := oE H;obtain ⟨t343, A2, H⟩ := H;replace H : (spec_GoodsteinOrds.l0 k y340 t343 0) = some r := H;replace A2 := am A2;have H' := am H;clear H;go_enter Try.func22, Try.ntmps22;go_wp2_with (first | ((with_reducible refine gate_dst (N := 6) rfl ?_); (try (refine gate_guard (by rfl) ?_; dsimp only)); refine Kd.S_lit (Kd.slice 3 (Kd.int .i64)) _ 25 ?hg (N := 6) ?hd (xs := ([] : List (List Int))) (inner := []) (ok := fun _ => True) (okp := fun _ => True) ?hr ?hp (fun _ hk => hk) trivial (Below.refl _ _) (Nat.le_refl _) (by simp) ?_; (case hd => rfl); (case hg => rfl); (case hr => first | (go_simp; done) | (go_simp; rfl)); (case hp => exact (Reps.none _ _)); intro v341 w3 ho4 hb hg_ hnew_; clear hg_ hnew_; (first | rw [← hy340.out] at ho4 | (simp only [Int.reduceToNat] at ho4; rw [← hy340.out] at ho4)); have HO342 := am (Kd.S_lower ho4 (below_size (bm HB.out)));replace HB := am (below_step (bm HB.out) hb); clear hb ho4) | ((with_reducible refine gate_callee (f := 20) rfl ?_); refine goesL_ (some 8) rfl rfl Try.func20 (by kernel_rfl) rfl #[.int .i64 a0] rfl (by (try simp only [mA, mB, mC]); first | done | rfl) ?_; (with_reducible refine (spec_GoodsteinRun.calls k a0 t343 _ A2.out).mono ?_); rintro e w5 ⟨v344, rfl, ho0, hb⟩; refine ⟨_, rfl, ?_⟩; replace HO342 := am (Kd.S_elder' (Kd.S_below HO342.out Mv.out) (Kd.R_base ho0) hb);have HO345 := am (Kd.R_lower ho0 (below_size (bm HB.out)));replace HB := am (below_step (bm HB.out) hb); (try clear hb); (try clear hk); (try clear ho0)))
 go_loopg [3, 5] k (fun kq v3 v5 w' => ∃ (x3_1 : List (List Int)) (x5_1 : Int), v5 = .int .i64 x5_1 ∧ Aside0 (spec_GoodsteinOrds.l0 kq x3_1 t343 x5_1 = some r) ∧ Aside0 (kq ≤ k) ∧ Aside0 (Kd.S (Kd.slice 3 (Kd.int .i64)) 25 w' w.heap.size (fun k_ => some k_ ≠ (v344 : Value).ownBlock) v3 x3_1) ∧ Aside0 (Kd.R (Kd.int .i64) 3 w' w.heap.size (fun _ => True) v344 t343) ∧ Aside0 (Below w.heap.size w w'))
 case atStart => exact ⟨(y340), (0), (by first | rfl | (simp; done) | (simp [*]; done)), H', ⟨Nat.le_refl _⟩, ⟨Kd.S_below (Kd.S_mono HO342.out (fun _ hk => hk.2)) Mv.out⟩, ⟨Kd.rm HO345.out⟩, ⟨bm HB.out⟩⟩
 case round =>
  clear H';(try clear c2);(try clear p2);(try clear HO_3);(try clear HO_4);(try clear HB);obtain ⟨x3_1, x5_1, rfl, HA, HK1, HO_3, HO_4, HB⟩ := hrel
  cases gk with
  | zero => exact absurd HA.out (by simp [spec_GoodsteinOrds.l0])
  | succ k1 =>
   have H := HA.out;clear HA;simp only [spec_GoodsteinOrds.l0] at H;by_cases c6 : x5_1 < (t343.length : Int)
   ·
    rw [if_pos c6] at H;have c6b0 : decide (x5_1 < (t343.length : Int)) = true := decide_eq_true c6;clear c6;by_cases c7 : 0 ≤ x5_1
    ·
     rw [if_pos c7] at H;have c7b0 : decide (0 ≤ x5_1) = true := decide_eq_true c7;clear c7;replace H := oE H;obtain ⟨t347, A8, H⟩ := H;replace H : (if (t347.length : Int) > 0 then ((spec_l4Ord.f k1 (rd t343 x5_1) (wrap64 (x5_1 + 2))).bind fun t351 => (if x3_1.length < 5864062014805 then (spec_GoodsteinOrds.l0 k1 (x3_1 ++ [t351]) t343 (wrap64 (x5_1 + 1))) else (none))) else (some x3_1)) = some r := H;replace A8 := am A8;by_cases c9 : (t347.length : Int) > 0
     ·
      rw [if_pos c9] at H;have c9b0 : decide (0 < (t347.length : Int)) = true := decide_eq_true c9;have c9b1 : decide (0 < t347.length) = true := decide_eq_true (by omega);clear c9;replace H := oE H;obtain ⟨t351, A10, H⟩ := H;replace H : (if x3_1.length < 5864062014805 then (spec_GoodsteinOrds.l0 k1 (x3_1 ++ [t351]) t343 (wrap64 (x5_1 + 1))) else (none)) = some r := H;replace A10 := am A10;by_cases c11 : x3_1.length < 5864062014805
      ·
       rw [if_pos c11] at H;have LMc11 := am c11;clear c11
       obtain ⟨y354, hy354⟩ : ∃ y_ : List (List Int), y_ = (x3_1 ++ [t351]) := ⟨_, rfl⟩
       replace H : (spec_GoodsteinOrds.l0 k1 y354 t343 (wrap64 (x5_1 + 1))) = some r := by first | (rw [hy354]; with_reducible exact H) | (have H2_ := oB H; rw [hy354]; with_reducible exact H2_) | (have H2_ := oB H; with_reducible exact H2_) | with_reducible exact H | (rw [hy354]; exact H) | exact H
       replace hy354 := am hy354;have H' := am H;clear H;obtain ⟨Ao12, co12, eo12⟩ := Kd.R_slice HO_4.out;subst eo12;have p346 : 0 ≤ (x5_1 : Int) := of_decide_eq_true (by assumption);have q346 : x5_1 < (t343.length : Int) := of_decide_eq_true (by assumption);obtain ⟨ad346, e346, hx346_0⟩ := Kd.at_int (Kd.R_reads' HO_4.out).2.2 x5_1 p346 q346;cases e346
       replace p346 := eq_true p346;replace q346 := eq_true q346;go_wp2_with (first | (go_at_call 46; (with_reducible refine (spec_OrdInBase.calls k1 (rd t343 x5_1) (wrap64 (x5_1 + 2)) t347 _ A8.out).mono ?_); rintro e w13 ⟨v348, rfl, ho0, hb⟩; replace HO_3 := am (Kd.S_elder' (Kd.S_below HO_3.out Mv.out) (Kd.R_base ho0) hb);have HO349 := am (Kd.R_lower (Kd.R_new' ho0 (Kd.R_lt (Kd.rm HO_4.out))) (below_size (bm HB.out)));replace HO_4 := am (Kd.R_elder' (Kd.rm HO_4.out) (Kd.R_base ho0) hb);replace HB := am (below_step (bm HB.out) hb); (try clear hb); (try clear hk); (try clear ho0); obtain ⟨Ao14, co14, eo14⟩ := Kd.R_slice HO349.out; subst eo14; have p350 : 0 ≤ (x5_1 : Int) := of_decide_eq_true (by assumption); have q350 : x5_1 < (t343.length : Int) := of_decide_eq_true (by assumption); obtain ⟨ad350, e350, hx350_0⟩ := Kd.at_int (Kd.R_reads' HO_4.out).2.2 x5_1 p350 q350; obtain rfl : ad346 = ad350 := (by injection e350); replace p350 := eq_true p350; replace q350 := eq_true q350) | ((with_reducible refine gate_callee (f := 47) rfl ?_); refine goesL_ (some 33) rfl rfl Try.func47 (by kernel_rfl) rfl #[.int .i64 (rd t343 x5_1), .int .i64 (wrap64 (x5_1 + 2))] rfl (by (try simp only [mA, mB, mC]); first | done | rfl) ?_; (with_reducible refine (spec_l4Ord.calls k1 (rd t343 x5_1) (wrap64 (x5_1 + 2)) t351 _ A10.out).mono ?_); rintro e w15 ⟨v352, rfl, ho0, hb⟩; refine ⟨_, rfl, ?_⟩; replace HO_3 := am (Kd.S_elder' (Kd.S_below HO_3.out Mv.out) (Kd.R_base ho0) hb);have HO353 := am (Kd.R_lower (Kd.R_new' (Kd.R_new' ho0 (Kd.R_lt (Kd.rm HO_4.out))) (Kd.R_lt (Kd.rm HO349.out))) (below_size (bm HB.out)));replace HO_4 := am (Kd.R_elder' (Kd.rm HO_4.out) (Kd.R_base ho0) hb);replace HO349 := am (Kd.R_elder' (Kd.rm HO349.out) (Kd.R_base ho0) hb);replace HB := am (below_step (bm HB.out) hb); (try clear hb); (try clear hk); (try clear ho0); obtain ⟨Ao17, co17, eo17⟩ := Kd.R_slice HO353.out; subst eo17) | ((with_reducible refine gate_builtin (b := .append) (xs := #[.tmp 26, .tmp 34]) rfl ?_); (try (refine gate_guard (by rfl) ?_; dsimp only)); at_builtin; refine Kd.S_append (Kd.slice 3 (Kd.int .i64)) (w0 := w) w.heap.size rfl (.tmp 26) (.tmp 34) 36 25 (.slice none 0 0) 24 rfl Try.underlying36 info25 rfl (by decide) (by omega) u3 x3_1 t351 [.slice Ao17 t351.length co17] (fun k_ => some k_ ≠ (.slice (some ad346) t343.length co12 : Value).ownBlock ∧ some k_ ≠ (.slice Ao14 t347.length co14 : Value).ownBlock) (fun k_ => some k_ = (.slice Ao17 t351.length co17 : Value).ownBlock) rfl rfl ?aP (fun k_ hk_ => ((Kd.R_mono (ok' := fun k_ => ((fun k_ => some k_ ≠ (.slice (some ad346) t343.length co12 : Value).ownBlock ∧ some k_ ≠ (.slice Ao14 t347.length co14 : Value).ownBlock)) k_ ∧ some k_ ≠ (u3 : Value).ownBlock) (Kd.R_apart' (HO353.out) (Kd.S_typed HO_3.out) (by decide)) (fun k_ hk => ⟨⟨hk.1.1.2, hk.1.2⟩, hk.2⟩))).1 k_ hk_.symm) ?aF ?aO ?aB ?aS ?aL ?_; (case aP => exact Kd.M_row (Kd.R_mono (Kd.R_tight rfl (Kd.R_mono (ok' := fun k_ => ((fun k_ => some k_ ≠ (.slice (some ad346) t343.length co12 : Value).ownBlock ∧ some k_ ≠ (.slice Ao14 t347.length co14 : Value).ownBlock)) k_ ∧ some k_ ≠ (u3 : Value).ownBlock) (Kd.R_apart' (HO353.out) (Kd.S_typed HO_3.out) (by decide)) (fun k_ hk => ⟨⟨hk.1.1.2, hk.1.2⟩, hk.2⟩))) (fun _ h_ => h_))); (case aB => exact (bm HB.out)); (case aF => exact (fun k_ hk => ⟨Kd.fresh' (Kd.R_lt (Kd.rm HO_4.out)) k_ hk, Kd.fresh' (Kd.R_lt (Kd.rm HO349.out)) k_ hk⟩)); (case aO => exact (Kd.S_below (Kd.S_mono HO_3.out (fun k_ hk => ⟨⟨hk.1.1, hk.1.2⟩, fun e_ => hk.2 e_⟩)) Mv.out)); (case aS => exact (below_size (bm HB.out))); (case aL => have := LMc11.out; omega); intro v355 w16 ho hb hg hat; rw [← hy354.out] at ho; replace HO_4 := am (Kd.R_over' (Kd.rm HO_4.out) (Kd.S_typed (Kd.S_below HO_3.out Mv.out)) (by decide) hg);replace HO349 := am (Kd.R_over' (Kd.rm HO349.out) (Kd.S_typed (Kd.S_below HO_3.out Mv.out)) (by decide) hg);replace HB := am (hb);have HO356 := am (ho);clear HO_3 HO353; clear ho hb hg hat))
       go_roundg k1
       case measure => have := HK1.out; omega
       case rel => exact ⟨(y354), (wrap64 (x5_1 + 1)), (by first | rfl | (simp; done) | (simp [*]; done)), H', ⟨by have := HK1.out; omega⟩, ⟨Kd.S_below (Kd.S_mono HO356.out (fun _ hk => hk.1)) Mv.out⟩, ⟨Kd.rm (Kd.R_mono HO_4.out (fun _ hk => trivial))⟩, ⟨bm HB.out⟩⟩
      ·
       rw [if_neg c11] at H;exact absurd H (by simp)
     ·
      rw [if_neg c9] at H;have c9b0 : decide (0 < (t347.length : Int)) = false := decide_eq_false c9;have c9b1 : decide (0 < t347.length) = false := decide_eq_false (by omega);clear c9;obtain rfl := Option.some.inj H;obtain ⟨Ao18, co18, eo18⟩ := Kd.R_slice HO_4.out;subst eo18;have p346 : 0 ≤ (x5_1 : Int) := of_decide_eq_true (by assumption);have q346 : x5_1 < (t343.length : Int) := of_decide_eq_true (by assumption);obtain ⟨ad346, e346, hx346_0⟩ := Kd.at_int (Kd.R_reads' HO_4.out).2.2 x5_1 p346 q346;cases e346
      replace p346 := eq_true p346;replace q346 := eq_true q346;go_wp2_with (first | (go_at_call 46; (with_reducible refine (spec_OrdInBase.calls k1 (rd t343 x5_1) (wrap64 (x5_1 + 2)) t347 _ A8.out).mono ?_); rintro e w19 ⟨v348, rfl, ho0, hb⟩; replace HO_3 := am (Kd.S_elder' (Kd.S_below HO_3.out Mv.out) (Kd.R_base ho0) hb);have HO349 := am (Kd.R_lower (Kd.R_new' ho0 (Kd.R_lt (Kd.rm HO_4.out))) (below_size (bm HB.out)));replace HO_4 := am (Kd.R_elder' (Kd.rm HO_4.out) (Kd.R_base ho0) hb);replace HB := am (below_step (bm HB.out) hb); (try clear hb); (try clear hk); (try clear ho0); obtain ⟨Ao20, co20, eo20⟩ := Kd.R_slice HO349.out; subst eo20));go_ret;exact ⟨_, by first | rfl | (simp [errW_none, errW_some] <;> rfl) | (simp [*, errW_none, errW_some] <;> rfl), Kd.S_below (Kd.S_mono HO_3.out (fun _ hk => trivial)) Mv.out, bm HB.out⟩
    ·
     rw [if_neg c7] at H;exact absurd H (by simp)
   ·
    rw [if_neg c6] at H;have c6b0 : decide (x5_1 < (t343.length : Int)) = false := decide_eq_false c6;clear c6;obtain rfl := Option.some.inj H;obtain ⟨Ao21, co21, eo21⟩ := Kd.R_slice HO_4.out;subst eo21;go_wp2;go_ret;exact ⟨_, by first | rfl | (simp [errW_none, errW_some] <;> rfl) | (simp [*, errW_none, errW_some] <;> rfl), Kd.S_below (Kd.S_mono HO_3.out (fun _ hk => trivial)) Mv.out, bm HB.out⟩

end Go.Proofs.Ytomidfnhbnhhmaa.Ke

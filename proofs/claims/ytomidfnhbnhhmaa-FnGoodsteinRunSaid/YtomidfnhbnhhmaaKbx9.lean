-- half
-- Written by a program of this session's (wip/mp) out of the translation, over the kit's print with changes.
import Derived.Test.YtomidfnhbnhhmaaKbx0
import Derived.Test.YtomidfnhbnhhmaaKbx7
import Derived.Test.YtomidfnhbnhhmaaKbx8
namespace Go.Proofs.Ytomidfnhbnhhmaa.Kb
open Go.RowKit Go.Proofs.YtomidfnhbnhhmaaW.PrintWords Go.Proofs.YtomidfnhbnhhmaaW.PrintLast Go.Proofs.YtomidfnhbnhhmaaW.PrintMore
attribute [local go_sem] max2_int min2_int max_two min_two max_three min_three max_four min_four   -- for this text's walks alone
set_option linter.unusedVariables false
set_option linter.unusedSimpArgs false

/-! ### spec_l3Value: function 68 -/
mutual
def spec_l3Value.l0 : Nat → Int → List Int → List (List Int) → Int → Int → Option (Int)
 | 0, _, _, _, _, _ => none
 | k + 1, x1, x5, x6, x7, x8 => if x8 < (x5.length : Int) then (if 0 ≤ x8 then (if x8 < (x6.length : Int) then ((spec_l3Value.f k (rd_L3 x6 x8) x1).bind fun t349 => (if t349 < 0 then (some (-1)) else ((spec_l3Raise.f k x1 t349).bind fun t350 => (if t350 < 0 then (some (-1)) else (if (wrap64 (x7 + (wrap64 ((rd x5 x8) * t350)))) > 1000000000 then (some (-1)) else (spec_l3Value.l0 k x1 x5 x6 (wrap64 (x7 + (wrap64 ((rd x5 x8) * t350)))) (wrap64 (x8 + 1)))))))) else (none)) else (none)) else (some x7)
def spec_l3Value.f : Nat → List Int → Int → Option (Int)
 | 0, _, _ => none
 | k + 1, l0, a1 => (spec_l1Terms.f k l0).bind fun bt342 => (spec_l3Value.l0 k a1 bt342.1 bt342.2 0 0)
end
theorem spec_l3Value.mono_l : ∀ k, (∀ y0 y1, LeO (spec_l3Value.f k y0 y1) (spec_l3Value.f (k + 1) y0 y1)) ∧ (∀ y0 y1 y2 y3 y4, LeO (spec_l3Value.l0 k y0 y1 y2 y3 y4) (spec_l3Value.l0 (k + 1) y0 y1 y2 y3 y4))
 | 0 => ⟨fun _ _ r h => by simp [spec_l3Value.f] at h, fun _ _ _ _ _ r h => by simp [spec_l3Value.l0] at h⟩
 | k + 1 => by
  obtain ⟨ih0, ih1⟩ := spec_l3Value.mono_l k;refine ⟨?_, ?_⟩
  all_goals (intros; first | unfold spec_l3Value.f | unfold spec_l3Value.l0)
  all_goals repeat' first | (with_reducible exact ih0 _ _) | (with_reducible exact ih1 _ _ _ _ _) | (with_reducible exact spec_l1Terms.mono _ _) | (with_reducible exact spec_l3Raise.mono _ _ _) | (with_reducible exact LeO.refl _) | (with_reducible exact LeO.none _) | (with_reducible refine LeO.ite ?_ ?_) | (with_reducible refine LeO.bind ?_ (fun _ => ?_))
theorem spec_l3Value.mono : ∀ a0 a1 k, LeO (spec_l3Value.f k a0 a1) (spec_l3Value.f (k + 1) a0 a1) := by
 intro a0 a1 k;obtain ⟨ih0, ih1⟩ := spec_l3Value.mono_l k;exact ih0 a0 a1
set_option maxHeartbeats 8000000 in
set_option maxRecDepth 100000 in
theorem spec_l3Value.calls (k : Nat) : ∀ (A0 : Option Addr) (c0 : Nat) (l0 : List Int) (a1 : Int) (r : Int) (w : World) (hr0 : Kd.C (Kd.int .i64) w A0 l0.length l0) (hc0 : l0.length ≤ c0) (h : spec_l3Value.f k l0 a1 = some r),
  Calls Try.prog 68 #[.slice A0 l0.length c0, .int .i64 a1] w fun e w' => e = .returned (.int .i64 r) ∧ Below w.heap.size w w' := by
 induction k using Nat.strongRecOn with
 | _ k ih =>
 intro A0 c0 l0 a1 r w hr0 hc0 h
 cases k with
 | zero => exact absurd h (by simp [spec_l3Value.f])
 | succ k =>
 simp only [spec_l3Value.f] at h;have HR0 := am hr0;have HC0 := am hc0;clear hr0 hc0;have HB := am (Below.refl w.heap.size w);have H : ((spec_l1Terms.f k l0).bind fun bt342 => (spec_l3Value.l0 k a1 bt342.1 bt342.2 0 0)) = some r := h;clear h;replace H := oE H;obtain ⟨⟨t342, t345⟩, A3, H⟩ := H;replace H : (spec_l3Value.l0 k a1 t342 t345 0 0) = some r := H;replace A3 := am A3;have H' := am H;clear H;go_enter Try.func68, Try.ntmps68;go_wp2_with (first | ((with_reducible refine gate_callee (f := 58) rfl ?_); refine goesL_ (some 13) rfl rfl Try.func58 (by kernel_rfl) rfl #[.slice A0 l0.length c0] rfl (by (try simp only [mA, mB, mC]); first | done | rfl) ?_; (with_reducible refine (spec_l1Terms.calls k (fun k_ => k_ < w.heap.size) _ _ l0 t342 t345 _ ?side1 A3.out).mono ?_); (case side1 => exact Kd.V_mk HC0.out (Kd.F_below (Kd.C_F (Kd.heap_int .i64) HR0.out) (bm HB.out))); rintro e w4 ⟨v343, v346, rfl, ho0, ho1, hb⟩; refine ⟨_, rfl, ?_⟩; have HO344 := am (Kd.R_lower (Kd.R_mono (ok' := fun k_ => True) ho0 (fun _ hk_ => trivial)) (below_size (bm HB.out)));have HO347 := am (Kd.N_lower (Kd.N_mono (ok' := fun k_ => some k_ ≠ (v343 : Value).ownBlock) ho1 (fun k_ hk_ => hk_.2)) (below_size (bm HB.out)));replace HB := am (below_step (bm HB.out) hb); (try clear hb); (try clear ho0); (try clear ho1)))
 go_loopg [7, 8] k (fun kq v7 v8 w' => ∃ (x7_1 : Int) (x8_1 : Int), v7 = .int .i64 x7_1 ∧ v8 = .int .i64 x8_1 ∧ Aside0 (spec_l3Value.l0 kq a1 t342 t345 x7_1 x8_1 = some r) ∧ Aside0 (kq ≤ k) ∧ Aside0 (Kd.R (Kd.int .i64) 3 w' w.heap.size (fun _ => True) v343 t342) ∧ Aside0 (Kd.N (Kd.slice 3 (Kd.int .i64)) 25 w' w.heap.size (fun k_ => some k_ ≠ (v343 : Value).ownBlock) v346 t345) ∧ Aside0 (Below w.heap.size w w'))
 case atStart => exact ⟨(0), (0), (by first | rfl | (simp; done) | (simp [*]; done)), (by first | rfl | (simp; done) | (simp [*]; done)), H', ⟨Nat.le_refl _⟩, ⟨Kd.rm HO344.out⟩, ⟨Kd.nm HO347.out⟩, ⟨bm HB.out⟩⟩
 case round =>
  clear H';(try clear p2);(try clear HO_5);(try clear HO_6);(try clear HB);obtain ⟨x7_1, x8_1, rfl, rfl, HA, HK1, HO_5, HO_6, HB⟩ := hrel
  cases gk with
  | zero => exact absurd HA.out (by simp [spec_l3Value.l0])
  | succ k1 =>
   have H := HA.out;clear HA;simp only [spec_l3Value.l0] at H;by_cases c5 : x8_1 < (t342.length : Int)
   ·
    rw [if_pos c5] at H;have c5b0 : decide (x8_1 < (t342.length : Int)) = true := decide_eq_true c5;clear c5;by_cases c6 : 0 ≤ x8_1
    ·
     rw [if_pos c6] at H;have c6b0 : decide (0 ≤ x8_1) = true := decide_eq_true c6;clear c6;by_cases c7 : x8_1 < (t345.length : Int)
     ·
      rw [if_pos c7] at H;have c7b0 : decide (x8_1 < (t345.length : Int)) = true := decide_eq_true c7;clear c7;replace H := oE H;obtain ⟨t349, A8, H⟩ := H;replace H : (if t349 < 0 then (some (-1)) else ((spec_l3Raise.f k1 a1 t349).bind fun t350 => (if t350 < 0 then (some (-1)) else (if (wrap64 (x7_1 + (wrap64 ((rd t342 x8_1) * t350)))) > 1000000000 then (some (-1)) else (spec_l3Value.l0 k1 a1 t342 t345 (wrap64 (x7_1 + (wrap64 ((rd t342 x8_1) * t350)))) (wrap64 (x8_1 + 1))))))) = some r := H;replace A8 := am A8;by_cases c9 : t349 < 0
      ·
       rw [if_pos c9] at H;have c9b0 : decide (t349 < 0) = true := decide_eq_true c9;clear c9;obtain rfl := Option.some.inj H;obtain ⟨Ao10, co10, eo10⟩ := Kd.R_slice HO_5.out;subst eo10;obtain ⟨Ao11, co11, eo11⟩ := Kd.N_slice HO_6.out;subst eo11;have p348 : 0 ≤ (x8_1 : Int) := of_decide_eq_true (by assumption);have q348 : x8_1 < (t345.length : Int) := of_decide_eq_true (by assumption);obtain ⟨ad348, A348_0, c348_0, e348, hx348_0, hl348_0, hi348_0⟩ := at_L3 (Kd.N_reads' HO_6.out).2.2 x8_1 p348 q348;cases e348
       obtain ⟨ce348, hce348, hMe348, hcc348⟩ := Kd.N_get HO_6.out [] x8_1 p348 (by first | exact q348 | exact of_decide_eq_true (by assumption) | (have e_ := (Kd.N_reads' HO_6.out).1; omega));obtain ⟨ua348_0, uc348_0, rfl, ul348_0, ge348_0⟩ := Kd.FK_slice_open hMe348;have hv348_0 := hcc348 0 _ rfl;rw [Nat.add_zero, show ((Kd.slice 3 (Kd.int .i64))).sz = 1 from rfl, Nat.mul_one] at hv348_0;replace hv348_0 := Option.some.inj (hv348_0.symm.trans hx348_0)
       injection hv348_0 with hva_ hvn_ hvc_
       rw [hva_] at ge348_0;rw [hvc_] at ul348_0;have HL348_0 := am (show Kd.V (Kd.int .i64) 3 _ w.heap.size _ _ (rd_L3 t345 x8_1) from Kd.V_mk ul348_0 ge348_0);clear hva_ hvn_ hvc_ ge348_0 ul348_0;clear hcc348 hce348;have HR348_0 := am hi348_0;have HC348_0 := am hl348_0;clear hi348_0 hl348_0;replace p348 := eq_true p348;replace q348 := eq_true q348;go_wp2_with (first | ((with_reducible refine gate_callee (f := 68) rfl ?_); refine goesL_ (some 27) rfl rfl Try.func68 (by kernel_rfl) rfl #[.slice A348_0 (rd_L3 t345 x8_1).length c348_0, .int .i64 a1] rfl (by (try simp only [mA, mB, mC]); first | done | rfl) ?_; (with_reducible refine (ih k1 (by have := HK1.out; omega) _ _ (rd_L3 t345 x8_1) a1 t349 _ ?side1 ?side2 A8.out).mono ?_); (case side1 => exact Kd.cm ((by repeat (first | (with_reducible exact HR348_0.out) | (with_reducible refine Kd.C_alloc ?_ _) | (with_reducible refine Kd.C_drewN ?_ _) | (with_reducible refine Kd.C_drew ?_) | exact HR348_0.out)))); (case side2 => exact HC348_0.out); rintro e w12 ⟨rfl, hb⟩; refine ⟨_, rfl, ?_⟩; replace HO_5 := am (Kd.R_below (Kd.rm HO_5.out) hb);replace HO_6 := am (Kd.N_below (Kd.nm HO_6.out) hb);replace HL348_0 := am (Kd.V_below (Kd.vm HL348_0.out) hb);replace HR348_0 := am (Kd.C_below (by repeat (first | (with_reducible exact HR348_0.out) | (with_reducible refine Kd.C_alloc ?_ _) | (with_reducible refine Kd.C_drewN ?_ _) | (with_reducible refine Kd.C_drew ?_) | exact HR348_0.out)) hb);replace HB := am (below_step (bm HB.out) hb); (try clear hb)));go_ret;exact ⟨by first | rfl | (simp [errW_none, errW_some] <;> rfl) | (simp [*, errW_none, errW_some] <;> rfl), bm HB.out⟩
      ·
       rw [if_neg c9] at H;have c9b0 : decide (t349 < 0) = false := decide_eq_false c9;clear c9;replace H := oE H;obtain ⟨t350, A13, H⟩ := H;replace H : (if t350 < 0 then (some (-1)) else (if (wrap64 (x7_1 + (wrap64 ((rd t342 x8_1) * t350)))) > 1000000000 then (some (-1)) else (spec_l3Value.l0 k1 a1 t342 t345 (wrap64 (x7_1 + (wrap64 ((rd t342 x8_1) * t350)))) (wrap64 (x8_1 + 1))))) = some r := H;replace A13 := am A13;by_cases c14 : t350 < 0
       ·
        rw [if_pos c14] at H;have c14b0 : decide (t350 < 0) = true := decide_eq_true c14;clear c14;obtain rfl := Option.some.inj H;obtain ⟨Ao15, co15, eo15⟩ := Kd.R_slice HO_5.out;subst eo15;obtain ⟨Ao16, co16, eo16⟩ := Kd.N_slice HO_6.out;subst eo16;have p348 : 0 ≤ (x8_1 : Int) := of_decide_eq_true (by assumption);have q348 : x8_1 < (t345.length : Int) := of_decide_eq_true (by assumption);obtain ⟨ad348, A348_0, c348_0, e348, hx348_0, hl348_0, hi348_0⟩ := at_L3 (Kd.N_reads' HO_6.out).2.2 x8_1 p348 q348;cases e348
        obtain ⟨ce348, hce348, hMe348, hcc348⟩ := Kd.N_get HO_6.out [] x8_1 p348 (by first | exact q348 | exact of_decide_eq_true (by assumption) | (have e_ := (Kd.N_reads' HO_6.out).1; omega));obtain ⟨ua348_0, uc348_0, rfl, ul348_0, ge348_0⟩ := Kd.FK_slice_open hMe348;have hv348_0 := hcc348 0 _ rfl;rw [Nat.add_zero, show ((Kd.slice 3 (Kd.int .i64))).sz = 1 from rfl, Nat.mul_one] at hv348_0;replace hv348_0 := Option.some.inj (hv348_0.symm.trans hx348_0)
        injection hv348_0 with hva_ hvn_ hvc_
        rw [hva_] at ge348_0;rw [hvc_] at ul348_0;have HL348_0 := am (show Kd.V (Kd.int .i64) 3 _ w.heap.size _ _ (rd_L3 t345 x8_1) from Kd.V_mk ul348_0 ge348_0);clear hva_ hvn_ hvc_ ge348_0 ul348_0;clear hcc348 hce348;have HR348_0 := am hi348_0;have HC348_0 := am hl348_0;clear hi348_0 hl348_0;replace p348 := eq_true p348;replace q348 := eq_true q348;go_wp2_with (first | ((with_reducible refine gate_callee (f := 68) rfl ?_); refine goesL_ (some 27) rfl rfl Try.func68 (by kernel_rfl) rfl #[.slice A348_0 (rd_L3 t345 x8_1).length c348_0, .int .i64 a1] rfl (by (try simp only [mA, mB, mC]); first | done | rfl) ?_; (with_reducible refine (ih k1 (by have := HK1.out; omega) _ _ (rd_L3 t345 x8_1) a1 t349 _ ?side1 ?side2 A8.out).mono ?_); (case side1 => exact Kd.cm ((by repeat (first | (with_reducible exact HR348_0.out) | (with_reducible refine Kd.C_alloc ?_ _) | (with_reducible refine Kd.C_drewN ?_ _) | (with_reducible refine Kd.C_drew ?_) | exact HR348_0.out)))); (case side2 => exact HC348_0.out); rintro e w17 ⟨rfl, hb⟩; refine ⟨_, rfl, ?_⟩; replace HO_5 := am (Kd.R_below (Kd.rm HO_5.out) hb);replace HO_6 := am (Kd.N_below (Kd.nm HO_6.out) hb);replace HL348_0 := am (Kd.V_below (Kd.vm HL348_0.out) hb);replace HR348_0 := am (Kd.C_below (by repeat (first | (with_reducible exact HR348_0.out) | (with_reducible refine Kd.C_alloc ?_ _) | (with_reducible refine Kd.C_drewN ?_ _) | (with_reducible refine Kd.C_drew ?_) | exact HR348_0.out)) hb);replace HB := am (below_step (bm HB.out) hb); (try clear hb)) | ((with_reducible refine gate_callee (f := 70) rfl ?_); refine goesL_ (some 32) rfl rfl Try.func70 (by kernel_rfl) rfl #[.int .i64 a1, .int .i64 t349] rfl (by (try simp only [mA, mB, mC]); first | done | rfl) ?_; (with_reducible refine (spec_l3Raise.calls k1 a1 t349 t350 _ A13.out).mono ?_); rintro e w' ⟨rfl, ⟨nd, rfl⟩⟩; refine ⟨_, rfl, ?_⟩));go_ret;exact ⟨by first | rfl | (simp [errW_none, errW_some] <;> rfl) | (simp [*, errW_none, errW_some] <;> rfl), bm HB.out⟩
       ·
        rw [if_neg c14] at H;have c14b0 : decide (t350 < 0) = false := decide_eq_false c14;clear c14;by_cases c18 : (wrap64 (x7_1 + (wrap64 ((rd t342 x8_1) * t350)))) > 1000000000
        ·
         rw [if_pos c18] at H;have c18b0 : decide (1000000000 < (wrap64 (x7_1 + (wrap64 ((rd t342 x8_1) * t350))))) = true := decide_eq_true c18;clear c18;obtain rfl := Option.some.inj H;obtain ⟨Ao19, co19, eo19⟩ := Kd.R_slice HO_5.out;subst eo19;obtain ⟨Ao20, co20, eo20⟩ := Kd.N_slice HO_6.out;subst eo20;have p348 : 0 ≤ (x8_1 : Int) := of_decide_eq_true (by assumption);have q348 : x8_1 < (t345.length : Int) := of_decide_eq_true (by assumption);obtain ⟨ad348, A348_0, c348_0, e348, hx348_0, hl348_0, hi348_0⟩ := at_L3 (Kd.N_reads' HO_6.out).2.2 x8_1 p348 q348;cases e348
         obtain ⟨ce348, hce348, hMe348, hcc348⟩ := Kd.N_get HO_6.out [] x8_1 p348 (by first | exact q348 | exact of_decide_eq_true (by assumption) | (have e_ := (Kd.N_reads' HO_6.out).1; omega));obtain ⟨ua348_0, uc348_0, rfl, ul348_0, ge348_0⟩ := Kd.FK_slice_open hMe348;have hv348_0 := hcc348 0 _ rfl;rw [Nat.add_zero, show ((Kd.slice 3 (Kd.int .i64))).sz = 1 from rfl, Nat.mul_one] at hv348_0;replace hv348_0 := Option.some.inj (hv348_0.symm.trans hx348_0)
         injection hv348_0 with hva_ hvn_ hvc_
         rw [hva_] at ge348_0;rw [hvc_] at ul348_0;have HL348_0 := am (show Kd.V (Kd.int .i64) 3 _ w.heap.size _ _ (rd_L3 t345 x8_1) from Kd.V_mk ul348_0 ge348_0);clear hva_ hvn_ hvc_ ge348_0 ul348_0;clear hcc348 hce348;have HR348_0 := am hi348_0;have HC348_0 := am hl348_0;clear hi348_0 hl348_0;replace p348 := eq_true p348;replace q348 := eq_true q348;go_wp2_with (first | ((with_reducible refine gate_callee (f := 68) rfl ?_); refine goesL_ (some 27) rfl rfl Try.func68 (by kernel_rfl) rfl #[.slice A348_0 (rd_L3 t345 x8_1).length c348_0, .int .i64 a1] rfl (by (try simp only [mA, mB, mC]); first | done | rfl) ?_; (with_reducible refine (ih k1 (by have := HK1.out; omega) _ _ (rd_L3 t345 x8_1) a1 t349 _ ?side1 ?side2 A8.out).mono ?_); (case side1 => exact Kd.cm ((by repeat (first | (with_reducible exact HR348_0.out) | (with_reducible refine Kd.C_alloc ?_ _) | (with_reducible refine Kd.C_drewN ?_ _) | (with_reducible refine Kd.C_drew ?_) | exact HR348_0.out)))); (case side2 => exact HC348_0.out); rintro e w21 ⟨rfl, hb⟩; refine ⟨_, rfl, ?_⟩; replace HO_5 := am (Kd.R_below (Kd.rm HO_5.out) hb);replace HO_6 := am (Kd.N_below (Kd.nm HO_6.out) hb);replace HL348_0 := am (Kd.V_below (Kd.vm HL348_0.out) hb);replace HR348_0 := am (Kd.C_below (by repeat (first | (with_reducible exact HR348_0.out) | (with_reducible refine Kd.C_alloc ?_ _) | (with_reducible refine Kd.C_drewN ?_ _) | (with_reducible refine Kd.C_drew ?_) | exact HR348_0.out)) hb);replace HB := am (below_step (bm HB.out) hb); (try clear hb)) | ((with_reducible refine gate_callee (f := 70) rfl ?_); refine goesL_ (some 32) rfl rfl Try.func70 (by kernel_rfl) rfl #[.int .i64 a1, .int .i64 t349] rfl (by (try simp only [mA, mB, mC]); first | done | rfl) ?_; (with_reducible refine (spec_l3Raise.calls k1 a1 t349 t350 _ A13.out).mono ?_); rintro e w' ⟨rfl, ⟨nd, rfl⟩⟩; refine ⟨_, rfl, ?_⟩; have p351 : 0 ≤ (x8_1 : Int) := of_decide_eq_true (by assumption); have q351 : x8_1 < (t342.length : Int) := of_decide_eq_true (by assumption); obtain ⟨ad351, e351, hx351_0⟩ := Kd.at_int (Kd.R_reads' HO_5.out).2.2 x8_1 p351 q351; cases e351; replace p351 := eq_true p351; replace q351 := eq_true q351));go_ret;exact ⟨by first | rfl | (simp [errW_none, errW_some] <;> rfl) | (simp [*, errW_none, errW_some] <;> rfl), bm HB.out⟩
        ·
         rw [if_neg c18] at H;have c18b0 : decide (1000000000 < (wrap64 (x7_1 + (wrap64 ((rd t342 x8_1) * t350))))) = false := decide_eq_false c18;clear c18;have H' := am H;clear H;obtain ⟨Ao22, co22, eo22⟩ := Kd.R_slice HO_5.out;subst eo22;obtain ⟨Ao23, co23, eo23⟩ := Kd.N_slice HO_6.out;subst eo23;have p348 : 0 ≤ (x8_1 : Int) := of_decide_eq_true (by assumption);have q348 : x8_1 < (t345.length : Int) := of_decide_eq_true (by assumption);obtain ⟨ad348, A348_0, c348_0, e348, hx348_0, hl348_0, hi348_0⟩ := at_L3 (Kd.N_reads' HO_6.out).2.2 x8_1 p348 q348;cases e348
         obtain ⟨ce348, hce348, hMe348, hcc348⟩ := Kd.N_get HO_6.out [] x8_1 p348 (by first | exact q348 | exact of_decide_eq_true (by assumption) | (have e_ := (Kd.N_reads' HO_6.out).1; omega));obtain ⟨ua348_0, uc348_0, rfl, ul348_0, ge348_0⟩ := Kd.FK_slice_open hMe348;have hv348_0 := hcc348 0 _ rfl;rw [Nat.add_zero, show ((Kd.slice 3 (Kd.int .i64))).sz = 1 from rfl, Nat.mul_one] at hv348_0;replace hv348_0 := Option.some.inj (hv348_0.symm.trans hx348_0)
         injection hv348_0 with hva_ hvn_ hvc_
         rw [hva_] at ge348_0;rw [hvc_] at ul348_0;have HL348_0 := am (show Kd.V (Kd.int .i64) 3 _ w.heap.size _ _ (rd_L3 t345 x8_1) from Kd.V_mk ul348_0 ge348_0);clear hva_ hvn_ hvc_ ge348_0 ul348_0;clear hcc348 hce348;have HR348_0 := am hi348_0;have HC348_0 := am hl348_0;clear hi348_0 hl348_0;replace p348 := eq_true p348;replace q348 := eq_true q348;go_wp2_with (first | ((with_reducible refine gate_callee (f := 68) rfl ?_); refine goesL_ (some 27) rfl rfl Try.func68 (by kernel_rfl) rfl #[.slice A348_0 (rd_L3 t345 x8_1).length c348_0, .int .i64 a1] rfl (by (try simp only [mA, mB, mC]); first | done | rfl) ?_; (with_reducible refine (ih k1 (by have := HK1.out; omega) _ _ (rd_L3 t345 x8_1) a1 t349 _ ?side1 ?side2 A8.out).mono ?_); (case side1 => exact Kd.cm ((by repeat (first | (with_reducible exact HR348_0.out) | (with_reducible refine Kd.C_alloc ?_ _) | (with_reducible refine Kd.C_drewN ?_ _) | (with_reducible refine Kd.C_drew ?_) | exact HR348_0.out)))); (case side2 => exact HC348_0.out); rintro e w24 ⟨rfl, hb⟩; refine ⟨_, rfl, ?_⟩; replace HO_5 := am (Kd.R_below (Kd.rm HO_5.out) hb);replace HO_6 := am (Kd.N_below (Kd.nm HO_6.out) hb);replace HL348_0 := am (Kd.V_below (Kd.vm HL348_0.out) hb);replace HR348_0 := am (Kd.C_below (by repeat (first | (with_reducible exact HR348_0.out) | (with_reducible refine Kd.C_alloc ?_ _) | (with_reducible refine Kd.C_drewN ?_ _) | (with_reducible refine Kd.C_drew ?_) | exact HR348_0.out)) hb);replace HB := am (below_step (bm HB.out) hb); (try clear hb)) | ((with_reducible refine gate_callee (f := 70) rfl ?_); refine goesL_ (some 32) rfl rfl Try.func70 (by kernel_rfl) rfl #[.int .i64 a1, .int .i64 t349] rfl (by (try simp only [mA, mB, mC]); first | done | rfl) ?_; (with_reducible refine (spec_l3Raise.calls k1 a1 t349 t350 _ A13.out).mono ?_); rintro e w' ⟨rfl, ⟨nd, rfl⟩⟩; refine ⟨_, rfl, ?_⟩; have p351 : 0 ≤ (x8_1 : Int) := of_decide_eq_true (by assumption); have q351 : x8_1 < (t342.length : Int) := of_decide_eq_true (by assumption); obtain ⟨ad351, e351, hx351_0⟩ := Kd.at_int (Kd.R_reads' HO_5.out).2.2 x8_1 p351 q351; cases e351; replace p351 := eq_true p351; replace q351 := eq_true q351))
         go_roundg k1
         case measure => have := HK1.out; omega
         case rel => exact ⟨(wrap64 (x7_1 + (wrap64 ((rd t342 x8_1) * t350)))), (wrap64 (x8_1 + 1)), (by first | rfl | (simp; done) | (simp [*]; done)), (by first | rfl | (simp; done) | (simp [*]; done)), H', ⟨by have := HK1.out; omega⟩, ⟨Kd.rm HO_5.out⟩, ⟨Kd.nm HO_6.out⟩, ⟨bm HB.out⟩⟩
     ·
      rw [if_neg c7] at H;exact absurd H (by simp)
    ·
     rw [if_neg c6] at H;exact absurd H (by simp)
   ·
    rw [if_neg c5] at H;have c5b0 : decide (x8_1 < (t342.length : Int)) = false := decide_eq_false c5;clear c5;obtain rfl := Option.some.inj H;obtain ⟨Ao25, co25, eo25⟩ := Kd.R_slice HO_5.out;subst eo25;go_wp2;go_ret;exact ⟨by first | rfl | (simp [errW_none, errW_some] <;> rfl) | (simp [*, errW_none, errW_some] <;> rfl), bm HB.out⟩

/-! ### spec_ChangeBase: function 62 -/
def spec_ChangeBase.f (k : Nat) (a0 : Int) (a1 : Int) (a2 : Int) : Option (Int) := (spec_OrdInBase.f k a0 a1).bind fun t352 => (if (t352.length : Int) = 0 then (some (-1)) else ((spec_l1In.f a2 2 90).bind fun t355 => (if t355 = true then ((spec_l3Value.f k t352 a2).bind fun t356 => (some t356)) else (some (-1)))))
theorem spec_ChangeBase.mono : ∀ a0 a1 a2 k, LeO (spec_ChangeBase.f k a0 a1 a2) (spec_ChangeBase.f (k + 1) a0 a1 a2) := by
 intro a0 a1 a2 k;unfold spec_ChangeBase.f
 repeat' first | (with_reducible exact spec_OrdInBase.mono _ _ _) | (with_reducible exact spec_l3Value.mono _ _ _) | (with_reducible exact LeO.refl _) | (with_reducible exact LeO.none _) | (with_reducible refine LeO.ite ?_ ?_) | (with_reducible refine LeO.bind ?_ (fun _ => ?_))
set_option maxHeartbeats 8000000 in
set_option maxRecDepth 100000 in
theorem spec_ChangeBase.calls (k : Nat) (a0 : Int) (a1 : Int) (a2 : Int) (r : Int) (w : World) (h : spec_ChangeBase.f k a0 a1 a2 = some r) :
  Calls Try.prog 62 #[.int .i64 a0, .int .i64 a1, .int .i64 a2] w fun e w' => e = .returned (.int .i64 r) ∧ Below w.heap.size w w' := by
 have HB := am (Below.refl w.heap.size w);have H : ((spec_OrdInBase.f k a0 a1).bind fun t352 => (if (t352.length : Int) = 0 then (some (-1)) else ((spec_l1In.f a2 2 90).bind fun t355 => (if t355 = true then ((spec_l3Value.f k t352 a2).bind fun t356 => (some t356)) else (some (-1)))))) = some r := h;clear h;replace H := oE H;obtain ⟨t352, A4, H⟩ := H;replace H : (if (t352.length : Int) = 0 then (some (-1)) else ((spec_l1In.f a2 2 90).bind fun t355 => (if t355 = true then ((spec_l3Value.f k t352 a2).bind fun t356 => (some t356)) else (some (-1))))) = some r := H;replace A4 := am A4;by_cases c5 : (t352.length : Int) = 0
 ·
  rw [if_pos c5] at H;have c5b0 : ((t352.length : Int) == 0) = true := beq_iff_eq.mpr c5;have c5b1 : ((t352.length : Int) != 0) = false := bne_eq_false_iff_eq.mpr c5;clear c5;obtain rfl := Option.some.inj H;go_enter Try.func62, Try.ntmps62;go_wp2_with (first | ((with_reducible refine gate_callee (f := 46) rfl ?_); refine goesL_ (some 10) rfl rfl Try.func46 (by kernel_rfl) rfl #[.int .i64 a0, .int .i64 a1] rfl (by (try simp only [mA, mB, mC]); first | done | rfl) ?_; (with_reducible refine (spec_OrdInBase.calls k a0 a1 t352 _ A4.out).mono ?_); rintro e w6 ⟨v353, rfl, ho0, hb⟩; refine ⟨_, rfl, ?_⟩; have HO354 := am (Kd.R_lower ho0 (below_size (bm HB.out)));replace HB := am (below_step (bm HB.out) hb); (try clear hb); (try clear ho0); obtain ⟨Ao7, co7, eo7⟩ := Kd.R_slice HO354.out; subst eo7));go_ret;exact ⟨by first | rfl | (simp [errW_none, errW_some] <;> rfl) | (simp [*, errW_none, errW_some] <;> rfl), bm HB.out⟩
 ·
  rw [if_neg c5] at H;have c5b0 : ((t352.length : Int) == 0) = false := beq_eq_false_iff_ne.mpr c5;have c5b1 : ((t352.length : Int) != 0) = true := bne_iff_ne.mpr c5
  have c5b2 : ¬ (t352 = []) := fun h_ => c5 (by rw [h_]; rfl)
  replace H := oE H;obtain ⟨t355, A8, H⟩ := H;replace H : (if t355 = true then ((spec_l3Value.f k t352 a2).bind fun t356 => (some t356)) else (some (-1))) = some r := H;replace A8 := am A8;by_cases c9 : t355 = true
  ·
   subst c9
   have H1 : ((spec_l3Value.f k t352 a2).bind fun t356 => (some t356)) = some r := by rw [if_pos rfl] at H; exact H
   clear H;have H := H1;clear H1;replace H := oE H;obtain ⟨t356, A10, H⟩ := H;replace H : (some t356) = some r := H;replace A10 := am A10;obtain rfl := Option.some.inj H;go_enter Try.func62, Try.ntmps62;go_wp2_with (first | ((with_reducible refine gate_callee (f := 46) rfl ?_); refine goesL_ (some 10) rfl rfl Try.func46 (by kernel_rfl) rfl #[.int .i64 a0, .int .i64 a1] rfl (by (try simp only [mA, mB, mC]); first | done | rfl) ?_; (with_reducible refine (spec_OrdInBase.calls k a0 a1 t352 _ A4.out).mono ?_); rintro e w11 ⟨v353, rfl, ho0, hb⟩; refine ⟨_, rfl, ?_⟩; have HO354 := am (Kd.R_lower ho0 (below_size (bm HB.out)));replace HB := am (below_step (bm HB.out) hb); (try clear hb); (try clear ho0); obtain ⟨Ao12, co12, eo12⟩ := Kd.R_slice HO354.out; subst eo12) | (go_at_call 38; (with_reducible refine (spec_l1In.calls a2 2 90 true _ A8.out).mono ?_); rintro e w' ⟨rfl, ⟨nd, rfl⟩⟩) | ((with_reducible refine gate_callee (f := 68) rfl ?_); refine goesL_ (some 21) rfl rfl Try.func68 (by kernel_rfl) rfl #[.slice Ao12 t352.length co12, .int .i64 a2] rfl (by (try simp only [mA, mB, mC]); first | done | rfl) ?_; (with_reducible refine (spec_l3Value.calls k _ _ t352 a2 t356 _ ?side1 ?side2 A10.out).mono ?_); (case side1 => exact Kd.cm ((Kd.R_reads' HO354.out).2.2)); (case side2 => exact (Kd.R_reads' HO354.out).2.1); rintro e w13 ⟨rfl, hb⟩; refine ⟨_, rfl, ?_⟩; replace HO354 := am (Kd.R_below (Kd.rm HO354.out) hb);replace HB := am (below_step (bm HB.out) hb); (try clear hb)));go_ret;exact ⟨by first | rfl | (simp [errW_none, errW_some] <;> rfl) | (simp [*, errW_none, errW_some] <;> rfl), bm HB.out⟩
  ·
   replace c9 := Bool.eq_false_iff.mpr c9;subst c9
   have H1 : (some (-1)) = some r := by rw [if_neg (show ¬ (false = true) by decide)] at H; exact H
   clear H;have H := H1;clear H1;obtain rfl := Option.some.inj H;go_enter Try.func62, Try.ntmps62;go_wp2_with (first | ((with_reducible refine gate_callee (f := 46) rfl ?_); refine goesL_ (some 10) rfl rfl Try.func46 (by kernel_rfl) rfl #[.int .i64 a0, .int .i64 a1] rfl (by (try simp only [mA, mB, mC]); first | done | rfl) ?_; (with_reducible refine (spec_OrdInBase.calls k a0 a1 t352 _ A4.out).mono ?_); rintro e w14 ⟨v353, rfl, ho0, hb⟩; refine ⟨_, rfl, ?_⟩; have HO354 := am (Kd.R_lower ho0 (below_size (bm HB.out)));replace HB := am (below_step (bm HB.out) hb); (try clear hb); (try clear ho0); obtain ⟨Ao15, co15, eo15⟩ := Kd.R_slice HO354.out; subst eo15) | (go_at_call 38; (with_reducible refine (spec_l1In.calls a2 2 90 false _ A8.out).mono ?_); rintro e w' ⟨rfl, ⟨nd, rfl⟩⟩));go_ret;exact ⟨by first | rfl | (simp [errW_none, errW_some] <;> rfl) | (simp [*, errW_none, errW_some] <;> rfl), bm HB.out⟩

/-! ### spec_GoodsteinNext: function 44 -/
def spec_GoodsteinNext.f (k : Nat) (a0 : Int) (a1 : Int) : Option (Int) := if a0 < 1 then (some (-1)) else ((spec_l1In.f a1 2 89).bind fun t357 => (if t357 = true then ((spec_ChangeBase.f k a0 a1 (wrap64 (a1 + 1))).bind fun t358 => (if t358 < 0 then (some (-1)) else ((spec_ChangeBase.f k a0 a1 (wrap64 (a1 + 1))).bind fun t359 => (some (wrap64 (t359 - 1)))))) else (some (-1))))
theorem spec_GoodsteinNext.mono : ∀ a0 a1 k, LeO (spec_GoodsteinNext.f k a0 a1) (spec_GoodsteinNext.f (k + 1) a0 a1) := by
 intro a0 a1 k;unfold spec_GoodsteinNext.f
 repeat' first | (with_reducible exact spec_ChangeBase.mono _ _ _ _) | (with_reducible exact LeO.refl _) | (with_reducible exact LeO.none _) | (with_reducible refine LeO.ite ?_ ?_) | (with_reducible refine LeO.bind ?_ (fun _ => ?_))
set_option maxHeartbeats 8000000 in
set_option maxRecDepth 100000 in
theorem spec_GoodsteinNext.calls (k : Nat) (a0 : Int) (a1 : Int) (r : Int) (w : World) (h : spec_GoodsteinNext.f k a0 a1 = some r) :
  Calls Try.prog 44 #[.int .i64 a0, .int .i64 a1] w fun e w' => e = .returned (.int .i64 r) ∧ Below w.heap.size w w' := by
 have HB := am (Below.refl w.heap.size w);have H : (if a0 < 1 then (some (-1)) else ((spec_l1In.f a1 2 89).bind fun t357 => (if t357 = true then ((spec_ChangeBase.f k a0 a1 (wrap64 (a1 + 1))).bind fun t358 => (if t358 < 0 then (some (-1)) else ((spec_ChangeBase.f k a0 a1 (wrap64 (a1 + 1))).bind fun t359 => (some (wrap64 (t359 - 1)))))) else (some (-1))))) = some r := h;clear h;by_cases c3 : a0 < 1
 ·
  rw [if_pos c3] at H;have c3b0 : decide (a0 < 1) = true := decide_eq_true c3;clear c3;obtain rfl := Option.some.inj H;go_enter Try.func44, Try.ntmps44;go_wp2;go_ret;exact ⟨by first | rfl | (simp [errW_none, errW_some] <;> rfl) | (simp [*, errW_none, errW_some] <;> rfl), bm HB.out⟩
 ·
  rw [if_neg c3] at H;have c3b0 : decide (a0 < 1) = false := decide_eq_false c3;clear c3;replace H := oE H;obtain ⟨t357, A4, H⟩ := H;replace H : (if t357 = true then ((spec_ChangeBase.f k a0 a1 (wrap64 (a1 + 1))).bind fun t358 => (if t358 < 0 then (some (-1)) else ((spec_ChangeBase.f k a0 a1 (wrap64 (a1 + 1))).bind fun t359 => (some (wrap64 (t359 - 1)))))) else (some (-1))) = some r := H;replace A4 := am A4;by_cases c5 : t357 = true
  ·
   subst c5
   have H1 : ((spec_ChangeBase.f k a0 a1 (wrap64 (a1 + 1))).bind fun t358 => (if t358 < 0 then (some (-1)) else ((spec_ChangeBase.f k a0 a1 (wrap64 (a1 + 1))).bind fun t359 => (some (wrap64 (t359 - 1)))))) = some r := by rw [if_pos rfl] at H; exact H
   clear H;have H := H1;clear H1;replace H := oE H;obtain ⟨t358, A6, H⟩ := H;replace H : (if t358 < 0 then (some (-1)) else ((spec_ChangeBase.f k a0 a1 (wrap64 (a1 + 1))).bind fun t359 => (some (wrap64 (t359 - 1))))) = some r := H;replace A6 := am A6;by_cases c7 : t358 < 0
   ·
    rw [if_pos c7] at H;have c7b0 : decide (t358 < 0) = true := decide_eq_true c7;clear c7;obtain rfl := Option.some.inj H;go_enter Try.func44, Try.ntmps44;go_wp2_with (first | (go_at_call 38; (with_reducible refine (spec_l1In.calls a1 2 89 true _ A4.out).mono ?_); rintro e w' ⟨rfl, ⟨nd, rfl⟩⟩) | (go_at_call 62; (with_reducible refine (spec_ChangeBase.calls k a0 a1 (wrap64 (a1 + 1)) t358 _ A6.out).mono ?_); rintro e w8 ⟨rfl, hb⟩; replace HB := am (below_step (bm HB.out) hb); (try clear hb)));go_ret;exact ⟨by first | rfl | (simp [errW_none, errW_some] <;> rfl) | (simp [*, errW_none, errW_some] <;> rfl), bm HB.out⟩
   ·
    rw [if_neg c7] at H;have c7b0 : decide (t358 < 0) = false := decide_eq_false c7;clear c7;replace H := oE H;obtain ⟨t359, A9, H⟩ := H;replace H : (some (wrap64 (t359 - 1))) = some r := H;replace A9 := am A9;obtain rfl := Option.some.inj H;go_enter Try.func44, Try.ntmps44;go_wp2_with (first | (go_at_call 38; (with_reducible refine (spec_l1In.calls a1 2 89 true _ A4.out).mono ?_); rintro e w' ⟨rfl, ⟨nd, rfl⟩⟩) | (go_at_call 62; (with_reducible refine (spec_ChangeBase.calls k a0 a1 (wrap64 (a1 + 1)) t358 _ A6.out).mono ?_); rintro e w10 ⟨rfl, hb⟩; replace HB := am (below_step (bm HB.out) hb); (try clear hb)) | ((with_reducible refine gate_callee (f := 62) rfl ?_); refine goesL_ (some 24) rfl rfl Try.func62 (by kernel_rfl) rfl #[.int .i64 a0, .int .i64 a1, .int .i64 (wrap64 (a1 + 1))] rfl (by (try simp only [mA, mB, mC]); first | done | rfl) ?_; (with_reducible refine (spec_ChangeBase.calls k a0 a1 (wrap64 (a1 + 1)) t359 _ A9.out).mono ?_); rintro e w11 ⟨rfl, hb⟩; refine ⟨_, rfl, ?_⟩; replace HB := am (below_step (bm HB.out) hb); (try clear hb)));go_ret;exact ⟨by first | rfl | (simp [errW_none, errW_some] <;> rfl) | (simp [*, errW_none, errW_some] <;> rfl), bm HB.out⟩
  ·
   replace c5 := Bool.eq_false_iff.mpr c5;subst c5
   have H1 : (some (-1)) = some r := by rw [if_neg (show ¬ (false = true) by decide)] at H; exact H
   clear H;have H := H1;clear H1;obtain rfl := Option.some.inj H;go_enter Try.func44, Try.ntmps44;go_wp2_with (first | (go_at_call 38; (with_reducible refine (spec_l1In.calls a1 2 89 false _ A4.out).mono ?_); rintro e w' ⟨rfl, ⟨nd, rfl⟩⟩));go_ret;exact ⟨by first | rfl | (simp [errW_none, errW_some] <;> rfl) | (simp [*, errW_none, errW_some] <;> rfl), bm HB.out⟩

/-! ### spec_GoodsteinRun: function 20 -/
mutual
def spec_GoodsteinRun.l0 : Nat → Int → List Int → Int → Option (List Int)
 | 0, _, _, _ => none
 | k + 1, x0, x3, x4 => if x0 > 0 then (spec_GoodsteinRun.j1 k x0 x3 x4 (decide ((x3.length : Int) < 60))) else (spec_GoodsteinRun.j1 k x0 x3 x4 false)
def spec_GoodsteinRun.j1 : Nat → Int → List Int → Int → Bool → Option (List Int)
 | 0, _, _, _, _ => none
 | k + 1, x0, x3, x4, x20 => if x20 = true then ((spec_GoodsteinNext.f k x0 x4).bind fun t367 => (if t367 < 0 then (some x3) else (if x3.length < 17592186044416 then (spec_GoodsteinRun.l0 k t367 (x3 ++ [t367]) (wrap64 (x4 + 1))) else (none)))) else (some x3)
end
def spec_GoodsteinRun.f (k : Nat) (a0 : Int) : Option (List Int) := (some (([] : List Int) : List Int)).bind fun y360 => ((spec_l1In.f a0 0 1000000000).bind fun t363 => (if t363 = true then (if y360.length < 17592186044416 then (spec_GoodsteinRun.l0 k a0 (y360 ++ [a0]) 2) else (none)) else (some y360)))
theorem spec_GoodsteinRun.mono_l : ∀ k, (∀ y0 y1 y2, LeO (spec_GoodsteinRun.l0 k y0 y1 y2) (spec_GoodsteinRun.l0 (k + 1) y0 y1 y2)) ∧ (∀ y0 y1 y2 y3, LeO (spec_GoodsteinRun.j1 k y0 y1 y2 y3) (spec_GoodsteinRun.j1 (k + 1) y0 y1 y2 y3))
 | 0 => ⟨fun _ _ _ r h => by simp [spec_GoodsteinRun.l0] at h, fun _ _ _ _ r h => by simp [spec_GoodsteinRun.j1] at h⟩
 | k + 1 => by
  obtain ⟨ih0, ih1⟩ := spec_GoodsteinRun.mono_l k;refine ⟨?_, ?_⟩
  all_goals (intros; first | unfold spec_GoodsteinRun.l0 | unfold spec_GoodsteinRun.j1)
  all_goals repeat' first | (with_reducible exact ih0 _ _ _) | (with_reducible exact ih1 _ _ _ _) | (with_reducible exact spec_GoodsteinNext.mono _ _ _) | (with_reducible exact LeO.refl _) | (with_reducible exact LeO.none _) | (with_reducible refine LeO.ite ?_ ?_) | (with_reducible refine LeO.bind ?_ (fun _ => ?_))
theorem spec_GoodsteinRun.mono : ∀ a0 k, LeO (spec_GoodsteinRun.f k a0) (spec_GoodsteinRun.f (k + 1) a0) := by
 intro a0 k;obtain ⟨ih0, ih1⟩ := spec_GoodsteinRun.mono_l k;unfold spec_GoodsteinRun.f
 repeat' first | (with_reducible exact ih0 _ _ _) | (with_reducible exact ih1 _ _ _ _) | (with_reducible exact spec_GoodsteinNext.mono _ _ _) | (with_reducible exact LeO.refl _) | (with_reducible exact LeO.none _) | (with_reducible refine LeO.ite ?_ ?_) | (with_reducible refine LeO.bind ?_ (fun _ => ?_))
set_option maxHeartbeats 8000000 in
set_option maxRecDepth 100000 in
theorem spec_GoodsteinRun.calls (k : Nat) (a0 : Int) (r : List Int) (w : World) (h : spec_GoodsteinRun.f k a0 = some r) :
  Calls Try.prog 20 #[.int .i64 a0] w fun e w' => ∃ v0_ : Value, e = .returned (v0_) ∧ Kd.R (Kd.int .i64) 3 w' w.heap.size (fun _ => True) v0_ r ∧ Below w.heap.size w w' := by
 have HB := am (Below.refl w.heap.size w);have H : ((some (([] : List Int) : List Int)).bind fun y360 => ((spec_l1In.f a0 0 1000000000).bind fun t363 => (if t363 = true then (if y360.length < 17592186044416 then (spec_GoodsteinRun.l0 k a0 (y360 ++ [a0]) 2) else (none)) else (some y360)))) = some r := h;clear h
 obtain ⟨y360, hy360⟩ : ∃ y_ : List Int, y_ = (([] : List Int)) := ⟨_, rfl⟩
 replace H : ((spec_l1In.f a0 0 1000000000).bind fun t363 => (if t363 = true then (if y360.length < 17592186044416 then (spec_GoodsteinRun.l0 k a0 (y360 ++ [a0]) 2) else (none)) else (some y360))) = some r := by first | (rw [hy360]; with_reducible exact H) | (have H2_ := oB H; rw [hy360]; with_reducible exact H2_) | (have H2_ := oB H; with_reducible exact H2_) | with_reducible exact H | (rw [hy360]; exact H) | exact H
 replace hy360 := am hy360;replace H := oE H;obtain ⟨t363, A2, H⟩ := H;replace H : (if t363 = true then (if y360.length < 17592186044416 then (spec_GoodsteinRun.l0 k a0 (y360 ++ [a0]) 2) else (none)) else (some y360)) = some r := H;replace A2 := am A2;by_cases c3 : t363 = true
 ·
  subst c3
  have H1 : (if y360.length < 17592186044416 then (spec_GoodsteinRun.l0 k a0 (y360 ++ [a0]) 2) else (none)) = some r := by rw [if_pos rfl] at H; exact H
  clear H;have H := H1;clear H1;by_cases c4 : y360.length < 17592186044416
  ·
   rw [if_pos c4] at H;have LMc4 := am c4;clear c4
   obtain ⟨y364, hy364⟩ : ∃ y_ : List Int, y_ = (y360 ++ [a0]) := ⟨_, rfl⟩
   replace H : (spec_GoodsteinRun.l0 k a0 y364 2) = some r := by first | (rw [hy364]; with_reducible exact H) | (have H2_ := oB H; rw [hy364]; with_reducible exact H2_) | (have H2_ := oB H; with_reducible exact H2_) | with_reducible exact H | (rw [hy364]; exact H) | exact H
   replace hy364 := am hy364;have H' := am H;clear H;go_enter Try.func20, Try.ntmps20;go_wp2_with (first | ((with_reducible refine gate_dst (N := 5) rfl ?_); (try (refine gate_guard (by rfl) ?_; dsimp only)); refine Kd.R_lit (Kd.int .i64) _ 3 ?hg (N := 5) ?hd (xs := ([] : List Int)) (inner := []) (ok := fun _ => True) (okp := fun _ => True) ?hr ?hp (fun _ hk => hk) trivial (Below.refl _ _) (Nat.le_refl _) (by simp) ?_; (case hd => rfl); (case hg => rfl); (case hr => first | (go_simp; done) | (go_simp; rfl)); (case hp => exact (Reps.none _ _)); intro v361 w5 ho6 hb hg_ hnew_; clear hg_ hnew_; (first | rw [← hy360.out] at ho6 | (simp only [Int.reduceToNat] at ho6; rw [← hy360.out] at ho6)); have HO362 := am (Kd.R_lower ho6 (below_size (bm HB.out)));replace HB := am (below_step (bm HB.out) hb); clear hb ho6) | ((with_reducible refine gate_callee (f := 38) rfl ?_); refine goesL_ (some 7) rfl rfl Try.func38 (by kernel_rfl) rfl #[.int .i64 a0, .int .i64 0, .int .i64 1000000000] rfl (by (try simp only [mA, mB, mC]); first | done | rfl) ?_; (with_reducible refine (spec_l1In.calls a0 0 1000000000 true _ A2.out).mono ?_); rintro e w' ⟨rfl, ⟨nd, rfl⟩⟩; refine ⟨_, rfl, ?_⟩) | ((with_reducible refine gate_builtin (b := .append) (xs := #[.tmp 10, .tmp 12]) rfl ?_); (try (refine gate_guard (by rfl) ?_; dsimp only)); at_builtin; refine Kd.R_append (Kd.int .i64) (w0 := w) w.heap.size rfl (.tmp 10) (.tmp 12) 25 3 (.int .i64 0) 8 rfl Try.underlying25 info3 rfl (by decide) (by omega) v361 y360 a0 [.int .i64 a0] (fun _ => True) (fun _ => False) rfl rfl ?aP (fun _ hk => hk.elim) ?aF ?aO ?aB ?aS ?aL ?_; (case aP => exact rfl); (case aB => exact (bm HB.out)); (case aF => exact (fun _ _ => trivial)); (case aO => exact (Kd.rm HO362.out)); (case aS => exact (below_size (bm HB.out))); (case aL => have := LMc4.out; omega); intro v365 w7 ho hb hg hat; rw [← hy364.out] at ho; replace HB := am (hb);have HO366 := am (ho);clear HO362; clear ho hb hg hat))
   go_loopg [0, 3, 4] k (fun kq v0 v3 v4 w' => ∃ (x0_1 : Int) (x3_1 : List Int) (x4_1 : Int), v0 = .int .i64 x0_1 ∧ v4 = .int .i64 x4_1 ∧ Aside0 (spec_GoodsteinRun.l0 kq x0_1 x3_1 x4_1 = some r) ∧ Aside0 (kq ≤ k) ∧ Aside0 (Kd.R (Kd.int .i64) 3 w' w.heap.size (fun _ => True) v3 x3_1) ∧ Aside0 (Below w.heap.size w w'))
   case atStart => exact ⟨(a0), (y364), (2), (by first | rfl | (simp; done) | (simp [*]; done)), (by first | rfl | (simp; done) | (simp [*]; done)), H', ⟨Nat.le_refl _⟩, ⟨Kd.rm HO366.out⟩, ⟨bm HB.out⟩⟩
   case round =>
    clear H';(try clear c2);(try clear p2);(try clear c3);(try clear c4);(try clear HO_3);(try clear HB);obtain ⟨x0_1, x3_1, x4_1, rfl, rfl, HA, HK1, HO_3, HB⟩ := hrel
    cases gk with
    | zero => exact absurd HA.out (by simp [spec_GoodsteinRun.l0])
    | succ k1 =>
     have H := HA.out;clear HA;simp only [spec_GoodsteinRun.l0] at H;have HC8 := am H;clear H
     go_upto_region 6 with (fail)
     go_cut [20] (fun v20 wc => ∃ (kq : Nat) (x20_7 : Bool), v20 = .bool x20_7 ∧ Aside0 (spec_GoodsteinRun.j1 kq x0_1 x3_1 x4_1 x20_7 = some r) ∧ Aside0 (kq ≤ k1) ∧ Aside0 (Kd.R (Kd.int .i64) 3 wc w.heap.size (fun _ => True) u3 x3_1) ∧ Aside0 (Below w.heap.size w wc))
     case first =>
      have H := HC8.out;clear HC8;by_cases c9 : x0_1 > 0
      ·
       rw [if_pos c9] at H;have c9b0 : decide (0 < x0_1) = true := decide_eq_true c9;clear c9
       (first | rw [c9b0] | (simp only [i64_w, i32_w]; rw [c9b0]) | skip)
       have H' := am H;clear H;obtain ⟨Ao10, co10, eo10⟩ := Kd.R_slice HO_3.out;subst eo10;go_wp2;go_meet
       case rel => exact ⟨_, (decide ((x3_1.length : Int) < 60)), (by first | rfl | (simp; done) | (simp [*]; done)), H', ⟨by have := HK1.out; first | omega | exact Nat.le_refl _⟩, ⟨Kd.rm HO_3.out⟩, ⟨bm HB.out⟩⟩
      ·
       rw [if_neg c9] at H;have c9b0 : decide (0 < x0_1) = false := decide_eq_false c9;clear c9
       (first | rw [c9b0] | (simp only [i64_w, i32_w]; rw [c9b0]) | skip)
       have H' := am H;clear H;go_wp2;go_meet
       case rel => exact ⟨_, (false), (by first | rfl | (simp; done) | (simp [*]; done)), H', ⟨by have := HK1.out; first | omega | exact Nat.le_refl _⟩, ⟨Kd.rm HO_3.out⟩, ⟨bm HB.out⟩⟩
     case rest =>
      clear HC8;(try clear c2);(try clear p2);(try clear c3);(try clear c4);(try clear c9);(try clear c9b0);(try clear p2);obtain ⟨kq, x20_7, rfl, HA, HJ7, HO_3, HB⟩ := hcut
      cases kq with
      | zero => exact absurd HA.out (by simp [spec_GoodsteinRun.j1])
      | succ kj7 =>
       have H := HA.out;clear HA;simp only [spec_GoodsteinRun.j1] at H;by_cases c11 : x20_7 = true
       ·
        subst c11
        have H1 : ((spec_GoodsteinNext.f kj7 x0_1 x4_1).bind fun t367 => (if t367 < 0 then (some x3_1) else (if x3_1.length < 17592186044416 then (spec_GoodsteinRun.l0 kj7 t367 (x3_1 ++ [t367]) (wrap64 (x4_1 + 1))) else (none)))) = some r := by rw [if_pos rfl] at H; exact H
        clear H;have H := H1;clear H1;replace H := oE H;obtain ⟨t367, A12, H⟩ := H;replace H : (if t367 < 0 then (some x3_1) else (if x3_1.length < 17592186044416 then (spec_GoodsteinRun.l0 kj7 t367 (x3_1 ++ [t367]) (wrap64 (x4_1 + 1))) else (none))) = some r := H;replace A12 := am A12;by_cases c13 : t367 < 0
        ·
         rw [if_pos c13] at H;have c13b0 : decide (t367 < 0) = true := decide_eq_true c13;clear c13;obtain rfl := Option.some.inj H;go_wp2_with (first | ((with_reducible refine gate_callee (f := 44) rfl ?_); refine goesL_ (some 25) rfl rfl Try.func44 (by kernel_rfl) rfl #[.int .i64 x0_1, .int .i64 x4_1] rfl (by (try simp only [mA, mB, mC]); first | done | rfl) ?_; (with_reducible refine (spec_GoodsteinNext.calls kj7 x0_1 x4_1 t367 _ A12.out).mono ?_); rintro e w14 ⟨rfl, hb⟩; refine ⟨_, rfl, ?_⟩; replace HO_3 := am (Kd.R_below (Kd.rm HO_3.out) hb);replace HB := am (below_step (bm HB.out) hb); (try clear hb)));go_ret;exact ⟨_, by first | rfl | (simp [errW_none, errW_some] <;> rfl) | (simp [*, errW_none, errW_some] <;> rfl), Kd.rm HO_3.out, bm HB.out⟩
        ·
         rw [if_neg c13] at H;have c13b0 : decide (t367 < 0) = false := decide_eq_false c13;clear c13;by_cases c15 : x3_1.length < 17592186044416
         ·
          rw [if_pos c15] at H;have LMc15 := am c15;clear c15
          obtain ⟨y368, hy368⟩ : ∃ y_ : List Int, y_ = (x3_1 ++ [t367]) := ⟨_, rfl⟩
          replace H : (spec_GoodsteinRun.l0 kj7 t367 y368 (wrap64 (x4_1 + 1))) = some r := by first | (rw [hy368]; with_reducible exact H) | (have H2_ := oB H; rw [hy368]; with_reducible exact H2_) | (have H2_ := oB H; with_reducible exact H2_) | with_reducible exact H | (rw [hy368]; exact H) | exact H
          replace hy368 := am hy368;have H' := am H;clear H;go_wp2_with (first | ((with_reducible refine gate_callee (f := 44) rfl ?_); refine goesL_ (some 25) rfl rfl Try.func44 (by kernel_rfl) rfl #[.int .i64 x0_1, .int .i64 x4_1] rfl (by (try simp only [mA, mB, mC]); first | done | rfl) ?_; (with_reducible refine (spec_GoodsteinNext.calls kj7 x0_1 x4_1 t367 _ A12.out).mono ?_); rintro e w16 ⟨rfl, hb⟩; refine ⟨_, rfl, ?_⟩; replace HO_3 := am (Kd.R_below (Kd.rm HO_3.out) hb);replace HB := am (below_step (bm HB.out) hb); (try clear hb); (try clear hk)) | ((with_reducible refine gate_builtin (b := .append) (xs := #[.tmp 29, .tmp 31]) rfl ?_); (try (refine gate_guard (by rfl) ?_; dsimp only)); at_builtin; refine Kd.R_append (Kd.int .i64) (w0 := w) w.heap.size rfl (.tmp 29) (.tmp 31) 25 3 (.int .i64 0) 8 rfl Try.underlying25 info3 rfl (by decide) (by omega) u3 x3_1 t367 [.int .i64 t367] (fun _ => True) (fun _ => False) rfl rfl ?aP (fun _ hk => hk.elim) ?aF ?aO ?aB ?aS ?aL ?_; (case aP => exact rfl); (case aB => exact (bm HB.out)); (case aF => exact (fun _ _ => trivial)); (case aO => exact (Kd.rm HO_3.out)); (case aS => exact (below_size (bm HB.out))); (case aL => have := LMc15.out; omega); intro v369 w17 ho hb hg hat; rw [← hy368.out] at ho; replace HB := am (hb);have HO370 := am (ho);clear HO_3; clear ho hb hg hat))
          go_roundg kj7
          case measure => have := HK1.out; have := HJ7.out; omega
          case rel => exact ⟨(t367), (y368), (wrap64 (x4_1 + 1)), (by first | rfl | (simp; done) | (simp [*]; done)), (by first | rfl | (simp; done) | (simp [*]; done)), H', ⟨by have := HK1.out; have := HJ7.out; omega⟩, ⟨Kd.rm HO370.out⟩, ⟨bm HB.out⟩⟩
         ·
          rw [if_neg c15] at H;exact absurd H (by simp)
       ·
        replace c11 := Bool.eq_false_iff.mpr c11;subst c11
        have H1 : (some x3_1) = some r := by rw [if_neg (show ¬ (false = true) by decide)] at H; exact H
        clear H;have H := H1;clear H1;obtain rfl := Option.some.inj H;go_wp2;go_ret;exact ⟨_, by first | rfl | (simp [errW_none, errW_some] <;> rfl) | (simp [*, errW_none, errW_some] <;> rfl), Kd.rm HO_3.out, bm HB.out⟩
  ·
   rw [if_neg c4] at H;exact absurd H (by simp)
 ·
  replace c3 := Bool.eq_false_iff.mpr c3;subst c3
  have H1 : (some y360) = some r := by rw [if_neg (show ¬ (false = true) by decide)] at H; exact H
  clear H;have H := H1;clear H1;obtain rfl := Option.some.inj H;go_enter Try.func20, Try.ntmps20;go_wp2_with (first | ((with_reducible refine gate_dst (N := 5) rfl ?_); (try (refine gate_guard (by rfl) ?_; dsimp only)); refine Kd.R_lit (Kd.int .i64) _ 3 ?hg (N := 5) ?hd (xs := ([] : List Int)) (inner := []) (ok := fun _ => True) (okp := fun _ => True) ?hr ?hp (fun _ hk => hk) trivial (Below.refl _ _) (Nat.le_refl _) (by simp) ?_; (case hd => rfl); (case hg => rfl); (case hr => first | (go_simp; done) | (go_simp; rfl)); (case hp => exact (Reps.none _ _)); intro v361 w18 ho19 hb hg_ hnew_; clear hg_ hnew_; (first | rw [← hy360.out] at ho19 | (simp only [Int.reduceToNat] at ho19; rw [← hy360.out] at ho19)); have HO362 := am (Kd.R_lower ho19 (below_size (bm HB.out)));replace HB := am (below_step (bm HB.out) hb); clear hb ho19) | ((with_reducible refine gate_callee (f := 38) rfl ?_); refine goesL_ (some 7) rfl rfl Try.func38 (by kernel_rfl) rfl #[.int .i64 a0, .int .i64 0, .int .i64 1000000000] rfl (by (try simp only [mA, mB, mC]); first | done | rfl) ?_; (with_reducible refine (spec_l1In.calls a0 0 1000000000 false _ A2.out).mono ?_); rintro e w' ⟨rfl, ⟨nd, rfl⟩⟩; refine ⟨_, rfl, ?_⟩));go_ret;exact ⟨_, by first | rfl | (simp [errW_none, errW_some] <;> rfl) | (simp [*, errW_none, errW_some] <;> rfl), Kd.rm HO362.out, bm HB.out⟩

end Go.Proofs.Ytomidfnhbnhhmaa.Kb

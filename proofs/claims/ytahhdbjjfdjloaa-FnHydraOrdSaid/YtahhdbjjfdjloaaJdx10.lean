-- half
-- Written by a program of this session's (wip/mp) out of the translation, over the kit's print with changes.
import Derived.Test.YtahhdbjjfdjloaaJdx0
import Derived.Test.YtahhdbjjfdjloaaJdx5
import Derived.Test.YtahhdbjjfdjloaaJdx7
import Derived.Test.YtahhdbjjfdjloaaJdx9
namespace Go.Proofs.Ytahhdbjjfdjloaa.Jd
open Go.RowKit Go.Proofs.YtahhdbjjfdjloaaW.PrintWords Go.Proofs.YtahhdbjjfdjloaaW.PrintLast Go.Proofs.YtahhdbjjfdjloaaW.PrintMore
attribute [local go_sem] max2_int min2_int max_two min_two max_three min_three max_four min_four   -- for this text's walks alone
set_option linter.unusedVariables false
set_option linter.unusedSimpArgs false

/-! ### spec_HydraOrd: function 17 -/
def spec_HydraOrd.f (k : Nat) (l0 : List Int) : Option (List Int × Bool) := (spec_HydraValid.f k l0).bind fun t372 => (if t372 = true then ((spec_l5Ord.f k l0).bind fun t373 => ((spec_l2Fit.f k t373).bind fun bt376 => (some (bt376.1, bt376.2)))) else (some ((([] : List Int)), false)))
theorem spec_HydraOrd.mono : ∀ a0 k, LeO (spec_HydraOrd.f k a0) (spec_HydraOrd.f (k + 1) a0) := by
 intro a0 k;unfold spec_HydraOrd.f
 repeat' first | (with_reducible exact spec_HydraValid.mono _ _) | (with_reducible exact spec_l2Fit.mono _ _) | (with_reducible exact spec_l5Ord.mono _ _) | (with_reducible exact LeO.refl _) | (with_reducible exact LeO.none _) | (with_reducible refine LeO.ite ?_ ?_) | (with_reducible refine LeO.bind ?_ (fun _ => ?_))
set_option maxHeartbeats 8000000 in
set_option maxRecDepth 100000 in
theorem spec_HydraOrd.calls (k : Nat) (A0 : Option Addr) (c0 : Nat) (l0 : List Int) (r1 : List Int) (r2 : Bool) (w : World) (hr0 : Kd.C (Kd.int .i64) w A0 l0.length l0) (hc0 : l0.length ≤ c0) (h : spec_HydraOrd.f k l0 = some (r1, r2)) :
  Calls Try.prog 17 #[.slice A0 l0.length c0] w fun e w' => ∃ v0_ : Value, e = .returned (.tuple #[v0_, .bool r2]) ∧ Kd.R (Kd.int .i64) 3 w' w.heap.size (fun _ => True) v0_ r1 ∧ Below w.heap.size w w' := by
 have HR0 := am hr0;have HC0 := am hc0;clear hr0 hc0;have HB := am (Below.refl w.heap.size w);have H : ((spec_HydraValid.f k l0).bind fun t372 => (if t372 = true then ((spec_l5Ord.f k l0).bind fun t373 => ((spec_l2Fit.f k t373).bind fun bt376 => (some (bt376.1, bt376.2)))) else (some ((([] : List Int)), false)))) = some (r1, r2) := h;clear h;replace H := oE H;obtain ⟨t372, A2, H⟩ := H;replace H : (if t372 = true then ((spec_l5Ord.f k l0).bind fun t373 => ((spec_l2Fit.f k t373).bind fun bt376 => (some (bt376.1, bt376.2)))) else (some ((([] : List Int)), false))) = some (r1, r2) := H;replace A2 := am A2;by_cases c3 : t372 = true
 ·
  subst c3
  have H1 : ((spec_l5Ord.f k l0).bind fun t373 => ((spec_l2Fit.f k t373).bind fun bt376 => (some (bt376.1, bt376.2)))) = some (r1, r2) := by rw [if_pos rfl] at H; exact H
  clear H;have H := H1;clear H1;replace H := oE H;obtain ⟨t373, A4, H⟩ := H;replace H : ((spec_l2Fit.f k t373).bind fun bt376 => (some (bt376.1, bt376.2))) = some (r1, r2) := H;replace A4 := am A4;replace H := oE H;obtain ⟨⟨t376, t379⟩, A5, H⟩ := H;replace H : (some (t376, t379)) = some (r1, r2) := H;replace A5 := am A5;simp only [Option.some.injEq, Prod.mk.injEq] at H;obtain ⟨rfl, rfl⟩ := H;go_enter Try.func17, Try.ntmps17;go_wp2_with (first | ((with_reducible refine gate_callee (f := 33) rfl ?_); refine goesL_ (some 5) rfl rfl Try.func33 (by kernel_rfl) rfl #[.slice A0 l0.length c0] rfl (by (try simp only [mA, mB, mC]); first | done | rfl) ?_; (with_reducible refine (spec_HydraValid.calls k _ _ l0 true _ ?side1 ?side2 A2.out).mono ?_); (case side1 => exact Kd.cm HR0.out); (case side2 => exact HC0.out); rintro e w' ⟨rfl, ⟨nd, rfl⟩⟩; refine ⟨_, rfl, ?_⟩) | ((with_reducible refine gate_callee (f := 42) rfl ?_); refine goesL_ (some 9) rfl rfl Try.func42 (by kernel_rfl) rfl #[.slice A0 l0.length c0] rfl (by (try simp only [mA, mB, mC]); first | done | rfl) ?_; (with_reducible refine (spec_l5Ord.calls k _ _ l0 t373 _ ?side1 ?side2 A4.out).mono ?_); (case side1 => exact Kd.cm HR0.out); (case side2 => exact HC0.out); rintro e w6 ⟨v374, rfl, ho0, hb⟩; refine ⟨_, rfl, ?_⟩; have HO375 := am (Kd.R_lower ho0 (below_size (bm HB.out)));replace HB := am (below_step (bm HB.out) hb); (try clear hb); (try clear ho0); obtain ⟨Ao7, co7, eo7⟩ := Kd.R_slice HO375.out; subst eo7) | ((with_reducible refine gate_callee (f := 41) rfl ?_); refine goesL_ (some 10) rfl rfl Try.func41 (by kernel_rfl) rfl #[.slice Ao7 t373.length co7] rfl (by (try simp only [mA, mB, mC]); first | done | rfl) ?_; (with_reducible refine (spec_l2Fit.calls k (fun k_ => some k_ = (.slice Ao7 t373.length co7 : Value).ownBlock) (.slice Ao7 t373.length co7) t373 t376 t379 w _ ?side1 ?side2 A5.out).mono ?_); (case side1 => repeat (first | (with_reducible first | exact HB.out | apply below_alloc | apply pw_below_drewN | apply below_drew1) | exact HB.out)); (case side2 => exact Kd.R_tight rfl HO375.out); rintro e w8 ⟨v377, rfl, ho0, hb, hkp⟩; refine ⟨_, rfl, ?_⟩; have HO378 := am (Kd.R_mono (ok' := fun k_ => True) ho0 (fun k_ hk_ => trivial));replace HB := am (hb);clear HO375; (try clear hb); (try clear hkp); (try clear ho0)));go_ret2;exact ⟨_, by first | rfl | (simp [errW_none, errW_some] <;> rfl) | (simp [*, errW_none, errW_some] <;> rfl), Kd.rm HO378.out, bm HB.out⟩
 ·
  replace c3 := Bool.eq_false_iff.mpr c3;subst c3
  have H1 : (some ((([] : List Int)), false)) = some (r1, r2) := by rw [if_neg (show ¬ (false = true) by decide)] at H; exact H
  clear H;have H := H1;clear H1
  obtain ⟨y380, hy380⟩ : ∃ y_ : List Int, y_ = (([] : List Int)) := ⟨_, rfl⟩
  replace H : (some (y380, false)) = some (r1, r2) := by first | (rw [hy380]; with_reducible exact H) | (have H2_ := oB H; rw [hy380]; with_reducible exact H2_) | (have H2_ := oB H; with_reducible exact H2_) | with_reducible exact H | (rw [hy380]; exact H) | exact H
  replace hy380 := am hy380;simp only [Option.some.injEq, Prod.mk.injEq] at H;obtain ⟨rfl, rfl⟩ := H;go_enter Try.func17, Try.ntmps17;go_wp2_with (first | ((with_reducible refine gate_callee (f := 33) rfl ?_); refine goesL_ (some 5) rfl rfl Try.func33 (by kernel_rfl) rfl #[.slice A0 l0.length c0] rfl (by (try simp only [mA, mB, mC]); first | done | rfl) ?_; (with_reducible refine (spec_HydraValid.calls k _ _ l0 false _ ?side1 ?side2 A2.out).mono ?_); (case side1 => exact Kd.cm HR0.out); (case side2 => exact HC0.out); rintro e w' ⟨rfl, ⟨nd, rfl⟩⟩; refine ⟨_, rfl, ?_⟩) | ((with_reducible refine gate_dst (N := 7) rfl ?_); refine Kd.R_lit (Kd.int .i64) _ 3 ?hg (N := 7) ?hd (xs := ([] : List Int)) (inner := []) (ok := fun _ => True) (okp := fun _ => True) ?hr ?hp (fun _ hk => hk) trivial (Below.refl _ _) (Nat.le_refl _) (by simp) ?_; (case hd => rfl); (case hg => rfl); (case hr => first | (go_simp; done) | (go_simp; rfl)); (case hp => exact (Reps.none _ _)); intro v381 w9 ho10 hb hg_ hnew_; clear hg_ hnew_; (first | rw [← hy380.out] at ho10 | (simp only [Int.reduceToNat] at ho10; rw [← hy380.out] at ho10)); have HO382 := am (Kd.R_lower ho10 (below_size (bm HB.out)));replace HB := am (below_step (bm HB.out) hb); clear hb ho10));go_ret2;exact ⟨_, by first | rfl | (simp [errW_none, errW_some] <;> rfl) | (simp [*, errW_none, errW_some] <;> rfl), Kd.rm HO382.out, bm HB.out⟩

/-! ### impl_takeHydra: function 68 -/
mutual
def impl_takeHydra.j0 : Nat → List Int → Bool → Option ((List (S46)) × List Int × Bool)
 | 0, _, _ => none
 | k + 1, x0, x24 => if x24 = true then (some (([] : List (S46)), ([] : List Int), false)) else (if 0 < (x0.length : Int) then (if 1 ≤ (x0.length : Int) then (impl_takeHydra.l0 k (x0.drop 1) (([] : List (S46))) (rd x0 0) 0) else (none)) else (none))
def impl_takeHydra.l0 : Nat → List Int → List (S46) → Int → Int → Option ((List (S46)) × List Int × Bool)
 | 0, _, _, _, _ => none
 | k + 1, x0, x6, x31, x32 => if x32 < x31 then ((impl_takeHydra.f k x0).bind fun bt394 => (if bt394.2.2 = true then (if x6.length < 5864062014805 then (impl_takeHydra.l0 k bt394.2.1 (x6 ++ [(⟨bt394.1⟩ : S46)]) x31 (wrap64 (x32 + 1))) else (none)) else (some (([] : List (S46)), ([] : List Int), false)))) else (some (x6, x0, true))
def impl_takeHydra.f : Nat → List Int → Option ((List (S46)) × List Int × Bool)
 | 0, _ => none
 | k + 1, l0 => if (l0.length : Int) = 0 then (impl_takeHydra.j0 k l0 true) else (if 0 < (l0.length : Int) then (if (rd l0 0) < 0 then (impl_takeHydra.j0 k l0 true) else (impl_takeHydra.j0 k l0 (decide ((rd l0 0) > 60)))) else (none))
end
theorem impl_takeHydra.mono_l : ∀ k, (∀ y0, LeO (impl_takeHydra.f k y0) (impl_takeHydra.f (k + 1) y0)) ∧ (∀ y0 y1, LeO (impl_takeHydra.j0 k y0 y1) (impl_takeHydra.j0 (k + 1) y0 y1)) ∧ (∀ y0 y1 y2 y3, LeO (impl_takeHydra.l0 k y0 y1 y2 y3) (impl_takeHydra.l0 (k + 1) y0 y1 y2 y3))
 | 0 => ⟨fun _ r h => by simp [impl_takeHydra.f] at h, fun _ _ r h => by simp [impl_takeHydra.j0] at h, fun _ _ _ _ r h => by simp [impl_takeHydra.l0] at h⟩
 | k + 1 => by
  obtain ⟨ih0, ih1, ih2⟩ := impl_takeHydra.mono_l k;refine ⟨?_, ?_, ?_⟩
  all_goals (intros; first | unfold impl_takeHydra.f | unfold impl_takeHydra.j0 | unfold impl_takeHydra.l0)
  all_goals repeat' first | (with_reducible exact ih0 _) | (with_reducible exact ih1 _ _) | (with_reducible exact ih2 _ _ _ _) | (with_reducible exact LeO.refl _) | (with_reducible exact LeO.none _) | (with_reducible refine LeO.ite ?_ ?_) | (with_reducible refine LeO.bind ?_ (fun _ => ?_))
theorem impl_takeHydra.mono : ∀ a0 k, LeO (impl_takeHydra.f k a0) (impl_takeHydra.f (k + 1) a0) := by
 intro a0 k;obtain ⟨ih0, ih1, ih2⟩ := impl_takeHydra.mono_l k;exact ih0 a0
set_option maxHeartbeats 8000000 in
set_option maxRecDepth 100000 in
theorem impl_takeHydra.calls (k : Nat) : ∀ (P0_ : Nat → Prop) (A0 : Option Addr) (c0 : Nat) (l0 : List Int) (r1 : List (S46)) (r2 : List Int) (r3 : Bool) (w : World) (hs0 : Kd.V (Kd.int .i64) 3 w w.heap.size (fun k_ => P0_ k_) (.slice A0 l0.length c0) l0) (h : impl_takeHydra.f k l0 = some (r1, r2, r3)),
  Calls Try.prog 68 #[.slice A0 l0.length c0] w fun e w' => ∃ v0_ v1_ : Value, e = .returned (.tuple #[v0_, v1_, .bool r3]) ∧ Kd.R k46 46 w' w.heap.size (fun k_ => (w.heap.size ≤ k_)) v0_ r1 ∧ Kd.V (Kd.int .i64) 3 w' w.heap.size (fun k_ => (P0_ k_ ∨ w.heap.size ≤ k_) ∧ some k_ ≠ (v0_ : Value).ownBlock) v1_ r2 ∧ Below w.heap.size w w' := by
 induction k using Nat.strongRecOn with
 | _ k ih =>
 intro P0_ A0 c0 l0 r1 r2 r3 w hs0 h
 cases k with
 | zero => exact absurd h (by simp [impl_takeHydra.f])
 | succ k =>
 simp only [impl_takeHydra.f] at h;have HO0 := am (show Kd.V (Kd.int .i64) 3 w w.heap.size (fun k_ => (P0_ k_ ∨ w.heap.size ≤ k_)) (.slice A0 l0.length c0) l0 from Kd.V_mono hs0 (fun k_ hk => .inl hk));have HB := am (Below.refl w.heap.size w);have H : (if (l0.length : Int) = 0 then (impl_takeHydra.j0 k l0 true) else (if 0 < (l0.length : Int) then (if (rd l0 0) < 0 then (impl_takeHydra.j0 k l0 true) else (impl_takeHydra.j0 k l0 (decide ((rd l0 0) > 60)))) else (none))) = some (r1, r2, r3) := h;clear h;have HC2 := am H;clear H;go_enter Try.func68, Try.ntmps68
 go_upto_region 1 with (fail)
 go_cut [24] (fun v24 wc => ∃ (kq : Nat) (x24_1 : Bool), v24 = .bool x24_1 ∧ Aside0 (impl_takeHydra.j0 kq l0 x24_1 = some (r1, r2, r3)) ∧ Aside0 (kq ≤ k) ∧ Aside0 (Kd.V (Kd.int .i64) 3 wc w.heap.size (fun k_ => (P0_ k_ ∨ w.heap.size ≤ k_)) (.slice A0 l0.length c0) l0) ∧ Aside0 (Below w.heap.size w wc))
 case first =>
  have H := HC2.out;clear HC2;by_cases c3 : (l0.length : Int) = 0
  ·
   rw [if_pos c3] at H;have c3b0 : ((l0.length : Int) == 0) = true := beq_iff_eq.mpr c3;have c3b1 : ((l0.length : Int) != 0) = false := bne_eq_false_iff_eq.mpr c3;clear c3
   (first | rw [c3b0] | (simp only [i64_w, i32_w]; rw [c3b0]) | skip)
   have H' := am H;clear H;go_wp2;go_meet
   case rel => exact ⟨_, (true), (by first | rfl | (simp; done) | (simp [*]; done)), H', ⟨by first | omega | exact Nat.le_refl _⟩, ⟨Kd.vm HO0.out⟩, ⟨bm HB.out⟩⟩
  ·
   rw [if_neg c3] at H;have c3b0 : ((l0.length : Int) == 0) = false := beq_eq_false_iff_ne.mpr c3;have c3b1 : ((l0.length : Int) != 0) = true := bne_iff_ne.mpr c3
   have c3b2 : ¬ (l0 = []) := fun h_ => c3 (by rw [h_]; rfl)
   (first | rw [c3b0] | (simp only [i64_w, i32_w]; rw [c3b0]) | skip)
   by_cases c4 : 0 < (l0.length : Int)
   ·
    rw [if_pos c4] at H;have c4b0 : decide (0 < (l0.length : Int)) = true := decide_eq_true c4;have c4b1 : decide (0 < l0.length) = true := decide_eq_true (by omega);clear c4;by_cases c5 : (rd l0 0) < 0
    ·
     rw [if_pos c5] at H;have c5b0 : decide ((rd l0 0) < 0) = true := decide_eq_true c5;clear c5;have H' := am H;clear H;have p383 : 0 ≤ (0 : Int) := (by omega);have q383 : 0 < (l0.length : Int) := of_decide_eq_true (by assumption);obtain ⟨ad383, e383, hx383_0⟩ := Kd.at_int (Kd.V_reads' HO0.out).2.2 0 p383 q383;cases e383
     have qi383 : (0 < l0.length) = True := eq_true (by omega);(try rw [show ((0 : Int)).toNat = 0 from rfl] at hx383_0);(try rw [Addr.add_zero'] at hx383_0);replace p383 := eq_true p383;replace q383 := eq_true q383;go_wp2;go_meet
     case rel => exact ⟨_, (true), (by first | rfl | (simp; done) | (simp [*]; done)), H', ⟨by first | omega | exact Nat.le_refl _⟩, ⟨Kd.vm HO0.out⟩, ⟨bm HB.out⟩⟩
    ·
     rw [if_neg c5] at H;have c5b0 : decide ((rd l0 0) < 0) = false := decide_eq_false c5;clear c5;have H' := am H;clear H;have p383 : 0 ≤ (0 : Int) := (by omega);have q383 : 0 < (l0.length : Int) := of_decide_eq_true (by assumption);obtain ⟨ad383, e383, hx383_0⟩ := Kd.at_int (Kd.V_reads' HO0.out).2.2 0 p383 q383;cases e383
     have qi383 : (0 < l0.length) = True := eq_true (by omega);(try rw [show ((0 : Int)).toNat = 0 from rfl] at hx383_0);(try rw [Addr.add_zero'] at hx383_0);replace p383 := eq_true p383;replace q383 := eq_true q383;have p384 : 0 ≤ (0 : Int) := (by omega);have q384 : 0 < (l0.length : Int) := of_decide_eq_true (by assumption);obtain ⟨ad384, e384, hx384_0⟩ := Kd.at_int (Kd.V_reads' HO0.out).2.2 0 p384 q384;obtain rfl : ad383 = ad384 := (by injection e384);have qi384 : (0 < l0.length) = True := eq_true (by omega);(try rw [show ((0 : Int)).toNat = 0 from rfl] at hx384_0);(try rw [Addr.add_zero'] at hx384_0);replace p384 := eq_true p384;replace q384 := eq_true q384;go_wp2;go_meet
     case rel => exact ⟨_, (decide ((rd l0 0) > 60)), (by first | rfl | (simp; done) | (simp [*]; done)), H', ⟨by first | omega | exact Nat.le_refl _⟩, ⟨Kd.vm HO0.out⟩, ⟨bm HB.out⟩⟩
   ·
    rw [if_neg c4] at H;exact absurd H (by simp)
 case rest =>
  clear HC2;(try clear p2);(try clear c3);(try clear c3b0);(try clear c3b1);(try clear c3b2);(try clear p3);(try clear q3);(try clear hx3);(try clear qi3);(try clear c4);(try clear c4b0);(try clear c4b1);(try clear c5);(try clear c5b0);(try clear hx383_0);(try clear hx384_0);(try clear p383);(try clear p384);(try clear q383);(try clear q384);obtain ⟨kq, x24_1, rfl, HA, HJ1, HO_0, HB⟩ := hcut
  cases kq with
  | zero => exact absurd HA.out (by simp [impl_takeHydra.j0])
  | succ kj1 =>
   have H := HA.out;clear HA;simp only [impl_takeHydra.j0] at H;by_cases c6 : x24_1 = true
   ·
    subst c6
    have H1 : (some (([] : List (S46)), ([] : List Int), false)) = some (r1, r2, r3) := by rw [if_pos rfl] at H; exact H
    clear H;have H := H1;clear H1;simp only [Option.some.injEq, Prod.mk.injEq] at H;obtain ⟨rfl, rfl, rfl⟩ := H;go_wp2;go_ret3;exact ⟨_, _, by first | rfl | (simp [errW_none, errW_some] <;> rfl) | (simp [*, errW_none, errW_some] <;> rfl), by first | exact Kd.R_nil _ _ _ _ _ | exact Kd.N_nil _ _ _ _ _ | exact Kd.V_nil _ _ _ _ _ | exact Kd.Y_nil _ _ _ _ _ | exact Kd.S_nil _ _ _ _ _, (by exact Kd.V_nil _ _ _ _ _), bm HB.out⟩
   ·
    replace c6 := Bool.eq_false_iff.mpr c6;subst c6
    have H1 : (if 0 < (l0.length : Int) then (if 1 ≤ (l0.length : Int) then (impl_takeHydra.l0 kj1 (l0.drop 1) (([] : List (S46))) (rd l0 0) 0) else (none)) else (none)) = some (r1, r2, r3) := by rw [if_neg (show ¬ (false = true) by decide)] at H; exact H
    clear H;have H := H1;clear H1;by_cases c7 : 0 < (l0.length : Int)
    ·
     rw [if_pos c7] at H;have c7b0 : decide (0 < (l0.length : Int)) = true := decide_eq_true c7;have c7b1 : decide (0 < l0.length) = true := decide_eq_true (by omega);clear c7;by_cases c8 : 1 ≤ (l0.length : Int)
     ·
      rw [if_pos c8] at H;have c8b0 := eq_true c8;have c8b1 : decide (1 ≤ (l0.length : Int)) = true := decide_eq_true c8;clear c8
      obtain ⟨y386, hy386⟩ : ∃ y_ : List Int, y_ = (l0.drop 1) := ⟨_, rfl⟩
      replace H : (impl_takeHydra.l0 kj1 y386 (([] : List (S46))) (rd l0 0) 0) = some (r1, r2, r3) := by first | (rw [hy386]; with_reducible exact H) | (have H2_ := oB H; rw [hy386]; with_reducible exact H2_) | (have H2_ := oB H; with_reducible exact H2_) | with_reducible exact H | (rw [hy386]; exact H) | exact H
      replace hy386 := am hy386
      obtain ⟨y391, hy391⟩ : ∃ y_ : List (S46), y_ = (([] : List (S46))) := ⟨_, rfl⟩
      replace H : (impl_takeHydra.l0 kj1 y386 y391 (rd l0 0) 0) = some (r1, r2, r3) := by first | (rw [hy391]; with_reducible exact H) | (have H2_ := oB H; rw [hy391]; with_reducible exact H2_) | (have H2_ := oB H; with_reducible exact H2_) | with_reducible exact H | (rw [hy391]; exact H) | exact H
      replace hy391 := am hy391;have H' := am H;clear H;have p385 : 0 ≤ (0 : Int) := (by omega);have q385 : 0 < (l0.length : Int) := of_decide_eq_true (by assumption);obtain ⟨ad385, e385, hx385_0⟩ := Kd.at_int (Kd.V_reads' HO_0.out).2.2 0 p385 q385;cases e385
      have qi385 : (0 < l0.length) = True := eq_true (by omega);(try rw [show ((0 : Int)).toNat = 0 from rfl] at hx385_0);(try rw [Addr.add_zero'] at hx385_0);replace p385 := eq_true p385;replace q385 := eq_true q385;have q9 : (1 : Int) ≤ ((l0.length : Int) : Int) := of_decide_eq_true (by assumption);obtain ⟨i09, hi09, _, hsz9, _⟩ := info_parts info3;have hroom9 : l0.length ≤ c0 := (Kd.V_reads' HO_0.out).2.1;have hC9 : Kd.F (Kd.int .i64) _ _ (some ad385) l0.length l0 := (Kd.V_at (base := w.heap.size) HO_0.out).2.2;have hcut9 := cut_from (P := Try.prog) 22 3 .i64 Try.underlying22 hi09 1 hsz9 (some ad385) l0.length c0 1 (by omega) q9;have hr9 := Kd.F_cut (m := (1 : Int).toNat) (c := c0) hC9 (by omega) hroom9
      obtain ⟨A9, hA9⟩ : ∃ A1, A1 = (if c0 = (1 : Int).toNat then (some ad385) else ((some ad385) : Option Addr).map (·.add ((1 : Int).toNat * 1))) := ⟨_, rfl⟩
      obtain ⟨c9, hc9⟩ : ∃ c1, c1 = c0 - (1 : Int).toNat := ⟨_, rfl⟩
      have hy9 : y386.length = l0.length - (1 : Int).toNat := (by rw [hy386.out, List.length_drop] <;> omega);rw [show (l0).drop (1 : Int).toNat = y386 from hy386.out.symm] at hr9;replace hr9 : Kd.F (Kd.int .i64) _ _ A9 y386.length y386 := (by rw [hA9]; exact hr9);rw [← hy9, ← hA9, ← hc9] at hcut9;have HO390 := am (show Kd.V (Kd.int .i64) 3 _ w.heap.size _ (.slice A9 y386.length c9) y386 from Kd.V_mk (by rw [hy9, hc9]; exact Nat.sub_le_sub_right hroom9 _) hr9);have HC390 := am (show y386.length ≤ c9 from by rw [hy9, hc9]; exact Nat.sub_le_sub_right hroom9 _);clear hr9 hC9 hroom9 hi09 hsz9 hc9;have KY9 := am hy9;have KA9 := am hA9;clear hy9 hA9;replace q9 := eq_true q9;go_wp2_with (first | ((with_reducible refine gate_dst (N := 30) rfl ?_); refine Kd.R_lit k46 _ 46 ?hg (N := 30) ?hd (xs := ([] : List (S46))) (inner := []) (ok := fun _ => True) (okp := fun _ => True) ?hr ?hp (fun _ hk => hk) trivial (Below.refl _ _) (Nat.le_refl _) (by simp) ?_; (case hd => rfl); (case hg => rfl); (case hr => first | (go_simp; done) | (go_simp; rfl)); (case hp => exact (Reps.none _ _)); intro v392 w10 ho11 hb hg_ hnew_; clear hg_ hnew_; (first | rw [← hy391.out] at ho11 | (simp only [Int.reduceToNat] at ho11; rw [← hy391.out] at ho11)); replace HO_0 := am (Kd.V_elder' (Kd.vm HO_0.out) (Kd.R_base ho11) hb);replace HO390 := am (Kd.V_elder' (Kd.vm HO390.out) (Kd.R_base ho11) hb);have HO393 := am (Kd.R_lower (Kd.R_newM (M := fun k_ => (w.heap.size ≤ k_)) ho11 (below_size (bm HB.out)) (fun k_ h_ => h_)) (below_size (bm HB.out)));replace HB := am (below_step (bm HB.out) hb); clear hb ho11))
      go_loopg [0, 6, 32] kj1 (fun kq v0 v6 v32 w' => ∃ (x0_2 : List Int) (x6_2 : List (S46)) (x32_2 : Int), v32 = .int .i64 x32_2 ∧ Aside0 (impl_takeHydra.l0 kq x0_2 x6_2 (rd l0 0) x32_2 = some (r1, r2, r3)) ∧ Aside0 (kq ≤ kj1) ∧ Aside0 (Kd.V (Kd.int .i64) 3 w' w.heap.size (fun k_ => (P0_ k_ ∨ w.heap.size ≤ k_) ∧ some k_ ≠ (v6 : Value).ownBlock) v0 x0_2) ∧ Aside0 (Kd.R k46 46 w' w.heap.size (fun k_ => (w.heap.size ≤ k_)) v6 x6_2) ∧ Aside0 (Below w.heap.size w w'))
      case atStart => exact ⟨(y386), (y391), (0), (by first | rfl | (simp; done) | (simp [*]; done)), H', ⟨Nat.le_refl _⟩, ⟨Kd.vm HO390.out⟩, ⟨Kd.rm (Kd.R_mono HO393.out (fun _ hk => hk.1))⟩, ⟨bm HB.out⟩⟩
      case round =>
       clear H';(try clear c1);(try clear p2);(try clear c3);(try clear c3b0);(try clear c3b1);(try clear c3b2);(try clear p3);(try clear q3);(try clear hx3);(try clear qi3);(try clear c4);(try clear c4b0);(try clear c4b1);(try clear c5);(try clear c5b0);(try clear c6);(try clear c7);(try clear c7b0);(try clear c7b1);(try clear c8);(try clear c8b0);(try clear c8b1);(try clear c9);(try clear q9);(try clear hx383_0);(try clear hx384_0);(try clear hx385_0);(try clear p2);(try clear p3);(try clear p383);(try clear p384);(try clear p385);(try clear q3);(try clear q383);(try clear q384);(try clear q385);(try clear q9);(try clear HO_0);(try clear HO_6);(try clear HB);obtain ⟨x0_2, x6_2, x32_2, rfl, HA, HK2, HO_0, HO_6, HB⟩ := hrel
       cases gk with
       | zero => exact absurd HA.out (by simp [impl_takeHydra.l0])
       | succ k2 =>
        have H := HA.out;clear HA;simp only [impl_takeHydra.l0] at H;by_cases c12 : x32_2 < (rd l0 0)
        ·
         rw [if_pos c12] at H;have c12b0 : decide (x32_2 < (rd l0 0)) = true := decide_eq_true c12;clear c12;replace H := oE H;obtain ⟨⟨t394, t397, t400⟩, A13, H⟩ := H;replace H : (if t400 = true then (if x6_2.length < 5864062014805 then (impl_takeHydra.l0 k2 t397 (x6_2 ++ [(⟨t394⟩ : S46)]) (rd l0 0) (wrap64 (x32_2 + 1))) else (none)) else (some (([] : List (S46)), ([] : List Int), false))) = some (r1, r2, r3) := H;replace A13 := am A13;by_cases c14 : t400 = true
         ·
          subst c14
          have H1 : (if x6_2.length < 5864062014805 then (impl_takeHydra.l0 k2 t397 (x6_2 ++ [(⟨t394⟩ : S46)]) (rd l0 0) (wrap64 (x32_2 + 1))) else (none)) = some (r1, r2, r3) := by rw [if_pos rfl] at H; exact H
          clear H;have H := H1;clear H1;by_cases c15 : x6_2.length < 5864062014805
          ·
           rw [if_pos c15] at H;have LMc15 := am c15;clear c15
           obtain ⟨y401, hy401⟩ : ∃ y_ : List (S46), y_ = (x6_2 ++ [(⟨t394⟩ : S46)]) := ⟨_, rfl⟩
           replace H : (impl_takeHydra.l0 k2 t397 y401 (rd l0 0) (wrap64 (x32_2 + 1))) = some (r1, r2, r3) := by first | (rw [hy401]; with_reducible exact H) | (have H2_ := oB H; rw [hy401]; with_reducible exact H2_) | (have H2_ := oB H; with_reducible exact H2_) | with_reducible exact H | (rw [hy401]; exact H) | exact H
           replace hy401 := am hy401;have H' := am H;clear H;obtain ⟨Ao16, co16, eo16⟩ := Kd.V_slice HO_0.out;subst eo16;go_wp2_with (first | ((with_reducible refine gate_callee (f := 68) rfl ?_); refine goesL_ (some 36) rfl rfl Try.func68 (by kernel_rfl) rfl #[.slice Ao16 x0_2.length co16] rfl (by (try simp only [mA, mB, mC]); first | done | rfl) ?_; (with_reducible refine (ih k2 (by have := HJ1.out; have := HK2.out; omega) (fun k_ => ((P0_ k_ ∨ w.heap.size ≤ k_) ∧ some k_ ≠ (u6 : Value).ownBlock)) _ _ x0_2 t394 t397 true _ ?side1 A13.out).mono ?_); (case side1 => exact HO_0.out); rintro e w17 ⟨v395, v398, rfl, ho0, ho1, hb⟩; refine ⟨_, rfl, ?_⟩; replace HO_0 := am (Kd.V_elder' (Kd.vm HO_0.out) (Kd.R_base ho0) hb);have HO396 := am (Kd.R_lower (Kd.R_new' (Kd.R_newM (M := fun k_ => (w.heap.size ≤ k_)) (Kd.R_mono (ok' := fun k_ => True) ho0 (fun _ hk_ => trivial)) (below_size (bm HB.out)) (fun k_ h_ => h_)) (Kd.R_lt (Kd.rm HO_6.out))) (below_size (bm HB.out)));have HO399 := am (Kd.V_lower (Kd.V_mono (ok' := fun k_ => (P0_ k_ ∨ w.heap.size ≤ k_) ∧ some k_ ≠ (v395 : Value).ownBlock ∧ some k_ ≠ (u6 : Value).ownBlock) ho1 (fun k_ hk_ => ⟨Or.elim hk_.1 (fun hs_ => hs_.1) (fun hn_ => (.inr (Nat.le_trans (below_size (bm HB.out)) hn_))), hk_.2, Or.elim hk_.1 (fun hs_ => hs_.2) (fun hn_ => (Kd.fresh' (Kd.R_lt (Kd.rm HO_6.out)) k_ hn_))⟩)) (below_size (bm HB.out)));replace HO_6 := am (Kd.R_elder' (Kd.rm HO_6.out) (Kd.R_base ho0) hb);replace HB := am (below_step (bm HB.out) hb); (try clear hb); (try clear hk); (try clear ho0); (try clear ho1); obtain ⟨Ao19, co19, eo19⟩ := Kd.R_slice HO396.out; subst eo19) | ((with_reducible refine gate_builtin (b := .append) (xs := #[.tmp 42, .tmp 44]) rfl ?_); at_builtin; refine Kd.R_append k46 (w0 := w) w.heap.size rfl (.tmp 42) (.tmp 44) 46 46 (.slice none 0 0) 24 rfl Try.underlying46 info46 rfl (by decide) (by omega) u6 x6_2 (⟨t394⟩ : S46) [.slice Ao19 t394.length co19] (fun k_ => (w.heap.size ≤ k_)) (fun k_ => ((fun k_ => (w.heap.size ≤ k_))) k_ ∧ some k_ ≠ (u6 : Value).ownBlock) rfl rfl ?aP (fun _ hk => hk) ?aF ?aO ?aB ?aS ?aL ?_; (case aP => exact k46_mkM _ _ _ (⟨t394⟩ : S46) (Kd.R_mono (HO396.out) (fun k_ hk => ⟨hk.1.1, hk.2⟩))); (case aB => exact (bm HB.out)); (case aF => exact (fun k_ hk => (Nat.le_trans (below_size (bm HB.out)) hk))); (case aO => exact (Kd.rm (Kd.R_mono HO_6.out (fun _ hk => hk.1)))); (case aS => exact (below_size (bm HB.out))); (case aL => have := LMc15.out; omega); intro v402 w18 ho hb hg hat; rw [← hy401.out] at ho; replace HO_0 := am (Kd.V_afterv (ok := (fun k_ => (P0_ k_ ∨ w.heap.size ≤ k_) ∧ some k_ ≠ (.slice Ao19 t394.length co19 : Value).ownBlock)) (Kd.vm (Kd.V_mono HO_0.out (fun _ hk => ⟨⟨hk.1.1, hk.2⟩, hk.1.2⟩))) hg hat);replace HO399 := am (Kd.V_afterv (ok := (fun k_ => (P0_ k_ ∨ w.heap.size ≤ k_) ∧ some k_ ≠ (.slice Ao19 t394.length co19 : Value).ownBlock)) (Kd.vm (Kd.V_mono HO399.out (fun _ hk => ⟨⟨hk.1, hk.2.1⟩, hk.2.2⟩))) hg hat);replace HB := am (hb);have HO403 := am (ho);clear HO_6 HO396; clear ho hb hg hat))
           go_roundg k2
           case measure => have := HJ1.out; have := HK2.out; omega
           case rel => exact ⟨(t397), (y401), (wrap64 (x32_2 + 1)), (by first | rfl | (simp; done) | (simp [*]; done)), H', ⟨by have := HJ1.out; have := HK2.out; omega⟩, ⟨Kd.vm (Kd.V_mono HO399.out (fun _ hk => ⟨hk.1.1, hk.2⟩))⟩, ⟨Kd.rm HO403.out⟩, ⟨bm HB.out⟩⟩
          ·
           rw [if_neg c15] at H;exact absurd H (by simp)
         ·
          replace c14 := Bool.eq_false_iff.mpr c14;subst c14
          have H1 : (some (([] : List (S46)), ([] : List Int), false)) = some (r1, r2, r3) := by rw [if_neg (show ¬ (false = true) by decide)] at H; exact H
          clear H;have H := H1;clear H1;simp only [Option.some.injEq, Prod.mk.injEq] at H;obtain ⟨rfl, rfl, rfl⟩ := H;obtain ⟨Ao20, co20, eo20⟩ := Kd.V_slice HO_0.out;subst eo20;go_wp2_with (first | ((with_reducible refine gate_callee (f := 68) rfl ?_); refine goesL_ (some 36) rfl rfl Try.func68 (by kernel_rfl) rfl #[.slice Ao20 x0_2.length co20] rfl (by (try simp only [mA, mB, mC]); first | done | rfl) ?_; (with_reducible refine (ih k2 (by have := HJ1.out; have := HK2.out; omega) (fun k_ => ((P0_ k_ ∨ w.heap.size ≤ k_) ∧ some k_ ≠ (u6 : Value).ownBlock)) _ _ x0_2 t394 t397 false _ ?side1 A13.out).mono ?_); (case side1 => exact HO_0.out); rintro e w21 ⟨v395, v398, rfl, ho0, ho1, hb⟩; refine ⟨_, rfl, ?_⟩; replace HO_0 := am (Kd.V_elder' (Kd.vm HO_0.out) (Kd.R_base ho0) hb);have HO396 := am (Kd.R_lower (Kd.R_new' (Kd.R_newM (M := fun k_ => (w.heap.size ≤ k_)) (Kd.R_mono (ok' := fun k_ => True) ho0 (fun _ hk_ => trivial)) (below_size (bm HB.out)) (fun k_ h_ => h_)) (Kd.R_lt (Kd.rm HO_6.out))) (below_size (bm HB.out)));have HO399 := am (Kd.V_lower (Kd.V_mono (ok' := fun k_ => (P0_ k_ ∨ w.heap.size ≤ k_) ∧ some k_ ≠ (v395 : Value).ownBlock ∧ some k_ ≠ (u6 : Value).ownBlock) ho1 (fun k_ hk_ => ⟨Or.elim hk_.1 (fun hs_ => hs_.1) (fun hn_ => (.inr (Nat.le_trans (below_size (bm HB.out)) hn_))), hk_.2, Or.elim hk_.1 (fun hs_ => hs_.2) (fun hn_ => (Kd.fresh' (Kd.R_lt (Kd.rm HO_6.out)) k_ hn_))⟩)) (below_size (bm HB.out)));replace HO_6 := am (Kd.R_elder' (Kd.rm HO_6.out) (Kd.R_base ho0) hb);replace HB := am (below_step (bm HB.out) hb); (try clear hb); (try clear ho0); (try clear ho1)));go_ret3;exact ⟨_, _, by first | rfl | (simp [errW_none, errW_some] <;> rfl) | (simp [*, errW_none, errW_some] <;> rfl), by first | exact Kd.R_nil _ _ _ _ _ | exact Kd.N_nil _ _ _ _ _ | exact Kd.V_nil _ _ _ _ _ | exact Kd.Y_nil _ _ _ _ _ | exact Kd.S_nil _ _ _ _ _, (by exact Kd.V_nil _ _ _ _ _), bm HB.out⟩
        ·
         rw [if_neg c12] at H;have c12b0 : decide (x32_2 < (rd l0 0)) = false := decide_eq_false c12;clear c12;simp only [Option.some.injEq, Prod.mk.injEq] at H;obtain ⟨rfl, rfl, rfl⟩ := H;go_wp2;go_ret3;exact ⟨_, _, by first | rfl | (simp [errW_none, errW_some] <;> rfl) | (simp [*, errW_none, errW_some] <;> rfl), Kd.rm HO_6.out, Kd.vm HO_0.out, bm HB.out⟩
     ·
      rw [if_neg c8] at H;exact absurd H (by simp)
    ·
     rw [if_neg c7] at H;exact absurd H (by simp)

/-! ### impl_hydraOf: function 43 -/
def impl_hydraOf.f (k : Nat) (l0 : List Int) : Option ((List (S46)) × Bool) := if (l0.length : Int) < 1 then (some (([] : List (S46)), false)) else (if (l0.length : Int) > 60 then (some (([] : List (S46)), false)) else ((impl_takeHydra.f k l0).bind fun bt404 => (if bt404.2.2 = true then (some (bt404.1, ((bt404.2.1.length : Int) == 0))) else (some (bt404.1, false)))))
theorem impl_hydraOf.mono : ∀ a0 k, LeO (impl_hydraOf.f k a0) (impl_hydraOf.f (k + 1) a0) := by
 intro a0 k;unfold impl_hydraOf.f
 repeat' first | (with_reducible exact impl_takeHydra.mono _ _) | (with_reducible exact LeO.refl _) | (with_reducible exact LeO.none _) | (with_reducible refine LeO.ite ?_ ?_) | (with_reducible refine LeO.bind ?_ (fun _ => ?_))
set_option maxHeartbeats 8000000 in
set_option maxRecDepth 100000 in
theorem impl_hydraOf.calls (k : Nat) (A0 : Option Addr) (c0 : Nat) (l0 : List Int) (r1 : List (S46)) (r2 : Bool) (w : World) (hr0 : Kd.C (Kd.int .i64) w A0 l0.length l0) (hc0 : l0.length ≤ c0) (h : impl_hydraOf.f k l0 = some (r1, r2)) :
  Calls Try.prog 43 #[.slice A0 l0.length c0] w fun e w' => ∃ v0_ : Value, e = .returned (.tuple #[v0_, .bool r2]) ∧ Kd.R k46 46 w' w.heap.size (fun _ => True) v0_ r1 ∧ Below w.heap.size w w' := by
 have HR0 := am hr0;have HC0 := am hc0;clear hr0 hc0;have HB := am (Below.refl w.heap.size w);have H : (if (l0.length : Int) < 1 then (some (([] : List (S46)), false)) else (if (l0.length : Int) > 60 then (some (([] : List (S46)), false)) else ((impl_takeHydra.f k l0).bind fun bt404 => (if bt404.2.2 = true then (some (bt404.1, ((bt404.2.1.length : Int) == 0))) else (some (bt404.1, false)))))) = some (r1, r2) := h;clear h;by_cases c2 : (l0.length : Int) < 1
 ·
  rw [if_pos c2] at H;have c2b0 : decide ((l0.length : Int) < 1) = true := decide_eq_true c2;have c2b1 : decide (l0.length < 1) = true := decide_eq_true (by omega);clear c2;simp only [Option.some.injEq, Prod.mk.injEq] at H;obtain ⟨rfl, rfl⟩ := H;go_enter Try.func43, Try.ntmps43;go_wp2;go_ret2;exact ⟨_, by first | rfl | (simp [errW_none, errW_some] <;> rfl) | (simp [*, errW_none, errW_some] <;> rfl), by first | exact Kd.R_nil _ _ _ _ _ | exact Kd.N_nil _ _ _ _ _ | exact Kd.V_nil _ _ _ _ _ | exact Kd.Y_nil _ _ _ _ _ | exact Kd.S_nil _ _ _ _ _, bm HB.out⟩
 ·
  rw [if_neg c2] at H;have c2b0 : decide ((l0.length : Int) < 1) = false := decide_eq_false c2;have c2b1 : decide (l0.length < 1) = false := decide_eq_false (by omega);clear c2;by_cases c3 : (l0.length : Int) > 60
  ·
   rw [if_pos c3] at H;have c3b0 : decide (60 < (l0.length : Int)) = true := decide_eq_true c3;have c3b1 : decide (60 < l0.length) = true := decide_eq_true (by omega);clear c3;simp only [Option.some.injEq, Prod.mk.injEq] at H;obtain ⟨rfl, rfl⟩ := H;go_enter Try.func43, Try.ntmps43;go_wp2;go_ret2;exact ⟨_, by first | rfl | (simp [errW_none, errW_some] <;> rfl) | (simp [*, errW_none, errW_some] <;> rfl), by first | exact Kd.R_nil _ _ _ _ _ | exact Kd.N_nil _ _ _ _ _ | exact Kd.V_nil _ _ _ _ _ | exact Kd.Y_nil _ _ _ _ _ | exact Kd.S_nil _ _ _ _ _, bm HB.out⟩
  ·
   rw [if_neg c3] at H;have c3b0 : decide (60 < (l0.length : Int)) = false := decide_eq_false c3;have c3b1 : decide (60 < l0.length) = false := decide_eq_false (by omega);clear c3;replace H := oE H;obtain ⟨⟨t404, t407, t410⟩, A4, H⟩ := H;replace H : (if t410 = true then (some (t404, ((t407.length : Int) == 0))) else (some (t404, false))) = some (r1, r2) := H;replace A4 := am A4;by_cases c5 : t410 = true
   ·
    subst c5
    have H1 : (some (t404, ((t407.length : Int) == 0))) = some (r1, r2) := by rw [if_pos rfl] at H; exact H
    clear H;have H := H1;clear H1;simp only [Option.some.injEq, Prod.mk.injEq] at H;obtain ⟨rfl, rfl⟩ := H;go_enter Try.func43, Try.ntmps43;go_wp2_with (first | ((with_reducible refine gate_callee (f := 68) rfl ?_); refine goesL_ (some 17) rfl rfl Try.func68 (by kernel_rfl) rfl #[.slice A0 l0.length c0] rfl (by (try simp only [mA, mB, mC]); first | done | rfl) ?_; (with_reducible refine (impl_takeHydra.calls k (fun k_ => k_ < w.heap.size) _ _ l0 t404 t407 true _ ?side1 A4.out).mono ?_); (case side1 => exact Kd.V_mk HC0.out (Kd.F_below (Kd.C_F (Kd.heap_int .i64) HR0.out) (bm HB.out))); rintro e w6 ⟨v405, v408, rfl, ho0, ho1, hb⟩; refine ⟨_, rfl, ?_⟩; have HO406 := am (Kd.R_lower (Kd.R_mono (ok' := fun k_ => True) ho0 (fun _ hk_ => trivial)) (below_size (bm HB.out)));have HO409 := am (Kd.V_lower (Kd.V_mono (ok' := fun k_ => some k_ ≠ (v405 : Value).ownBlock) ho1 (fun k_ hk_ => hk_.2)) (below_size (bm HB.out)));replace HB := am (below_step (bm HB.out) hb); (try clear hb); (try clear ho0); (try clear ho1); obtain ⟨Ao7, co7, eo7⟩ := Kd.V_slice HO409.out; subst eo7));go_ret2;exact ⟨_, by first | rfl | (simp [errW_none, errW_some] <;> rfl) | (simp [*, errW_none, errW_some] <;> rfl), Kd.rm HO406.out, bm HB.out⟩
   ·
    replace c5 := Bool.eq_false_iff.mpr c5;subst c5
    have H1 : (some (t404, false)) = some (r1, r2) := by rw [if_neg (show ¬ (false = true) by decide)] at H; exact H
    clear H;have H := H1;clear H1;simp only [Option.some.injEq, Prod.mk.injEq] at H;obtain ⟨rfl, rfl⟩ := H;go_enter Try.func43, Try.ntmps43;go_wp2_with (first | ((with_reducible refine gate_callee (f := 68) rfl ?_); refine goesL_ (some 17) rfl rfl Try.func68 (by kernel_rfl) rfl #[.slice A0 l0.length c0] rfl (by (try simp only [mA, mB, mC]); first | done | rfl) ?_; (with_reducible refine (impl_takeHydra.calls k (fun k_ => k_ < w.heap.size) _ _ l0 t404 t407 false _ ?side1 A4.out).mono ?_); (case side1 => exact Kd.V_mk HC0.out (Kd.F_below (Kd.C_F (Kd.heap_int .i64) HR0.out) (bm HB.out))); rintro e w8 ⟨v405, v408, rfl, ho0, ho1, hb⟩; refine ⟨_, rfl, ?_⟩; have HO406 := am (Kd.R_lower (Kd.R_mono (ok' := fun k_ => True) ho0 (fun _ hk_ => trivial)) (below_size (bm HB.out)));have HO409 := am (Kd.V_lower (Kd.V_mono (ok' := fun k_ => some k_ ≠ (v405 : Value).ownBlock) ho1 (fun k_ hk_ => hk_.2)) (below_size (bm HB.out)));replace HB := am (below_step (bm HB.out) hb); (try clear hb); (try clear ho0); (try clear ho1)));go_ret2;exact ⟨_, by first | rfl | (simp [errW_none, errW_some] <;> rfl) | (simp [*, errW_none, errW_some] <;> rfl), Kd.rm HO406.out, bm HB.out⟩

/-! ### impl_sizeOf: function 69 -/
mutual
def impl_sizeOf.l0 : Nat → Int → List (S72) → Int → Int → Option (Int)
 | 0, _, _, _, _ => none
 | k + 1, x3, x6, x7, x8 => if x8 < x7 then (if 0 ≤ x8 then (if x8 < (x6.length : Int) then ((impl_sizeOf.f k ((rd_T72 x6 x8).f1)).bind fun t413 => (impl_sizeOf.l0 k (wrap64 (x3 + (wrap64 (1 + t413)))) x6 x7 (wrap64 (x8 + 1)))) else (none)) else (none)) else (some x3)
def impl_sizeOf.f : Nat → List (S72) → Option (Int)
 | 0, _ => none
 | k + 1, l0 => impl_sizeOf.l0 k 1 l0 (l0.length : Int) 0
end
theorem impl_sizeOf.mono_l : ∀ k, (∀ y0, LeO (impl_sizeOf.f k y0) (impl_sizeOf.f (k + 1) y0)) ∧ (∀ y0 y1 y2 y3, LeO (impl_sizeOf.l0 k y0 y1 y2 y3) (impl_sizeOf.l0 (k + 1) y0 y1 y2 y3))
 | 0 => ⟨fun _ r h => by simp [impl_sizeOf.f] at h, fun _ _ _ _ r h => by simp [impl_sizeOf.l0] at h⟩
 | k + 1 => by
  obtain ⟨ih0, ih1⟩ := impl_sizeOf.mono_l k;refine ⟨?_, ?_⟩
  all_goals (intros; first | unfold impl_sizeOf.f | unfold impl_sizeOf.l0)
  all_goals repeat' first | (with_reducible exact ih0 _) | (with_reducible exact ih1 _ _ _ _) | (with_reducible exact LeO.refl _) | (with_reducible exact LeO.none _) | (with_reducible refine LeO.ite ?_ ?_) | (with_reducible refine LeO.bind ?_ (fun _ => ?_))
theorem impl_sizeOf.mono : ∀ a0 k, LeO (impl_sizeOf.f k a0) (impl_sizeOf.f (k + 1) a0) := by
 intro a0 k;obtain ⟨ih0, ih1⟩ := impl_sizeOf.mono_l k;exact ih0 a0
set_option maxHeartbeats 8000000 in
set_option maxRecDepth 100000 in
theorem impl_sizeOf.calls (k : Nat) : ∀ (A0 : Option Addr) (c0 : Nat) (l0 : List (S72)) (r : Int) (w : World) (hr0 : Kd.C k72 w A0 l0.length l0) (hc0 : l0.length ≤ c0) (h : impl_sizeOf.f k l0 = some r),
  Calls Try.prog 69 #[.slice A0 l0.length c0] w fun e w' => e = .returned (.int .i64 r) ∧ Below w.heap.size w w' := by
 induction k using Nat.strongRecOn with
 | _ k ih =>
 intro A0 c0 l0 r w hr0 hc0 h
 cases k with
 | zero => exact absurd h (by simp [impl_sizeOf.f])
 | succ k =>
 simp only [impl_sizeOf.f] at h;have hu72 := Try.underlying72;have HR0 := am hr0;have HC0 := am hc0;clear hr0 hc0;have HB := am (Below.refl w.heap.size w);have H : (impl_sizeOf.l0 k 1 l0 (l0.length : Int) 0) = some r := h;clear h;have H' := am H;clear H;go_enter Try.func69, Try.ntmps69;go_wp2
 go_loopg [3, 8] k (fun kq v3 v8 w' => ∃ (x3_1 : Int) (x8_1 : Int), v3 = .int .i64 x3_1 ∧ v8 = .int .i64 x8_1 ∧ Aside0 (impl_sizeOf.l0 kq x3_1 l0 (l0.length : Int) x8_1 = some r) ∧ Aside0 (kq ≤ k) ∧ Aside0 (Below w.heap.size w w'))
 case atStart => exact ⟨(1), (0), (by first | rfl | (simp; done) | (simp [*]; done)), (by first | rfl | (simp; done) | (simp [*]; done)), H', ⟨Nat.le_refl _⟩, ⟨bm HB.out⟩⟩
 case round =>
  clear H';obtain ⟨x3_1, x8_1, rfl, rfl, HA, HK1, HB⟩ := hrel
  cases gk with
  | zero => exact absurd HA.out (by simp [impl_sizeOf.l0])
  | succ k1 =>
   have H := HA.out;clear HA;simp only [impl_sizeOf.l0] at H;by_cases c2 : x8_1 < (l0.length : Int)
   ·
    rw [if_pos c2] at H;have c2b0 : decide (x8_1 < (l0.length : Int)) = true := decide_eq_true c2;clear c2;by_cases c3 : 0 ≤ x8_1
    ·
     rw [if_pos c3] at H;have c3b0 : decide (0 ≤ x8_1) = true := decide_eq_true c3;clear c3;by_cases c4 : x8_1 < (l0.length : Int)
     ·
      rw [if_pos c4] at H;have c4b0 : decide (x8_1 < (l0.length : Int)) = true := decide_eq_true c4;clear c4;replace H := oE H;obtain ⟨t413, A5, H⟩ := H;replace H : (impl_sizeOf.l0 k1 (wrap64 (x3_1 + (wrap64 (1 + t413)))) l0 (l0.length : Int) (wrap64 (x8_1 + 1))) = some r := H;replace A5 := am A5;have H' := am H;clear H;have p411 : 0 ≤ (x8_1 : Int) := of_decide_eq_true (by assumption);have q411 : x8_1 < (l0.length : Int) := of_decide_eq_true (by assumption);obtain ⟨ad411, A411_1, c411_1, e411, hx411_0, hx411_1, hl411_1, hi411_1⟩ := at_T72 HR0.out x8_1 p411 q411;cases e411
      replace hx411_0 := (HB.out.cell (World.block_lt_of_cell? w _ hx411_0)).trans hx411_0;replace hx411_1 := (HB.out.cell (World.block_lt_of_cell? w _ hx411_1)).trans hx411_1;have HR411_1 := am hi411_1;have HC411_1 := am hl411_1;clear hi411_1 hl411_1;replace p411 := eq_true p411;replace q411 := eq_true q411;go_wp2_with (first | ((with_reducible refine gate_dst (N := 5) rfl ?_); refine box_event ?hg (N := 5) ?hd (cs := #[.int .i64 0, .slice none 0 0]) (t := 72) ?hr ?_; (case hd => rfl); (case hg => rfl); (case hr => first | (go_simp; done) | (go_simp; rfl)); intro gb412 hg w6 hbox hb; have BK412 := am (hbox);have GW412 := am ((by rw [hg]; exact (below_size (bm HB.out)) : w.heap.size ≤ gb412));have GE412 := am ((by rw [hg]; exact (below_size (bm HB.out)) : w.heap.size ≤ gb412));replace HB := am (below_step (bm HB.out) hb); clear hb hbox hg; have hcz7_0 : w6.cell? ⟨gb412, 0, none⟩ = some (.int .i64 0) := (blk_cell BK412.out 0).trans rfl; have hcz7_1 : w6.cell? ⟨gb412, 1, none⟩ = some (.slice none 0 0) := (blk_cell BK412.out 1).trans rfl; have hfz7_0 := blk_frozen BK412.out 0; have hfz7_1 := blk_frozen BK412.out 1) | ((with_reducible refine gate_callee (f := 69) rfl ?_); refine goesL_ (some 15) rfl rfl Try.func69 (by kernel_rfl) rfl #[.slice A411_1 ((rd_T72 l0 x8_1).f1).length c411_1] rfl (by (try simp only [mA, mB, mC]); first | done | rfl) ?_; (with_reducible refine (ih k1 (by have := HK1.out; omega) _ _ ((rd_T72 l0 x8_1).f1) t413 _ ?side1 ?side2 A5.out).mono ?_); (case side1 => exact Kd.C_below HR411_1.out (by repeat (first | (with_reducible first | exact HB.out | apply below_alloc | apply pw_below_drewN | apply below_drew1 | refine below_set ?_ GE412.out) | exact HB.out))); (case side2 => exact HC411_1.out); rintro e w8 ⟨rfl, hb⟩; refine ⟨_, rfl, ?_⟩; replace BK412 := am (blk_below (g := gb412) (o := .cells #[.int .i64 ((rd_T72 l0 x8_1).f0), .slice A411_1 ((rd_T72 l0 x8_1).f1).length c411_1] 72 (0, 0)) (by (with_reducible repeat (first | refine blk_drewN ?_ _ | refine blk_drew ?_ | refine blk_alloc ?_ _)); refine blk_put (cs := #[.int .i64 ((rd_T72 l0 x8_1).f0), .slice none 0 0]) ?_ 1 _ rfl; (with_reducible repeat (first | refine blk_drewN ?_ _ | refine blk_drew ?_ | refine blk_alloc ?_ _)); refine blk_put (cs := #[.int .i64 0, .slice none 0 0]) ?_ 0 _ rfl; (with_reducible repeat (first | refine blk_drewN ?_ _ | refine blk_drew ?_ | refine blk_alloc ?_ _)); exact BK412.out) hb);replace HB := am (below_step (by repeat (first | (with_reducible first | exact HB.out | apply below_alloc | apply pw_below_drewN | apply below_drew1 | refine below_set ?_ GE412.out) | exact HB.out)) hb); (try clear hb)))
      go_roundg k1
      case measure => have := HK1.out; omega
      case rel => exact ⟨(wrap64 (x3_1 + (wrap64 (1 + t413)))), (wrap64 (x8_1 + 1)), (by first | rfl | (simp; done) | (simp [*]; done)), (by first | rfl | (simp; done) | (simp [*]; done)), H', ⟨by have := HK1.out; omega⟩, ⟨by repeat (first | (with_reducible first | exact HB.out | apply below_alloc | apply pw_below_drewN | apply below_drew1 | refine below_set ?_ GE412.out) | exact HB.out)⟩⟩
     ·
      rw [if_neg c4] at H;exact absurd H (by simp)
    ·
     rw [if_neg c3] at H;exact absurd H (by simp)
   ·
    rw [if_neg c2] at H;have c2b0 : decide (x8_1 < (l0.length : Int)) = false := decide_eq_false c2;clear c2;obtain rfl := Option.some.inj H;go_wp2;go_ret;exact ⟨by first | rfl | (simp [errW_none, errW_some] <;> rfl) | (simp [*, errW_none, errW_some] <;> rfl), bm HB.out⟩

/-! ### impl_most: function 70 -/
mutual
def impl_most.l0 : Nat → Int → List (S72) → Int → Int → Option (Int)
 | 0, _, _, _, _ => none
 | k + 1, x3, x6, x7, x8 => if x8 < x7 then (if 0 ≤ x8 then (if x8 < (x6.length : Int) then ((impl_most.f k ((rd_T72 x6 x8).f1)).bind fun t416 => (impl_most.l0 k (mx (mx x3 ((rd_T72 x6 x8).f0)) t416) x6 x7 (wrap64 (x8 + 1)))) else (none)) else (none)) else (some x3)
def impl_most.f : Nat → List (S72) → Option (Int)
 | 0, _ => none
 | k + 1, l0 => impl_most.l0 k 0 l0 (l0.length : Int) 0
end
theorem impl_most.mono_l : ∀ k, (∀ y0, LeO (impl_most.f k y0) (impl_most.f (k + 1) y0)) ∧ (∀ y0 y1 y2 y3, LeO (impl_most.l0 k y0 y1 y2 y3) (impl_most.l0 (k + 1) y0 y1 y2 y3))
 | 0 => ⟨fun _ r h => by simp [impl_most.f] at h, fun _ _ _ _ r h => by simp [impl_most.l0] at h⟩
 | k + 1 => by
  obtain ⟨ih0, ih1⟩ := impl_most.mono_l k;refine ⟨?_, ?_⟩
  all_goals (intros; first | unfold impl_most.f | unfold impl_most.l0)
  all_goals repeat' first | (with_reducible exact ih0 _) | (with_reducible exact ih1 _ _ _ _) | (with_reducible exact LeO.refl _) | (with_reducible exact LeO.none _) | (with_reducible refine LeO.ite ?_ ?_) | (with_reducible refine LeO.bind ?_ (fun _ => ?_))
theorem impl_most.mono : ∀ a0 k, LeO (impl_most.f k a0) (impl_most.f (k + 1) a0) := by
 intro a0 k;obtain ⟨ih0, ih1⟩ := impl_most.mono_l k;exact ih0 a0
def impl_most.T5 : Bool × List (List Nat × List Nat) := (true, [([], []), ([], []), ([1], [1]), ([], []), ([3], [3]), ([4], [4]), ([0, 2, 5], [0, 2, 5]), ([6, 5, 0, 1, 2, 3, 4, 5, 6], [0, 6])])
def impl_most.B5 : List Nat := [0, 0, 2, 0, 8, 24, 63, 127]
theorem impl_most.tab5 : rtab .any (opsOf Try.f70 5) = impl_most.T5 := by kernel_rfl
theorem impl_most.bits5 : waitsOk impl_most.T5.2 impl_most.B5 = true := by kernel_rfl
set_option maxHeartbeats 8000000 in
set_option maxRecDepth 100000 in
theorem impl_most.calls (k : Nat) : ∀ (A0 : Option Addr) (c0 : Nat) (l0 : List (S72)) (r : Int) (w : World) (hr0 : Kd.C k72 w A0 l0.length l0) (hc0 : l0.length ≤ c0) (h : impl_most.f k l0 = some r),
  Calls Try.prog 70 #[.slice A0 l0.length c0] w fun e w' => e = .returned (.int .i64 r) ∧ Below w.heap.size w w' := by
 induction k using Nat.strongRecOn with
 | _ k ih =>
 intro A0 c0 l0 r w hr0 hc0 h
 cases k with
 | zero => exact absurd h (by simp [impl_most.f])
 | succ k =>
 simp only [impl_most.f] at h;have hu72 := Try.underlying72;have HR0 := am hr0;have HC0 := am hc0;clear hr0 hc0;have HB := am (Below.refl w.heap.size w);have H : (impl_most.l0 k 0 l0 (l0.length : Int) 0) = some r := h;clear h;have H' := am H;clear H;go_enter Try.func70, Try.ntmps70;go_wp2
 go_loopg [3, 8] k (fun kq v3 v8 w' => ∃ (x3_1 : Int) (x8_1 : Int), v3 = .int .i64 x3_1 ∧ v8 = .int .i64 x8_1 ∧ Aside0 (impl_most.l0 kq x3_1 l0 (l0.length : Int) x8_1 = some r) ∧ Aside0 (kq ≤ k) ∧ Aside0 (Below w.heap.size w w'))
 case atStart => exact ⟨(0), (0), (by first | rfl | (simp; done) | (simp [*]; done)), (by first | rfl | (simp; done) | (simp [*]; done)), H', ⟨Nat.le_refl _⟩, ⟨bm HB.out⟩⟩
 case round =>
  clear H';obtain ⟨x3_1, x8_1, rfl, rfl, HA, HK1, HB⟩ := hrel
  cases gk with
  | zero => exact absurd HA.out (by simp [impl_most.l0])
  | succ k1 =>
   have H := HA.out;clear HA;simp only [impl_most.l0] at H;by_cases c2 : x8_1 < (l0.length : Int)
   ·
    rw [if_pos c2] at H;have c2b0 : decide (x8_1 < (l0.length : Int)) = true := decide_eq_true c2;clear c2;by_cases c3 : 0 ≤ x8_1
    ·
     rw [if_pos c3] at H;have c3b0 : decide (0 ≤ x8_1) = true := decide_eq_true c3;clear c3;by_cases c4 : x8_1 < (l0.length : Int)
     ·
      rw [if_pos c4] at H;have c4b0 : decide (x8_1 < (l0.length : Int)) = true := decide_eq_true c4;clear c4;replace H := oE H;obtain ⟨t416, A5, H⟩ := H;replace H : (impl_most.l0 k1 (mx (mx x3_1 ((rd_T72 l0 x8_1).f0)) t416) l0 (l0.length : Int) (wrap64 (x8_1 + 1))) = some r := H;replace A5 := am A5
      obtain ⟨ji6, hji6⟩ : ∃ j_ : Int, (mx x3_1 ((rd_T72 l0 x8_1).f0)) = j_ := ⟨_, rfl⟩
      replace H : (impl_most.l0 k1 (mx (ji6) t416) l0 (l0.length : Int) (wrap64 (x8_1 + 1))) = some r := by first | (rw [hji6] at H; exact H) | (simp only [hji6] at H ⊢; exact H)
      (try rw [hji6] at A5);have hji6_ : (if x3_1 < ((rd_T72 l0 x8_1).f0) then ((rd_T72 l0 x8_1).f0) else x3_1) = ji6 := hji6
      obtain ⟨ji7, hji7⟩ : ∃ j_ : Int, (mx (ji6) t416) = j_ := ⟨_, rfl⟩
      replace H : (impl_most.l0 k1 ji7 l0 (l0.length : Int) (wrap64 (x8_1 + 1))) = some r := by first | (rw [hji7] at H; exact H) | (simp only [hji7] at H ⊢; exact H)
      (try rw [hji7] at A5);have hji7_ : (if (ji6) < t416 then t416 else (ji6)) = ji7 := hji7;have H' := am H;clear H;have p414 : 0 ≤ (x8_1 : Int) := of_decide_eq_true (by assumption);have q414 : x8_1 < (l0.length : Int) := of_decide_eq_true (by assumption);obtain ⟨ad414, A414_1, c414_1, e414, hx414_0, hx414_1, hl414_1, hi414_1⟩ := at_T72 HR0.out x8_1 p414 q414;cases e414
      replace hx414_0 := (HB.out.cell (World.block_lt_of_cell? w _ hx414_0)).trans hx414_0;replace hx414_1 := (HB.out.cell (World.block_lt_of_cell? w _ hx414_1)).trans hx414_1;have HR414_1 := am hi414_1;have HC414_1 := am hl414_1;clear hi414_1 hl414_1;replace p414 := eq_true p414;replace q414 := eq_true q414;(try go_wp2_with (first | ((with_reducible refine gate_dst (N := 5) rfl ?_); refine box_event ?hg (N := 5) ?hd (cs := #[.int .i64 0, .slice none 0 0]) (t := 72) ?hr ?_; (case hd => rfl); (case hg => rfl); (case hr => first | (go_simp; done) | (go_simp; rfl)); intro gb415 hg w8 hbox hb; have BK415 := am (hbox);have GW415 := am ((by rw [hg]; exact (below_size (bm HB.out)) : w.heap.size ≤ gb415));have GE415 := am ((by rw [hg]; exact (below_size (bm HB.out)) : w.heap.size ≤ gb415));replace HB := am (below_step (bm HB.out) hb); clear hb hbox hg; have hcz9_0 : w8.cell? ⟨gb415, 0, none⟩ = some (.int .i64 0) := (blk_cell BK415.out 0).trans rfl; have hcz9_1 : w8.cell? ⟨gb415, 1, none⟩ = some (.slice none 0 0) := (blk_cell BK415.out 1).trans rfl; have hfz9_0 := blk_frozen BK415.out 0; have hfz9_1 := blk_frozen BK415.out 1)));have n0_ : Aside0 (((w8.setCell ⟨gb415, 0, none⟩ (.int .i64 ((rd_T72 l0 x8_1).f0))).setCell ⟨gb415, 1, none⟩ (.slice A414_1 ((rd_T72 l0 x8_1).f1).length c414_1)).heap[gb415]? = some (.cells #[.int .i64 ((rd_T72 l0 x8_1).f0), .slice A414_1 ((rd_T72 l0 x8_1).f1).length c414_1] 72 (0, 0))) := ⟨by (with_reducible repeat (first | refine blk_drewN ?_ _ | refine blk_drew ?_ | refine blk_alloc ?_ _)); refine blk_put (cs := #[.int .i64 ((rd_T72 l0 x8_1).f0), .slice none 0 0]) ?_ 1 _ rfl; (with_reducible repeat (first | refine blk_drewN ?_ _ | refine blk_drew ?_ | refine blk_alloc ?_ _)); refine blk_put (cs := #[.int .i64 0, .slice none 0 0]) ?_ 0 _ rfl; (with_reducible repeat (first | refine blk_drewN ?_ _ | refine blk_drew ?_ | refine blk_alloc ?_ _)); exact BK415.out⟩;have n1_ : Aside0 (Below w.heap.size w ((w8.setCell ⟨gb415, 0, none⟩ (.int .i64 ((rd_T72 l0 x8_1).f0))).setCell ⟨gb415, 1, none⟩ (.slice A414_1 ((rd_T72 l0 x8_1).f1).length c414_1))) := ⟨by repeat (first | (with_reducible first | exact HB.out | apply below_alloc | apply pw_below_drewN | apply below_drew1 | refine below_set ?_ GE415.out) | exact HB.out)⟩;(try clear BK415);(try clear HB);generalize ((w8.setCell ⟨gb415, 0, none⟩ (.int .i64 ((rd_T72 l0 x8_1).f0))).setCell ⟨gb415, 1, none⟩ (.slice A414_1 ((rd_T72 l0 x8_1).f1).length c414_1)) = w10 at n0_ n1_ ⊢;have BK415 := n0_;have HB := n1_;clear n0_ n1_;replace BK415 := am (blk_drew BK415.out);replace HB := am (below_drew1 HB.out);refine start_ (n := 8) (S := fun w' => w'.cell? ⟨gb415, 0, none⟩ = some (.int .i64 ((rd_T72 l0 x8_1).f0)) ∧ w'.cell? ⟨gb415, 1, none⟩ = some (.slice A414_1 ((rd_T72 l0 x8_1).f1).length c414_1)) (ds := []) #[false, false, false, false, false, false, false, false] (by kernel_rfl) rfl rfl ⟨(blk_cell BK415.out 0).trans rfl, (blk_cell BK415.out 1).trans rfl⟩ (fun hHeld => ?_); refine with_tabW impl_most.tab5 impl_most.bits5 (fun HT_ HW_ => ?_);generalize w10.drew = w11 at BK415 HB hHeld ⊢;refine pure_ (i := 0) (N := some 12) (v := ?_) (a' := ?_) #[true, false, false, false, false, false, false, false] rfl rfl (any_of HT_.out (by kernel_rfl)) (fun _ _ _ h => h) (Or.inl ⟨by rfl, ?_⟩) ?_ ?_;rotate_left
      ·
       intro w';go_simp;with_reducible rfl
      rotate_left
      ·
       simp only [Act.put, sA, sB, sC, i64_w, i32_w];rfl
      refine pure_ (i := 1) (N := some 13) (v := ?_) (a' := ?_) #[true, true, false, false, false, false, false, false] rfl rfl (any_of HT_.out (by kernel_rfl)) (fun _ _ _ h => h) (Or.inl ⟨by rfl, ?_⟩) ?_ ?_;rotate_left
      ·
       intro w';go_simp;with_reducible rfl
      rotate_left
      ·
       simp only [Act.put, sA, sB, sC, i64_w, i32_w];rfl
      refine pure_ (i := 3) (N := some 15) (v := ?_) (a' := ?_) #[true, true, false, true, false, false, false, false] rfl rfl (any_of HT_.out (by kernel_rfl)) (fun _ _ _ h => h) (Or.inl ⟨by rfl, ?_⟩) ?_ ?_;rotate_left
      ·
       intro w';go_simp;with_reducible rfl
      rotate_left
      ·
       simp only [Act.put, sA, sB, sC, i64_w, i32_w];rfl
      refine take_ (i := 2) (N := some 14) (v := ?_) (a' := ?_) #[true, true, true, true, false, false, false, false] rfl rfl (take_ofW HT_.out HW_.out (by kernel_rfl)) (fun _ _ _ h => h) (Or.inl ⟨by rfl, ?_⟩) hHeld ?_ ?_;rotate_left
      ·
       rintro w' ⟨s0, s1⟩
       go_simp;with_reducible rfl
      rotate_left
      ·
       simp only [Act.put, sA, sB, sC, i64_w, i32_w];rfl
      refine take_ (i := 4) (N := some 16) (v := ?_) (a' := ?_) #[true, true, true, true, true, false, false, false] rfl rfl (take_ofW HT_.out HW_.out (by kernel_rfl)) (fun _ _ _ h => h) (Or.inl ⟨by rfl, ?_⟩) hHeld ?_ ?_;rotate_left
      ·
       rintro w' ⟨s0, s1⟩
       go_simp;with_reducible rfl
      rotate_left
      ·
       simp only [Act.put, sA, sB, sC, i64_w, i32_w];rfl
      refine one_ (i := 5) (N := some 17) #[true, true, true, true, true, true, false, false] rfl rfl (one_of HT_.out (by kernel_rfl)) (by decide) (fun K hK => ?_);refine goes_ Try.func70 (by kernel_rfl) rfl #[.slice A414_1 ((rd_T72 l0 x8_1).f1).length c414_1] (by rfl) rfl rfl (by (try simp only [mA, mB, mC]); first | done | rfl) ?_
      with_reducible refine (ih k1 (by have := HK1.out; omega) _ _ ((rd_T72 l0 x8_1).f1) t416 _ ?side1 ?side2 A5.out).mono ?_
      (case side1 => exact Kd.cm ((Kd.C_below HR414_1.out HB.out)));(case side2 => exact HC414_1.out)
      rintro e w12 ⟨rfl, hb⟩
      refine ⟨_, rfl, ?_⟩;replace BK415 := am (blk_below (g := gb415) (o := .cells #[.int .i64 ((rd_T72 l0 x8_1).f0), .slice A414_1 ((rd_T72 l0 x8_1).f1).length c414_1] 72 (0, 0)) (by (with_reducible repeat (first | refine blk_drewN ?_ _ | refine blk_drew ?_ | refine blk_alloc ?_ _)); exact BK415.out) hb);replace HB := am (below_step (by repeat (first | (with_reducible first | exact HB.out | apply below_alloc | apply pw_below_drewN | apply below_drew1 | refine below_set ?_ GE415.out) | exact HB.out)) hb);(try clear hb);refine hK.out _ _ ⟨(blk_cell BK415.out 0).trans rfl, (blk_cell BK415.out 1).trans rfl⟩ (fun hHeld => ?_);clear hK K;refine norm_ (a' := ?_) ?_ ?_;rotate_left
      ·
       show Act.put _ (some 17) _ = _
       simp only [Act.put, sA, sB, sC, i64_w, i32_w];rfl
      refine pure_ (i := 6) (N := some 18) (v := ?_) (a' := ?_) #[true, true, true, true, true, true, true, false] rfl rfl (any_of HT_.out (by kernel_rfl)) (fun _ _ _ h => h) (Or.inl ⟨by rfl, ?_⟩) ?_ ?_;rotate_left
      ·
       intro w';go_simp;with_reducible rfl
      rotate_left
      ·
       simp only [Act.put, sA, sB, sC, i64_w, i32_w];rfl
      refine pure_ (i := 7) (N := some 3) (v := ?_) (a' := ?_) #[true, true, true, true, true, true, true, true] rfl rfl (any_of HT_.out (by kernel_rfl)) (fun _ _ _ h => h) (Or.inl ⟨by rfl, ?_⟩) ?_ ?_;rotate_left
      ·
       intro w';go_simp;with_reducible rfl
      rotate_left
      ·
       simp only [Act.put, sA, sB, sC, i64_w, i32_w];rfl
      refine done_ (done_of HT_.out (by kernel_rfl)) ?_;(try go_wp2)
      go_roundg k1
      case measure => have := HK1.out; omega
      case rel => exact ⟨(ji7), (wrap64 (x8_1 + 1)), (by first | rfl | (simp; done) | (simp only [← hji7] <;> (first | rfl | simp)) | (simp [*]; done)), (by first | rfl | (simp; done) | (simp [*]; done)), H', ⟨by have := HK1.out; omega⟩, ⟨by repeat (first | (with_reducible first | exact HB.out | apply below_alloc | apply pw_below_drewN | apply below_drew1 | refine below_set ?_ GE415.out) | exact HB.out)⟩⟩
     ·
      rw [if_neg c4] at H;exact absurd H (by simp)
    ·
     rw [if_neg c3] at H;exact absurd H (by simp)
   ·
    rw [if_neg c2] at H;have c2b0 : decide (x8_1 < (l0.length : Int)) = false := decide_eq_false c2;clear c2;obtain rfl := Option.some.inj H;go_wp2;go_ret;exact ⟨by first | rfl | (simp [errW_none, errW_some] <;> rfl) | (simp [*, errW_none, errW_some] <;> rfl), bm HB.out⟩

end Go.Proofs.Ytahhdbjjfdjloaa.Jd

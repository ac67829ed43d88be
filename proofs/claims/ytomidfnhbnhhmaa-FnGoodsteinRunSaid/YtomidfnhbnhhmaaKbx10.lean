-- half
-- Written by a program of this session's (wip/mp) out of the translation, over the kit's print with changes.
import Derived.Test.YtomidfnhbnhhmaaKbx0
import Derived.Test.YtomidfnhbnhhmaaKbx6
import Derived.Test.YtomidfnhbnhhmaaKbx7
import Derived.Test.YtomidfnhbnhhmaaKbx9
namespace Go.Proofs.Ytomidfnhbnhhmaa.Kb
open Go.RowKit Go.Proofs.YtomidfnhbnhhmaaW.PrintWords Go.Proofs.YtomidfnhbnhhmaaW.PrintLast Go.Proofs.YtomidfnhbnhhmaaW.PrintMore
attribute [local go_sem] max2_int min2_int max_two min_two max_three min_three max_four min_four   -- for this text's walks alone
set_option linter.unusedVariables false
set_option linter.unusedSimpArgs false

/-! ### laws_FnGoodsteinRun: function 5 -/
def laws_FnGoodsteinRun.l0 : Nat → Int → List Int → Int → Option (Bool)
 | 0, _, _, _ => none
 | k + 1, x3, x4, x5 => if x5 < (x4.length : Int) then (if 0 ≤ (wrap64 (x5 - 1)) then (if (wrap64 (x5 - 1)) < (x4.length : Int) then (if (rd x4 (wrap64 (x5 - 1))) = 0 then (some false) else (if 0 ≤ x5 then ((impl_GoodsteinNext.f k (rd x4 (wrap64 (x5 - 1))) (wrap64 (x5 + 1))).bind fun t384 => (if (rd x4 x5) = t384 then (laws_FnGoodsteinRun.l0 k x3 x4 (wrap64 (x5 + 1))) else (some false))) else (none))) else (none)) else (none)) else (if 0 < (x4.length : Int) then (if (rd x4 0) = x3 then (some (decide ((x4.length : Int) ≤ 60))) else (some false)) else (none))
def laws_FnGoodsteinRun.f (k : Nat) (l0 : List Int) : Option (Bool) := if (l0.length : Int) > 1048576 then (some true) else ((spec_DrawGoodsteinRun.f k l0).bind fun t371 => ((impl_GoodsteinRun.f k t371).bind fun t372 => ((spec_GoodsteinRun.f k t371).bind fun t375 => ((laws_sameInts.f k t372 t375).bind fun t378 => (if t378 = true then (if (t372.length : Int) = 0 then (if t371 < 0 then ((laws_alive.f k).bind fun t379 => (some t379)) else (if t371 > 1000000000 then ((laws_alive.f k).bind fun t380 => (some t380)) else (some false))) else (laws_FnGoodsteinRun.l0 k t371 t372 1)) else (some false))))))
theorem laws_FnGoodsteinRun.mono_l : ∀ k, (∀ y0 y1 y2, LeO (laws_FnGoodsteinRun.l0 k y0 y1 y2) (laws_FnGoodsteinRun.l0 (k + 1) y0 y1 y2))
 | 0 => fun _ _ _ r h => by simp [laws_FnGoodsteinRun.l0] at h
 | k + 1 => by
  have ih0 := laws_FnGoodsteinRun.mono_l k
  ·
   intro y0 y1 y2;unfold laws_FnGoodsteinRun.l0
   repeat' first | (with_reducible exact ih0 _ _ _) | (with_reducible exact impl_GoodsteinNext.mono _ _ _) | (with_reducible exact impl_GoodsteinRun.mono _ _) | (with_reducible exact laws_alive.mono _) | (with_reducible exact laws_sameInts.mono _ _ _) | (with_reducible exact spec_DrawGoodsteinRun.mono _ _) | (with_reducible exact spec_GoodsteinRun.mono _ _) | (with_reducible exact LeO.refl _) | (with_reducible exact LeO.none _) | (with_reducible refine LeO.ite ?_ ?_) | (with_reducible refine LeO.bind ?_ (fun _ => ?_))
theorem laws_FnGoodsteinRun.mono : ∀ a0 k, LeO (laws_FnGoodsteinRun.f k a0) (laws_FnGoodsteinRun.f (k + 1) a0) := by
 intro a0 k;have ih0 := laws_FnGoodsteinRun.mono_l k;unfold laws_FnGoodsteinRun.f
 repeat' first | (with_reducible exact ih0 _ _ _) | (with_reducible exact impl_GoodsteinNext.mono _ _ _) | (with_reducible exact impl_GoodsteinRun.mono _ _) | (with_reducible exact laws_alive.mono _) | (with_reducible exact laws_sameInts.mono _ _ _) | (with_reducible exact spec_DrawGoodsteinRun.mono _ _) | (with_reducible exact spec_GoodsteinRun.mono _ _) | (with_reducible exact LeO.refl _) | (with_reducible exact LeO.none _) | (with_reducible refine LeO.ite ?_ ?_) | (with_reducible refine LeO.bind ?_ (fun _ => ?_))
def laws_FnGoodsteinRun.T12 : Bool × List (List Nat × List Nat) := (true, [([], []), ([], []), ([1], [1]), ([0, 2], [0, 2]), ([3], [3]), ([4], [4]), ([5], [5]), ([6], [6]), ([6], [6]), ([7, 8, 6], [6, 7, 8]), ([9, 6], [6, 9]), ([6], [6]), ([6], [6]), ([12, 6], [6, 12]), ([11, 13, 6], [6, 11, 13]), ([14, 6], [6, 14]), ([6], [6]), ([16, 6], [6, 16]), ([15, 17, 6, 6], [6, 15, 17]), ([10, 18, 6], [6, 10, 18]), ([6, 19], [6, 19])])
def laws_FnGoodsteinRun.B12 : List Nat := [0, 0, 2, 7, 15, 31, 63, 127, 127, 511, 1023, 127, 127, 4223, 14463, 30847, 127, 65663, 260223, 524287, 1048575]
theorem laws_FnGoodsteinRun.tab12 : rtab .any (opsOf Try.f5 12) = laws_FnGoodsteinRun.T12 := by kernel_rfl
theorem laws_FnGoodsteinRun.bits12 : waitsOk laws_FnGoodsteinRun.T12.2 laws_FnGoodsteinRun.B12 = true := by kernel_rfl
set_option maxHeartbeats 8000000 in
set_option maxRecDepth 100000 in
theorem laws_FnGoodsteinRun.calls (k : Nat) (A0 : Option Addr) (c0 : Nat) (l0 : List Int) (r : Bool) (w : World) (hr0 : Kd.C (Kd.int .u8) w A0 l0.length l0) (hc0 : l0.length ≤ c0) (h : laws_FnGoodsteinRun.f k l0 = some r) :
  Calls Try.prog 5 #[.slice A0 l0.length c0] w fun e w' => e = .returned (.bool r) ∧ Below w.heap.size w w' := by
 have HR0 := am hr0;have HC0 := am hc0;clear hr0 hc0;have HB := am (Below.refl w.heap.size w);have H : (if (l0.length : Int) > 1048576 then (some true) else ((spec_DrawGoodsteinRun.f k l0).bind fun t371 => ((impl_GoodsteinRun.f k t371).bind fun t372 => ((spec_GoodsteinRun.f k t371).bind fun t375 => ((laws_sameInts.f k t372 t375).bind fun t378 => (if t378 = true then (if (t372.length : Int) = 0 then (if t371 < 0 then ((laws_alive.f k).bind fun t379 => (some t379)) else (if t371 > 1000000000 then ((laws_alive.f k).bind fun t380 => (some t380)) else (some false))) else (laws_FnGoodsteinRun.l0 k t371 t372 1)) else (some false))))))) = some r := h;clear h;by_cases c2 : (l0.length : Int) > 1048576
 ·
  rw [if_pos c2] at H;have c2b0 : decide (1048576 < (l0.length : Int)) = true := decide_eq_true c2;have c2b1 : decide (1048576 < l0.length) = true := decide_eq_true (by omega);clear c2;obtain rfl := Option.some.inj H;go_enter Try.func5, Try.ntmps5;go_wp2;go_ret;exact ⟨by first | rfl | (simp [errW_none, errW_some] <;> rfl) | (simp [*, errW_none, errW_some] <;> rfl), bm HB.out⟩
 ·
  rw [if_neg c2] at H;have c2b0 : decide (1048576 < (l0.length : Int)) = false := decide_eq_false c2;have c2b1 : decide (1048576 < l0.length) = false := decide_eq_false (by omega);clear c2;replace H := oE H;obtain ⟨t371, A3, H⟩ := H;replace H : ((impl_GoodsteinRun.f k t371).bind fun t372 => ((spec_GoodsteinRun.f k t371).bind fun t375 => ((laws_sameInts.f k t372 t375).bind fun t378 => (if t378 = true then (if (t372.length : Int) = 0 then (if t371 < 0 then ((laws_alive.f k).bind fun t379 => (some t379)) else (if t371 > 1000000000 then ((laws_alive.f k).bind fun t380 => (some t380)) else (some false))) else (laws_FnGoodsteinRun.l0 k t371 t372 1)) else (some false))))) = some r := H;replace A3 := am A3;replace H := oE H;obtain ⟨t372, A4, H⟩ := H;replace H : ((spec_GoodsteinRun.f k t371).bind fun t375 => ((laws_sameInts.f k t372 t375).bind fun t378 => (if t378 = true then (if (t372.length : Int) = 0 then (if t371 < 0 then ((laws_alive.f k).bind fun t379 => (some t379)) else (if t371 > 1000000000 then ((laws_alive.f k).bind fun t380 => (some t380)) else (some false))) else (laws_FnGoodsteinRun.l0 k t371 t372 1)) else (some false)))) = some r := H;replace A4 := am A4;replace H := oE H;obtain ⟨t375, A5, H⟩ := H;replace H : ((laws_sameInts.f k t372 t375).bind fun t378 => (if t378 = true then (if (t372.length : Int) = 0 then (if t371 < 0 then ((laws_alive.f k).bind fun t379 => (some t379)) else (if t371 > 1000000000 then ((laws_alive.f k).bind fun t380 => (some t380)) else (some false))) else (laws_FnGoodsteinRun.l0 k t371 t372 1)) else (some false))) = some r := H;replace A5 := am A5;replace H := oE H;obtain ⟨t378, A6, H⟩ := H;replace H : (if t378 = true then (if (t372.length : Int) = 0 then (if t371 < 0 then ((laws_alive.f k).bind fun t379 => (some t379)) else (if t371 > 1000000000 then ((laws_alive.f k).bind fun t380 => (some t380)) else (some false))) else (laws_FnGoodsteinRun.l0 k t371 t372 1)) else (some false)) = some r := H;replace A6 := am A6;by_cases c7 : t378 = true
  ·
   subst c7
   have H1 : (if (t372.length : Int) = 0 then (if t371 < 0 then ((laws_alive.f k).bind fun t379 => (some t379)) else (if t371 > 1000000000 then ((laws_alive.f k).bind fun t380 => (some t380)) else (some false))) else (laws_FnGoodsteinRun.l0 k t371 t372 1)) = some r := by rw [if_pos rfl] at H; exact H
   clear H;have H := H1;clear H1;by_cases c8 : (t372.length : Int) = 0
   ·
    rw [if_pos c8] at H;have c8b0 : ((t372.length : Int) == 0) = true := beq_iff_eq.mpr c8;have c8b1 : ((t372.length : Int) != 0) = false := bne_eq_false_iff_eq.mpr c8;clear c8;by_cases c9 : t371 < 0
    ·
     rw [if_pos c9] at H;have c9b0 : decide (t371 < 0) = true := decide_eq_true c9;clear c9;replace H := oE H;obtain ⟨t379, A10, H⟩ := H;replace H : (some t379) = some r := H;replace A10 := am A10;obtain rfl := Option.some.inj H;go_enter Try.func5, Try.ntmps5;go_wp2_with (first | ((with_reducible refine gate_callee (f := 19) rfl ?_); refine goesL_ (some 10) rfl rfl Try.func19 (by kernel_rfl) rfl #[.slice A0 l0.length c0] rfl (by (try simp only [mA, mB, mC]); first | done | rfl) ?_; (with_reducible refine (spec_DrawGoodsteinRun.calls k _ _ l0 t371 _ ?side1 ?side2 A3.out).mono ?_); (case side1 => exact Kd.cm HR0.out); (case side2 => exact HC0.out); rintro e w11 ⟨rfl, hb⟩; refine ⟨_, rfl, ?_⟩; replace HB := am (below_step (bm HB.out) hb); (try clear hb)) | ((with_reducible refine gate_callee (f := 11) rfl ?_); refine goesL_ (some 12) rfl rfl Try.func11 (by kernel_rfl) rfl #[.int .i64 t371] rfl (by (try simp only [mA, mB, mC]); first | done | rfl) ?_; (with_reducible refine (impl_GoodsteinRun.calls k t371 t372 _ A4.out).mono ?_); rintro e w12 ⟨v373, rfl, ho0, hb⟩; refine ⟨_, rfl, ?_⟩; have HO374 := am (Kd.R_lower ho0 (below_size (bm HB.out)));replace HB := am (below_step (bm HB.out) hb); (try clear hb); (try clear ho0)) | ((with_reducible refine gate_callee (f := 20) rfl ?_); refine goesL_ (some 15) rfl rfl Try.func20 (by kernel_rfl) rfl #[.int .i64 t371] rfl (by (try simp only [mA, mB, mC]); first | done | rfl) ?_; (with_reducible refine (spec_GoodsteinRun.calls k t371 t375 _ A5.out).mono ?_); rintro e w13 ⟨v376, rfl, ho0, hb⟩; refine ⟨_, rfl, ?_⟩; have HO377 := am (Kd.R_lower (Kd.R_new' ho0 (Kd.R_lt (Kd.rm HO374.out))) (below_size (bm HB.out)));replace HO374 := am (Kd.R_elder' (Kd.rm HO374.out) (Kd.R_base ho0) hb);replace HB := am (below_step (bm HB.out) hb); (try clear hb); (try clear ho0); obtain ⟨Ao14, co14, eo14⟩ := Kd.R_slice HO374.out; subst eo14; obtain ⟨Ao15, co15, eo15⟩ := Kd.R_slice HO377.out; subst eo15) | ((with_reducible refine gate_callee (f := 17) rfl ?_); refine goesL_ (some 16) rfl rfl Try.func17 (by kernel_rfl) rfl #[.slice Ao14 t372.length co14, .slice Ao15 t375.length co15] rfl (by (try simp only [mA, mB, mC]); first | done | rfl) ?_; (with_reducible refine (laws_sameInts.calls k _ _ t372 _ _ t375 true _ ?side1 ?side2 ?side3 ?side4 A6.out).mono ?_); (case side1 => exact Kd.cm ((Kd.R_reads' HO374.out).2.2)); (case side2 => exact (Kd.R_reads' HO374.out).2.1); (case side3 => exact Kd.cm ((Kd.R_reads' HO377.out).2.2)); (case side4 => exact (Kd.R_reads' HO377.out).2.1); rintro e w' ⟨rfl, ⟨nd, rfl⟩⟩; refine ⟨_, rfl, ?_⟩) | (go_at_call 12; (with_reducible refine (laws_alive.calls k  t379 _ A10.out).mono ?_); rintro e w16 ⟨rfl, hb⟩; replace HO374 := am (Kd.R_below (Kd.rm HO374.out) hb);replace HO377 := am (Kd.R_below (Kd.rm HO377.out) hb);replace HB := am (below_step (bm HB.out) hb); (try clear hb)));go_ret;exact ⟨by first | rfl | (simp [errW_none, errW_some] <;> rfl) | (simp [*, errW_none, errW_some] <;> rfl), bm HB.out⟩
    ·
     rw [if_neg c9] at H;have c9b0 : decide (t371 < 0) = false := decide_eq_false c9;clear c9;by_cases c17 : t371 > 1000000000
     ·
      rw [if_pos c17] at H;have c17b0 : decide (1000000000 < t371) = true := decide_eq_true c17;clear c17;replace H := oE H;obtain ⟨t380, A18, H⟩ := H;replace H : (some t380) = some r := H;replace A18 := am A18;obtain rfl := Option.some.inj H;go_enter Try.func5, Try.ntmps5;go_wp2_with (first | ((with_reducible refine gate_callee (f := 19) rfl ?_); refine goesL_ (some 10) rfl rfl Try.func19 (by kernel_rfl) rfl #[.slice A0 l0.length c0] rfl (by (try simp only [mA, mB, mC]); first | done | rfl) ?_; (with_reducible refine (spec_DrawGoodsteinRun.calls k _ _ l0 t371 _ ?side1 ?side2 A3.out).mono ?_); (case side1 => exact Kd.cm HR0.out); (case side2 => exact HC0.out); rintro e w19 ⟨rfl, hb⟩; refine ⟨_, rfl, ?_⟩; replace HB := am (below_step (bm HB.out) hb); (try clear hb)) | ((with_reducible refine gate_callee (f := 11) rfl ?_); refine goesL_ (some 12) rfl rfl Try.func11 (by kernel_rfl) rfl #[.int .i64 t371] rfl (by (try simp only [mA, mB, mC]); first | done | rfl) ?_; (with_reducible refine (impl_GoodsteinRun.calls k t371 t372 _ A4.out).mono ?_); rintro e w20 ⟨v373, rfl, ho0, hb⟩; refine ⟨_, rfl, ?_⟩; have HO374 := am (Kd.R_lower ho0 (below_size (bm HB.out)));replace HB := am (below_step (bm HB.out) hb); (try clear hb); (try clear ho0)) | ((with_reducible refine gate_callee (f := 20) rfl ?_); refine goesL_ (some 15) rfl rfl Try.func20 (by kernel_rfl) rfl #[.int .i64 t371] rfl (by (try simp only [mA, mB, mC]); first | done | rfl) ?_; (with_reducible refine (spec_GoodsteinRun.calls k t371 t375 _ A5.out).mono ?_); rintro e w21 ⟨v376, rfl, ho0, hb⟩; refine ⟨_, rfl, ?_⟩; have HO377 := am (Kd.R_lower (Kd.R_new' ho0 (Kd.R_lt (Kd.rm HO374.out))) (below_size (bm HB.out)));replace HO374 := am (Kd.R_elder' (Kd.rm HO374.out) (Kd.R_base ho0) hb);replace HB := am (below_step (bm HB.out) hb); (try clear hb); (try clear ho0); obtain ⟨Ao22, co22, eo22⟩ := Kd.R_slice HO374.out; subst eo22; obtain ⟨Ao23, co23, eo23⟩ := Kd.R_slice HO377.out; subst eo23) | ((with_reducible refine gate_callee (f := 17) rfl ?_); refine goesL_ (some 16) rfl rfl Try.func17 (by kernel_rfl) rfl #[.slice Ao22 t372.length co22, .slice Ao23 t375.length co23] rfl (by (try simp only [mA, mB, mC]); first | done | rfl) ?_; (with_reducible refine (laws_sameInts.calls k _ _ t372 _ _ t375 true _ ?side1 ?side2 ?side3 ?side4 A6.out).mono ?_); (case side1 => exact Kd.cm ((Kd.R_reads' HO374.out).2.2)); (case side2 => exact (Kd.R_reads' HO374.out).2.1); (case side3 => exact Kd.cm ((Kd.R_reads' HO377.out).2.2)); (case side4 => exact (Kd.R_reads' HO377.out).2.1); rintro e w' ⟨rfl, ⟨nd, rfl⟩⟩; refine ⟨_, rfl, ?_⟩) | (go_at_call 12; (with_reducible refine (laws_alive.calls k  t380 _ A18.out).mono ?_); rintro e w24 ⟨rfl, hb⟩; replace HO374 := am (Kd.R_below (Kd.rm HO374.out) hb);replace HO377 := am (Kd.R_below (Kd.rm HO377.out) hb);replace HB := am (below_step (bm HB.out) hb); (try clear hb)));go_ret;exact ⟨by first | rfl | (simp [errW_none, errW_some] <;> rfl) | (simp [*, errW_none, errW_some] <;> rfl), bm HB.out⟩
     ·
      rw [if_neg c17] at H;have c17b0 : decide (1000000000 < t371) = false := decide_eq_false c17;clear c17;obtain rfl := Option.some.inj H;go_enter Try.func5, Try.ntmps5;go_wp2_with (first | ((with_reducible refine gate_callee (f := 19) rfl ?_); refine goesL_ (some 10) rfl rfl Try.func19 (by kernel_rfl) rfl #[.slice A0 l0.length c0] rfl (by (try simp only [mA, mB, mC]); first | done | rfl) ?_; (with_reducible refine (spec_DrawGoodsteinRun.calls k _ _ l0 t371 _ ?side1 ?side2 A3.out).mono ?_); (case side1 => exact Kd.cm HR0.out); (case side2 => exact HC0.out); rintro e w25 ⟨rfl, hb⟩; refine ⟨_, rfl, ?_⟩; replace HB := am (below_step (bm HB.out) hb); (try clear hb)) | ((with_reducible refine gate_callee (f := 11) rfl ?_); refine goesL_ (some 12) rfl rfl Try.func11 (by kernel_rfl) rfl #[.int .i64 t371] rfl (by (try simp only [mA, mB, mC]); first | done | rfl) ?_; (with_reducible refine (impl_GoodsteinRun.calls k t371 t372 _ A4.out).mono ?_); rintro e w26 ⟨v373, rfl, ho0, hb⟩; refine ⟨_, rfl, ?_⟩; have HO374 := am (Kd.R_lower ho0 (below_size (bm HB.out)));replace HB := am (below_step (bm HB.out) hb); (try clear hb); (try clear ho0)) | ((with_reducible refine gate_callee (f := 20) rfl ?_); refine goesL_ (some 15) rfl rfl Try.func20 (by kernel_rfl) rfl #[.int .i64 t371] rfl (by (try simp only [mA, mB, mC]); first | done | rfl) ?_; (with_reducible refine (spec_GoodsteinRun.calls k t371 t375 _ A5.out).mono ?_); rintro e w27 ⟨v376, rfl, ho0, hb⟩; refine ⟨_, rfl, ?_⟩; have HO377 := am (Kd.R_lower (Kd.R_new' ho0 (Kd.R_lt (Kd.rm HO374.out))) (below_size (bm HB.out)));replace HO374 := am (Kd.R_elder' (Kd.rm HO374.out) (Kd.R_base ho0) hb);replace HB := am (below_step (bm HB.out) hb); (try clear hb); (try clear ho0); obtain ⟨Ao28, co28, eo28⟩ := Kd.R_slice HO374.out; subst eo28; obtain ⟨Ao29, co29, eo29⟩ := Kd.R_slice HO377.out; subst eo29) | ((with_reducible refine gate_callee (f := 17) rfl ?_); refine goesL_ (some 16) rfl rfl Try.func17 (by kernel_rfl) rfl #[.slice Ao28 t372.length co28, .slice Ao29 t375.length co29] rfl (by (try simp only [mA, mB, mC]); first | done | rfl) ?_; (with_reducible refine (laws_sameInts.calls k _ _ t372 _ _ t375 true _ ?side1 ?side2 ?side3 ?side4 A6.out).mono ?_); (case side1 => exact Kd.cm ((Kd.R_reads' HO374.out).2.2)); (case side2 => exact (Kd.R_reads' HO374.out).2.1); (case side3 => exact Kd.cm ((Kd.R_reads' HO377.out).2.2)); (case side4 => exact (Kd.R_reads' HO377.out).2.1); rintro e w' ⟨rfl, ⟨nd, rfl⟩⟩; refine ⟨_, rfl, ?_⟩));go_ret;exact ⟨by first | rfl | (simp [errW_none, errW_some] <;> rfl) | (simp [*, errW_none, errW_some] <;> rfl), bm HB.out⟩
   ·
    rw [if_neg c8] at H;have c8b0 : ((t372.length : Int) == 0) = false := beq_eq_false_iff_ne.mpr c8;have c8b1 : ((t372.length : Int) != 0) = true := bne_iff_ne.mpr c8
    have c8b2 : ¬ (t372 = []) := fun h_ => c8 (by rw [h_]; rfl)
    have H' := am H;clear H;go_enter Try.func5, Try.ntmps5;go_wp2_with (first | ((with_reducible refine gate_callee (f := 19) rfl ?_); refine goesL_ (some 10) rfl rfl Try.func19 (by kernel_rfl) rfl #[.slice A0 l0.length c0] rfl (by (try simp only [mA, mB, mC]); first | done | rfl) ?_; (with_reducible refine (spec_DrawGoodsteinRun.calls k _ _ l0 t371 _ ?side1 ?side2 A3.out).mono ?_); (case side1 => exact Kd.cm HR0.out); (case side2 => exact HC0.out); rintro e w30 ⟨rfl, hb⟩; refine ⟨_, rfl, ?_⟩; replace HB := am (below_step (bm HB.out) hb); (try clear hb)) | ((with_reducible refine gate_callee (f := 11) rfl ?_); refine goesL_ (some 12) rfl rfl Try.func11 (by kernel_rfl) rfl #[.int .i64 t371] rfl (by (try simp only [mA, mB, mC]); first | done | rfl) ?_; (with_reducible refine (impl_GoodsteinRun.calls k t371 t372 _ A4.out).mono ?_); rintro e w31 ⟨v373, rfl, ho0, hb⟩; refine ⟨_, rfl, ?_⟩; have HO374 := am (Kd.R_lower ho0 (below_size (bm HB.out)));replace HB := am (below_step (bm HB.out) hb); (try clear hb); (try clear ho0)) | ((with_reducible refine gate_callee (f := 20) rfl ?_); refine goesL_ (some 15) rfl rfl Try.func20 (by kernel_rfl) rfl #[.int .i64 t371] rfl (by (try simp only [mA, mB, mC]); first | done | rfl) ?_; (with_reducible refine (spec_GoodsteinRun.calls k t371 t375 _ A5.out).mono ?_); rintro e w32 ⟨v376, rfl, ho0, hb⟩; refine ⟨_, rfl, ?_⟩; have HO377 := am (Kd.R_lower (Kd.R_new' ho0 (Kd.R_lt (Kd.rm HO374.out))) (below_size (bm HB.out)));replace HO374 := am (Kd.R_elder' (Kd.rm HO374.out) (Kd.R_base ho0) hb);replace HB := am (below_step (bm HB.out) hb); (try clear hb); (try clear ho0); obtain ⟨Ao33, co33, eo33⟩ := Kd.R_slice HO374.out; subst eo33; obtain ⟨Ao34, co34, eo34⟩ := Kd.R_slice HO377.out; subst eo34) | ((with_reducible refine gate_callee (f := 17) rfl ?_); refine goesL_ (some 16) rfl rfl Try.func17 (by kernel_rfl) rfl #[.slice Ao33 t372.length co33, .slice Ao34 t375.length co34] rfl (by (try simp only [mA, mB, mC]); first | done | rfl) ?_; (with_reducible refine (laws_sameInts.calls k _ _ t372 _ _ t375 true _ ?side1 ?side2 ?side3 ?side4 A6.out).mono ?_); (case side1 => exact Kd.cm ((Kd.R_reads' HO374.out).2.2)); (case side2 => exact (Kd.R_reads' HO374.out).2.1); (case side3 => exact Kd.cm ((Kd.R_reads' HO377.out).2.2)); (case side4 => exact (Kd.R_reads' HO377.out).2.1); rintro e w' ⟨rfl, ⟨nd, rfl⟩⟩; refine ⟨_, rfl, ?_⟩))
    go_loopg [5] k (fun kq v5 w' => ∃ (x5_1 : Int), v5 = .int .i64 x5_1 ∧ Aside0 (laws_FnGoodsteinRun.l0 kq t371 t372 x5_1 = some r) ∧ Aside0 (kq ≤ k) ∧ Aside0 (Kd.R (Kd.int .i64) 3 w' w.heap.size (fun _ => True) (.slice Ao33 t372.length co33) t372) ∧ Aside0 (Below w.heap.size w w'))
    case atStart => exact ⟨(1), (by first | rfl | (simp; done) | (simp [*]; done)), H', ⟨Nat.le_refl _⟩, ⟨Kd.rm (Kd.R_mono HO374.out (fun _ hk => trivial))⟩, ⟨bm HB.out⟩⟩
    case round =>
     clear H';(try clear c1);(try clear c2);(try clear c2b0);(try clear c2b1);(try clear p2);(try clear c5);(try clear c7);(try clear c8);(try clear c8b0);(try clear c8b1);(try clear c8b2);(try clear c9);(try clear c9b0);(try clear c11);(try clear c17);(try clear c17b0);(try clear c19);(try clear c20);(try clear HO_4);(try clear HB);obtain ⟨x5_1, rfl, HA, HK1, HO_4, HB⟩ := hrel
     cases gk with
     | zero => exact absurd HA.out (by simp [laws_FnGoodsteinRun.l0])
     | succ k1 =>
      have H := HA.out;clear HA;simp only [laws_FnGoodsteinRun.l0] at H;by_cases c35 : x5_1 < (t372.length : Int)
      ·
       rw [if_pos c35] at H;have c35b0 : decide (x5_1 < (t372.length : Int)) = true := decide_eq_true c35;clear c35
       obtain ⟨ji36, hji36⟩ : ∃ j_ : Int, (wrap64 (x5_1 - 1)) = j_ := ⟨_, rfl⟩
       replace H : (if 0 ≤ (ji36) then (if (ji36) < (t372.length : Int) then (if (rd t372 (ji36)) = 0 then (some false) else (if 0 ≤ x5_1 then ((impl_GoodsteinNext.f k1 (rd t372 (ji36)) (wrap64 (x5_1 + 1))).bind fun t384 => (if (rd t372 x5_1) = t384 then (laws_FnGoodsteinRun.l0 k1 t371 t372 (wrap64 (x5_1 + 1))) else (some false))) else (none))) else (none)) else (none)) = some r := by first | (rw [hji36] at H; exact H) | (simp only [hji36] at H ⊢; exact H)
       have hji36w : (IntKind.i64.wrap (x5_1 - 1)) = ji36 := (i64_w _).trans hji36;by_cases c37 : 0 ≤ (ji36)
       ·
        rw [if_pos c37] at H;have c37b0 : decide (0 ≤ (ji36)) = true := decide_eq_true c37;clear c37;by_cases c38 : (ji36) < (t372.length : Int)
        ·
         rw [if_pos c38] at H;have c38b0 : decide ((ji36) < (t372.length : Int)) = true := decide_eq_true c38;clear c38;by_cases c39 : (rd t372 (ji36)) = 0
         ·
          rw [if_pos c39] at H;have c39b0 : ((rd t372 (ji36)) == 0) = true := beq_iff_eq.mpr c39;have c39b1 : ((rd t372 (ji36)) != 0) = false := bne_eq_false_iff_eq.mpr c39;clear c39;obtain rfl := Option.some.inj H;(try go_wp2);replace HO_4 := am (Kd.R_drew HO_4.out);replace HB := am (below_drew1 HB.out);have p381 : 0 ≤ ((ji36) : Int) := of_decide_eq_true (by assumption);have q381 : (ji36) < (t372.length : Int) := of_decide_eq_true (by assumption);obtain ⟨ad381, e381, hx381_0⟩ := Kd.at_int (Kd.R_reads' HO_4.out).2.2 (ji36) p381 q381;cases e381
          replace p381 := eq_true p381;replace q381 := eq_true q381;refine start_ (n := 21) (S := fun w' => w'.cell? (ad381.add ((ji36)).toNat) = some (.int .i64 (rd t372 (ji36)))) (ds := []) #[false, false, false, false, false, false, false, false, false, false, false, false, false, false, false, false, false, false, false, false, false] (by kernel_rfl) rfl rfl (hx381_0) (fun hHeld => ?_); refine with_tabW laws_FnGoodsteinRun.tab12 laws_FnGoodsteinRun.bits12 (fun HT_ HW_ => ?_);generalize wr.drew = w40 at HO_4 HB hx381_0 hHeld ⊢;refine pure_ (i := 0) (N := some 36) (v := ?_) (a' := ?_) #[true, false, false, false, false, false, false, false, false, false, false, false, false, false, false, false, false, false, false, false, false] rfl rfl (any_of HT_.out (by kernel_rfl)) (fun _ _ _ h => h) (Or.inl ⟨by rfl, ?_⟩) ?_ ?_;rotate_left
          ·
           intro w';go_simp;with_reducible rfl
          rotate_left
          ·
           simp only [Act.put, sA, sB, sC, i64_w, i32_w];rfl
          refine pure_ (i := 1) (N := some 37) (v := ?_) (a' := ?_) #[true, true, false, false, false, false, false, false, false, false, false, false, false, false, false, false, false, false, false, false, false] rfl rfl (any_of HT_.out (by kernel_rfl)) (fun _ _ _ h => h) (Or.inl ⟨by rfl, ?_⟩) ?_ ?_;rotate_left
          ·
           intro w';go_simp;with_reducible rfl
          rotate_left
          ·
           simp only [Act.put, sA, sB, sC, i64_w, i32_w];rfl
          refine pure_ (i := 2) (N := some 38) (v := ?_) (a' := ?_) #[true, true, true, false, false, false, false, false, false, false, false, false, false, false, false, false, false, false, false, false, false] rfl rfl (any_of HT_.out (by kernel_rfl)) (fun _ _ _ h => h) (Or.inl ⟨by rfl, ?_⟩) ?_ ?_;rotate_left
          ·
           intro w';go_simp;with_reducible rfl
          rotate_left
          ·
           simp only [Act.put, sA, sB, sC, i64_w, i32_w];rfl
          refine pure_ (i := 3) (N := some 39) (v := ?_) (a' := ?_) #[true, true, true, true, false, false, false, false, false, false, false, false, false, false, false, false, false, false, false, false, false] rfl rfl (any_of HT_.out (by kernel_rfl)) (fun _ _ _ h => h) (Or.inl ⟨by rfl, ?_⟩) ?_ ?_;rotate_left
          ·
           intro w';go_simp;with_reducible rfl
          rotate_left
          ·
           simp only [Act.put, sA, sB, sC, i64_w, i32_w];rfl
          refine take_ (i := 4) (N := some 40) (v := ?_) (a' := ?_) #[true, true, true, true, true, false, false, false, false, false, false, false, false, false, false, false, false, false, false, false, false] rfl rfl (take_ofW HT_.out HW_.out (by kernel_rfl)) (fun _ _ _ h => h) (Or.inl ⟨by rfl, ?_⟩) hHeld ?_ ?_;rotate_left
          ·
           intro w' s0;go_simp;with_reducible rfl
          rotate_left
          ·
           simp only [Act.put, sA, sB, sC, i64_w, i32_w];rfl
          refine pure_ (i := 5) (N := some 41) (v := ?_) (a' := ?_) #[true, true, true, true, true, true, false, false, false, false, false, false, false, false, false, false, false, false, false, false, false] rfl rfl (any_of HT_.out (by kernel_rfl)) (fun _ _ _ h => h) (Or.inl ⟨by rfl, ?_⟩) ?_ ?_;rotate_left
          ·
           intro w';go_simp;with_reducible rfl
          rotate_left
          ·
           simp only [Act.put, sA, sB, sC, i64_w, i32_w];rfl
          refine pure_ (i := 6) (N := some 42) (v := ?_) (a' := ?_) #[true, true, true, true, true, true, true, false, false, false, false, false, false, false, false, false, false, false, false, false, false] rfl rfl (any_of HT_.out (by kernel_rfl)) (fun _ _ _ h => h) (Or.inl ⟨by rfl, ?_⟩) ?_ ?_;rotate_left
          ·
           intro w';go_simp;with_reducible rfl
          rotate_left
          ·
           simp only [Act.put, sA, sB, sC, i64_w, i32_w];rfl
          refine pure_ (i := 7) (N := some 43) (v := undef) (a' := ?_) #[true, true, true, true, true, true, true, true, false, false, false, false, false, false, false, false, false, false, false, false, false] rfl rfl (any_of HT_.out (by kernel_rfl)) (fun _ _ _ h => h) (Or.inr ⟨by rfl, rfl⟩) ?_ ?_;rotate_left
          ·
           simp only [Act.put, sA, sB, sC, i64_w, i32_w];rfl
          refine pure_ (i := 8) (N := some 44) (v := undef) (a' := ?_) #[true, true, true, true, true, true, true, true, true, false, false, false, false, false, false, false, false, false, false, false, false] rfl rfl (any_of HT_.out (by kernel_rfl)) (fun _ _ _ h => h) (Or.inr ⟨by rfl, rfl⟩) ?_ ?_;rotate_left
          ·
           simp only [Act.put, sA, sB, sC, i64_w, i32_w];rfl
          refine pure_ (i := 9) (N := some 45) (v := undef) (a' := ?_) #[true, true, true, true, true, true, true, true, true, true, false, false, false, false, false, false, false, false, false, false, false] rfl rfl (any_of HT_.out (by kernel_rfl)) (fun _ _ _ h => h) (Or.inr ⟨by rfl, rfl⟩) ?_ ?_;rotate_left
          ·
           simp only [Act.put, sA, sB, sC, i64_w, i32_w];rfl
          refine pure_ (i := 10) (N := some 46) (v := undef) (a' := ?_) #[true, true, true, true, true, true, true, true, true, true, true, false, false, false, false, false, false, false, false, false, false] rfl rfl (any_of HT_.out (by kernel_rfl)) (fun _ _ _ h => h) (Or.inr ⟨by rfl, rfl⟩) ?_ ?_;rotate_left
          ·
           simp only [Act.put, sA, sB, sC, i64_w, i32_w];rfl
          refine pure_ (i := 11) (N := some 47) (v := undef) (a' := ?_) #[true, true, true, true, true, true, true, true, true, true, true, true, false, false, false, false, false, false, false, false, false] rfl rfl (any_of HT_.out (by kernel_rfl)) (fun _ _ _ h => h) (Or.inr ⟨by rfl, rfl⟩) ?_ ?_;rotate_left
          ·
           simp only [Act.put, sA, sB, sC, i64_w, i32_w];rfl
          refine pure_ (i := 12) (N := some 48) (v := undef) (a' := ?_) #[true, true, true, true, true, true, true, true, true, true, true, true, true, false, false, false, false, false, false, false, false] rfl rfl (any_of HT_.out (by kernel_rfl)) (fun _ _ _ h => h) (Or.inr ⟨by rfl, rfl⟩) ?_ ?_;rotate_left
          ·
           simp only [Act.put, sA, sB, sC, i64_w, i32_w];rfl
          refine pure_ (i := 13) (N := some 49) (v := undef) (a' := ?_) #[true, true, true, true, true, true, true, true, true, true, true, true, true, true, false, false, false, false, false, false, false] rfl rfl (any_of HT_.out (by kernel_rfl)) (fun _ _ _ h => h) (Or.inr ⟨by rfl, rfl⟩) ?_ ?_;rotate_left
          ·
           simp only [Act.put, sA, sB, sC, i64_w, i32_w];rfl
          refine pure_ (i := 14) (N := some 50) (v := undef) (a' := ?_) #[true, true, true, true, true, true, true, true, true, true, true, true, true, true, true, false, false, false, false, false, false] rfl rfl (any_of HT_.out (by kernel_rfl)) (fun _ _ _ h => h) (Or.inr ⟨by rfl, rfl⟩) ?_ ?_;rotate_left
          ·
           simp only [Act.put, sA, sB, sC, i64_w, i32_w];rfl
          refine pure_ (i := 15) (N := some 51) (v := undef) (a' := ?_) #[true, true, true, true, true, true, true, true, true, true, true, true, true, true, true, true, false, false, false, false, false] rfl rfl (any_of HT_.out (by kernel_rfl)) (fun _ _ _ h => h) (Or.inr ⟨by rfl, rfl⟩) ?_ ?_;rotate_left
          ·
           simp only [Act.put, sA, sB, sC, i64_w, i32_w];rfl
          refine pure_ (i := 16) (N := some 52) (v := undef) (a' := ?_) #[true, true, true, true, true, true, true, true, true, true, true, true, true, true, true, true, true, false, false, false, false] rfl rfl (any_of HT_.out (by kernel_rfl)) (fun _ _ _ h => h) (Or.inr ⟨by rfl, rfl⟩) ?_ ?_;rotate_left
          ·
           simp only [Act.put, sA, sB, sC, i64_w, i32_w];rfl
          refine pure_ (i := 17) (N := some 53) (v := undef) (a' := ?_) #[true, true, true, true, true, true, true, true, true, true, true, true, true, true, true, true, true, true, false, false, false] rfl rfl (any_of HT_.out (by kernel_rfl)) (fun _ _ _ h => h) (Or.inr ⟨by rfl, rfl⟩) ?_ ?_;rotate_left
          ·
           simp only [Act.put, sA, sB, sC, i64_w, i32_w];rfl
          refine pure_ (i := 18) (N := some 54) (v := undef) (a' := ?_) #[true, true, true, true, true, true, true, true, true, true, true, true, true, true, true, true, true, true, true, false, false] rfl rfl (any_of HT_.out (by kernel_rfl)) (fun _ _ _ h => h) (Or.inr ⟨by rfl, rfl⟩) ?_ ?_;rotate_left
          ·
           simp only [Act.put, sA, sB, sC, i64_w, i32_w];rfl
          refine pure_ (i := 19) (N := some 55) (v := undef) (a' := ?_) #[true, true, true, true, true, true, true, true, true, true, true, true, true, true, true, true, true, true, true, true, false] rfl rfl (any_of HT_.out (by kernel_rfl)) (fun _ _ _ h => h) (Or.inr ⟨by rfl, rfl⟩) ?_ ?_;rotate_left
          ·
           simp only [Act.put, sA, sB, sC, i64_w, i32_w];rfl
          refine pure_ (i := 20) (N := some 56) (v := ?_) (a' := ?_) #[true, true, true, true, true, true, true, true, true, true, true, true, true, true, true, true, true, true, true, true, true] rfl rfl (any_of HT_.out (by kernel_rfl)) (fun _ _ _ h => h) (Or.inl ⟨by rfl, ?_⟩) ?_ ?_;rotate_left
          ·
           intro w';go_simp;with_reducible rfl
          rotate_left
          ·
           simp only [Act.put, sA, sB, sC, i64_w, i32_w];rfl
          refine done_ (done_of HT_.out (by kernel_rfl)) ?_;(try go_wp2);go_ret;exact ⟨by first | rfl | (simp [errW_none, errW_some] <;> rfl) | (simp only [← hji36]; first | rfl | (simp [errW_none, errW_some] <;> rfl)) | (simp [*, errW_none, errW_some] <;> rfl), bm HB.out⟩
         ·
          rw [if_neg c39] at H;have c39b0 : ((rd t372 (ji36)) == 0) = false := beq_eq_false_iff_ne.mpr c39;have c39b1 : ((rd t372 (ji36)) != 0) = true := bne_iff_ne.mpr c39;by_cases c41 : 0 ≤ x5_1
          ·
           rw [if_pos c41] at H;have c41b0 : decide (0 ≤ x5_1) = true := decide_eq_true c41;clear c41;replace H := oE H;obtain ⟨t384, A42, H⟩ := H;replace H : (if (rd t372 x5_1) = t384 then (laws_FnGoodsteinRun.l0 k1 t371 t372 (wrap64 (x5_1 + 1))) else (some false)) = some r := H;replace A42 := am A42;by_cases c43 : (rd t372 x5_1) = t384
           ·
            rw [if_pos c43] at H;have c43b0 : ((rd t372 x5_1) == t384) = true := beq_iff_eq.mpr c43;have c43b1 : ((rd t372 x5_1) != t384) = false := bne_eq_false_iff_eq.mpr c43;clear c43;have H' := am H;clear H;(try go_wp2);replace HO_4 := am (Kd.R_drew HO_4.out);replace HB := am (below_drew1 HB.out);have p381 : 0 ≤ ((ji36) : Int) := of_decide_eq_true (by assumption);have q381 : (ji36) < (t372.length : Int) := of_decide_eq_true (by assumption);obtain ⟨ad381, e381, hx381_0⟩ := Kd.at_int (Kd.R_reads' HO_4.out).2.2 (ji36) p381 q381;cases e381
            replace p381 := eq_true p381;replace q381 := eq_true q381;have p382 : 0 ≤ (x5_1 : Int) := of_decide_eq_true (by assumption);have q382 : x5_1 < (t372.length : Int) := of_decide_eq_true (by assumption);obtain ⟨ad382, e382, hx382_0⟩ := Kd.at_int (Kd.R_reads' HO_4.out).2.2 x5_1 p382 q382;obtain rfl : ad381 = ad382 := (by injection e382);replace p382 := eq_true p382;replace q382 := eq_true q382;have p383 : 0 ≤ ((ji36) : Int) := of_decide_eq_true (by assumption);have q383 : (ji36) < (t372.length : Int) := of_decide_eq_true (by assumption);obtain ⟨ad383, e383, hx383_0⟩ := Kd.at_int (Kd.R_reads' HO_4.out).2.2 (ji36) p383 q383;obtain rfl : ad381 = ad383 := (by injection e383);replace p383 := eq_true p383;replace q383 := eq_true q383;refine start_ (n := 21) (S := fun w' => w'.cell? (ad381.add ((ji36)).toNat) = some (.int .i64 (rd t372 (ji36))) ∧ w'.cell? (ad381.add (x5_1).toNat) = some (.int .i64 (rd t372 x5_1)) ∧ w'.cell? (ad381.add ((ji36)).toNat) = some (.int .i64 (rd t372 (ji36)))) (ds := []) #[false, false, false, false, false, false, false, false, false, false, false, false, false, false, false, false, false, false, false, false, false] (by kernel_rfl) rfl rfl ⟨hx381_0, hx382_0, hx383_0⟩ (fun hHeld => ?_); refine with_tabW laws_FnGoodsteinRun.tab12 laws_FnGoodsteinRun.bits12 (fun HT_ HW_ => ?_);generalize wr.drew = w44 at HO_4 HB hx381_0 hx382_0 hx383_0 hHeld ⊢;refine pure_ (i := 0) (N := some 36) (v := ?_) (a' := ?_) #[true, false, false, false, false, false, false, false, false, false, false, false, false, false, false, false, false, false, false, false, false] rfl rfl (any_of HT_.out (by kernel_rfl)) (fun _ _ _ h => h) (Or.inl ⟨by rfl, ?_⟩) ?_ ?_;rotate_left
            ·
             intro w';go_simp;with_reducible rfl
            rotate_left
            ·
             simp only [Act.put, sA, sB, sC, i64_w, i32_w];rfl
            refine pure_ (i := 1) (N := some 37) (v := ?_) (a' := ?_) #[true, true, false, false, false, false, false, false, false, false, false, false, false, false, false, false, false, false, false, false, false] rfl rfl (any_of HT_.out (by kernel_rfl)) (fun _ _ _ h => h) (Or.inl ⟨by rfl, ?_⟩) ?_ ?_;rotate_left
            ·
             intro w';go_simp;with_reducible rfl
            rotate_left
            ·
             simp only [Act.put, sA, sB, sC, i64_w, i32_w];rfl
            refine pure_ (i := 2) (N := some 38) (v := ?_) (a' := ?_) #[true, true, true, false, false, false, false, false, false, false, false, false, false, false, false, false, false, false, false, false, false] rfl rfl (any_of HT_.out (by kernel_rfl)) (fun _ _ _ h => h) (Or.inl ⟨by rfl, ?_⟩) ?_ ?_;rotate_left
            ·
             intro w';go_simp;with_reducible rfl
            rotate_left
            ·
             simp only [Act.put, sA, sB, sC, i64_w, i32_w];rfl
            refine pure_ (i := 3) (N := some 39) (v := ?_) (a' := ?_) #[true, true, true, true, false, false, false, false, false, false, false, false, false, false, false, false, false, false, false, false, false] rfl rfl (any_of HT_.out (by kernel_rfl)) (fun _ _ _ h => h) (Or.inl ⟨by rfl, ?_⟩) ?_ ?_;rotate_left
            ·
             intro w';go_simp;with_reducible rfl
            rotate_left
            ·
             simp only [Act.put, sA, sB, sC, i64_w, i32_w];rfl
            refine take_ (i := 4) (N := some 40) (v := ?_) (a' := ?_) #[true, true, true, true, true, false, false, false, false, false, false, false, false, false, false, false, false, false, false, false, false] rfl rfl (take_ofW HT_.out HW_.out (by kernel_rfl)) (fun _ _ _ h => h) (Or.inl ⟨by rfl, ?_⟩) hHeld ?_ ?_;rotate_left
            ·
             rintro w' ⟨s0, s1, s2⟩
             go_simp;with_reducible rfl
            rotate_left
            ·
             simp only [Act.put, sA, sB, sC, i64_w, i32_w];rfl
            refine pure_ (i := 5) (N := some 41) (v := ?_) (a' := ?_) #[true, true, true, true, true, true, false, false, false, false, false, false, false, false, false, false, false, false, false, false, false] rfl rfl (any_of HT_.out (by kernel_rfl)) (fun _ _ _ h => h) (Or.inl ⟨by rfl, ?_⟩) ?_ ?_;rotate_left
            ·
             intro w';go_simp;with_reducible rfl
            rotate_left
            ·
             simp only [Act.put, sA, sB, sC, i64_w, i32_w];rfl
            refine pure_ (i := 6) (N := some 42) (v := ?_) (a' := ?_) #[true, true, true, true, true, true, true, false, false, false, false, false, false, false, false, false, false, false, false, false, false] rfl rfl (any_of HT_.out (by kernel_rfl)) (fun _ _ _ h => h) (Or.inl ⟨by rfl, ?_⟩) ?_ ?_;rotate_left
            ·
             intro w';go_simp;with_reducible rfl
            rotate_left
            ·
             simp only [Act.put, sA, sB, sC, i64_w, i32_w];rfl
            refine pure_ (i := 7) (N := some 43) (v := ?_) (a' := ?_) #[true, true, true, true, true, true, true, true, false, false, false, false, false, false, false, false, false, false, false, false, false] rfl rfl (any_of HT_.out (by kernel_rfl)) (fun _ _ _ h => h) (Or.inl ⟨by rfl, ?_⟩) ?_ ?_;rotate_left
            ·
             intro w';go_simp;with_reducible rfl
            rotate_left
            ·
             simp only [Act.put, sA, sB, sC, i64_w, i32_w];rfl
            refine pure_ (i := 8) (N := some 44) (v := ?_) (a' := ?_) #[true, true, true, true, true, true, true, true, true, false, false, false, false, false, false, false, false, false, false, false, false] rfl rfl (any_of HT_.out (by kernel_rfl)) (fun _ _ _ h => h) (Or.inl ⟨by rfl, ?_⟩) ?_ ?_;rotate_left
            ·
             intro w';go_simp;with_reducible rfl
            rotate_left
            ·
             simp only [Act.put, sA, sB, sC, i64_w, i32_w];rfl
            refine pure_ (i := 9) (N := some 45) (v := ?_) (a' := ?_) #[true, true, true, true, true, true, true, true, true, true, false, false, false, false, false, false, false, false, false, false, false] rfl rfl (any_of HT_.out (by kernel_rfl)) (fun _ _ _ h => h) (Or.inl ⟨by rfl, ?_⟩) ?_ ?_;rotate_left
            ·
             intro w';go_simp;with_reducible rfl
            rotate_left
            ·
             simp only [Act.put, sA, sB, sC, i64_w, i32_w];rfl
            refine pure_ (i := 11) (N := some 47) (v := ?_) (a' := ?_) #[true, true, true, true, true, true, true, true, true, true, false, true, false, false, false, false, false, false, false, false, false] rfl rfl (any_of HT_.out (by kernel_rfl)) (fun _ _ _ h => h) (Or.inl ⟨by rfl, ?_⟩) ?_ ?_;rotate_left
            ·
             intro w';go_simp;with_reducible rfl
            rotate_left
            ·
             simp only [Act.put, sA, sB, sC, i64_w, i32_w];rfl
            refine pure_ (i := 12) (N := some 48) (v := ?_) (a' := ?_) #[true, true, true, true, true, true, true, true, true, true, false, true, true, false, false, false, false, false, false, false, false] rfl rfl (any_of HT_.out (by kernel_rfl)) (fun _ _ _ h => h) (Or.inl ⟨by rfl, ?_⟩) ?_ ?_;rotate_left
            ·
             intro w';go_simp;with_reducible rfl
            rotate_left
            ·
             simp only [Act.put, sA, sB, sC, i64_w, i32_w];rfl
            refine pure_ (i := 13) (N := some 49) (v := ?_) (a' := ?_) #[true, true, true, true, true, true, true, true, true, true, false, true, true, true, false, false, false, false, false, false, false] rfl rfl (any_of HT_.out (by kernel_rfl)) (fun _ _ _ h => h) (Or.inl ⟨by rfl, ?_⟩) ?_ ?_;rotate_left
            ·
             intro w';go_simp;with_reducible rfl
            rotate_left
            ·
             simp only [Act.put, sA, sB, sC, i64_w, i32_w];rfl
            refine pure_ (i := 14) (N := some 50) (v := ?_) (a' := ?_) #[true, true, true, true, true, true, true, true, true, true, false, true, true, true, true, false, false, false, false, false, false] rfl rfl (any_of HT_.out (by kernel_rfl)) (fun _ _ _ h => h) (Or.inl ⟨by rfl, ?_⟩) ?_ ?_;rotate_left
            ·
             intro w';go_simp;with_reducible rfl
            rotate_left
            ·
             simp only [Act.put, sA, sB, sC, i64_w, i32_w];rfl
            refine pure_ (i := 16) (N := some 52) (v := ?_) (a' := ?_) #[true, true, true, true, true, true, true, true, true, true, false, true, true, true, true, false, true, false, false, false, false] rfl rfl (any_of HT_.out (by kernel_rfl)) (fun _ _ _ h => h) (Or.inl ⟨by rfl, ?_⟩) ?_ ?_;rotate_left
            ·
             intro w';go_simp;with_reducible rfl
            rotate_left
            ·
             simp only [Act.put, sA, sB, sC, i64_w, i32_w];rfl
            refine pure_ (i := 17) (N := some 53) (v := ?_) (a' := ?_) #[true, true, true, true, true, true, true, true, true, true, false, true, true, true, true, false, true, true, false, false, false] rfl rfl (any_of HT_.out (by kernel_rfl)) (fun _ _ _ h => h) (Or.inl ⟨by rfl, ?_⟩) ?_ ?_;rotate_left
            ·
             intro w';go_simp;with_reducible rfl
            rotate_left
            ·
             simp only [Act.put, sA, sB, sC, i64_w, i32_w];rfl
            refine take_ (i := 10) (N := some 46) (v := ?_) (a' := ?_) #[true, true, true, true, true, true, true, true, true, true, true, true, true, true, true, false, true, true, false, false, false] rfl rfl (take_ofW HT_.out HW_.out (by kernel_rfl)) (fun _ _ _ h => h) (Or.inl ⟨by rfl, ?_⟩) hHeld ?_ ?_;rotate_left
            ·
             rintro w' ⟨s0, s1, s2⟩
             go_simp;with_reducible rfl
            rotate_left
            ·
             simp only [Act.put, sA, sB, sC, i64_w, i32_w];rfl
            refine take_ (i := 15) (N := some 51) (v := ?_) (a' := ?_) #[true, true, true, true, true, true, true, true, true, true, true, true, true, true, true, true, true, true, false, false, false] rfl rfl (take_ofW HT_.out HW_.out (by kernel_rfl)) (fun _ _ _ h => h) (Or.inl ⟨by rfl, ?_⟩) hHeld ?_ ?_;rotate_left
            ·
             rintro w' ⟨s0, s1, s2⟩
             go_simp;with_reducible rfl
            rotate_left
            ·
             simp only [Act.put, sA, sB, sC, i64_w, i32_w];rfl
            refine one_ (i := 18) (N := some 54) #[true, true, true, true, true, true, true, true, true, true, true, true, true, true, true, true, true, true, true, false, false] rfl rfl (one_of HT_.out (by kernel_rfl)) (by decide) (fun K hK => ?_);refine goes_ Try.func21 (by kernel_rfl) rfl #[.int .i64 (rd t372 (ji36)), .int .i64 (wrap64 (x5_1 + 1))] (by rfl) rfl rfl (by (try simp only [List.map_toArray, List.map_cons, List.map_nil]); first | done | (simp only [hji36]; rfl) | rfl | (simp only [List.length_drop, List.length_take]; rfl)) ?_
            with_reducible refine (impl_GoodsteinNext.calls k1 (rd t372 (ji36)) (wrap64 (x5_1 + 1)) t384 _ A42.out).mono ?_
            rintro e w45 ⟨rfl, hb⟩
            have HS0_ := (hb.cell (World.block_lt_of_cell? _ _ (hHeld.1))).trans (hHeld.1);have HS1_ := (hb.cell (World.block_lt_of_cell? _ _ (hHeld.2.1))).trans (hHeld.2.1);have HS2_ := (hb.cell (World.block_lt_of_cell? _ _ (hHeld.2.2))).trans (hHeld.2.2);refine ⟨_, rfl, ?_⟩;replace HO_4 := am (Kd.R_below (Kd.rm HO_4.out) hb);replace HB := am (below_step (bm HB.out) hb);(try clear hb);refine hK.out _ _ ⟨HS0_, HS1_, HS2_⟩ (fun hHeld => ?_);clear hK K;refine norm_ (a' := ?_) ?_ ?_;rotate_left
            ·
             show Act.put _ (some 54) _ = _
             simp only [Act.put, sA, sB, sC, i64_w, i32_w];rfl
            refine pure_ (i := 19) (N := some 55) (v := ?_) (a' := ?_) #[true, true, true, true, true, true, true, true, true, true, true, true, true, true, true, true, true, true, true, true, false] rfl rfl (any_of HT_.out (by kernel_rfl)) (fun _ _ _ h => h) (Or.inl ⟨by rfl, ?_⟩) ?_ ?_;rotate_left
            ·
             intro w';go_simp;with_reducible rfl
            rotate_left
            ·
             simp only [Act.put, sA, sB, sC, i64_w, i32_w];rfl
            refine pure_ (i := 20) (N := some 56) (v := ?_) (a' := ?_) #[true, true, true, true, true, true, true, true, true, true, true, true, true, true, true, true, true, true, true, true, true] rfl rfl (any_of HT_.out (by kernel_rfl)) (fun _ _ _ h => h) (Or.inl ⟨by rfl, ?_⟩) ?_ ?_;rotate_left
            ·
             intro w';go_simp;with_reducible rfl
            rotate_left
            ·
             simp only [Act.put, sA, sB, sC, i64_w, i32_w];rfl
            refine done_ (done_of HT_.out (by kernel_rfl)) ?_;(try go_wp2)
            go_roundg k1
            case measure => have := HK1.out; omega
            case rel => exact ⟨(wrap64 (x5_1 + 1)), (by first | rfl | (simp; done) | (simp [*]; done)), H', ⟨by have := HK1.out; omega⟩, ⟨Kd.rm HO_4.out⟩, ⟨bm HB.out⟩⟩
           ·
            rw [if_neg c43] at H;have c43b0 : ((rd t372 x5_1) == t384) = false := beq_eq_false_iff_ne.mpr c43;have c43b1 : ((rd t372 x5_1) != t384) = true := bne_iff_ne.mpr c43;obtain rfl := Option.some.inj H;(try go_wp2);replace HO_4 := am (Kd.R_drew HO_4.out);replace HB := am (below_drew1 HB.out);have p381 : 0 ≤ ((ji36) : Int) := of_decide_eq_true (by assumption);have q381 : (ji36) < (t372.length : Int) := of_decide_eq_true (by assumption);obtain ⟨ad381, e381, hx381_0⟩ := Kd.at_int (Kd.R_reads' HO_4.out).2.2 (ji36) p381 q381;cases e381
            replace p381 := eq_true p381;replace q381 := eq_true q381;have p382 : 0 ≤ (x5_1 : Int) := of_decide_eq_true (by assumption);have q382 : x5_1 < (t372.length : Int) := of_decide_eq_true (by assumption);obtain ⟨ad382, e382, hx382_0⟩ := Kd.at_int (Kd.R_reads' HO_4.out).2.2 x5_1 p382 q382;obtain rfl : ad381 = ad382 := (by injection e382);replace p382 := eq_true p382;replace q382 := eq_true q382;have p383 : 0 ≤ ((ji36) : Int) := of_decide_eq_true (by assumption);have q383 : (ji36) < (t372.length : Int) := of_decide_eq_true (by assumption);obtain ⟨ad383, e383, hx383_0⟩ := Kd.at_int (Kd.R_reads' HO_4.out).2.2 (ji36) p383 q383;obtain rfl : ad381 = ad383 := (by injection e383);replace p383 := eq_true p383;replace q383 := eq_true q383;refine start_ (n := 21) (S := fun w' => w'.cell? (ad381.add ((ji36)).toNat) = some (.int .i64 (rd t372 (ji36))) ∧ w'.cell? (ad381.add (x5_1).toNat) = some (.int .i64 (rd t372 x5_1)) ∧ w'.cell? (ad381.add ((ji36)).toNat) = some (.int .i64 (rd t372 (ji36)))) (ds := []) #[false, false, false, false, false, false, false, false, false, false, false, false, false, false, false, false, false, false, false, false, false] (by kernel_rfl) rfl rfl ⟨hx381_0, hx382_0, hx383_0⟩ (fun hHeld => ?_); refine with_tabW laws_FnGoodsteinRun.tab12 laws_FnGoodsteinRun.bits12 (fun HT_ HW_ => ?_);generalize wr.drew = w46 at HO_4 HB hx381_0 hx382_0 hx383_0 hHeld ⊢;refine pure_ (i := 0) (N := some 36) (v := ?_) (a' := ?_) #[true, false, false, false, false, false, false, false, false, false, false, false, false, false, false, false, false, false, false, false, false] rfl rfl (any_of HT_.out (by kernel_rfl)) (fun _ _ _ h => h) (Or.inl ⟨by rfl, ?_⟩) ?_ ?_;rotate_left
            ·
             intro w';go_simp;with_reducible rfl
            rotate_left
            ·
             simp only [Act.put, sA, sB, sC, i64_w, i32_w];rfl
            refine pure_ (i := 1) (N := some 37) (v := ?_) (a' := ?_) #[true, true, false, false, false, false, false, false, false, false, false, false, false, false, false, false, false, false, false, false, false] rfl rfl (any_of HT_.out (by kernel_rfl)) (fun _ _ _ h => h) (Or.inl ⟨by rfl, ?_⟩) ?_ ?_;rotate_left
            ·
             intro w';go_simp;with_reducible rfl
            rotate_left
            ·
             simp only [Act.put, sA, sB, sC, i64_w, i32_w];rfl
            refine pure_ (i := 2) (N := some 38) (v := ?_) (a' := ?_) #[true, true, true, false, false, false, false, false, false, false, false, false, false, false, false, false, false, false, false, false, false] rfl rfl (any_of HT_.out (by kernel_rfl)) (fun _ _ _ h => h) (Or.inl ⟨by rfl, ?_⟩) ?_ ?_;rotate_left
            ·
             intro w';go_simp;with_reducible rfl
            rotate_left
            ·
             simp only [Act.put, sA, sB, sC, i64_w, i32_w];rfl
            refine pure_ (i := 3) (N := some 39) (v := ?_) (a' := ?_) #[true, true, true, true, false, false, false, false, false, false, false, false, false, false, false, false, false, false, false, false, false] rfl rfl (any_of HT_.out (by kernel_rfl)) (fun _ _ _ h => h) (Or.inl ⟨by rfl, ?_⟩) ?_ ?_;rotate_left
            ·
             intro w';go_simp;with_reducible rfl
            rotate_left
            ·
             simp only [Act.put, sA, sB, sC, i64_w, i32_w];rfl
            refine take_ (i := 4) (N := some 40) (v := ?_) (a' := ?_) #[true, true, true, true, true, false, false, false, false, false, false, false, false, false, false, false, false, false, false, false, false] rfl rfl (take_ofW HT_.out HW_.out (by kernel_rfl)) (fun _ _ _ h => h) (Or.inl ⟨by rfl, ?_⟩) hHeld ?_ ?_;rotate_left
            ·
             rintro w' ⟨s0, s1, s2⟩
             go_simp;with_reducible rfl
            rotate_left
            ·
             simp only [Act.put, sA, sB, sC, i64_w, i32_w];rfl
            refine pure_ (i := 5) (N := some 41) (v := ?_) (a' := ?_) #[true, true, true, true, true, true, false, false, false, false, false, false, false, false, false, false, false, false, false, false, false] rfl rfl (any_of HT_.out (by kernel_rfl)) (fun _ _ _ h => h) (Or.inl ⟨by rfl, ?_⟩) ?_ ?_;rotate_left
            ·
             intro w';go_simp;with_reducible rfl
            rotate_left
            ·
             simp only [Act.put, sA, sB, sC, i64_w, i32_w];rfl
            refine pure_ (i := 6) (N := some 42) (v := ?_) (a' := ?_) #[true, true, true, true, true, true, true, false, false, false, false, false, false, false, false, false, false, false, false, false, false] rfl rfl (any_of HT_.out (by kernel_rfl)) (fun _ _ _ h => h) (Or.inl ⟨by rfl, ?_⟩) ?_ ?_;rotate_left
            ·
             intro w';go_simp;with_reducible rfl
            rotate_left
            ·
             simp only [Act.put, sA, sB, sC, i64_w, i32_w];rfl
            refine pure_ (i := 7) (N := some 43) (v := ?_) (a' := ?_) #[true, true, true, true, true, true, true, true, false, false, false, false, false, false, false, false, false, false, false, false, false] rfl rfl (any_of HT_.out (by kernel_rfl)) (fun _ _ _ h => h) (Or.inl ⟨by rfl, ?_⟩) ?_ ?_;rotate_left
            ·
             intro w';go_simp;with_reducible rfl
            rotate_left
            ·
             simp only [Act.put, sA, sB, sC, i64_w, i32_w];rfl
            refine pure_ (i := 8) (N := some 44) (v := ?_) (a' := ?_) #[true, true, true, true, true, true, true, true, true, false, false, false, false, false, false, false, false, false, false, false, false] rfl rfl (any_of HT_.out (by kernel_rfl)) (fun _ _ _ h => h) (Or.inl ⟨by rfl, ?_⟩) ?_ ?_;rotate_left
            ·
             intro w';go_simp;with_reducible rfl
            rotate_left
            ·
             simp only [Act.put, sA, sB, sC, i64_w, i32_w];rfl
            refine pure_ (i := 9) (N := some 45) (v := ?_) (a' := ?_) #[true, true, true, true, true, true, true, true, true, true, false, false, false, false, false, false, false, false, false, false, false] rfl rfl (any_of HT_.out (by kernel_rfl)) (fun _ _ _ h => h) (Or.inl ⟨by rfl, ?_⟩) ?_ ?_;rotate_left
            ·
             intro w';go_simp;with_reducible rfl
            rotate_left
            ·
             simp only [Act.put, sA, sB, sC, i64_w, i32_w];rfl
            refine pure_ (i := 11) (N := some 47) (v := ?_) (a' := ?_) #[true, true, true, true, true, true, true, true, true, true, false, true, false, false, false, false, false, false, false, false, false] rfl rfl (any_of HT_.out (by kernel_rfl)) (fun _ _ _ h => h) (Or.inl ⟨by rfl, ?_⟩) ?_ ?_;rotate_left
            ·
             intro w';go_simp;with_reducible rfl
            rotate_left
            ·
             simp only [Act.put, sA, sB, sC, i64_w, i32_w];rfl
            refine pure_ (i := 12) (N := some 48) (v := ?_) (a' := ?_) #[true, true, true, true, true, true, true, true, true, true, false, true, true, false, false, false, false, false, false, false, false] rfl rfl (any_of HT_.out (by kernel_rfl)) (fun _ _ _ h => h) (Or.inl ⟨by rfl, ?_⟩) ?_ ?_;rotate_left
            ·
             intro w';go_simp;with_reducible rfl
            rotate_left
            ·
             simp only [Act.put, sA, sB, sC, i64_w, i32_w];rfl
            refine pure_ (i := 13) (N := some 49) (v := ?_) (a' := ?_) #[true, true, true, true, true, true, true, true, true, true, false, true, true, true, false, false, false, false, false, false, false] rfl rfl (any_of HT_.out (by kernel_rfl)) (fun _ _ _ h => h) (Or.inl ⟨by rfl, ?_⟩) ?_ ?_;rotate_left
            ·
             intro w';go_simp;with_reducible rfl
            rotate_left
            ·
             simp only [Act.put, sA, sB, sC, i64_w, i32_w];rfl
            refine pure_ (i := 14) (N := some 50) (v := ?_) (a' := ?_) #[true, true, true, true, true, true, true, true, true, true, false, true, true, true, true, false, false, false, false, false, false] rfl rfl (any_of HT_.out (by kernel_rfl)) (fun _ _ _ h => h) (Or.inl ⟨by rfl, ?_⟩) ?_ ?_;rotate_left
            ·
             intro w';go_simp;with_reducible rfl
            rotate_left
            ·
             simp only [Act.put, sA, sB, sC, i64_w, i32_w];rfl
            refine pure_ (i := 16) (N := some 52) (v := ?_) (a' := ?_) #[true, true, true, true, true, true, true, true, true, true, false, true, true, true, true, false, true, false, false, false, false] rfl rfl (any_of HT_.out (by kernel_rfl)) (fun _ _ _ h => h) (Or.inl ⟨by rfl, ?_⟩) ?_ ?_;rotate_left
            ·
             intro w';go_simp;with_reducible rfl
            rotate_left
            ·
             simp only [Act.put, sA, sB, sC, i64_w, i32_w];rfl
            refine pure_ (i := 17) (N := some 53) (v := ?_) (a' := ?_) #[true, true, true, true, true, true, true, true, true, true, false, true, true, true, true, false, true, true, false, false, false] rfl rfl (any_of HT_.out (by kernel_rfl)) (fun _ _ _ h => h) (Or.inl ⟨by rfl, ?_⟩) ?_ ?_;rotate_left
            ·
             intro w';go_simp;with_reducible rfl
            rotate_left
            ·
             simp only [Act.put, sA, sB, sC, i64_w, i32_w];rfl
            refine take_ (i := 10) (N := some 46) (v := ?_) (a' := ?_) #[true, true, true, true, true, true, true, true, true, true, true, true, true, true, true, false, true, true, false, false, false] rfl rfl (take_ofW HT_.out HW_.out (by kernel_rfl)) (fun _ _ _ h => h) (Or.inl ⟨by rfl, ?_⟩) hHeld ?_ ?_;rotate_left
            ·
             rintro w' ⟨s0, s1, s2⟩
             go_simp;with_reducible rfl
            rotate_left
            ·
             simp only [Act.put, sA, sB, sC, i64_w, i32_w];rfl
            refine take_ (i := 15) (N := some 51) (v := ?_) (a' := ?_) #[true, true, true, true, true, true, true, true, true, true, true, true, true, true, true, true, true, true, false, false, false] rfl rfl (take_ofW HT_.out HW_.out (by kernel_rfl)) (fun _ _ _ h => h) (Or.inl ⟨by rfl, ?_⟩) hHeld ?_ ?_;rotate_left
            ·
             rintro w' ⟨s0, s1, s2⟩
             go_simp;with_reducible rfl
            rotate_left
            ·
             simp only [Act.put, sA, sB, sC, i64_w, i32_w];rfl
            refine one_ (i := 18) (N := some 54) #[true, true, true, true, true, true, true, true, true, true, true, true, true, true, true, true, true, true, true, false, false] rfl rfl (one_of HT_.out (by kernel_rfl)) (by decide) (fun K hK => ?_);refine goes_ Try.func21 (by kernel_rfl) rfl #[.int .i64 (rd t372 (ji36)), .int .i64 (wrap64 (x5_1 + 1))] (by rfl) rfl rfl (by (try simp only [List.map_toArray, List.map_cons, List.map_nil]); first | done | (simp only [hji36]; rfl) | rfl | (simp only [List.length_drop, List.length_take]; rfl)) ?_
            with_reducible refine (impl_GoodsteinNext.calls k1 (rd t372 (ji36)) (wrap64 (x5_1 + 1)) t384 _ A42.out).mono ?_
            rintro e w47 ⟨rfl, hb⟩
            have HS0_ := (hb.cell (World.block_lt_of_cell? _ _ (hHeld.1))).trans (hHeld.1);have HS1_ := (hb.cell (World.block_lt_of_cell? _ _ (hHeld.2.1))).trans (hHeld.2.1);have HS2_ := (hb.cell (World.block_lt_of_cell? _ _ (hHeld.2.2))).trans (hHeld.2.2);refine ⟨_, rfl, ?_⟩;replace HO_4 := am (Kd.R_below (Kd.rm HO_4.out) hb);replace HB := am (below_step (bm HB.out) hb);(try clear hb);refine hK.out _ _ ⟨HS0_, HS1_, HS2_⟩ (fun hHeld => ?_);clear hK K;refine norm_ (a' := ?_) ?_ ?_;rotate_left
            ·
             show Act.put _ (some 54) _ = _
             simp only [Act.put, sA, sB, sC, i64_w, i32_w];rfl
            refine pure_ (i := 19) (N := some 55) (v := ?_) (a' := ?_) #[true, true, true, true, true, true, true, true, true, true, true, true, true, true, true, true, true, true, true, true, false] rfl rfl (any_of HT_.out (by kernel_rfl)) (fun _ _ _ h => h) (Or.inl ⟨by rfl, ?_⟩) ?_ ?_;rotate_left
            ·
             intro w';go_simp;with_reducible rfl
            rotate_left
            ·
             simp only [Act.put, sA, sB, sC, i64_w, i32_w];rfl
            refine pure_ (i := 20) (N := some 56) (v := ?_) (a' := ?_) #[true, true, true, true, true, true, true, true, true, true, true, true, true, true, true, true, true, true, true, true, true] rfl rfl (any_of HT_.out (by kernel_rfl)) (fun _ _ _ h => h) (Or.inl ⟨by rfl, ?_⟩) ?_ ?_;rotate_left
            ·
             intro w';go_simp;with_reducible rfl
            rotate_left
            ·
             simp only [Act.put, sA, sB, sC, i64_w, i32_w];rfl
            refine done_ (done_of HT_.out (by kernel_rfl)) ?_;(try go_wp2);go_ret;exact ⟨by first | rfl | (simp [errW_none, errW_some] <;> rfl) | (simp only [← hji36]; first | rfl | (simp [errW_none, errW_some] <;> rfl)) | (simp [*, errW_none, errW_some] <;> rfl), bm HB.out⟩
          ·
           rw [if_neg c41] at H;exact absurd H (by simp)
        ·
         rw [if_neg c38] at H;exact absurd H (by simp)
       ·
        rw [if_neg c37] at H;exact absurd H (by simp)
      ·
       rw [if_neg c35] at H;have c35b0 : decide (x5_1 < (t372.length : Int)) = false := decide_eq_false c35;clear c35;by_cases c48 : 0 < (t372.length : Int)
       ·
        rw [if_pos c48] at H;have c48b0 : decide (0 < (t372.length : Int)) = true := decide_eq_true c48;have c48b1 : decide (0 < t372.length) = true := decide_eq_true (by omega);clear c48;by_cases c49 : (rd t372 0) = t371
        ·
         rw [if_pos c49] at H;have c49b0 : ((rd t372 0) == t371) = true := beq_iff_eq.mpr c49;have c49b1 : ((rd t372 0) != t371) = false := bne_eq_false_iff_eq.mpr c49;clear c49;obtain rfl := Option.some.inj H;have p385 : 0 ≤ (0 : Int) := (by omega);have q385 : 0 < (t372.length : Int) := of_decide_eq_true (by assumption);obtain ⟨ad385, e385, hx385_0⟩ := Kd.at_int (Kd.R_reads' HO_4.out).2.2 0 p385 q385;cases e385
         have qi385 : (0 < t372.length) = True := eq_true (by omega);(try rw [show ((0 : Int)).toNat = 0 from rfl] at hx385_0);(try rw [Addr.add_zero'] at hx385_0);replace p385 := eq_true p385;replace q385 := eq_true q385;go_wp2;go_ret;exact ⟨by first | rfl | (simp [errW_none, errW_some] <;> rfl) | (simp [*, errW_none, errW_some] <;> rfl), bm HB.out⟩
        ·
         rw [if_neg c49] at H;have c49b0 : ((rd t372 0) == t371) = false := beq_eq_false_iff_ne.mpr c49;have c49b1 : ((rd t372 0) != t371) = true := bne_iff_ne.mpr c49;obtain rfl := Option.some.inj H;have p385 : 0 ≤ (0 : Int) := (by omega);have q385 : 0 < (t372.length : Int) := of_decide_eq_true (by assumption);obtain ⟨ad385, e385, hx385_0⟩ := Kd.at_int (Kd.R_reads' HO_4.out).2.2 0 p385 q385;cases e385
         have qi385 : (0 < t372.length) = True := eq_true (by omega);(try rw [show ((0 : Int)).toNat = 0 from rfl] at hx385_0);(try rw [Addr.add_zero'] at hx385_0);replace p385 := eq_true p385;replace q385 := eq_true q385;go_wp2;go_ret;exact ⟨by first | rfl | (simp [errW_none, errW_some] <;> rfl) | (simp [*, errW_none, errW_some] <;> rfl), bm HB.out⟩
       ·
        rw [if_neg c48] at H;exact absurd H (by simp)
  ·
   replace c7 := Bool.eq_false_iff.mpr c7;subst c7
   have H1 : (some false) = some r := by rw [if_neg (show ¬ (false = true) by decide)] at H; exact H
   clear H;have H := H1;clear H1;obtain rfl := Option.some.inj H;go_enter Try.func5, Try.ntmps5;go_wp2_with (first | ((with_reducible refine gate_callee (f := 19) rfl ?_); refine goesL_ (some 10) rfl rfl Try.func19 (by kernel_rfl) rfl #[.slice A0 l0.length c0] rfl (by (try simp only [mA, mB, mC]); first | done | rfl) ?_; (with_reducible refine (spec_DrawGoodsteinRun.calls k _ _ l0 t371 _ ?side1 ?side2 A3.out).mono ?_); (case side1 => exact Kd.cm HR0.out); (case side2 => exact HC0.out); rintro e w50 ⟨rfl, hb⟩; refine ⟨_, rfl, ?_⟩; replace HB := am (below_step (bm HB.out) hb); (try clear hb)) | ((with_reducible refine gate_callee (f := 11) rfl ?_); refine goesL_ (some 12) rfl rfl Try.func11 (by kernel_rfl) rfl #[.int .i64 t371] rfl (by (try simp only [mA, mB, mC]); first | done | rfl) ?_; (with_reducible refine (impl_GoodsteinRun.calls k t371 t372 _ A4.out).mono ?_); rintro e w51 ⟨v373, rfl, ho0, hb⟩; refine ⟨_, rfl, ?_⟩; have HO374 := am (Kd.R_lower ho0 (below_size (bm HB.out)));replace HB := am (below_step (bm HB.out) hb); (try clear hb); (try clear ho0)) | ((with_reducible refine gate_callee (f := 20) rfl ?_); refine goesL_ (some 15) rfl rfl Try.func20 (by kernel_rfl) rfl #[.int .i64 t371] rfl (by (try simp only [mA, mB, mC]); first | done | rfl) ?_; (with_reducible refine (spec_GoodsteinRun.calls k t371 t375 _ A5.out).mono ?_); rintro e w52 ⟨v376, rfl, ho0, hb⟩; refine ⟨_, rfl, ?_⟩; have HO377 := am (Kd.R_lower (Kd.R_new' ho0 (Kd.R_lt (Kd.rm HO374.out))) (below_size (bm HB.out)));replace HO374 := am (Kd.R_elder' (Kd.rm HO374.out) (Kd.R_base ho0) hb);replace HB := am (below_step (bm HB.out) hb); (try clear hb); (try clear ho0); obtain ⟨Ao53, co53, eo53⟩ := Kd.R_slice HO374.out; subst eo53; obtain ⟨Ao54, co54, eo54⟩ := Kd.R_slice HO377.out; subst eo54) | ((with_reducible refine gate_callee (f := 17) rfl ?_); refine goesL_ (some 16) rfl rfl Try.func17 (by kernel_rfl) rfl #[.slice Ao53 t372.length co53, .slice Ao54 t375.length co54] rfl (by (try simp only [mA, mB, mC]); first | done | rfl) ?_; (with_reducible refine (laws_sameInts.calls k _ _ t372 _ _ t375 false _ ?side1 ?side2 ?side3 ?side4 A6.out).mono ?_); (case side1 => exact Kd.cm ((Kd.R_reads' HO374.out).2.2)); (case side2 => exact (Kd.R_reads' HO374.out).2.1); (case side3 => exact Kd.cm ((Kd.R_reads' HO377.out).2.2)); (case side4 => exact (Kd.R_reads' HO377.out).2.1); rintro e w' ⟨rfl, ⟨nd, rfl⟩⟩; refine ⟨_, rfl, ?_⟩));go_ret;exact ⟨by first | rfl | (simp [errW_none, errW_some] <;> rfl) | (simp [*, errW_none, errW_some] <;> rfl), bm HB.out⟩

/-- THE ONE PURE STATEMENT of laws_FnGoodsteinRun: yours. -/
def laws_FnGoodsteinRun.Pure : Prop := ∀ (l0 : List Int), l0.length ≤ maxLen → l0.length * 1 ≤ 140737488351232 → (∀ x ∈ l0, (Lit.int .u8 x).wf = true) → ∃ k, laws_FnGoodsteinRun.f k l0 = some true
theorem laws_FnGoodsteinRun.walk (P : laws_FnGoodsteinRun.Pure) (a0 : Option Addr) (len0 cap0 : Nat) (z0 : List Int) (w : World) (w0 : (a0 = none ∧ len0 = 0 ∧ cap0 = 0 ∧ z0 = []) ∨ ∃ x, a0 = some x ∧ len0 ≤ cap0 ∧ cap0 ≤ maxLen ∧ z0.length = cap0 ∧ (∀ i, i < z0.length → w.cell? (x.add i) = some (.int .u8 (z0.getD i 0))) ∧ ∀ n ∈ z0, (Lit.int .u8 n).wf = true) (y0 : len0 * 1 ≤ 140737488351232) :
  Calls Try.prog 5 #[.slice a0 len0 cap0] w fun e w' => e = .returned (.bool true) ∧ Below w.heap.size w w' := by
 obtain ⟨l0, rfl, hr0, hm0, hw0, hc0⟩ := ReadsInt.ofRowC w0;obtain ⟨k, h⟩ := P l0 hm0 y0 hw0;refine (laws_FnGoodsteinRun.calls k _ _ l0 true w (Kd.C_of_reads (d := (0 : Int)) (h1 := fun _ => rfl) hr0) hc0 h).mono ?_
 rintro e w' ⟨rfl, hd⟩
 exact ⟨rfl, hd⟩

end Go.Proofs.Ytomidfnhbnhhmaa.Kb

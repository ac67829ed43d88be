-- half
-- Written by a program of this session's (wip/mp) out of the translation, over the kit's print with changes.
import Derived.Test.YtmidgjmlgjjobaaIgx0
import Derived.Test.YtmidgjmlgjjobaaIgx1
import Derived.Test.YtmidgjmlgjjobaaIgx2
namespace Go.Proofs.Ytmidgjmlgjjobaa.Ig
open Go.RowKit Go.Proofs.YtmidgjmlgjjobaaW.PrintWords Go.Proofs.YtmidgjmlgjjobaaW.PrintLast Go.Proofs.YtmidgjmlgjjobaaW.PrintMore
attribute [local go_sem] max2_int min2_int max_two min_two max_three min_three max_four min_four   -- for this text's walks alone
set_option linter.unusedVariables false
set_option linter.unusedSimpArgs false

/-! ### spec_HydraFight: function 15 -/
mutual
def spec_HydraFight.j0 : Nat → List Int → Int → Bool → Option (Int)
 | 0, _, _, _ => none
 | k + 1, x0, x1, x15 => if x15 = true then (some (-1)) else (spec_HydraFight.l0 k x0 x1 0)
def spec_HydraFight.l0 : Nat → List Int → Int → Int → Option (Int)
 | 0, _, _, _ => none
 | k + 1, x0, x1, x5 => if x5 ≤ 400 then (if (x0.length : Int) = 1 then (some x5) else ((spec_HydraHeads.f k x0).bind fun t173 => ((spec_HydraCut.f k x0 (wrap64 (t173 - 1)) x1).bind fun bt174 => (if bt174.2 = true then (spec_HydraFight.l0 k bt174.1 x1 (wrap64 (x5 + 1))) else (some (-1)))))) else (some (-1))
end
def spec_HydraFight.f (k : Nat) (l0 : List Int) (a1 : Int) : Option (Int) := (spec_HydraValid.f k l0).bind fun t171 => (if t171 = true then ((spec_l1In.f a1 1 9).bind fun t172 => (spec_HydraFight.j0 k l0 a1 (!t172))) else (spec_HydraFight.j0 k l0 a1 true))
theorem spec_HydraFight.mono_l : ∀ k, (∀ y0 y1 y2, LeO (spec_HydraFight.j0 k y0 y1 y2) (spec_HydraFight.j0 (k + 1) y0 y1 y2)) ∧ (∀ y0 y1 y2, LeO (spec_HydraFight.l0 k y0 y1 y2) (spec_HydraFight.l0 (k + 1) y0 y1 y2))
 | 0 => ⟨fun _ _ _ r h => by simp [spec_HydraFight.j0] at h, fun _ _ _ r h => by simp [spec_HydraFight.l0] at h⟩
 | k + 1 => by
  obtain ⟨ih0, ih1⟩ := spec_HydraFight.mono_l k;refine ⟨?_, ?_⟩
  all_goals (intros; first | unfold spec_HydraFight.j0 | unfold spec_HydraFight.l0)
  all_goals repeat' first | (with_reducible exact ih0 _ _ _) | (with_reducible exact ih1 _ _ _) | (with_reducible exact spec_HydraCut.mono _ _ _ _) | (with_reducible exact spec_HydraHeads.mono _ _) | (with_reducible exact spec_HydraValid.mono _ _) | (with_reducible exact LeO.refl _) | (with_reducible exact LeO.none _) | (with_reducible refine LeO.ite ?_ ?_) | (with_reducible refine LeO.bind ?_ (fun _ => ?_))
theorem spec_HydraFight.mono : ∀ a0 a1 k, LeO (spec_HydraFight.f k a0 a1) (spec_HydraFight.f (k + 1) a0 a1) := by
 intro a0 a1 k;obtain ⟨ih0, ih1⟩ := spec_HydraFight.mono_l k;unfold spec_HydraFight.f
 repeat' first | (with_reducible exact ih0 _ _ _) | (with_reducible exact ih1 _ _ _) | (with_reducible exact spec_HydraCut.mono _ _ _ _) | (with_reducible exact spec_HydraHeads.mono _ _) | (with_reducible exact spec_HydraValid.mono _ _) | (with_reducible exact LeO.refl _) | (with_reducible exact LeO.none _) | (with_reducible refine LeO.ite ?_ ?_) | (with_reducible refine LeO.bind ?_ (fun _ => ?_))
set_option maxHeartbeats 8000000 in
set_option maxRecDepth 100000 in
theorem spec_HydraFight.calls (k : Nat) (P0_ : Nat → Prop) (A0 : Option Addr) (c0 : Nat) (l0 : List Int) (a1 : Int) (r : Int) (w : World) (hs0 : Kd.V (Kd.int .i64) 3 w w.heap.size (fun k_ => P0_ k_) (.slice A0 l0.length c0) l0) (h : spec_HydraFight.f k l0 a1 = some r) :
  Calls Try.prog 15 #[.slice A0 l0.length c0, .int .i64 a1] w fun e w' => e = .returned (.int .i64 r) ∧ Below w.heap.size w w' := by
 have HO0 := am (show Kd.V (Kd.int .i64) 3 w w.heap.size (fun k_ => (P0_ k_ ∨ w.heap.size ≤ k_)) (.slice A0 l0.length c0) l0 from Kd.V_mono hs0 (fun k_ hk => .inl hk));have HB := am (Below.refl w.heap.size w);have H : ((spec_HydraValid.f k l0).bind fun t171 => (if t171 = true then ((spec_l1In.f a1 1 9).bind fun t172 => (spec_HydraFight.j0 k l0 a1 (!t172))) else (spec_HydraFight.j0 k l0 a1 true))) = some r := h;clear h;have HC3 := am H;clear H;go_enter Try.func15, Try.ntmps15
 go_upto_region 1 with (fail)
 go_cut [15] (fun v15 wc => ∃ (kq : Nat) (x15_2 : Bool), v15 = .bool x15_2 ∧ Aside0 (spec_HydraFight.j0 kq l0 a1 x15_2 = some r) ∧ Aside0 (kq ≤ k) ∧ Aside0 (Kd.V (Kd.int .i64) 3 wc w.heap.size (fun k_ => (P0_ k_ ∨ w.heap.size ≤ k_)) (.slice A0 l0.length c0) l0) ∧ Aside0 (Below w.heap.size w wc))
 case first =>
  have H := HC3.out;clear HC3;replace H := oE H;obtain ⟨t171, A4, H⟩ := H;replace H : (if t171 = true then ((spec_l1In.f a1 1 9).bind fun t172 => (spec_HydraFight.j0 k l0 a1 (!t172))) else (spec_HydraFight.j0 k l0 a1 true)) = some r := H;replace A4 := am A4;by_cases c5 : t171 = true
  ·
   subst c5
   have H1 : ((spec_l1In.f a1 1 9).bind fun t172 => (spec_HydraFight.j0 k l0 a1 (!t172))) = some r := by rw [if_pos rfl] at H; exact H
   clear H;have H := H1;clear H1;replace H := oE H;obtain ⟨t172, A6, H⟩ := H;replace H : (spec_HydraFight.j0 k l0 a1 (!t172)) = some r := H;replace A6 := am A6;have H' := am H;clear H;go_wp2_with (first | ((with_reducible refine gate_callee (f := 27) rfl ?_); refine goesL_ (some 9) rfl rfl Try.func27 (by kernel_rfl) rfl #[.slice A0 l0.length c0] rfl (by (try simp only [mA, mB, mC]); first | done | rfl) ?_; (with_reducible refine (spec_HydraValid.calls k _ _ l0 true _ ?side1 ?side2 A4.out).mono ?_); (case side1 => exact Kd.cm ((Kd.V_reads' HO0.out).2.2)); (case side2 => exact (Kd.V_reads' HO0.out).2.1); rintro e w' ⟨rfl, ⟨nd, rfl⟩⟩; refine ⟨_, rfl, ?_⟩) | (go_at_call 30; (with_reducible refine (spec_l1In.calls a1 1 9 t172 _ A6.out).mono ?_); rintro e w' ⟨rfl, ⟨nd, rfl⟩⟩));go_meet
   case rel => exact ⟨_, (!t172), (by first | rfl | (simp; done) | (simp [*]; done)), H', ⟨by first | omega | exact Nat.le_refl _⟩, ⟨Kd.vm HO0.out⟩, ⟨bm HB.out⟩⟩
  ·
   replace c5 := Bool.eq_false_iff.mpr c5;subst c5
   have H1 : (spec_HydraFight.j0 k l0 a1 true) = some r := by rw [if_neg (show ¬ (false = true) by decide)] at H; exact H
   clear H;have H := H1;clear H1;have H' := am H;clear H;go_wp2_with (first | ((with_reducible refine gate_callee (f := 27) rfl ?_); refine goesL_ (some 9) rfl rfl Try.func27 (by kernel_rfl) rfl #[.slice A0 l0.length c0] rfl (by (try simp only [mA, mB, mC]); first | done | rfl) ?_; (with_reducible refine (spec_HydraValid.calls k _ _ l0 false _ ?side1 ?side2 A4.out).mono ?_); (case side1 => exact Kd.cm ((Kd.V_reads' HO0.out).2.2)); (case side2 => exact (Kd.V_reads' HO0.out).2.1); rintro e w' ⟨rfl, ⟨nd, rfl⟩⟩; refine ⟨_, rfl, ?_⟩));go_meet
   case rel => exact ⟨_, (true), (by first | rfl | (simp; done) | (simp [*]; done)), H', ⟨by first | omega | exact Nat.le_refl _⟩, ⟨Kd.vm HO0.out⟩, ⟨bm HB.out⟩⟩
 case rest =>
  clear HC3;(try clear c1);(try clear c2);(try clear p2);(try clear c5);obtain ⟨kq, x15_2, rfl, HA, HJ2, HO_0, HB⟩ := hcut
  cases kq with
  | zero => exact absurd HA.out (by simp [spec_HydraFight.j0])
  | succ kj2 =>
   have H := HA.out;clear HA;simp only [spec_HydraFight.j0] at H;by_cases c7 : x15_2 = true
   ·
    subst c7
    have H1 : (some (-1)) = some r := by rw [if_pos rfl] at H; exact H
    clear H;have H := H1;clear H1;obtain rfl := Option.some.inj H;go_wp2;go_ret;exact ⟨by first | rfl | (simp [errW_none, errW_some] <;> rfl) | (simp [*, errW_none, errW_some] <;> rfl), bm HB.out⟩
   ·
    replace c7 := Bool.eq_false_iff.mpr c7;subst c7
    have H1 : (spec_HydraFight.l0 kj2 l0 a1 0) = some r := by rw [if_neg (show ¬ (false = true) by decide)] at H; exact H
    clear H;have H := H1;clear H1;have H' := am H;clear H;go_wp2
    go_loopg [0, 5] kj2 (fun kq v0 v5 w' => ∃ (x0_2 : List Int) (x5_2 : Int), v5 = .int .i64 x5_2 ∧ Aside0 (spec_HydraFight.l0 kq x0_2 a1 x5_2 = some r) ∧ Aside0 (kq ≤ kj2) ∧ Aside0 (Kd.V (Kd.int .i64) 3 w' w.heap.size (fun k_ => (P0_ k_ ∨ w.heap.size ≤ k_)) v0 x0_2) ∧ Aside0 (Below w.heap.size w w'))
    case atStart => exact ⟨(l0), (0), (by first | rfl | (simp; done) | (simp [*]; done)), H', ⟨Nat.le_refl _⟩, ⟨Kd.vm HO_0.out⟩, ⟨bm HB.out⟩⟩
    case round =>
     clear H';(try clear c1);(try clear c2);(try clear p2);(try clear c5);(try clear c7);(try clear p2);(try clear HO_0);(try clear HB);obtain ⟨x0_2, x5_2, rfl, HA, HK2, HO_0, HB⟩ := hrel
     cases gk with
     | zero => exact absurd HA.out (by simp [spec_HydraFight.l0])
     | succ k2 =>
      have H := HA.out;clear HA;simp only [spec_HydraFight.l0] at H;by_cases c8 : x5_2 ≤ 400
      ·
       rw [if_pos c8] at H;have c8b0 : decide (x5_2 ≤ 400) = true := decide_eq_true c8;clear c8;by_cases c9 : (x0_2.length : Int) = 1
       ·
        rw [if_pos c9] at H;have c9b0 : ((x0_2.length : Int) == 1) = true := beq_iff_eq.mpr c9;have c9b1 : ((x0_2.length : Int) != 1) = false := bne_eq_false_iff_eq.mpr c9;clear c9;obtain rfl := Option.some.inj H;obtain ⟨Ao10, co10, eo10⟩ := Kd.V_slice HO_0.out;subst eo10;go_wp2;go_ret;exact ⟨by first | rfl | (simp [errW_none, errW_some] <;> rfl) | (simp [*, errW_none, errW_some] <;> rfl), bm HB.out⟩
       ·
        rw [if_neg c9] at H;have c9b0 : ((x0_2.length : Int) == 1) = false := beq_eq_false_iff_ne.mpr c9;have c9b1 : ((x0_2.length : Int) != 1) = true := bne_iff_ne.mpr c9;replace H := oE H;obtain ⟨t173, A11, H⟩ := H;replace H : ((spec_HydraCut.f k2 x0_2 (wrap64 (t173 - 1)) a1).bind fun bt174 => (if bt174.2 = true then (spec_HydraFight.l0 k2 bt174.1 a1 (wrap64 (x5_2 + 1))) else (some (-1)))) = some r := H;replace A11 := am A11;replace H := oE H;obtain ⟨⟨t174, t175⟩, A12, H⟩ := H;replace H : (if t175 = true then (spec_HydraFight.l0 k2 t174 a1 (wrap64 (x5_2 + 1))) else (some (-1))) = some r := H;replace A12 := am A12;by_cases c13 : t175 = true
        ·
         subst c13
         have H1 : (spec_HydraFight.l0 k2 t174 a1 (wrap64 (x5_2 + 1))) = some r := by rw [if_pos rfl] at H; exact H
         clear H;have H := H1;clear H1;have H' := am H;clear H;obtain ⟨Ao14, co14, eo14⟩ := Kd.V_slice HO_0.out;subst eo14;go_wp2_with (first | ((with_reducible refine gate_callee (f := 31) rfl ?_); refine goesL_ (some 27) rfl rfl Try.func31 (by kernel_rfl) rfl #[.slice Ao14 x0_2.length co14] rfl (by (try simp only [mA, mB, mC]); first | done | rfl) ?_; (with_reducible refine (spec_HydraHeads.calls k2 _ _ x0_2 t173 _ ?side1 ?side2 A11.out).mono ?_); (case side1 => exact Kd.cm ((Kd.V_reads' HO_0.out).2.2)); (case side2 => exact (Kd.V_reads' HO_0.out).2.1); rintro e w' ⟨rfl, ⟨nd, rfl⟩⟩; refine ⟨_, rfl, ?_⟩) | ((with_reducible refine gate_callee (f := 9) rfl ?_); refine goesL_ (some 30) rfl rfl Try.func9 (by kernel_rfl) rfl #[.slice Ao14 x0_2.length co14, .int .i64 (wrap64 (t173 - 1)), .int .i64 a1] rfl (by (try simp only [mA, mB, mC]); first | done | rfl) ?_; (with_reducible refine (spec_HydraCut.calls k2 _ _ x0_2 (wrap64 (t173 - 1)) a1 t174 true _ ?side1 ?side2 A12.out).mono ?_); (case side1 => exact Kd.cm ((Kd.V_reads' HO_0.out).2.2)); (case side2 => exact (Kd.V_reads' HO_0.out).2.1); rintro e w15 ⟨v176, rfl, ho0, hb⟩; refine ⟨_, rfl, ?_⟩; replace HO_0 := am (Kd.V_elder' (Kd.vm HO_0.out) (Kd.R_base ho0) hb);have HO177 := am (Kd.R_lower (Kd.R_newM (M := fun k_ => (w.heap.size ≤ k_)) ho0 (below_size (bm HB.out)) (fun k_ h_ => h_)) (below_size (bm HB.out)));replace HB := am (below_step (bm HB.out) hb); (try clear hb); (try clear ho0)))
         go_roundg k2
         case measure => have := HJ2.out; have := HK2.out; omega
         case rel => exact ⟨(t174), (wrap64 (x5_2 + 1)), (by first | rfl | (simp; done) | (simp [*]; done)), H', ⟨by have := HJ2.out; have := HK2.out; omega⟩, ⟨Kd.V_mono (Kd.R_V (Kd.rm (Kd.R_mono HO177.out (fun _ hk => hk.1)))) (fun k_ hk => by first | exact ⟨(.inr (hk.1)), hk.2⟩ | exact (.inr (hk)))⟩, ⟨bm HB.out⟩⟩
        ·
         replace c13 := Bool.eq_false_iff.mpr c13;subst c13
         have H1 : (some (-1)) = some r := by rw [if_neg (show ¬ (false = true) by decide)] at H; exact H
         clear H;have H := H1;clear H1;obtain rfl := Option.some.inj H;obtain ⟨Ao16, co16, eo16⟩ := Kd.V_slice HO_0.out;subst eo16;go_wp2_with (first | ((with_reducible refine gate_callee (f := 31) rfl ?_); refine goesL_ (some 27) rfl rfl Try.func31 (by kernel_rfl) rfl #[.slice Ao16 x0_2.length co16] rfl (by (try simp only [mA, mB, mC]); first | done | rfl) ?_; (with_reducible refine (spec_HydraHeads.calls k2 _ _ x0_2 t173 _ ?side1 ?side2 A11.out).mono ?_); (case side1 => exact Kd.cm ((Kd.V_reads' HO_0.out).2.2)); (case side2 => exact (Kd.V_reads' HO_0.out).2.1); rintro e w' ⟨rfl, ⟨nd, rfl⟩⟩; refine ⟨_, rfl, ?_⟩) | ((with_reducible refine gate_callee (f := 9) rfl ?_); refine goesL_ (some 30) rfl rfl Try.func9 (by kernel_rfl) rfl #[.slice Ao16 x0_2.length co16, .int .i64 (wrap64 (t173 - 1)), .int .i64 a1] rfl (by (try simp only [mA, mB, mC]); first | done | rfl) ?_; (with_reducible refine (spec_HydraCut.calls k2 _ _ x0_2 (wrap64 (t173 - 1)) a1 t174 false _ ?side1 ?side2 A12.out).mono ?_); (case side1 => exact Kd.cm ((Kd.V_reads' HO_0.out).2.2)); (case side2 => exact (Kd.V_reads' HO_0.out).2.1); rintro e w17 ⟨v176, rfl, ho0, hb⟩; refine ⟨_, rfl, ?_⟩; replace HO_0 := am (Kd.V_elder' (Kd.vm HO_0.out) (Kd.R_base ho0) hb);have HO177 := am (Kd.R_lower (Kd.R_newM (M := fun k_ => (w.heap.size ≤ k_)) ho0 (below_size (bm HB.out)) (fun k_ h_ => h_)) (below_size (bm HB.out)));replace HB := am (below_step (bm HB.out) hb); (try clear hb); (try clear ho0)));go_ret;exact ⟨by first | rfl | (simp [errW_none, errW_some] <;> rfl) | (simp [*, errW_none, errW_some] <;> rfl), bm HB.out⟩
      ·
       rw [if_neg c8] at H;have c8b0 : decide (x5_2 ≤ 400) = false := decide_eq_false c8;clear c8;obtain rfl := Option.some.inj H;go_wp2;go_ret;exact ⟨by first | rfl | (simp [errW_none, errW_some] <;> rfl) | (simp [*, errW_none, errW_some] <;> rfl), bm HB.out⟩

/-! ### impl_takeHydra: function 55 -/
mutual
def impl_takeHydra.j0 : Nat → List Int → Bool → Option ((List (S49)) × List Int × Bool)
 | 0, _, _ => none
 | k + 1, x0, x24 => if x24 = true then (some (([] : List (S49)), ([] : List Int), false)) else (if 0 < (x0.length : Int) then (if 1 ≤ (x0.length : Int) then (impl_takeHydra.l0 k (x0.drop 1) (([] : List (S49))) (rd x0 0) 0) else (none)) else (none))
def impl_takeHydra.l0 : Nat → List Int → List (S49) → Int → Int → Option ((List (S49)) × List Int × Bool)
 | 0, _, _, _, _ => none
 | k + 1, x0, x6, x31, x32 => if x32 < x31 then ((impl_takeHydra.f k x0).bind fun bt189 => (if bt189.2.2 = true then (if x6.length < 5864062014805 then (impl_takeHydra.l0 k bt189.2.1 (x6 ++ [(⟨bt189.1⟩ : S49)]) x31 (wrap64 (x32 + 1))) else (none)) else (some (([] : List (S49)), ([] : List Int), false)))) else (some (x6, x0, true))
def impl_takeHydra.f : Nat → List Int → Option ((List (S49)) × List Int × Bool)
 | 0, _ => none
 | k + 1, l0 => if (l0.length : Int) = 0 then (impl_takeHydra.j0 k l0 true) else (if 0 < (l0.length : Int) then (if (rd l0 0) < 0 then (impl_takeHydra.j0 k l0 true) else (impl_takeHydra.j0 k l0 (decide ((rd l0 0) > 60)))) else (none))
end
theorem impl_takeHydra.mono_l : ∀ k, (∀ y0, LeO (impl_takeHydra.f k y0) (impl_takeHydra.f (k + 1) y0)) ∧ (∀ y0 y1, LeO (impl_takeHydra.j0 k y0 y1) (impl_takeHydra.j0 (k + 1) y0 y1)) ∧ (∀ y0 y1 y2 y3, LeO (impl_takeHydra.l0 k y0 y1 y2 y3) (impl_takeHydra.l0 (k + 1) y0 y1 y2 y3))
 | 0 => ⟨fun _ r h => by simp [impl_takeHydra.f] at h, fun _ _ r h => by simp [impl_takeHydra.j0] at h, fun _ _ _ _ r h => by simp [impl_takeHydra.l0] at h⟩
 | k + 1 => by
  obtain ⟨ih0, ih1, ih2⟩ := impl_takeHydra.mono_l k;refine ⟨?_, ?_, ?_⟩
  all_goals (intros; first | unfold impl_takeHydra.f | unfold impl_takeHydra.j0 | unfold impl_takeHydra.l0)
  all_goals repeat' first | (with_reducible exact ih0 _) | (with_reducible exact ih1 _ _) | (with_reducible exact ih2 _ _ _ _) | (with_reducible exact LeO.refl _) | (with_reducible exact LeO.none _) | (with_reducible refine LeO.ite ?_ ?_) | (with_reducible refine LeO.bind ?_ (fun _ => ?_))
theorem impl_takeHydra.mono : ∀ a0 k, LeO (impl_takeHydra.f k a0) (impl_takeHydra.f (k + 1) a0) := by
 intro a0 k;obtain ⟨ih0, ih1, ih2⟩ := impl_takeHydra.mono_l k;exact ih0 a0
set_option maxHeartbeats 8000000 in
set_option maxRecDepth 100000 in
theorem impl_takeHydra.calls (k : Nat) : ∀ (P0_ : Nat → Prop) (A0 : Option Addr) (c0 : Nat) (l0 : List Int) (r1 : List (S49)) (r2 : List Int) (r3 : Bool) (w : World) (hs0 : Kd.V (Kd.int .i64) 3 w w.heap.size (fun k_ => P0_ k_) (.slice A0 l0.length c0) l0) (h : impl_takeHydra.f k l0 = some (r1, r2, r3)),
  Calls Try.prog 55 #[.slice A0 l0.length c0] w fun e w' => ∃ v0_ v1_ : Value, e = .returned (.tuple #[v0_, v1_, .bool r3]) ∧ Kd.R k49 49 w' w.heap.size (fun k_ => (w.heap.size ≤ k_)) v0_ r1 ∧ Kd.V (Kd.int .i64) 3 w' w.heap.size (fun k_ => (P0_ k_ ∨ w.heap.size ≤ k_) ∧ some k_ ≠ (v0_ : Value).ownBlock) v1_ r2 ∧ Below w.heap.size w w' := by
 induction k using Nat.strongRecOn with
 | _ k ih =>
 intro P0_ A0 c0 l0 r1 r2 r3 w hs0 h
 cases k with
 | zero => exact absurd h (by simp [impl_takeHydra.f])
 | succ k =>
 simp only [impl_takeHydra.f] at h;have HO0 := am (show Kd.V (Kd.int .i64) 3 w w.heap.size (fun k_ => (P0_ k_ ∨ w.heap.size ≤ k_)) (.slice A0 l0.length c0) l0 from Kd.V_mono hs0 (fun k_ hk => .inl hk));have HB := am (Below.refl w.heap.size w);have H : (if (l0.length : Int) = 0 then (impl_takeHydra.j0 k l0 true) else (if 0 < (l0.length : Int) then (if (rd l0 0) < 0 then (impl_takeHydra.j0 k l0 true) else (impl_takeHydra.j0 k l0 (decide ((rd l0 0) > 60)))) else (none))) = some (r1, r2, r3) := h;clear h;have HC2 := am H;clear H;go_enter Try.func55, Try.ntmps55
 go_upto_region 1 with (fail)
 go_cut [24] (fun v24 wc => ∃ (kq : Nat) (x24_1 : Bool), v24 = .bool x24_1 ∧ Aside0 (impl_takeHydra.j0 kq l0 x24_1 = some (r1, r2, r3)) ∧ Aside0 (kq ≤ k) ∧ Aside0 (Kd.V (Kd.int .i64) 3 wc w.heap.size (fun k_ => (P0_ k_ ∨ w.heap.size ≤ k_)) (.slice A0 l0.length c0) l0) ∧ Aside0 (Below w.heap.size w wc))
 case first =>
  have H := HC2.out;clear HC2;by_cases c3 : (l0.length : Int) = 0
  ·
   rw [if_pos c3] at H;have c3b0 : ((l0.length : Int) == 0) = true := beq_iff_eq.mpr c3;have c3b1 : ((l0.length : Int) != 0) = false := bne_eq_false_iff_eq.mpr c3;clear c3
   (first | rw [c3b0] | (simp only [i64_w, i32_w]; rw [c3b0]) | skip)
   have H' := am H;clear H;go_wp2;go_meet
   case rel => exact ⟨_, (true), (by first | rfl | (simp; done) | (simp [*]; done)), H', ⟨by first | omega | exact Nat.le_refl _⟩, ⟨Kd.vm HO0.out⟩, ⟨bm HB.out⟩⟩
  ·
   rw [if_neg c3] at H;have c3b0 : ((l0.length : Int) == 0) = false := beq_eq_false_iff_ne.mpr c3;have c3b1 : ((l0.length : Int) != 0) = true := bne_iff_ne.mpr c3
   have c3b2 : ¬ (l0 = []) := fun h_ => c3 (by rw [h_]; rfl)
   (first | rw [c3b0] | (simp only [i64_w, i32_w]; rw [c3b0]) | skip)
   by_cases c4 : 0 < (l0.length : Int)
   ·
    rw [if_pos c4] at H;have c4b0 : decide (0 < (l0.length : Int)) = true := decide_eq_true c4;have c4b1 : decide (0 < l0.length) = true := decide_eq_true (by omega);clear c4;by_cases c5 : (rd l0 0) < 0
    ·
     rw [if_pos c5] at H;have c5b0 : decide ((rd l0 0) < 0) = true := decide_eq_true c5;clear c5;have H' := am H;clear H;have p178 : 0 ≤ (0 : Int) := (by omega);have q178 : 0 < (l0.length : Int) := of_decide_eq_true (by assumption);obtain ⟨ad178, e178, hx178_0⟩ := Kd.at_int (Kd.V_reads' HO0.out).2.2 0 p178 q178;cases e178
     have qi178 : (0 < l0.length) = True := eq_true (by omega);(try rw [show ((0 : Int)).toNat = 0 from rfl] at hx178_0);(try rw [Addr.add_zero'] at hx178_0);replace p178 := eq_true p178;replace q178 := eq_true q178;go_wp2;go_meet
     case rel => exact ⟨_, (true), (by first | rfl | (simp; done) | (simp [*]; done)), H', ⟨by first | omega | exact Nat.le_refl _⟩, ⟨Kd.vm HO0.out⟩, ⟨bm HB.out⟩⟩
    ·
     rw [if_neg c5] at H;have c5b0 : decide ((rd l0 0) < 0) = false := decide_eq_false c5;clear c5;have H' := am H;clear H;have p178 : 0 ≤ (0 : Int) := (by omega);have q178 : 0 < (l0.length : Int) := of_decide_eq_true (by assumption);obtain ⟨ad178, e178, hx178_0⟩ := Kd.at_int (Kd.V_reads' HO0.out).2.2 0 p178 q178;cases e178
     have qi178 : (0 < l0.length) = True := eq_true (by omega);(try rw [show ((0 : Int)).toNat = 0 from rfl] at hx178_0);(try rw [Addr.add_zero'] at hx178_0);replace p178 := eq_true p178;replace q178 := eq_true q178;have p179 : 0 ≤ (0 : Int) := (by omega);have q179 : 0 < (l0.length : Int) := of_decide_eq_true (by assumption);obtain ⟨ad179, e179, hx179_0⟩ := Kd.at_int (Kd.V_reads' HO0.out).2.2 0 p179 q179;obtain rfl : ad178 = ad179 := (by injection e179);have qi179 : (0 < l0.length) = True := eq_true (by omega);(try rw [show ((0 : Int)).toNat = 0 from rfl] at hx179_0);(try rw [Addr.add_zero'] at hx179_0);replace p179 := eq_true p179;replace q179 := eq_true q179;go_wp2;go_meet
     case rel => exact ⟨_, (decide ((rd l0 0) > 60)), (by first | rfl | (simp; done) | (simp [*]; done)), H', ⟨by first | omega | exact Nat.le_refl _⟩, ⟨Kd.vm HO0.out⟩, ⟨bm HB.out⟩⟩
   ·
    rw [if_neg c4] at H;exact absurd H (by simp)
 case rest =>
  clear HC2;(try clear p1);(try clear q1);(try clear hx1);(try clear qi1);(try clear p2);(try clear c3);(try clear c3b0);(try clear c3b1);(try clear c3b2);(try clear c4);(try clear c4b0);(try clear c4b1);(try clear c5);(try clear c5b0);(try clear hx178_0);(try clear hx179_0);(try clear p178);(try clear p179);(try clear q178);(try clear q179);obtain ⟨kq, x24_1, rfl, HA, HJ1, HO_0, HB⟩ := hcut
  cases kq with
  | zero => exact absurd HA.out (by simp [impl_takeHydra.j0])
  | succ kj1 =>
   have H := HA.out;clear HA;simp only [impl_takeHydra.j0] at H;by_cases c6 : x24_1 = true
   ·
    subst c6
    have H1 : (some (([] : List (S49)), ([] : List Int), false)) = some (r1, r2, r3) := by rw [if_pos rfl] at H; exact H
    clear H;have H := H1;clear H1;simp only [Option.some.injEq, Prod.mk.injEq] at H;obtain ⟨rfl, rfl, rfl⟩ := H;go_wp2;go_ret3;exact ⟨_, _, by first | rfl | (simp [errW_none, errW_some] <;> rfl) | (simp [*, errW_none, errW_some] <;> rfl), by first | exact Kd.R_nil _ _ _ _ _ | exact Kd.N_nil _ _ _ _ _ | exact Kd.V_nil _ _ _ _ _ | exact Kd.Y_nil _ _ _ _ _ | exact Kd.S_nil _ _ _ _ _, (by exact Kd.V_nil _ _ _ _ _), bm HB.out⟩
   ·
    replace c6 := Bool.eq_false_iff.mpr c6;subst c6
    have H1 : (if 0 < (l0.length : Int) then (if 1 ≤ (l0.length : Int) then (impl_takeHydra.l0 kj1 (l0.drop 1) (([] : List (S49))) (rd l0 0) 0) else (none)) else (none)) = some (r1, r2, r3) := by rw [if_neg (show ¬ (false = true) by decide)] at H; exact H
    clear H;have H := H1;clear H1;by_cases c7 : 0 < (l0.length : Int)
    ·
     rw [if_pos c7] at H;have c7b0 : decide (0 < (l0.length : Int)) = true := decide_eq_true c7;have c7b1 : decide (0 < l0.length) = true := decide_eq_true (by omega);clear c7;by_cases c8 : 1 ≤ (l0.length : Int)
     ·
      rw [if_pos c8] at H;have c8b0 := eq_true c8;have c8b1 : decide (1 ≤ (l0.length : Int)) = true := decide_eq_true c8;clear c8
      obtain ⟨y181, hy181⟩ : ∃ y_ : List Int, y_ = (l0.drop 1) := ⟨_, rfl⟩
      replace H : (impl_takeHydra.l0 kj1 y181 (([] : List (S49))) (rd l0 0) 0) = some (r1, r2, r3) := by first | (rw [hy181]; with_reducible exact H) | (have H2_ := oB H; rw [hy181]; with_reducible exact H2_) | (have H2_ := oB H; with_reducible exact H2_) | with_reducible exact H | (rw [hy181]; exact H) | exact H
      replace hy181 := am hy181
      obtain ⟨y186, hy186⟩ : ∃ y_ : List (S49), y_ = (([] : List (S49))) := ⟨_, rfl⟩
      replace H : (impl_takeHydra.l0 kj1 y181 y186 (rd l0 0) 0) = some (r1, r2, r3) := by first | (rw [hy186]; with_reducible exact H) | (have H2_ := oB H; rw [hy186]; with_reducible exact H2_) | (have H2_ := oB H; with_reducible exact H2_) | with_reducible exact H | (rw [hy186]; exact H) | exact H
      replace hy186 := am hy186;have H' := am H;clear H;have p180 : 0 ≤ (0 : Int) := (by omega);have q180 : 0 < (l0.length : Int) := of_decide_eq_true (by assumption);obtain ⟨ad180, e180, hx180_0⟩ := Kd.at_int (Kd.V_reads' HO_0.out).2.2 0 p180 q180;cases e180
      have qi180 : (0 < l0.length) = True := eq_true (by omega);(try rw [show ((0 : Int)).toNat = 0 from rfl] at hx180_0);(try rw [Addr.add_zero'] at hx180_0);replace p180 := eq_true p180;replace q180 := eq_true q180;have q9 : (1 : Int) ≤ ((l0.length : Int) : Int) := of_decide_eq_true (by assumption);obtain ⟨i09, hi09, _, hsz9, _⟩ := info_parts info3;have hroom9 : l0.length ≤ c0 := (Kd.V_reads' HO_0.out).2.1;have hC9 : Kd.F (Kd.int .i64) _ _ (some ad180) l0.length l0 := (Kd.V_at (base := w.heap.size) HO_0.out).2.2;have hcut9 := cut_from (P := Try.prog) 22 3 .i64 Try.underlying22 hi09 1 hsz9 (some ad180) l0.length c0 1 (by omega) q9;have hr9 := Kd.F_cut (m := (1 : Int).toNat) (c := c0) hC9 (by omega) hroom9
      obtain ⟨A9, hA9⟩ : ∃ A_, A_ = (if c0 = (1 : Int).toNat then (some ad180) else ((some ad180) : Option Addr).map (·.add ((1 : Int).toNat * 1))) := ⟨_, rfl⟩
      obtain ⟨c9, hc9⟩ : ∃ c_, c_ = c0 - (1 : Int).toNat := ⟨_, rfl⟩
      have hy9 : y181.length = l0.length - (1 : Int).toNat := (by rw [hy181.out, List.length_drop] <;> omega);rw [show (l0).drop (1 : Int).toNat = y181 from hy181.out.symm] at hr9;replace hr9 : Kd.F (Kd.int .i64) _ _ A9 y181.length y181 := (by rw [hA9]; exact hr9);rw [← hy9, ← hA9, ← hc9] at hcut9;have HO185 := am (show Kd.V (Kd.int .i64) 3 _ w.heap.size _ (.slice A9 y181.length c9) y181 from Kd.V_mk (by rw [hy9, hc9]; exact Nat.sub_le_sub_right hroom9 _) hr9);have HC185 := am (show y181.length ≤ c9 from by rw [hy9, hc9]; exact Nat.sub_le_sub_right hroom9 _);clear hr9 hC9 hroom9 hi09 hsz9 hc9;have KY9 := am hy9;have KA9 := am hA9;clear hy9 hA9;replace q9 := eq_true q9;go_wp2_with (first | ((with_reducible refine gate_dst (N := 30) rfl ?_); refine Kd.R_lit k49 _ 49 ?hg (N := 30) ?hd (xs := ([] : List (S49))) (inner := []) (ok := fun _ => True) (okp := fun _ => True) ?hr ?hp (fun _ hk => hk) trivial (Below.refl _ _) (Nat.le_refl _) (by simp) ?_; (case hd => rfl); (case hg => rfl); (case hr => first | (go_simp; done) | (go_simp; rfl)); (case hp => exact (Reps.none _ _)); intro v187 w10 ho11 hb hg_ hnew_; clear hg_ hnew_; (first | rw [← hy186.out] at ho11 | (simp only [Int.reduceToNat] at ho11; rw [← hy186.out] at ho11)); replace HO_0 := am (Kd.V_elder' (Kd.vm HO_0.out) (Kd.R_base ho11) hb);replace HO185 := am (Kd.V_elder' (Kd.vm HO185.out) (Kd.R_base ho11) hb);have HO188 := am (Kd.R_lower (Kd.R_newM (M := fun k_ => (w.heap.size ≤ k_)) ho11 (below_size (bm HB.out)) (fun k_ h_ => h_)) (below_size (bm HB.out)));replace HB := am (below_step (bm HB.out) hb); clear hb ho11))
      go_loopg [0, 6, 32] kj1 (fun kq v0 v6 v32 w' => ∃ (x0_2 : List Int) (x6_2 : List (S49)) (x32_2 : Int), v32 = .int .i64 x32_2 ∧ Aside0 (impl_takeHydra.l0 kq x0_2 x6_2 (rd l0 0) x32_2 = some (r1, r2, r3)) ∧ Aside0 (kq ≤ kj1) ∧ Aside0 (Kd.V (Kd.int .i64) 3 w' w.heap.size (fun k_ => (P0_ k_ ∨ w.heap.size ≤ k_) ∧ some k_ ≠ (v6 : Value).ownBlock) v0 x0_2) ∧ Aside0 (Kd.R k49 49 w' w.heap.size (fun k_ => (w.heap.size ≤ k_)) v6 x6_2) ∧ Aside0 (Below w.heap.size w w'))
      case atStart => exact ⟨(y181), (y186), (0), (by first | rfl | (simp; done) | (simp [*]; done)), H', ⟨Nat.le_refl _⟩, ⟨Kd.vm HO185.out⟩, ⟨Kd.rm (Kd.R_mono HO188.out (fun _ hk => hk.1))⟩, ⟨bm HB.out⟩⟩
      case round =>
       clear H';(try clear c1);(try clear p1);(try clear q1);(try clear hx1);(try clear qi1);(try clear p2);(try clear c3);(try clear c3b0);(try clear c3b1);(try clear c3b2);(try clear c4);(try clear c4b0);(try clear c4b1);(try clear c5);(try clear c5b0);(try clear c6);(try clear c7);(try clear c7b0);(try clear c7b1);(try clear c8);(try clear c8b0);(try clear c8b1);(try clear c9);(try clear q9);(try clear hx178_0);(try clear hx179_0);(try clear hx180_0);(try clear p1);(try clear p178);(try clear p179);(try clear p180);(try clear p2);(try clear q1);(try clear q178);(try clear q179);(try clear q180);(try clear q9);(try clear HO_0);(try clear HO_6);(try clear HB);obtain ⟨x0_2, x6_2, x32_2, rfl, HA, HK2, HO_0, HO_6, HB⟩ := hrel
       cases gk with
       | zero => exact absurd HA.out (by simp [impl_takeHydra.l0])
       | succ k2 =>
        have H := HA.out;clear HA;simp only [impl_takeHydra.l0] at H;by_cases c12 : x32_2 < (rd l0 0)
        ·
         rw [if_pos c12] at H;have c12b0 : decide (x32_2 < (rd l0 0)) = true := decide_eq_true c12;clear c12;replace H := oE H;obtain ⟨⟨t189, t192, t195⟩, A13, H⟩ := H;replace H : (if t195 = true then (if x6_2.length < 5864062014805 then (impl_takeHydra.l0 k2 t192 (x6_2 ++ [(⟨t189⟩ : S49)]) (rd l0 0) (wrap64 (x32_2 + 1))) else (none)) else (some (([] : List (S49)), ([] : List Int), false))) = some (r1, r2, r3) := H;replace A13 := am A13;by_cases c14 : t195 = true
         ·
          subst c14
          have H1 : (if x6_2.length < 5864062014805 then (impl_takeHydra.l0 k2 t192 (x6_2 ++ [(⟨t189⟩ : S49)]) (rd l0 0) (wrap64 (x32_2 + 1))) else (none)) = some (r1, r2, r3) := by rw [if_pos rfl] at H; exact H
          clear H;have H := H1;clear H1;by_cases c15 : x6_2.length < 5864062014805
          ·
           rw [if_pos c15] at H;have LMc15 := am c15;clear c15
           obtain ⟨y196, hy196⟩ : ∃ y_ : List (S49), y_ = (x6_2 ++ [(⟨t189⟩ : S49)]) := ⟨_, rfl⟩
           replace H : (impl_takeHydra.l0 k2 t192 y196 (rd l0 0) (wrap64 (x32_2 + 1))) = some (r1, r2, r3) := by first | (rw [hy196]; with_reducible exact H) | (have H2_ := oB H; rw [hy196]; with_reducible exact H2_) | (have H2_ := oB H; with_reducible exact H2_) | with_reducible exact H | (rw [hy196]; exact H) | exact H
           replace hy196 := am hy196;have H' := am H;clear H;obtain ⟨Ao16, co16, eo16⟩ := Kd.V_slice HO_0.out;subst eo16;go_wp2_with (first | ((with_reducible refine gate_callee (f := 55) rfl ?_); refine goesL_ (some 36) rfl rfl Try.func55 (by kernel_rfl) rfl #[.slice Ao16 x0_2.length co16] rfl (by (try simp only [mA, mB, mC]); first | done | rfl) ?_; (with_reducible refine (ih k2 (by have := HJ1.out; have := HK2.out; omega) (fun k_ => ((P0_ k_ ∨ w.heap.size ≤ k_) ∧ some k_ ≠ (u6 : Value).ownBlock)) _ _ x0_2 t189 t192 true _ ?side1 A13.out).mono ?_); (case side1 => exact HO_0.out); rintro e w17 ⟨v190, v193, rfl, ho0, ho1, hb⟩; refine ⟨_, rfl, ?_⟩; replace HO_0 := am (Kd.V_elder' (Kd.vm HO_0.out) (Kd.R_base ho0) hb);have HO191 := am (Kd.R_lower (Kd.R_new' (Kd.R_newM (M := fun k_ => (w.heap.size ≤ k_)) (Kd.R_mono (ok' := fun k_ => True) ho0 (fun _ hk_ => trivial)) (below_size (bm HB.out)) (fun k_ h_ => h_)) (Kd.R_lt (Kd.rm HO_6.out))) (below_size (bm HB.out)));have HO194 := am (Kd.V_lower (Kd.V_mono (ok' := fun k_ => (P0_ k_ ∨ w.heap.size ≤ k_) ∧ some k_ ≠ (v190 : Value).ownBlock ∧ some k_ ≠ (u6 : Value).ownBlock) ho1 (fun k_ hk_ => ⟨Or.elim hk_.1 (fun hs_ => hs_.1) (fun hn_ => (.inr (Nat.le_trans (below_size (bm HB.out)) hn_))), hk_.2, Or.elim hk_.1 (fun hs_ => hs_.2) (fun hn_ => (Kd.fresh' (Kd.R_lt (Kd.rm HO_6.out)) k_ hn_))⟩)) (below_size (bm HB.out)));replace HO_6 := am (Kd.R_elder' (Kd.rm HO_6.out) (Kd.R_base ho0) hb);replace HB := am (below_step (bm HB.out) hb); (try clear hb); (try clear hk); (try clear ho0); (try clear ho1); obtain ⟨Ao19, co19, eo19⟩ := Kd.R_slice HO191.out; subst eo19) | ((with_reducible refine gate_builtin (b := .append) (xs := #[.tmp 42, .tmp 44]) rfl ?_); at_builtin; refine Kd.R_append k49 (w0 := w) w.heap.size rfl (.tmp 42) (.tmp 44) 49 49 (.slice none 0 0) 24 rfl Try.underlying49 info49 rfl (by decide) (by omega) u6 x6_2 (⟨t189⟩ : S49) [.slice Ao19 t189.length co19] (fun k_ => (w.heap.size ≤ k_)) (fun k_ => ((fun k_ => (w.heap.size ≤ k_))) k_ ∧ some k_ ≠ (u6 : Value).ownBlock) rfl rfl ?aP (fun _ hk => hk) ?aF ?aO ?aB ?aS ?aL ?_; (case aP => exact k49_mkM _ _ _ (⟨t189⟩ : S49) (Kd.R_mono (HO191.out) (fun k_ hk => ⟨hk.1.1, hk.2⟩))); (case aB => exact (bm HB.out)); (case aF => exact (fun k_ hk => (Nat.le_trans (below_size (bm HB.out)) hk))); (case aO => exact (Kd.rm (Kd.R_mono HO_6.out (fun _ hk => hk.1)))); (case aS => exact (below_size (bm HB.out))); (case aL => have := LMc15.out; omega); intro v197 w18 ho hb hg hat; rw [← hy196.out] at ho; replace HO_0 := am (Kd.V_afterv (ok := (fun k_ => (P0_ k_ ∨ w.heap.size ≤ k_) ∧ some k_ ≠ (.slice Ao19 t189.length co19 : Value).ownBlock)) (Kd.vm (Kd.V_mono HO_0.out (fun _ hk => ⟨⟨hk.1.1, hk.2⟩, hk.1.2⟩))) hg hat);replace HO194 := am (Kd.V_afterv (ok := (fun k_ => (P0_ k_ ∨ w.heap.size ≤ k_) ∧ some k_ ≠ (.slice Ao19 t189.length co19 : Value).ownBlock)) (Kd.vm (Kd.V_mono HO194.out (fun _ hk => ⟨⟨hk.1, hk.2.1⟩, hk.2.2⟩))) hg hat);replace HB := am (hb);have HO198 := am (ho);clear HO_6 HO191; clear ho hb hg hat))
           go_roundg k2
           case measure => have := HJ1.out; have := HK2.out; omega
           case rel => exact ⟨(t192), (y196), (wrap64 (x32_2 + 1)), (by first | rfl | (simp; done) | (simp [*]; done)), H', ⟨by have := HJ1.out; have := HK2.out; omega⟩, ⟨Kd.vm (Kd.V_mono HO194.out (fun _ hk => ⟨hk.1.1, hk.2⟩))⟩, ⟨Kd.rm HO198.out⟩, ⟨bm HB.out⟩⟩
          ·
           rw [if_neg c15] at H;exact absurd H (by simp)
         ·
          replace c14 := Bool.eq_false_iff.mpr c14;subst c14
          have H1 : (some (([] : List (S49)), ([] : List Int), false)) = some (r1, r2, r3) := by rw [if_neg (show ¬ (false = true) by decide)] at H; exact H
          clear H;have H := H1;clear H1;simp only [Option.some.injEq, Prod.mk.injEq] at H;obtain ⟨rfl, rfl, rfl⟩ := H;obtain ⟨Ao20, co20, eo20⟩ := Kd.V_slice HO_0.out;subst eo20;go_wp2_with (first | ((with_reducible refine gate_callee (f := 55) rfl ?_); refine goesL_ (some 36) rfl rfl Try.func55 (by kernel_rfl) rfl #[.slice Ao20 x0_2.length co20] rfl (by (try simp only [mA, mB, mC]); first | done | rfl) ?_; (with_reducible refine (ih k2 (by have := HJ1.out; have := HK2.out; omega) (fun k_ => ((P0_ k_ ∨ w.heap.size ≤ k_) ∧ some k_ ≠ (u6 : Value).ownBlock)) _ _ x0_2 t189 t192 false _ ?side1 A13.out).mono ?_); (case side1 => exact HO_0.out); rintro e w21 ⟨v190, v193, rfl, ho0, ho1, hb⟩; refine ⟨_, rfl, ?_⟩; replace HO_0 := am (Kd.V_elder' (Kd.vm HO_0.out) (Kd.R_base ho0) hb);have HO191 := am (Kd.R_lower (Kd.R_new' (Kd.R_newM (M := fun k_ => (w.heap.size ≤ k_)) (Kd.R_mono (ok' := fun k_ => True) ho0 (fun _ hk_ => trivial)) (below_size (bm HB.out)) (fun k_ h_ => h_)) (Kd.R_lt (Kd.rm HO_6.out))) (below_size (bm HB.out)));have HO194 := am (Kd.V_lower (Kd.V_mono (ok' := fun k_ => (P0_ k_ ∨ w.heap.size ≤ k_) ∧ some k_ ≠ (v190 : Value).ownBlock ∧ some k_ ≠ (u6 : Value).ownBlock) ho1 (fun k_ hk_ => ⟨Or.elim hk_.1 (fun hs_ => hs_.1) (fun hn_ => (.inr (Nat.le_trans (below_size (bm HB.out)) hn_))), hk_.2, Or.elim hk_.1 (fun hs_ => hs_.2) (fun hn_ => (Kd.fresh' (Kd.R_lt (Kd.rm HO_6.out)) k_ hn_))⟩)) (below_size (bm HB.out)));replace HO_6 := am (Kd.R_elder' (Kd.rm HO_6.out) (Kd.R_base ho0) hb);replace HB := am (below_step (bm HB.out) hb); (try clear hb); (try clear ho0); (try clear ho1)));go_ret3;exact ⟨_, _, by first | rfl | (simp [errW_none, errW_some] <;> rfl) | (simp [*, errW_none, errW_some] <;> rfl), by first | exact Kd.R_nil _ _ _ _ _ | exact Kd.N_nil _ _ _ _ _ | exact Kd.V_nil _ _ _ _ _ | exact Kd.Y_nil _ _ _ _ _ | exact Kd.S_nil _ _ _ _ _, (by exact Kd.V_nil _ _ _ _ _), bm HB.out⟩
        ·
         rw [if_neg c12] at H;have c12b0 : decide (x32_2 < (rd l0 0)) = false := decide_eq_false c12;clear c12;simp only [Option.some.injEq, Prod.mk.injEq] at H;obtain ⟨rfl, rfl, rfl⟩ := H;go_wp2;go_ret3;exact ⟨_, _, by first | rfl | (simp [errW_none, errW_some] <;> rfl) | (simp [*, errW_none, errW_some] <;> rfl), Kd.rm HO_6.out, Kd.vm HO_0.out, bm HB.out⟩
     ·
      rw [if_neg c8] at H;exact absurd H (by simp)
    ·
     rw [if_neg c7] at H;exact absurd H (by simp)

/-! ### impl_hydraOf: function 33 -/
def impl_hydraOf.f (k : Nat) (l0 : List Int) : Option ((List (S49)) × Bool) := if (l0.length : Int) < 1 then (some (([] : List (S49)), false)) else (if (l0.length : Int) > 60 then (some (([] : List (S49)), false)) else ((impl_takeHydra.f k l0).bind fun bt199 => (if bt199.2.2 = true then (some (bt199.1, ((bt199.2.1.length : Int) == 0))) else (some (bt199.1, false)))))
theorem impl_hydraOf.mono : ∀ a0 k, LeO (impl_hydraOf.f k a0) (impl_hydraOf.f (k + 1) a0) := by
 intro a0 k;unfold impl_hydraOf.f
 repeat' first | (with_reducible exact impl_takeHydra.mono _ _) | (with_reducible exact LeO.refl _) | (with_reducible exact LeO.none _) | (with_reducible refine LeO.ite ?_ ?_) | (with_reducible refine LeO.bind ?_ (fun _ => ?_))
set_option maxHeartbeats 8000000 in
set_option maxRecDepth 100000 in
theorem impl_hydraOf.calls (k : Nat) (A0 : Option Addr) (c0 : Nat) (l0 : List Int) (r1 : List (S49)) (r2 : Bool) (w : World) (hr0 : Kd.C (Kd.int .i64) w A0 l0.length l0) (hc0 : l0.length ≤ c0) (h : impl_hydraOf.f k l0 = some (r1, r2)) :
  Calls Try.prog 33 #[.slice A0 l0.length c0] w fun e w' => ∃ v0_ : Value, e = .returned (.tuple #[v0_, .bool r2]) ∧ Kd.R k49 49 w' w.heap.size (fun _ => True) v0_ r1 ∧ Below w.heap.size w w' := by
 have HR0 := am hr0;have HC0 := am hc0;clear hr0 hc0;have HB := am (Below.refl w.heap.size w);have H : (if (l0.length : Int) < 1 then (some (([] : List (S49)), false)) else (if (l0.length : Int) > 60 then (some (([] : List (S49)), false)) else ((impl_takeHydra.f k l0).bind fun bt199 => (if bt199.2.2 = true then (some (bt199.1, ((bt199.2.1.length : Int) == 0))) else (some (bt199.1, false)))))) = some (r1, r2) := h;clear h;by_cases c2 : (l0.length : Int) < 1
 ·
  rw [if_pos c2] at H;have c2b0 : decide ((l0.length : Int) < 1) = true := decide_eq_true c2;have c2b1 : decide (l0.length < 1) = true := decide_eq_true (by omega);clear c2;simp only [Option.some.injEq, Prod.mk.injEq] at H;obtain ⟨rfl, rfl⟩ := H;go_enter Try.func33, Try.ntmps33;go_wp2;go_ret2;exact ⟨_, by first | rfl | (simp [errW_none, errW_some] <;> rfl) | (simp [*, errW_none, errW_some] <;> rfl), by first | exact Kd.R_nil _ _ _ _ _ | exact Kd.N_nil _ _ _ _ _ | exact Kd.V_nil _ _ _ _ _ | exact Kd.Y_nil _ _ _ _ _ | exact Kd.S_nil _ _ _ _ _, bm HB.out⟩
 ·
  rw [if_neg c2] at H;have c2b0 : decide ((l0.length : Int) < 1) = false := decide_eq_false c2;have c2b1 : decide (l0.length < 1) = false := decide_eq_false (by omega);clear c2;by_cases c3 : (l0.length : Int) > 60
  ·
   rw [if_pos c3] at H;have c3b0 : decide (60 < (l0.length : Int)) = true := decide_eq_true c3;have c3b1 : decide (60 < l0.length) = true := decide_eq_true (by omega);clear c3;simp only [Option.some.injEq, Prod.mk.injEq] at H;obtain ⟨rfl, rfl⟩ := H;go_enter Try.func33, Try.ntmps33;go_wp2;go_ret2;exact ⟨_, by first | rfl | (simp [errW_none, errW_some] <;> rfl) | (simp [*, errW_none, errW_some] <;> rfl), by first | exact Kd.R_nil _ _ _ _ _ | exact Kd.N_nil _ _ _ _ _ | exact Kd.V_nil _ _ _ _ _ | exact Kd.Y_nil _ _ _ _ _ | exact Kd.S_nil _ _ _ _ _, bm HB.out⟩
  ·
   rw [if_neg c3] at H;have c3b0 : decide (60 < (l0.length : Int)) = false := decide_eq_false c3;have c3b1 : decide (60 < l0.length) = false := decide_eq_false (by omega);clear c3;replace H := oE H;obtain ⟨⟨t199, t202, t205⟩, A4, H⟩ := H;replace H : (if t205 = true then (some (t199, ((t202.length : Int) == 0))) else (some (t199, false))) = some (r1, r2) := H;replace A4 := am A4;by_cases c5 : t205 = true
   ·
    subst c5
    have H1 : (some (t199, ((t202.length : Int) == 0))) = some (r1, r2) := by rw [if_pos rfl] at H; exact H
    clear H;have H := H1;clear H1;simp only [Option.some.injEq, Prod.mk.injEq] at H;obtain ⟨rfl, rfl⟩ := H;go_enter Try.func33, Try.ntmps33;go_wp2_with (first | ((with_reducible refine gate_callee (f := 55) rfl ?_); refine goesL_ (some 17) rfl rfl Try.func55 (by kernel_rfl) rfl #[.slice A0 l0.length c0] rfl (by (try simp only [mA, mB, mC]); first | done | rfl) ?_; (with_reducible refine (impl_takeHydra.calls k (fun k_ => k_ < w.heap.size) _ _ l0 t199 t202 true _ ?side1 A4.out).mono ?_); (case side1 => exact Kd.V_mk HC0.out (Kd.F_below (Kd.C_F (Kd.heap_int .i64) HR0.out) (bm HB.out))); rintro e w6 ⟨v200, v203, rfl, ho0, ho1, hb⟩; refine ⟨_, rfl, ?_⟩; have HO201 := am (Kd.R_lower (Kd.R_mono (ok' := fun k_ => True) ho0 (fun _ hk_ => trivial)) (below_size (bm HB.out)));have HO204 := am (Kd.V_lower (Kd.V_mono (ok' := fun k_ => some k_ ≠ (v200 : Value).ownBlock) ho1 (fun k_ hk_ => hk_.2)) (below_size (bm HB.out)));replace HB := am (below_step (bm HB.out) hb); (try clear hb); (try clear ho0); (try clear ho1); obtain ⟨Ao7, co7, eo7⟩ := Kd.V_slice HO204.out; subst eo7));go_ret2;exact ⟨_, by first | rfl | (simp [errW_none, errW_some] <;> rfl) | (simp [*, errW_none, errW_some] <;> rfl), Kd.rm HO201.out, bm HB.out⟩
   ·
    replace c5 := Bool.eq_false_iff.mpr c5;subst c5
    have H1 : (some (t199, false)) = some (r1, r2) := by rw [if_neg (show ¬ (false = true) by decide)] at H; exact H
    clear H;have H := H1;clear H1;simp only [Option.some.injEq, Prod.mk.injEq] at H;obtain ⟨rfl, rfl⟩ := H;go_enter Try.func33, Try.ntmps33;go_wp2_with (first | ((with_reducible refine gate_callee (f := 55) rfl ?_); refine goesL_ (some 17) rfl rfl Try.func55 (by kernel_rfl) rfl #[.slice A0 l0.length c0] rfl (by (try simp only [mA, mB, mC]); first | done | rfl) ?_; (with_reducible refine (impl_takeHydra.calls k (fun k_ => k_ < w.heap.size) _ _ l0 t199 t202 false _ ?side1 A4.out).mono ?_); (case side1 => exact Kd.V_mk HC0.out (Kd.F_below (Kd.C_F (Kd.heap_int .i64) HR0.out) (bm HB.out))); rintro e w8 ⟨v200, v203, rfl, ho0, ho1, hb⟩; refine ⟨_, rfl, ?_⟩; have HO201 := am (Kd.R_lower (Kd.R_mono (ok' := fun k_ => True) ho0 (fun _ hk_ => trivial)) (below_size (bm HB.out)));have HO204 := am (Kd.V_lower (Kd.V_mono (ok' := fun k_ => some k_ ≠ (v200 : Value).ownBlock) ho1 (fun k_ hk_ => hk_.2)) (below_size (bm HB.out)));replace HB := am (below_step (bm HB.out) hb); (try clear hb); (try clear ho0); (try clear ho1)));go_ret2;exact ⟨_, by first | rfl | (simp [errW_none, errW_some] <;> rfl) | (simp [*, errW_none, errW_some] <;> rfl), Kd.rm HO201.out, bm HB.out⟩

/-! ### impl_hydra_heads: function 34 -/
mutual
def impl_hydra_heads.l0 : Nat → Int → List (S49) → Int → Int → Option (Int)
 | 0, _, _, _, _ => none
 | k + 1, x3, x6, x7, x8 => if x8 < x7 then (if 0 ≤ x8 then (if x8 < (x6.length : Int) then (if (((rd_T49 x6 x8).f0).length : Int) = 0 then ((impl_hydra_heads.f k ((rd_T49 x6 x8).f0)).bind fun t207 => (impl_hydra_heads.l0 k (wrap64 ((wrap64 (x3 + 1)) + t207)) x6 x7 (wrap64 (x8 + 1)))) else ((impl_hydra_heads.f k ((rd_T49 x6 x8).f0)).bind fun t208 => (impl_hydra_heads.l0 k (wrap64 (x3 + t208)) x6 x7 (wrap64 (x8 + 1))))) else (none)) else (none)) else (some x3)
def impl_hydra_heads.f : Nat → List (S49) → Option (Int)
 | 0, _ => none
 | k + 1, l0 => impl_hydra_heads.l0 k 0 l0 (l0.length : Int) 0
end
theorem impl_hydra_heads.mono_l : ∀ k, (∀ y0, LeO (impl_hydra_heads.f k y0) (impl_hydra_heads.f (k + 1) y0)) ∧ (∀ y0 y1 y2 y3, LeO (impl_hydra_heads.l0 k y0 y1 y2 y3) (impl_hydra_heads.l0 (k + 1) y0 y1 y2 y3))
 | 0 => ⟨fun _ r h => by simp [impl_hydra_heads.f] at h, fun _ _ _ _ r h => by simp [impl_hydra_heads.l0] at h⟩
 | k + 1 => by
  obtain ⟨ih0, ih1⟩ := impl_hydra_heads.mono_l k;refine ⟨?_, ?_⟩
  all_goals (intros; first | unfold impl_hydra_heads.f | unfold impl_hydra_heads.l0)
  all_goals repeat' first | (with_reducible exact ih0 _) | (with_reducible exact ih1 _ _ _ _) | (with_reducible exact LeO.refl _) | (with_reducible exact LeO.none _) | (with_reducible refine LeO.ite ?_ ?_) | (with_reducible refine LeO.bind ?_ (fun _ => ?_))
theorem impl_hydra_heads.mono : ∀ a0 k, LeO (impl_hydra_heads.f k a0) (impl_hydra_heads.f (k + 1) a0) := by
 intro a0 k;obtain ⟨ih0, ih1⟩ := impl_hydra_heads.mono_l k;exact ih0 a0
set_option maxHeartbeats 8000000 in
set_option maxRecDepth 100000 in
theorem impl_hydra_heads.calls (k : Nat) : ∀ (A0 : Option Addr) (c0 : Nat) (l0 : List (S49)) (r : Int) (w : World) (hr0 : Kd.C k49 w A0 l0.length l0) (hc0 : l0.length ≤ c0) (h : impl_hydra_heads.f k l0 = some r),
  Calls Try.prog 34 #[.slice A0 l0.length c0] w fun e w' => e = .returned (.int .i64 r) ∧ Drawn0 w w' := by
 induction k using Nat.strongRecOn with
 | _ k ih =>
 intro A0 c0 l0 r w hr0 hc0 h
 cases k with
 | zero => exact absurd h (by simp [impl_hydra_heads.f])
 | succ k =>
 simp only [impl_hydra_heads.f] at h;have HR0 := am hr0;have HC0 := am hc0;clear hr0 hc0;have H : (impl_hydra_heads.l0 k 0 l0 (l0.length : Int) 0) = some r := h;clear h;have H' := am H;clear H;go_enter Try.func34, Try.ntmps34;go_wp2
 go_loopg [3, 8] k (fun kq v3 v8 w' => ∃ (x3_1 : Int) (x8_1 : Int), v3 = .int .i64 x3_1 ∧ v8 = .int .i64 x8_1 ∧ Aside0 (impl_hydra_heads.l0 kq x3_1 l0 (l0.length : Int) x8_1 = some r) ∧ Aside0 (kq ≤ k) ∧ Drawn0 w w')
 case atStart => exact ⟨(0), (0), (by first | rfl | (simp; done) | (simp [*]; done)), (by first | rfl | (simp; done) | (simp [*]; done)), H', ⟨Nat.le_refl _⟩, by repeat (first | exact Drawn0.refl _ | apply Drawn0.step)⟩
 case round =>
  clear H';obtain ⟨x3_1, x8_1, rfl, rfl, HA, HK1, ⟨m1, rfl⟩⟩ := hrel
  cases gk with
  | zero => exact absurd HA.out (by simp [impl_hydra_heads.l0])
  | succ k1 =>
   have H := HA.out;clear HA;simp only [impl_hydra_heads.l0] at H;by_cases c2 : x8_1 < (l0.length : Int)
   ·
    rw [if_pos c2] at H;have c2b0 : decide (x8_1 < (l0.length : Int)) = true := decide_eq_true c2;clear c2;by_cases c3 : 0 ≤ x8_1
    ·
     rw [if_pos c3] at H;have c3b0 : decide (0 ≤ x8_1) = true := decide_eq_true c3;clear c3;by_cases c4 : x8_1 < (l0.length : Int)
     ·
      rw [if_pos c4] at H;have c4b0 : decide (x8_1 < (l0.length : Int)) = true := decide_eq_true c4;clear c4;by_cases c5 : (((rd_T49 l0 x8_1).f0).length : Int) = 0
      ·
       rw [if_pos c5] at H;have c5b0 : ((((rd_T49 l0 x8_1).f0).length : Int) == 0) = true := beq_iff_eq.mpr c5;have c5b1 : ((((rd_T49 l0 x8_1).f0).length : Int) != 0) = false := bne_eq_false_iff_eq.mpr c5;clear c5;replace H := oE H;obtain ⟨t207, A6, H⟩ := H;replace H : (impl_hydra_heads.l0 k1 (wrap64 ((wrap64 (x3_1 + 1)) + t207)) l0 (l0.length : Int) (wrap64 (x8_1 + 1))) = some r := H;replace A6 := am A6;have H' := am H;clear H;have p206 : 0 ≤ (x8_1 : Int) := of_decide_eq_true (by assumption);have q206 : x8_1 < (l0.length : Int) := of_decide_eq_true (by assumption);obtain ⟨ad206, A206_0, c206_0, e206, hx206_0, hl206_0, hi206_0⟩ := at_T49 HR0.out x8_1 p206 q206;cases e206
       have HR206_0 := am hi206_0;have HC206_0 := am hl206_0;clear hi206_0 hl206_0;replace p206 := eq_true p206;replace q206 := eq_true q206;go_wp2_with (first | ((with_reducible refine gate_callee (f := 34) rfl ?_); refine goesL_ (some 19) rfl rfl Try.func34 (by kernel_rfl) rfl #[.slice A206_0 ((rd_T49 l0 x8_1).f0).length c206_0] rfl (by (try simp only [mA, mB, mC]); first | done | rfl) ?_; (with_reducible refine (ih k1 (by have := HK1.out; omega) _ _ ((rd_T49 l0 x8_1).f0) t207 _ ?side1 ?side2 A6.out).mono ?_); (case side1 => exact Kd.cm HR206_0.out); (case side2 => exact HC206_0.out); rintro e w' ⟨rfl, ⟨nd, rfl⟩⟩; refine ⟨_, rfl, ?_⟩))
       go_roundg k1
       case measure => have := HK1.out; omega
       case rel => exact ⟨(wrap64 ((wrap64 (x3_1 + 1)) + t207)), (wrap64 (x8_1 + 1)), (by first | rfl | (simp; done) | (simp [*]; done)), (by first | rfl | (simp; done) | (simp [*]; done)), H', ⟨by have := HK1.out; omega⟩, by repeat (first | exact Drawn0.refl _ | apply Drawn0.step)⟩
      ·
       rw [if_neg c5] at H;have c5b0 : ((((rd_T49 l0 x8_1).f0).length : Int) == 0) = false := beq_eq_false_iff_ne.mpr c5;have c5b1 : ((((rd_T49 l0 x8_1).f0).length : Int) != 0) = true := bne_iff_ne.mpr c5
       have c5b2 : ¬ (((rd_T49 l0 x8_1).f0) = []) := fun h_ => c5 (by rw [h_]; rfl)
       replace H := oE H;obtain ⟨t208, A7, H⟩ := H;replace H : (impl_hydra_heads.l0 k1 (wrap64 (x3_1 + t208)) l0 (l0.length : Int) (wrap64 (x8_1 + 1))) = some r := H;replace A7 := am A7;have H' := am H;clear H;have p206 : 0 ≤ (x8_1 : Int) := of_decide_eq_true (by assumption);have q206 : x8_1 < (l0.length : Int) := of_decide_eq_true (by assumption);obtain ⟨ad206, A206_0, c206_0, e206, hx206_0, hl206_0, hi206_0⟩ := at_T49 HR0.out x8_1 p206 q206;cases e206
       have HR206_0 := am hi206_0;have HC206_0 := am hl206_0;clear hi206_0 hl206_0;replace p206 := eq_true p206;replace q206 := eq_true q206;go_wp2_with (first | ((with_reducible refine gate_callee (f := 34) rfl ?_); refine goesL_ (some 19) rfl rfl Try.func34 (by kernel_rfl) rfl #[.slice A206_0 ((rd_T49 l0 x8_1).f0).length c206_0] rfl (by (try simp only [mA, mB, mC]); first | done | rfl) ?_; (with_reducible refine (ih k1 (by have := HK1.out; omega) _ _ ((rd_T49 l0 x8_1).f0) t208 _ ?side1 ?side2 A7.out).mono ?_); (case side1 => exact Kd.cm HR206_0.out); (case side2 => exact HC206_0.out); rintro e w' ⟨rfl, ⟨nd, rfl⟩⟩; refine ⟨_, rfl, ?_⟩))
       go_roundg k1
       case measure => have := HK1.out; omega
       case rel => exact ⟨(wrap64 (x3_1 + t208)), (wrap64 (x8_1 + 1)), (by first | rfl | (simp; done) | (simp [*]; done)), (by first | rfl | (simp; done) | (simp [*]; done)), H', ⟨by have := HK1.out; omega⟩, by repeat (first | exact Drawn0.refl _ | apply Drawn0.step)⟩
     ·
      rw [if_neg c4] at H;exact absurd H (by simp)
    ·
     rw [if_neg c3] at H;exact absurd H (by simp)
   ·
    rw [if_neg c2] at H;have c2b0 : decide (x8_1 < (l0.length : Int)) = false := decide_eq_false c2;clear c2;obtain rfl := Option.some.inj H;go_wp2;go_ret;exact ⟨by first | rfl | (simp; done) | (simp [*]; done), by repeat (first | exact Drawn0.refl _ | apply Drawn0.step)⟩

end Go.Proofs.Ytmidgjmlgjjobaa.Ig

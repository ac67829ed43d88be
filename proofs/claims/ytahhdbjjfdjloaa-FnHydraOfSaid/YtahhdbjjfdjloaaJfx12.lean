-- half
-- Written by a program of this session's (wip/mp) out of the translation, over the kit's print with changes.
import Derived.Test.YtahhdbjjfdjloaaJfx0
import Derived.Test.YtahhdbjjfdjloaaJfx1
namespace Go.Proofs.Ytahhdbjjfdjloaa.Jf
open Go.RowKit Go.Proofs.YtahhdbjjfdjloaaW.PrintWords Go.Proofs.YtahhdbjjfdjloaaW.PrintLast Go.Proofs.YtahhdbjjfdjloaaW.PrintMore
attribute [local go_sem] max2_int min2_int max_two min_two max_three min_three max_four min_four   -- for this text's walks alone
set_option linter.unusedVariables false
set_option linter.unusedSimpArgs false

/-! ### spec_OrdOf: function 90 -/
def spec_OrdOf.f (a0 : Int) : Option (List Int) := (spec_l1In.f a0 0 9999).bind fun t447 => (if t447 = true then (if a0 = 0 then (some (([0] : List Int))) else (some (([1, a0, 0] : List Int)))) else (some (([] : List Int))))
set_option maxHeartbeats 8000000 in
set_option maxRecDepth 100000 in
theorem spec_OrdOf.calls (a0 : Int) (r : List Int) (w : World) (h : spec_OrdOf.f a0 = some r) :
  Calls Try.prog 90 #[.int .i64 a0] w fun e w' => ∃ v0_ : Value, e = .returned (v0_) /\ Kd.R (Kd.int .i64) 3 w' w.heap.size (fun _ => True) v0_ r /\ Below w.heap.size w w' := by
 have HB := am (Below.refl w.heap.size w);have H : ((spec_l1In.f a0 0 9999).bind fun t447 => (if t447 = true then (if a0 = 0 then (some (([0] : List Int))) else (some (([1, a0, 0] : List Int)))) else (some (([] : List Int))))) = some r := h;clear h;replace H := oE H;obtain ⟨t447, A2, H⟩ := H;replace H : (if t447 = true then (if a0 = 0 then (some (([0] : List Int))) else (some (([1, a0, 0] : List Int)))) else (some (([] : List Int)))) = some r := H;replace A2 := am A2;by_cases c3 : t447 = true
 ·
  subst c3
  have H1 : (if a0 = 0 then (some (([0] : List Int))) else (some (([1, a0, 0] : List Int)))) = some r := by rw [if_pos rfl] at H; exact H
  clear H;have H := H1;clear H1;by_cases c4 : a0 = 0
  ·
   rw [if_pos c4] at H;have c4b0 : (a0 == 0) = true := beq_iff_eq.mpr c4;have c4b1 : (a0 != 0) = false := bne_eq_false_iff_eq.mpr c4;clear c4
   obtain ⟨y448, hy448⟩ : ∃ y_ : List Int, y_ = (([0] : List Int)) := ⟨_, rfl⟩
   replace H : (some y448) = some r := by (rw [hy448]; with_reducible exact H)
   replace hy448 := am hy448;obtain rfl := Option.some.inj H;go_enter Try.func90, Try.ntmps90;go_wp2_with (first | ((with_reducible refine gate_callee (f := 58) rfl ?_); refine goesL_ (some 4) rfl rfl Try.func58 (by kernel_rfl) rfl #[.int .i64 a0, .int .i64 0, .int .i64 9999] rfl (by (try simp only [mA, mB, mC]); rfl) ?_; (with_reducible refine (spec_l1In.calls a0 0 9999 true _ A2.out).mono ?_); rintro e w' ⟨rfl, ⟨nd, rfl⟩⟩; refine ⟨_, rfl, ?_⟩) | ((with_reducible refine gate_dst (N := 9) rfl ?_); refine Kd.R_lit (Kd.int .i64) _ 3 ?hg (N := 9) ?hd (xs := ([0] : List Int)) (inner := [.int .i64 0]) (ok := fun _ => True) (okp := fun _ => True) ?hr ?hp (fun _ hk => hk) trivial (Below.refl _ _) (Nat.le_refl _) (by simp) ?_; (case hd => rfl); (case hg => rfl); (case hr => (go_simp; done)); (case hp => exact (Reps.one (show Kd.M (Kd.int .i64) _ _ _ 0 [.int .i64 0] from rfl) (Reps.none _ _))); intro v449 w5 ho6 hb hg_ hnew_; clear hg_ hnew_; (rw [<- hy448.out] at ho6); have HO450 := am (Kd.R_lower ho6 (below_size (bm HB.out)));replace HB := am (below_step (bm HB.out) hb); clear hb ho6));go_ret;exact ⟨_, by rfl, Kd.rm HO450.out, bm HB.out⟩
  ·
   rw [if_neg c4] at H;have c4b0 : (a0 == 0) = false := beq_eq_false_iff_ne.mpr c4;have c4b1 : (a0 != 0) = true := bne_iff_ne.mpr c4
   obtain ⟨y451, hy451⟩ : ∃ y_ : List Int, y_ = (([1, a0, 0] : List Int)) := ⟨_, rfl⟩
   replace H : (some y451) = some r := by (rw [hy451]; with_reducible exact H)
   replace hy451 := am hy451;obtain rfl := Option.some.inj H;go_enter Try.func90, Try.ntmps90;go_wp2_with (first | ((with_reducible refine gate_callee (f := 58) rfl ?_); refine goesL_ (some 4) rfl rfl Try.func58 (by kernel_rfl) rfl #[.int .i64 a0, .int .i64 0, .int .i64 9999] rfl (by (try simp only [mA, mB, mC]); rfl) ?_; (with_reducible refine (spec_l1In.calls a0 0 9999 true _ A2.out).mono ?_); rintro e w' ⟨rfl, ⟨nd, rfl⟩⟩; refine ⟨_, rfl, ?_⟩) | ((with_reducible refine gate_dst (N := 11) rfl ?_); refine Kd.R_lit (Kd.int .i64) _ 3 ?hg (N := 11) ?hd (xs := ([1, a0, 0] : List Int)) (inner := [.int .i64 1, .int .i64 a0, .int .i64 0]) (ok := fun _ => True) (okp := fun _ => True) ?hr ?hp (fun _ hk => hk) trivial (Below.refl _ _) (Nat.le_refl _) (by simp) ?_; (case hd => rfl); (case hg => rfl); (case hr => (go_simp; done)); (case hp => exact (Reps.one (show Kd.M (Kd.int .i64) _ _ _ 1 [.int .i64 1] from rfl) (Reps.one (show Kd.M (Kd.int .i64) _ _ _ a0 [.int .i64 a0] from rfl) (Reps.one (show Kd.M (Kd.int .i64) _ _ _ 0 [.int .i64 0] from rfl) (Reps.none _ _))))); intro v452 w7 ho8 hb hg_ hnew_; clear hg_ hnew_; (rw [<- hy451.out] at ho8); have HO453 := am (Kd.R_lower ho8 (below_size (bm HB.out)));replace HB := am (below_step (bm HB.out) hb); clear hb ho8));go_ret;exact ⟨_, by rfl, Kd.rm HO453.out, bm HB.out⟩
 ·
  replace c3 := Bool.eq_false_iff.mpr c3;subst c3
  have H1 : (some (([] : List Int))) = some r := by rw [if_neg (show ¬ (false = true) by decide)] at H; exact H
  clear H;have H := H1;clear H1
  obtain ⟨y454, hy454⟩ : ∃ y_ : List Int, y_ = (([] : List Int)) := ⟨_, rfl⟩
  replace H : (some y454) = some r := by (rw [hy454]; with_reducible exact H)
  replace hy454 := am hy454;obtain rfl := Option.some.inj H;go_enter Try.func90, Try.ntmps90;go_wp2_with (first | ((with_reducible refine gate_callee (f := 58) rfl ?_); refine goesL_ (some 4) rfl rfl Try.func58 (by kernel_rfl) rfl #[.int .i64 a0, .int .i64 0, .int .i64 9999] rfl (by (try simp only [mA, mB, mC]); rfl) ?_; (with_reducible refine (spec_l1In.calls a0 0 9999 false _ A2.out).mono ?_); rintro e w' ⟨rfl, ⟨nd, rfl⟩⟩; refine ⟨_, rfl, ?_⟩) | ((with_reducible refine gate_dst (N := 6) rfl ?_); refine Kd.R_lit (Kd.int .i64) _ 3 ?hg (N := 6) ?hd (xs := ([] : List Int)) (inner := []) (ok := fun _ => True) (okp := fun _ => True) ?hr ?hp (fun _ hk => hk) trivial (Below.refl _ _) (Nat.le_refl _) (by simp) ?_; (case hd => rfl); (case hg => rfl); (case hr => (go_simp; done)); (case hp => exact (Reps.none _ _)); intro v455 w9 ho10 hb hg_ hnew_; clear hg_ hnew_; (rw [<- hy454.out] at ho10); have HO456 := am (Kd.R_lower ho10 (below_size (bm HB.out)));replace HB := am (below_step (bm HB.out) hb); clear hb ho10));go_ret;exact ⟨_, by rfl, Kd.rm HO456.out, bm HB.out⟩

end Go.Proofs.Ytahhdbjjfdjloaa.Jf

-- half
-- Written by a program of this session's (wip/mp) out of the translation, over the kit's print with changes.
import Derived.Test.YtahhdbjjfdjloaaJfx0
import Derived.Test.YtahhdbjjfdjloaaJfx1
import Derived.Test.YtahhdbjjfdjloaaJfx2
namespace Go.Proofs.Ytahhdbjjfdjloaa.Jf
open Go.RowKit Go.Proofs.YtahhdbjjfdjloaaW.PrintWords Go.Proofs.YtahhdbjjfdjloaaW.PrintLast Go.Proofs.YtahhdbjjfdjloaaW.PrintMore
attribute [local go_sem] max2_int min2_int max_two min_two max_three min_three max_four min_four   -- for this text's walks alone
set_option linter.unusedVariables false
set_option linter.unusedSimpArgs false

/-! ### spec_l1End: function 63 -/
mutual
def spec_l1End.j0 : Nat -> List Int -> Int -> Bool -> Option (Int)
 | 0, _, _, _ => none
 | k + 1, x0, x1, x20 => if x20 = true then (some (-1)) else (if 0 <= x1 then (if x1 < (x0.length : Int) then (spec_l1End.l0 k x0 (wrap64 (x1 + 1)) (rd x0 x1) (([] : List Int)) 0) else (none)) else (none))
def spec_l1End.l0 : Nat -> List Int -> Int -> Int -> List Int -> Int -> Option (Int)
 | 0, _, _, _, _, _ => none
 | k + 1, x0, x1, x5, x6, x7 => if x7 < x5 then (if x1 >= (x0.length : Int) then (spec_l1End.j2 k x0 x1 x5 x6 x7 true) else (if 0 <= x1 then (if x1 < (x0.length : Int) then ((spec_l1In.f (rd x0 x1) 1 9999).bind fun t148 => (spec_l1End.j2 k x0 x1 x5 x6 x7 (!t148))) else (none)) else (none))) else (some x1)
def spec_l1End.j2 : Nat -> List Int -> Int -> Int -> List Int -> Int -> Bool -> Option (Int)
 | 0, _, _, _, _, _, _ => none
 | k + 1, x0, x1, x5, x6, x7, x44 => if x44 = true then (some (-1)) else ((spec_l1End.f k x0 (wrap64 (x1 + 1))).bind fun t149 => (if t149 < 0 then (some (-1)) else (if x7 > 0 then (if 0 <= (wrap64 (x1 + 1)) then (if (wrap64 (x1 + 1)) <= t149 then (if t149 <= (x0.length : Int) then ((spec_l1Compare.f k ((x0.take (t149 : Int).toNat).drop ((wrap64 (x1 + 1)) : Int).toNat) x6).bind fun t155 => (if t155 >= 0 then (some (-1)) else (spec_l1End.l0 k x0 t149 x5 ((x0.take (t149 : Int).toNat).drop ((wrap64 (x1 + 1)) : Int).toNat) (wrap64 (x7 + 1))))) else (none)) else (none)) else (none)) else (if 0 <= (wrap64 (x1 + 1)) then (if (wrap64 (x1 + 1)) <= t149 then (if t149 <= (x0.length : Int) then (spec_l1End.l0 k x0 t149 x5 ((x0.take (t149 : Int).toNat).drop ((wrap64 (x1 + 1)) : Int).toNat) (wrap64 (x7 + 1))) else (none)) else (none)) else (none)))))
def spec_l1End.f : Nat -> List Int -> Int -> Option (Int)
 | 0, _, _ => none
 | k + 1, l0, a1 => if a1 >= (l0.length : Int) then (spec_l1End.j0 k l0 a1 true) else (if 0 <= a1 then (if a1 < (l0.length : Int) then ((spec_l1In.f (rd l0 a1) 0 60).bind fun t142 => (spec_l1End.j0 k l0 a1 (!t142))) else (none)) else (none))
end
theorem spec_l1End.mono_l : ∀ k, (∀ y0 y1, LeO (spec_l1End.f k y0 y1) (spec_l1End.f (k + 1) y0 y1)) /\ (∀ y0 y1 y2, LeO (spec_l1End.j0 k y0 y1 y2) (spec_l1End.j0 (k + 1) y0 y1 y2)) /\ (∀ y0 y1 y2 y3 y4, LeO (spec_l1End.l0 k y0 y1 y2 y3 y4) (spec_l1End.l0 (k + 1) y0 y1 y2 y3 y4)) /\ (∀ y0 y1 y2 y3 y4 y5, LeO (spec_l1End.j2 k y0 y1 y2 y3 y4 y5) (spec_l1End.j2 (k + 1) y0 y1 y2 y3 y4 y5))
 | 0 => ⟨fun _ _ r h => by simp [spec_l1End.f] at h, fun _ _ _ r h => by simp [spec_l1End.j0] at h, fun _ _ _ _ _ r h => by simp [spec_l1End.l0] at h, fun _ _ _ _ _ _ r h => by simp [spec_l1End.j2] at h⟩
 | k + 1 => by
  obtain ⟨ih0, ih1, ih2, ih3⟩ := spec_l1End.mono_l k;refine ⟨?_, ?_, ?_, ?_⟩
  all_goals (intros; first | unfold spec_l1End.f | unfold spec_l1End.j0 | unfold spec_l1End.l0 | unfold spec_l1End.j2)
  all_goals repeat' with_reducible first | exact ih0 _ _ | exact ih1 _ _ _ | exact ih2 _ _ _ _ _ | exact ih3 _ _ _ _ _ _ | exact spec_l1Compare.mono _ _ _ | exact LeO.refl _ | refine LeO.ite ?_ ?_ | refine LeO.bind ?_ (fun _ => ?_)
theorem spec_l1End.mono : ∀ a0 a1 k, LeO (spec_l1End.f k a0 a1) (spec_l1End.f (k + 1) a0 a1) := by
 intro a0 a1 k;obtain ⟨ih0, ih1, ih2, ih3⟩ := spec_l1End.mono_l k;exact ih0 a0 a1
set_option maxHeartbeats 8000000 in
set_option maxRecDepth 100000 in
theorem spec_l1End.calls (k : Nat) : ∀ (P0_ : Nat -> Prop) (A0 : Option Addr) (c0 : Nat) (l0 : List Int) (a1 : Int) (r : Int) (w : World) (hs0 : Kd.V (Kd.int .i64) 3 w w.heap.size (fun k_ => P0_ k_) (.slice A0 l0.length c0) l0) (h : spec_l1End.f k l0 a1 = some r),
  Calls Try.prog 63 #[.slice A0 l0.length c0, .int .i64 a1] w fun e w' => e = .returned (.int .i64 r) /\ Below w.heap.size w w' := by
 induction k using Nat.strongRecOn with
 | _ k ih =>
 intro P0_ A0 c0 l0 a1 r w hs0 h
 cases k with
 | zero => exact absurd h (by simp [spec_l1End.f])
 | succ k =>
 simp only [spec_l1End.f] at h;have HO0 := am (show Kd.V (Kd.int .i64) 3 w w.heap.size (fun k_ => (P0_ k_ \/ w.heap.size <= k_)) (.slice A0 l0.length c0) l0 from Kd.V_mono hs0 (fun k_ hk => .inl hk));have HB := am (Below.refl w.heap.size w);have H : (if a1 >= (l0.length : Int) then (spec_l1End.j0 k l0 a1 true) else (if 0 <= a1 then (if a1 < (l0.length : Int) then ((spec_l1In.f (rd l0 a1) 0 60).bind fun t142 => (spec_l1End.j0 k l0 a1 (!t142))) else (none)) else (none))) = some r := h;clear h;have HC3 := am H;clear H;go_enter Try.func63, Try.ntmps63
 go_upto_region 1 with (fail)
 go_cut [20] (fun v20 wc => ∃ (kq : Nat) (x20_2 : Bool), v20 = .bool x20_2 /\ Aside0 (spec_l1End.j0 kq l0 a1 x20_2 = some r) /\ Aside0 (kq <= k) /\ Aside0 (Kd.V (Kd.int .i64) 3 wc w.heap.size (fun k_ => (P0_ k_ \/ w.heap.size <= k_)) (.slice A0 l0.length c0) l0) /\ Aside0 (Below w.heap.size w wc))
 case first =>
  have H := HC3.out;clear HC3;by_cases c4 : a1 >= (l0.length : Int)
  ·
   rw [if_pos c4] at H;have c4b0 : decide ((l0.length : Int) <= a1) = true := decide_eq_true c4;clear c4
   (skip)
   have H' := am H;clear H;go_wp2;go_meet
   case rel => exact ⟨_, (true), (by rfl), H', ⟨by omega⟩, ⟨Kd.vm HO0.out⟩, ⟨bm HB.out⟩⟩
  ·
   rw [if_neg c4] at H;have c4b0 : decide ((l0.length : Int) <= a1) = false := decide_eq_false c4;clear c4
   (skip)
   by_cases c5 : 0 <= a1
   ·
    rw [if_pos c5] at H;have c5b0 : decide (0 <= a1) = true := decide_eq_true c5;clear c5;by_cases c6 : a1 < (l0.length : Int)
    ·
     rw [if_pos c6] at H;have c6b0 : decide (a1 < (l0.length : Int)) = true := decide_eq_true c6;clear c6;replace H := oE H;obtain ⟨t142, A7, H⟩ := H;replace H : (spec_l1End.j0 k l0 a1 (!t142)) = some r := H;replace A7 := am A7;have H' := am H;clear H;have p141 : 0 <= (a1 : Int) := of_decide_eq_true (by assumption);have q141 : a1 < (l0.length : Int) := of_decide_eq_true (by assumption);obtain ⟨ad141, e141, hx141_0⟩ := Kd.at_int (Kd.V_reads' HO0.out).2.2 a1 p141 q141;cases e141
     replace p141 := eq_true p141;replace q141 := eq_true q141;go_wp2_with ((go_at_call 58; (with_reducible refine (spec_l1In.calls (rd l0 a1) 0 60 t142 _ A7.out).mono ?_); rintro e w' ⟨rfl, ⟨nd, rfl⟩⟩));go_meet
     case rel => exact ⟨_, (!t142), (by rfl), H', ⟨by omega⟩, ⟨Kd.vm HO0.out⟩, ⟨bm HB.out⟩⟩
    · rw [if_neg c6] at H;exact absurd H (by simp)
   · rw [if_neg c5] at H;exact absurd H (by simp)
 case rest =>
  clear HC3;obtain ⟨kq, x20_2, rfl, HA, HJ2, HO_0, HB⟩ := hcut
  cases kq with
  | zero => exact absurd HA.out (by simp [spec_l1End.j0])
  | succ kj2 =>
   have H := HA.out;clear HA;simp only [spec_l1End.j0] at H;by_cases c8 : x20_2 = true
   ·
    subst c8
    have H1 : (some (-1)) = some r := by rw [if_pos rfl] at H; exact H
    clear H;have H := H1;clear H1;obtain rfl := Option.some.inj H;go_wp2;go_ret;exact ⟨by rfl, bm HB.out⟩
   ·
    replace c8 := Bool.eq_false_iff.mpr c8;subst c8
    have H1 : (if 0 <= a1 then (if a1 < (l0.length : Int) then (spec_l1End.l0 kj2 l0 (wrap64 (a1 + 1)) (rd l0 a1) (([] : List Int)) 0) else (none)) else (none)) = some r := by rw [if_neg (show ¬ (false = true) by decide)] at H; exact H
    clear H;have H := H1;clear H1;by_cases c9 : 0 <= a1
    ·
     rw [if_pos c9] at H;have c9b0 : decide (0 <= a1) = true := decide_eq_true c9;clear c9;by_cases c10 : a1 < (l0.length : Int)
     ·
      rw [if_pos c10] at H;have c10b0 : decide (a1 < (l0.length : Int)) = true := decide_eq_true c10;clear c10
      obtain ⟨y144, hy144⟩ : ∃ y_ : List Int, y_ = (([] : List Int)) := ⟨_, rfl⟩
      replace H : (spec_l1End.l0 kj2 l0 (wrap64 (a1 + 1)) (rd l0 a1) y144 0) = some r := by (rw [hy144]; with_reducible exact H)
      replace hy144 := am hy144;have H' := am H;clear H;have p143 : 0 <= (a1 : Int) := of_decide_eq_true (by assumption);have q143 : a1 < (l0.length : Int) := of_decide_eq_true (by assumption);obtain ⟨ad143, e143, hx143_0⟩ := Kd.at_int (Kd.V_reads' HO_0.out).2.2 a1 p143 q143;cases e143
      replace p143 := eq_true p143;replace q143 := eq_true q143;go_wp2_with (((with_reducible refine gate_dst (N := 27) rfl ?_); refine Kd.R_lit (Kd.int .i64) _ 3 ?hg (N := 27) ?hd (xs := ([] : List Int)) (inner := []) (ok := fun _ => True) (okp := fun _ => True) ?hr ?hp (fun _ hk => hk) trivial (Below.refl _ _) (Nat.le_refl _) (by simp) ?_; (case hd => rfl); (case hg => rfl); (case hr => (go_simp; done)); (case hp => exact (Reps.none _ _)); intro v145 w11 ho12 hb hg_ hnew_; clear hg_ hnew_; (rw [<- hy144.out] at ho12); replace HO_0 := am (Kd.V_elder' (Kd.vm HO_0.out) (Kd.R_base ho12) hb);have HO146 := am (Kd.R_lower (Kd.R_newM (M := fun k_ => (w.heap.size <= k_)) ho12 (below_size (bm HB.out)) (fun k_ h_ => h_)) (below_size (bm HB.out)));replace HB := am (below_step (bm HB.out) hb); clear hb ho12))
      go_loopg [1, 6, 7] kj2 (fun kq v1 v6 v7 w' => ∃ (x1_2 : Int) (x6_2 : List Int) (x7_2 : Int), v1 = .int .i64 x1_2 /\ v7 = .int .i64 x7_2 /\ Aside0 (spec_l1End.l0 kq l0 x1_2 (rd l0 a1) x6_2 x7_2 = some r) /\ Aside0 (kq <= kj2) /\ Aside0 (Kd.V (Kd.int .i64) 3 w' w.heap.size (fun k_ => (P0_ k_ \/ w.heap.size <= k_)) (.slice (some ad143) l0.length c0) l0) /\ Aside0 (Kd.V (Kd.int .i64) 3 w' w.heap.size (fun k_ => (P0_ k_ \/ w.heap.size <= k_)) v6 x6_2) /\ Aside0 (Below w.heap.size w w'))
      case atStart => exact ⟨(wrap64 (a1 + 1)), (y144), (0), (by rfl), (by rfl), H', ⟨Nat.le_refl _⟩, ⟨Kd.vm (Kd.V_mono HO_0.out (fun _ hk => hk.1))⟩, ⟨Kd.V_mono (Kd.R_V (Kd.rm (Kd.R_mono HO146.out (fun _ hk => hk.1)))) (fun k_ hk => by exact (.inr (hk)))⟩, ⟨bm HB.out⟩⟩
      case round =>
       clear H';clear c9b0;clear c10b0;clear hx143_0;clear p143;clear q143;clear HO_0;clear HB;obtain ⟨x1_2, x6_2, x7_2, rfl, rfl, HA, HK2, HO_0, HO_6, HB⟩ := hrel
       cases gk with
       | zero => exact absurd HA.out (by simp [spec_l1End.l0])
       | succ k2 =>
        have H := HA.out;clear HA;simp only [spec_l1End.l0] at H;by_cases c13 : x7_2 < (rd l0 a1)
        ·
         rw [if_pos c13] at H;have c13b0 : decide (x7_2 < (rd l0 a1)) = true := decide_eq_true c13;clear c13;have HC14 := am H;clear H
         go_upto_region 9 with (fail)
         go_cut [44] (fun v44 wc => ∃ (kq : Nat) (x44_13 : Bool), v44 = .bool x44_13 /\ Aside0 (spec_l1End.j2 kq l0 x1_2 (rd l0 a1) x6_2 x7_2 x44_13 = some r) /\ Aside0 (kq <= k2) /\ Aside0 (Kd.V (Kd.int .i64) 3 wc w.heap.size (fun k_ => (P0_ k_ \/ w.heap.size <= k_)) (.slice (some ad143) l0.length c0) l0) /\ Aside0 (Kd.V (Kd.int .i64) 3 wc w.heap.size (fun k_ => (P0_ k_ \/ w.heap.size <= k_)) u6 x6_2) /\ Aside0 (Below w.heap.size w wc))
         case first =>
          have H := HC14.out;clear HC14;by_cases c15 : x1_2 >= (l0.length : Int)
          ·
           rw [if_pos c15] at H;have c15b0 : decide ((l0.length : Int) <= x1_2) = true := decide_eq_true c15;clear c15
           (skip)
           have H' := am H;clear H;go_wp2;go_meet
           case rel => exact ⟨_, (true), (by rfl), H', ⟨by have := HJ2.out; have := HK2.out; omega⟩, ⟨Kd.vm HO_0.out⟩, ⟨Kd.vm HO_6.out⟩, ⟨bm HB.out⟩⟩
          ·
           rw [if_neg c15] at H;have c15b0 : decide ((l0.length : Int) <= x1_2) = false := decide_eq_false c15;clear c15
           (skip)
           by_cases c16 : 0 <= x1_2
           ·
            rw [if_pos c16] at H;have c16b0 : decide (0 <= x1_2) = true := decide_eq_true c16;clear c16;by_cases c17 : x1_2 < (l0.length : Int)
            ·
             rw [if_pos c17] at H;have c17b0 : decide (x1_2 < (l0.length : Int)) = true := decide_eq_true c17;clear c17;replace H := oE H;obtain ⟨t148, A18, H⟩ := H;replace H : (spec_l1End.j2 k2 l0 x1_2 (rd l0 a1) x6_2 x7_2 (!t148)) = some r := H;replace A18 := am A18;have H' := am H;clear H;have p147 : 0 <= (x1_2 : Int) := of_decide_eq_true (by assumption);have q147 : x1_2 < (l0.length : Int) := of_decide_eq_true (by assumption);obtain ⟨ad147, e147, hx147_0⟩ := Kd.at_int (Kd.V_reads' HO_0.out).2.2 x1_2 p147 q147;obtain rfl : ad143 = ad147 := (by injection e147);replace p147 := eq_true p147;replace q147 := eq_true q147;go_wp2_with ((go_at_call 58; (with_reducible refine (spec_l1In.calls (rd l0 x1_2) 1 9999 t148 _ A18.out).mono ?_); rintro e w' ⟨rfl, ⟨nd, rfl⟩⟩));go_meet
             case rel => exact ⟨_, (!t148), (by rfl), H', ⟨by have := HJ2.out; have := HK2.out; omega⟩, ⟨Kd.vm HO_0.out⟩, ⟨Kd.vm HO_6.out⟩, ⟨bm HB.out⟩⟩
            · rw [if_neg c17] at H;exact absurd H (by simp)
           · rw [if_neg c16] at H;exact absurd H (by simp)
         case rest =>
          clear HC14;clear c13b0;obtain ⟨kq, x44_13, rfl, HA, HJ13, HO_0, HO_6, HB⟩ := hcut
          cases kq with
          | zero => exact absurd HA.out (by simp [spec_l1End.j2])
          | succ kj13 =>
           have H := HA.out;clear HA;simp only [spec_l1End.j2] at H;by_cases c19 : x44_13 = true
           ·
            subst c19
            have H1 : (some (-1)) = some r := by rw [if_pos rfl] at H; exact H
            clear H;have H := H1;clear H1;obtain rfl := Option.some.inj H;go_wp2;go_ret;exact ⟨by rfl, bm HB.out⟩
           ·
            replace c19 := Bool.eq_false_iff.mpr c19;subst c19
            have H1 : ((spec_l1End.f kj13 l0 (wrap64 (x1_2 + 1))).bind fun t149 => (if t149 < 0 then (some (-1)) else (if x7_2 > 0 then (if 0 <= (wrap64 (x1_2 + 1)) then (if (wrap64 (x1_2 + 1)) <= t149 then (if t149 <= (l0.length : Int) then ((spec_l1Compare.f kj13 ((l0.take (t149 : Int).toNat).drop ((wrap64 (x1_2 + 1)) : Int).toNat) x6_2).bind fun t155 => (if t155 >= 0 then (some (-1)) else (spec_l1End.l0 kj13 l0 t149 (rd l0 a1) ((l0.take (t149 : Int).toNat).drop ((wrap64 (x1_2 + 1)) : Int).toNat) (wrap64 (x7_2 + 1))))) else (none)) else (none)) else (none)) else (if 0 <= (wrap64 (x1_2 + 1)) then (if (wrap64 (x1_2 + 1)) <= t149 then (if t149 <= (l0.length : Int) then (spec_l1End.l0 kj13 l0 t149 (rd l0 a1) ((l0.take (t149 : Int).toNat).drop ((wrap64 (x1_2 + 1)) : Int).toNat) (wrap64 (x7_2 + 1))) else (none)) else (none)) else (none))))) = some r := by rw [if_neg (show ¬ (false = true) by decide)] at H; exact H
            clear H;have H := H1;clear H1;replace H := oE H;obtain ⟨t149, A20, H⟩ := H;replace H : (if t149 < 0 then (some (-1)) else (if x7_2 > 0 then (if 0 <= (wrap64 (x1_2 + 1)) then (if (wrap64 (x1_2 + 1)) <= t149 then (if t149 <= (l0.length : Int) then ((spec_l1Compare.f kj13 ((l0.take (t149 : Int).toNat).drop ((wrap64 (x1_2 + 1)) : Int).toNat) x6_2).bind fun t155 => (if t155 >= 0 then (some (-1)) else (spec_l1End.l0 kj13 l0 t149 (rd l0 a1) ((l0.take (t149 : Int).toNat).drop ((wrap64 (x1_2 + 1)) : Int).toNat) (wrap64 (x7_2 + 1))))) else (none)) else (none)) else (none)) else (if 0 <= (wrap64 (x1_2 + 1)) then (if (wrap64 (x1_2 + 1)) <= t149 then (if t149 <= (l0.length : Int) then (spec_l1End.l0 kj13 l0 t149 (rd l0 a1) ((l0.take (t149 : Int).toNat).drop ((wrap64 (x1_2 + 1)) : Int).toNat) (wrap64 (x7_2 + 1))) else (none)) else (none)) else (none)))) = some r := H;replace A20 := am A20;by_cases c21 : t149 < 0
            · rw [if_pos c21] at H;have c21b0 : decide (t149 < 0) = true := decide_eq_true c21;clear c21;obtain rfl := Option.some.inj H;go_wp2_with (((with_reducible refine gate_callee (f := 63) rfl ?_); refine goesL_ (some 48) rfl rfl Try.func63 (by kernel_rfl) rfl #[.slice (some ad143) l0.length c0, .int .i64 (wrap64 (x1_2 + 1))] rfl (by (try simp only [mA, mB, mC]); rfl) ?_; (with_reducible refine (ih kj13 (by have := HJ2.out; have := HK2.out; have := HJ13.out; omega) (fun k_ => (P0_ k_ \/ w.heap.size <= k_)) _ _ l0 (wrap64 (x1_2 + 1)) t149 _ ?side1 A20.out).mono ?_); (case side1 => exact HO_0.out); rintro e w22 ⟨rfl, hb⟩; refine ⟨_, rfl, ?_⟩; replace HO_0 := am (Kd.V_below (Kd.vm HO_0.out) hb);replace HO_6 := am (Kd.V_below (Kd.vm HO_6.out) hb);replace HB := am (below_step (bm HB.out) hb); clear hb));go_ret;exact ⟨by rfl, bm HB.out⟩
            ·
             rw [if_neg c21] at H;have c21b0 : decide (t149 < 0) = false := decide_eq_false c21;clear c21;by_cases c23 : x7_2 > 0
             ·
              rw [if_pos c23] at H;have c23b0 : decide (0 < x7_2) = true := decide_eq_true c23;clear c23
              obtain ⟨ji24, hji24⟩ : ∃ j_ : Int, (wrap64 (x1_2 + 1)) = j_ := ⟨_, rfl⟩
              replace H : (if 0 <= (ji24) then (if (ji24) <= t149 then (if t149 <= (l0.length : Int) then ((spec_l1Compare.f kj13 ((l0.take (t149 : Int).toNat).drop ((ji24) : Int).toNat) x6_2).bind fun t155 => (if t155 >= 0 then (some (-1)) else (spec_l1End.l0 kj13 l0 t149 (rd l0 a1) ((l0.take (t149 : Int).toNat).drop ((ji24) : Int).toNat) (wrap64 (x7_2 + 1))))) else (none)) else (none)) else (none)) = some r := by (rw [hji24] at H; exact H)
              rw [hji24] at A20;have hji24w : (IntKind.i64.wrap (x1_2 + 1)) = ji24 := (i64_w _).trans hji24;by_cases c25 : 0 <= (ji24)
              ·
               rw [if_pos c25] at H;have c25b0 := eq_true c25;have c25b1 : decide (0 <= (ji24)) = true := decide_eq_true c25;clear c25;by_cases c26 : (ji24) <= t149
               ·
                rw [if_pos c26] at H;have c26b0 := eq_true c26;have c26b1 : decide ((ji24) <= t149) = true := decide_eq_true c26;clear c26;by_cases c27 : t149 <= (l0.length : Int)
                ·
                 rw [if_pos c27] at H;have c27b0 := eq_true c27;have c27b1 : decide (t149 <= (l0.length : Int)) = true := decide_eq_true c27;clear c27
                 obtain ⟨y150, hy150⟩ : ∃ y_ : List Int, y_ = ((l0.take (t149 : Int).toNat).drop ((ji24) : Int).toNat) := ⟨_, rfl⟩
                 replace H : ((spec_l1Compare.f kj13 y150 x6_2).bind fun t155 => (if t155 >= 0 then (some (-1)) else (spec_l1End.l0 kj13 l0 t149 (rd l0 a1) ((l0.take (t149 : Int).toNat).drop ((ji24) : Int).toNat) (wrap64 (x7_2 + 1))))) = some r := by (rw [hy150]; with_reducible exact H)
                 replace hy150 := am hy150;replace H := oE H;obtain ⟨t155, A28, H⟩ := H;replace H : (if t155 >= 0 then (some (-1)) else (spec_l1End.l0 kj13 l0 t149 (rd l0 a1) ((l0.take (t149 : Int).toNat).drop ((ji24) : Int).toNat) (wrap64 (x7_2 + 1)))) = some r := H;replace A28 := am A28;by_cases c29 : t155 >= 0
                 · rw [if_pos c29] at H;have c29b0 : decide (0 <= t155) = true := decide_eq_true c29;clear c29;obtain rfl := Option.some.inj H;go_wp2_with (first | ((with_reducible refine gate_callee (f := 63) rfl ?_); refine goesL_ (some 48) rfl rfl Try.func63 (by kernel_rfl) rfl #[.slice (some ad143) l0.length c0, .int .i64 ji24] rfl (by (try simp only [List.map_toArray, List.map_cons, List.map_nil]); rfl) ?_; (with_reducible refine (ih kj13 (by have := HJ2.out; have := HK2.out; have := HJ13.out; omega) (fun k_ => (P0_ k_ \/ w.heap.size <= k_)) _ _ l0 ji24 t149 _ ?side1 A20.out).mono ?_); (case side1 => exact HO_0.out); rintro e w30 ⟨rfl, hb⟩; refine ⟨_, rfl, ?_⟩; replace HO_0 := am (Kd.V_below (Kd.vm HO_0.out) hb);replace HO_6 := am (Kd.V_below (Kd.vm HO_6.out) hb);replace HB := am (below_step (bm HB.out) hb); clear hb;have q31 : (t149 : Int) <= ((l0.length : Int) : Int) := of_decide_eq_true (by assumption); obtain ⟨i031, hi031, _, hsz31, _⟩ := info_parts info3; have hroom31 : l0.length <= c0 := (Kd.V_reads' HO_0.out).2.1; have hC31 : Kd.F (Kd.int .i64) _ _ (some ad143) l0.length l0 := (Kd.V_at (base := w.heap.size) HO_0.out).2.2; have ql31 : ((ji24) : Int) <= (t149 : Int) := of_decide_eq_true (by assumption); have q031 : (0 : Int) <= ((ji24) : Int) := of_decide_eq_true (by assumption); have hcut31 := cut_mid (P := Try.prog) 22 3 .i64 .i64 Try.underlying22 hi031 1 hsz31 (some ad143) l0.length c0 (ji24) t149 q031 ql31 q31 hroom31; have hr31 := Kd.F_mid (lo := ((ji24) : Int).toNat) (hi := (t149 : Int).toNat) (c := c0) hC31 (by omega) (by omega) hroom31; obtain ⟨A31, hA31⟩ : ∃ A_, A_ = (if c0 = ((ji24) : Int).toNat then (some ad143) else ((some ad143) : Option Addr).map (·.add (((ji24) : Int).toNat * 1))) := ⟨_, rfl⟩; obtain ⟨c31, hc31⟩ : ∃ c_, c_ = c0 - ((ji24) : Int).toNat := ⟨_, rfl⟩; have hy31 : y150.length = (t149 : Int).toNat - ((ji24) : Int).toNat := (by rw [hy150.out, List.length_drop, List.length_take] <;> omega); rw [show ((l0).take (t149 : Int).toNat).drop ((ji24) : Int).toNat = y150 from hy150.out.symm] at hr31; replace hr31 : Kd.F (Kd.int .i64) _ _ A31 y150.length y150 := (by rw [hA31]; exact hr31); rw [<- hy31, <- hA31, <- hc31] at hcut31; have HO154 := am (show Kd.V (Kd.int .i64) 3 _ w.heap.size _ (.slice A31 y150.length c31) y150 from Kd.V_mk (by rw [hy31, hc31]; exact Nat.sub_le_sub_right (Nat.le_trans (by omega) hroom31) _) hr31); have HC154 := am (show y150.length <= c31 from by rw [hy31, hc31]; exact Nat.sub_le_sub_right (Nat.le_trans (by omega) hroom31) _); clear hr31 hC31 hroom31 hi031 hsz31 hc31; have KY31 := am hy31; have KA31 := am hA31; clear hy31 hA31; replace q31 := eq_true q31; obtain ⟨Ao32, co32, eo32⟩ := Kd.V_slice HO_6.out; subst eo32) | (go_at_call 87; (with_reducible refine (spec_l1Compare.calls kj13 _ _ y150 _ _ x6_2 t155 _ ?side1 ?side2 ?side3 ?side4 A28.out).mono ?_); (case side1 => exact Kd.cm ((Kd.V_reads' HO154.out).2.2)); (case side2 => exact (Kd.V_reads' HO154.out).2.1); (case side3 => exact Kd.cm ((Kd.V_reads' HO_6.out).2.2)); (case side4 => exact (Kd.V_reads' HO_6.out).2.1); rintro e w33 ⟨rfl, hb⟩; replace HO_0 := am (Kd.V_below (Kd.vm HO_0.out) hb);replace HO_6 := am (Kd.V_below (Kd.vm HO_6.out) hb);replace HO154 := am (Kd.V_below (Kd.vm HO154.out) hb);replace HB := am (below_step (bm HB.out) hb); clear hb));go_ret;exact ⟨by rfl, bm HB.out⟩
                 ·
                  rw [if_neg c29] at H;have c29b0 : decide (0 <= t155) = false := decide_eq_false c29;clear c29;have c34b0 := eq_true (of_decide_eq_true (by assumption) : 0 <= (ji24));have c35b0 := eq_true (of_decide_eq_true (by assumption) : (ji24) <= t149);have c36b0 := eq_true (of_decide_eq_true (by assumption) : t149 <= (l0.length : Int))
                  obtain ⟨y156, hy156⟩ : ∃ y_ : List Int, y_ = ((l0.take (t149 : Int).toNat).drop ((ji24) : Int).toNat) := ⟨_, rfl⟩
                  replace H : (spec_l1End.l0 kj13 l0 t149 (rd l0 a1) y156 (wrap64 (x7_2 + 1))) = some r := by (rw [hy156]; with_reducible exact H)
                  replace hy156 := am hy156;have H' := am H;clear H;go_wp2_with (first | ((with_reducible refine gate_callee (f := 63) rfl ?_); refine goesL_ (some 48) rfl rfl Try.func63 (by kernel_rfl) rfl #[.slice (some ad143) l0.length c0, .int .i64 ji24] rfl (by (try simp only [List.map_toArray, List.map_cons, List.map_nil]); rfl) ?_; (with_reducible refine (ih kj13 (by have := HJ2.out; have := HK2.out; have := HJ13.out; omega) (fun k_ => (P0_ k_ \/ w.heap.size <= k_)) _ _ l0 ji24 t149 _ ?side1 A20.out).mono ?_); (case side1 => exact HO_0.out); rintro e w37 ⟨rfl, hb⟩; refine ⟨_, rfl, ?_⟩; replace HO_0 := am (Kd.V_below (Kd.vm HO_0.out) hb);replace HO_6 := am (Kd.V_below (Kd.vm HO_6.out) hb);replace HB := am (below_step (bm HB.out) hb); clear hb;have q38 : (t149 : Int) <= ((l0.length : Int) : Int) := of_decide_eq_true (by assumption); obtain ⟨i038, hi038, _, hsz38, _⟩ := info_parts info3; have hroom38 : l0.length <= c0 := (Kd.V_reads' HO_0.out).2.1; have hC38 : Kd.F (Kd.int .i64) _ _ (some ad143) l0.length l0 := (Kd.V_at (base := w.heap.size) HO_0.out).2.2; have ql38 : ((ji24) : Int) <= (t149 : Int) := of_decide_eq_true (by assumption); have q038 : (0 : Int) <= ((ji24) : Int) := of_decide_eq_true (by assumption); have hcut38 := cut_mid (P := Try.prog) 22 3 .i64 .i64 Try.underlying22 hi038 1 hsz38 (some ad143) l0.length c0 (ji24) t149 q038 ql38 q38 hroom38; have hr38 := Kd.F_mid (lo := ((ji24) : Int).toNat) (hi := (t149 : Int).toNat) (c := c0) hC38 (by omega) (by omega) hroom38; obtain ⟨A38, hA38⟩ : ∃ A_, A_ = (if c0 = ((ji24) : Int).toNat then (some ad143) else ((some ad143) : Option Addr).map (·.add (((ji24) : Int).toNat * 1))) := ⟨_, rfl⟩; obtain ⟨c38, hc38⟩ : ∃ c_, c_ = c0 - ((ji24) : Int).toNat := ⟨_, rfl⟩; have hy38 : y150.length = (t149 : Int).toNat - ((ji24) : Int).toNat := (by rw [hy150.out, List.length_drop, List.length_take] <;> omega); rw [show ((l0).take (t149 : Int).toNat).drop ((ji24) : Int).toNat = y150 from hy150.out.symm] at hr38; replace hr38 : Kd.F (Kd.int .i64) _ _ A38 y150.length y150 := (by rw [hA38]; exact hr38); rw [<- hy38, <- hA38, <- hc38] at hcut38; have HO154 := am (show Kd.V (Kd.int .i64) 3 _ w.heap.size _ (.slice A38 y150.length c38) y150 from Kd.V_mk (by rw [hy38, hc38]; exact Nat.sub_le_sub_right (Nat.le_trans (by omega) hroom38) _) hr38); have HC154 := am (show y150.length <= c38 from by rw [hy38, hc38]; exact Nat.sub_le_sub_right (Nat.le_trans (by omega) hroom38) _); clear hr38 hC38 hroom38 hi038 hsz38 hc38; have KY38 := am hy38; have KA38 := am hA38; clear hy38 hA38; replace q38 := eq_true q38; obtain ⟨Ao39, co39, eo39⟩ := Kd.V_slice HO_6.out; subst eo39) | (go_at_call 87; (with_reducible refine (spec_l1Compare.calls kj13 _ _ y150 _ _ x6_2 t155 _ ?side1 ?side2 ?side3 ?side4 A28.out).mono ?_); (case side1 => exact Kd.cm ((Kd.V_reads' HO154.out).2.2)); (case side2 => exact (Kd.V_reads' HO154.out).2.1); (case side3 => exact Kd.cm ((Kd.V_reads' HO_6.out).2.2)); (case side4 => exact (Kd.V_reads' HO_6.out).2.1); rintro e w40 ⟨rfl, hb⟩; replace HO_0 := am (Kd.V_below (Kd.vm HO_0.out) hb);replace HO_6 := am (Kd.V_below (Kd.vm HO_6.out) hb);replace HO154 := am (Kd.V_below (Kd.vm HO154.out) hb);replace HB := am (below_step (bm HB.out) hb); clear hb;have q41 : (t149 : Int) <= ((l0.length : Int) : Int) := of_decide_eq_true (by assumption); obtain ⟨i041, hi041, _, hsz41, _⟩ := info_parts info3; have hroom41 : l0.length <= c0 := (Kd.V_reads' HO_0.out).2.1; have hC41 : Kd.F (Kd.int .i64) _ _ (some ad143) l0.length l0 := (Kd.V_at (base := w.heap.size) HO_0.out).2.2; have ql41 : ((ji24) : Int) <= (t149 : Int) := of_decide_eq_true (by assumption); have q041 : (0 : Int) <= ((ji24) : Int) := of_decide_eq_true (by assumption); have hcut41 := cut_mid (P := Try.prog) 22 3 .i64 .i64 Try.underlying22 hi041 1 hsz41 (some ad143) l0.length c0 (ji24) t149 q041 ql41 q41 hroom41; have hr41 := Kd.F_mid (lo := ((ji24) : Int).toNat) (hi := (t149 : Int).toNat) (c := c0) hC41 (by omega) (by omega) hroom41; obtain ⟨A41, hA41⟩ : ∃ A_, A_ = (if c0 = ((ji24) : Int).toNat then (some ad143) else ((some ad143) : Option Addr).map (·.add (((ji24) : Int).toNat * 1))) := ⟨_, rfl⟩; obtain ⟨c41, hc41⟩ : ∃ c_, c_ = c0 - ((ji24) : Int).toNat := ⟨_, rfl⟩; have hy41 : y156.length = (t149 : Int).toNat - ((ji24) : Int).toNat := (by rw [hy156.out, List.length_drop, List.length_take] <;> omega); rw [show ((l0).take (t149 : Int).toNat).drop ((ji24) : Int).toNat = y156 from hy156.out.symm] at hr41; replace hr41 : Kd.F (Kd.int .i64) _ _ A41 y156.length y156 := (by rw [hA41]; exact hr41); rw [<- hy41, <- hA41, <- hc41] at hcut41; have HO160 := am (show Kd.V (Kd.int .i64) 3 _ w.heap.size _ (.slice A41 y156.length c41) y156 from Kd.V_mk (by rw [hy41, hc41]; exact Nat.sub_le_sub_right (Nat.le_trans (by omega) hroom41) _) hr41); have HC160 := am (show y156.length <= c41 from by rw [hy41, hc41]; exact Nat.sub_le_sub_right (Nat.le_trans (by omega) hroom41) _); clear hr41 hC41 hroom41 hi041 hsz41 hc41; have KY41 := am hy41; have KA41 := am hA41; clear hy41 hA41; replace q41 := eq_true q41))
                  go_roundg kj13
                  case measure => have := HJ2.out; have := HK2.out; have := HJ13.out; omega
                  case rel => exact ⟨(t149), (y156), (wrap64 (x7_2 + 1)), (by rfl), (by rfl), H', ⟨by have := HJ2.out; have := HK2.out; have := HJ13.out; omega⟩, ⟨Kd.vm HO_0.out⟩, ⟨by (with_reducible repeat (first | apply Kd.V_alloc | apply Kd.V_drewN | apply Kd.V_drew)); (rw [hy156.out.trans hy150.out.symm]; exact HO154.out)⟩, ⟨bm HB.out⟩⟩
                · rw [if_neg c27] at H;exact absurd H (by simp)
               · rw [if_neg c26] at H;exact absurd H (by simp)
              · rw [if_neg c25] at H;exact absurd H (by simp)
             ·
              rw [if_neg c23] at H;have c23b0 : decide (0 < x7_2) = false := decide_eq_false c23;clear c23
              obtain ⟨ji42, hji42⟩ : ∃ j_ : Int, (wrap64 (x1_2 + 1)) = j_ := ⟨_, rfl⟩
              replace H : (if 0 <= (ji42) then (if (ji42) <= t149 then (if t149 <= (l0.length : Int) then (spec_l1End.l0 kj13 l0 t149 (rd l0 a1) ((l0.take (t149 : Int).toNat).drop ((ji42) : Int).toNat) (wrap64 (x7_2 + 1))) else (none)) else (none)) else (none)) = some r := by (rw [hji42] at H; exact H)
              rw [hji42] at A20;have hji42w : (IntKind.i64.wrap (x1_2 + 1)) = ji42 := (i64_w _).trans hji42;by_cases c43 : 0 <= (ji42)
              ·
               rw [if_pos c43] at H;have c43b0 := eq_true c43;have c43b1 : decide (0 <= (ji42)) = true := decide_eq_true c43;clear c43;by_cases c44 : (ji42) <= t149
               ·
                rw [if_pos c44] at H;have c44b0 := eq_true c44;have c44b1 : decide ((ji42) <= t149) = true := decide_eq_true c44;clear c44;by_cases c45 : t149 <= (l0.length : Int)
                ·
                 rw [if_pos c45] at H;have c45b0 := eq_true c45;have c45b1 : decide (t149 <= (l0.length : Int)) = true := decide_eq_true c45;clear c45
                 obtain ⟨y161, hy161⟩ : ∃ y_ : List Int, y_ = ((l0.take (t149 : Int).toNat).drop ((ji42) : Int).toNat) := ⟨_, rfl⟩
                 replace H : (spec_l1End.l0 kj13 l0 t149 (rd l0 a1) y161 (wrap64 (x7_2 + 1))) = some r := by (rw [hy161]; with_reducible exact H)
                 replace hy161 := am hy161;have H' := am H;clear H;go_wp2_with (((with_reducible refine gate_callee (f := 63) rfl ?_); refine goesL_ (some 48) rfl rfl Try.func63 (by kernel_rfl) rfl #[.slice (some ad143) l0.length c0, .int .i64 ji42] rfl (by (try simp only [List.map_toArray, List.map_cons, List.map_nil]); rfl) ?_; (with_reducible refine (ih kj13 (by have := HJ2.out; have := HK2.out; have := HJ13.out; omega) (fun k_ => (P0_ k_ \/ w.heap.size <= k_)) _ _ l0 ji42 t149 _ ?side1 A20.out).mono ?_); (case side1 => exact HO_0.out); rintro e w46 ⟨rfl, hb⟩; refine ⟨_, rfl, ?_⟩; replace HO_0 := am (Kd.V_below (Kd.vm HO_0.out) hb);replace HO_6 := am (Kd.V_below (Kd.vm HO_6.out) hb);replace HB := am (below_step (bm HB.out) hb); clear hb;have q47 : (t149 : Int) <= ((l0.length : Int) : Int) := of_decide_eq_true (by assumption); obtain ⟨i047, hi047, _, hsz47, _⟩ := info_parts info3; have hroom47 : l0.length <= c0 := (Kd.V_reads' HO_0.out).2.1; have hC47 : Kd.F (Kd.int .i64) _ _ (some ad143) l0.length l0 := (Kd.V_at (base := w.heap.size) HO_0.out).2.2; have ql47 : ((ji42) : Int) <= (t149 : Int) := of_decide_eq_true (by assumption); have q047 : (0 : Int) <= ((ji42) : Int) := of_decide_eq_true (by assumption); have hcut47 := cut_mid (P := Try.prog) 22 3 .i64 .i64 Try.underlying22 hi047 1 hsz47 (some ad143) l0.length c0 (ji42) t149 q047 ql47 q47 hroom47; have hr47 := Kd.F_mid (lo := ((ji42) : Int).toNat) (hi := (t149 : Int).toNat) (c := c0) hC47 (by omega) (by omega) hroom47; obtain ⟨A47, hA47⟩ : ∃ A_, A_ = (if c0 = ((ji42) : Int).toNat then (some ad143) else ((some ad143) : Option Addr).map (·.add (((ji42) : Int).toNat * 1))) := ⟨_, rfl⟩; obtain ⟨c47, hc47⟩ : ∃ c_, c_ = c0 - ((ji42) : Int).toNat := ⟨_, rfl⟩; have hy47 : y161.length = (t149 : Int).toNat - ((ji42) : Int).toNat := (by rw [hy161.out, List.length_drop, List.length_take] <;> omega); rw [show ((l0).take (t149 : Int).toNat).drop ((ji42) : Int).toNat = y161 from hy161.out.symm] at hr47; replace hr47 : Kd.F (Kd.int .i64) _ _ A47 y161.length y161 := (by rw [hA47]; exact hr47); rw [<- hy47, <- hA47, <- hc47] at hcut47; have HO165 := am (show Kd.V (Kd.int .i64) 3 _ w.heap.size _ (.slice A47 y161.length c47) y161 from Kd.V_mk (by rw [hy47, hc47]; exact Nat.sub_le_sub_right (Nat.le_trans (by omega) hroom47) _) hr47); have HC165 := am (show y161.length <= c47 from by rw [hy47, hc47]; exact Nat.sub_le_sub_right (Nat.le_trans (by omega) hroom47) _); clear hr47 hC47 hroom47 hi047 hsz47 hc47; have KY47 := am hy47; have KA47 := am hA47; clear hy47 hA47; replace q47 := eq_true q47))
                 go_roundg kj13
                 case measure => have := HJ2.out; have := HK2.out; have := HJ13.out; omega
                 case rel => exact ⟨(t149), (y161), (wrap64 (x7_2 + 1)), (by rfl), (by rfl), H', ⟨by have := HJ2.out; have := HK2.out; have := HJ13.out; omega⟩, ⟨Kd.vm HO_0.out⟩, ⟨Kd.vm HO165.out⟩, ⟨bm HB.out⟩⟩
                · rw [if_neg c45] at H;exact absurd H (by simp)
               · rw [if_neg c44] at H;exact absurd H (by simp)
              · rw [if_neg c43] at H;exact absurd H (by simp)
        · rw [if_neg c13] at H;have c13b0 : decide (x7_2 < (rd l0 a1)) = false := decide_eq_false c13;clear c13;obtain rfl := Option.some.inj H;go_wp2;go_ret;exact ⟨by rfl, bm HB.out⟩
     · rw [if_neg c10] at H;exact absurd H (by simp)
    · rw [if_neg c9] at H;exact absurd H (by simp)

/-! ### spec_OrdValid: function 35 -/
def spec_OrdValid.f (k : Nat) (l0 : List Int) : Option (Bool) := (spec_l1In.f (l0.length : Int) 1 60).bind fun t166 => (if t166 = true then ((spec_l1End.f k l0 0).bind fun t167 => (some (t167 == (l0.length : Int)))) else (some false))
theorem spec_OrdValid.mono : ∀ a0 k, LeO (spec_OrdValid.f k a0) (spec_OrdValid.f (k + 1) a0) := by
 intro a0 k;unfold spec_OrdValid.f
 repeat' with_reducible first | exact spec_l1End.mono _ _ _ | exact LeO.refl _ | refine LeO.ite ?_ ?_ | refine LeO.bind ?_ (fun _ => ?_)
set_option maxHeartbeats 8000000 in
set_option maxRecDepth 100000 in
theorem spec_OrdValid.calls (k : Nat) (A0 : Option Addr) (c0 : Nat) (l0 : List Int) (r : Bool) (w : World) (hr0 : Kd.C (Kd.int .i64) w A0 l0.length l0) (hc0 : l0.length <= c0) (h : spec_OrdValid.f k l0 = some r) :
  Calls Try.prog 35 #[.slice A0 l0.length c0] w fun e w' => e = .returned (.bool r) /\ Below w.heap.size w w' := by
 have HR0 := am hr0;have HC0 := am hc0;clear hr0 hc0;have HB := am (Below.refl w.heap.size w);have H : ((spec_l1In.f (l0.length : Int) 1 60).bind fun t166 => (if t166 = true then ((spec_l1End.f k l0 0).bind fun t167 => (some (t167 == (l0.length : Int)))) else (some false))) = some r := h;clear h;replace H := oE H;obtain ⟨t166, A2, H⟩ := H;replace H : (if t166 = true then ((spec_l1End.f k l0 0).bind fun t167 => (some (t167 == (l0.length : Int)))) else (some false)) = some r := H;replace A2 := am A2;by_cases c3 : t166 = true
 ·
  subst c3
  have H1 : ((spec_l1End.f k l0 0).bind fun t167 => (some (t167 == (l0.length : Int)))) = some r := by rw [if_pos rfl] at H; exact H
  clear H;have H := H1;clear H1;replace H := oE H;obtain ⟨t167, A4, H⟩ := H;replace H : (some (t167 == (l0.length : Int))) = some r := H;replace A4 := am A4;obtain rfl := Option.some.inj H;go_enter Try.func35, Try.ntmps35;go_wp2_with (first | ((with_reducible refine gate_callee (f := 58) rfl ?_); refine goesL_ (some 5) rfl rfl Try.func58 (by kernel_rfl) rfl #[.int .i64 (l0.length : Int), .int .i64 1, .int .i64 60] rfl (by (try simp only [mA, mB, mC]); rfl) ?_; (with_reducible refine (spec_l1In.calls (l0.length : Int) 1 60 true _ A2.out).mono ?_); rintro e w' ⟨rfl, ⟨nd, rfl⟩⟩; refine ⟨_, rfl, ?_⟩) | (go_at_call 63; (with_reducible refine (spec_l1End.calls k (fun k_ => k_ < w.heap.size) _ _ l0 0 t167 _ ?side1 A4.out).mono ?_); (case side1 => exact Kd.V_mk HC0.out (Kd.F_below (Kd.C_F (Kd.heap_int .i64) HR0.out) (bm HB.out))); rintro e w5 ⟨rfl, hb⟩; replace HB := am (below_step (bm HB.out) hb); clear hb));go_ret;exact ⟨by rfl, bm HB.out⟩
 ·
  replace c3 := Bool.eq_false_iff.mpr c3;subst c3
  have H1 : (some false) = some r := by rw [if_neg (show ¬ (false = true) by decide)] at H; exact H
  clear H;have H := H1;clear H1;obtain rfl := Option.some.inj H;go_enter Try.func35, Try.ntmps35;go_wp2_with (((with_reducible refine gate_callee (f := 58) rfl ?_); refine goesL_ (some 5) rfl rfl Try.func58 (by kernel_rfl) rfl #[.int .i64 (l0.length : Int), .int .i64 1, .int .i64 60] rfl (by (try simp only [mA, mB, mC]); rfl) ?_; (with_reducible refine (spec_l1In.calls (l0.length : Int) 1 60 false _ A2.out).mono ?_); rintro e w' ⟨rfl, ⟨nd, rfl⟩⟩; refine ⟨_, rfl, ?_⟩));go_ret;exact ⟨by rfl, bm HB.out⟩

/-! ### spec_l5Tree: function 62 -/
def spec_l5Tree.l0 : Nat -> List (List Int) -> List Int -> Int -> Option (List Int)
 | 0, _, _, _ => none
 | k + 1, x0, x3, x4 => if x4 < (x0.length : Int) then (if 0 <= x4 then (if x3.length + (rd_L1 x0 x4).length < 17592186044416 then (spec_l5Tree.l0 k x0 (x3 ++ (rd_L1 x0 x4)) (wrap64 (x4 + 1))) else (none)) else (none)) else (some x3)
def spec_l5Tree.f (k : Nat) (l0 : List (List Int)) : Option (List Int) := spec_l5Tree.l0 k l0 (([(l0.length : Int)] : List Int)) 0
theorem spec_l5Tree.mono_l : ∀ k, (∀ y0 y1 y2, LeO (spec_l5Tree.l0 k y0 y1 y2) (spec_l5Tree.l0 (k + 1) y0 y1 y2))
 | 0 => fun _ _ _ r h => by simp [spec_l5Tree.l0] at h
 | k + 1 => by
  have ih0 := spec_l5Tree.mono_l k
  ·
   intro y0 y1 y2;unfold spec_l5Tree.l0
   repeat' with_reducible first | exact ih0 _ _ _ | exact LeO.refl _ | refine LeO.ite ?_ ?_
theorem spec_l5Tree.mono : ∀ a0 k, LeO (spec_l5Tree.f k a0) (spec_l5Tree.f (k + 1) a0) := by
 intro a0 k;have ih0 := spec_l5Tree.mono_l k;unfold spec_l5Tree.f
 repeat' (with_reducible exact ih0 _ _ _)
set_option maxHeartbeats 8000000 in
set_option maxRecDepth 100000 in
theorem spec_l5Tree.calls (k : Nat) (A0 : Option Addr) (c0 : Nat) (l0 : List (List Int)) (r : List Int) (w : World) (hr0 : Kd.C (Kd.slice 3 (Kd.int .i64)) w A0 l0.length l0) (hc0 : l0.length <= c0) (h : spec_l5Tree.f k l0 = some r) :
  Calls Try.prog 62 #[.slice A0 l0.length c0] w fun e w' => ∃ v0_ : Value, e = .returned (v0_) /\ Kd.R (Kd.int .i64) 3 w' w.heap.size (fun _ => True) v0_ r /\ Below w.heap.size w w' := by
 have HR0 := am hr0;have HC0 := am hc0;clear hr0 hc0;have HB := am (Below.refl w.heap.size w);have H : (spec_l5Tree.l0 k l0 (([(l0.length : Int)] : List Int)) 0) = some r := h;clear h
 obtain ⟨y168, hy168⟩ : ∃ y_ : List Int, y_ = (([(l0.length : Int)] : List Int)) := ⟨_, rfl⟩
 replace H : (spec_l5Tree.l0 k l0 y168 0) = some r := by (rw [hy168]; with_reducible exact H)
 replace hy168 := am hy168;have H' := am H;clear H;go_enter Try.func62, Try.ntmps62;go_wp2_with (((with_reducible refine gate_dst (N := 7) rfl ?_); refine Kd.R_lit (Kd.int .i64) _ 3 ?hg (N := 7) ?hd (xs := ([(l0.length : Int)] : List Int)) (inner := [.int .i64 (l0.length : Int)]) (ok := fun _ => True) (okp := fun _ => True) ?hr ?hp (fun _ hk => hk) trivial (Below.refl _ _) (Nat.le_refl _) (by simp) ?_; (case hd => rfl); (case hg => rfl); (case hr => (go_simp; done)); (case hp => exact (Reps.one (show Kd.M (Kd.int .i64) _ _ _ (l0.length : Int) [.int .i64 (l0.length : Int)] from rfl) (Reps.none _ _))); intro v169 w2 ho3 hb hg_ hnew_; clear hg_ hnew_; (rw [<- hy168.out] at ho3); have HO170 := am (Kd.R_lower ho3 (below_size (bm HB.out)));replace HB := am (below_step (bm HB.out) hb); clear hb ho3))
 go_loopg [3, 4] k (fun kq v3 v4 w' => ∃ (x3_1 : List Int) (x4_1 : Int), v4 = .int .i64 x4_1 /\ Aside0 (spec_l5Tree.l0 kq l0 x3_1 x4_1 = some r) /\ Aside0 (kq <= k) /\ Aside0 (Kd.R (Kd.int .i64) 3 w' w.heap.size (fun _ => True) v3 x3_1) /\ Aside0 (Below w.heap.size w w'))
 case atStart => exact ⟨(y168), (0), (by rfl), H', ⟨Nat.le_refl _⟩, ⟨Kd.rm HO170.out⟩, ⟨bm HB.out⟩⟩
 case round =>
  clear H';clear HB;obtain ⟨x3_1, x4_1, rfl, HA, HK1, HO_3, HB⟩ := hrel
  cases gk with
  | zero => exact absurd HA.out (by simp [spec_l5Tree.l0])
  | succ k1 =>
   have H := HA.out;clear HA;simp only [spec_l5Tree.l0] at H;by_cases c4 : x4_1 < (l0.length : Int)
   ·
    rw [if_pos c4] at H;have c4b0 : decide (x4_1 < (l0.length : Int)) = true := decide_eq_true c4;clear c4;by_cases c5 : 0 <= x4_1
    ·
     rw [if_pos c5] at H;have c5b0 : decide (0 <= x4_1) = true := decide_eq_true c5;clear c5;by_cases c6 : x3_1.length + (rd_L1 l0 x4_1).length < 17592186044416
     ·
      rw [if_pos c6] at H;have LMc6 := am c6;clear c6
      obtain ⟨y172, hy172⟩ : ∃ y_ : List Int, y_ = (x3_1 ++ (rd_L1 l0 x4_1)) := ⟨_, rfl⟩
      replace H : (spec_l5Tree.l0 k1 l0 y172 (wrap64 (x4_1 + 1))) = some r := by (rw [hy172]; with_reducible exact H)
      replace hy172 := am hy172;have H' := am H;clear H;have p171 : 0 <= (x4_1 : Int) := of_decide_eq_true (by assumption);have q171 : x4_1 < (l0.length : Int) := of_decide_eq_true (by assumption);obtain ⟨ad171, A171_0, c171_0, e171, hx171_0, hl171_0, hi171_0⟩ := at_L1 HR0.out x4_1 p171 q171;cases e171
      replace hx171_0 := (HB.out.cell (World.block_lt_of_cell? w _ hx171_0)).trans hx171_0;have HR171_0 := am hi171_0;have HC171_0 := am hl171_0;clear hi171_0 hl171_0;replace p171 := eq_true p171;replace q171 := eq_true q171;go_wp2_with (((with_reducible refine gate_builtin (b := .append) (xs := #[.tmp 14, .tmp 18]) rfl ?_); at_builtin; refine Kd.R_append_rows (Kd.int .i64) (w0 := w) w.heap.size rfl (.tmp 14) (.tmp 18) 22 3 (.int .i64 0) 8 rfl Try.underlying22 info3 rfl (by decide) (by omega) u3 x3_1 (rd_L1 l0 x4_1) _ _ _ (fun _ => True) (fun _ => False) rfl rfl ?aO ?aR (fun _ _ h => h) (fun _ h => h.elim) ?aF ?aB ?aS ?aL ?_; (case aR => exact Kd.cm ((Kd.C_below HR171_0.out HB.out))); (case aB => exact (bm HB.out)); (case aF => exact (fun _ _ => trivial)); (case aO => exact (Kd.rm HO_3.out)); (case aS => exact (below_size (bm HB.out))); (case aL => have := LMc6.out; omega); intro v173 w7 ho hb hg hat; rw [<- hy172.out] at ho; replace HB := am (hb);have HO174 := am (ho);clear HO_3; clear ho hb hg hat))
      go_roundg k1
      case measure => have := HK1.out; omega
      case rel => exact ⟨(y172), (wrap64 (x4_1 + 1)), (by rfl), H', ⟨by have := HK1.out; omega⟩, ⟨Kd.rm HO174.out⟩, ⟨bm HB.out⟩⟩
     · rw [if_neg c6] at H;exact absurd H (by simp)
    · rw [if_neg c5] at H;exact absurd H (by simp)
   · rw [if_neg c4] at H;have c4b0 : decide (x4_1 < (l0.length : Int)) = false := decide_eq_false c4;clear c4;obtain rfl := Option.some.inj H;go_wp2;go_ret;exact ⟨_, by rfl, Kd.rm HO_3.out, bm HB.out⟩

end Go.Proofs.Ytahhdbjjfdjloaa.Jf

-- half
-- Written by a program of this session's (wip/mp) out of the translation, over the kit's print with changes.
import Derived.Test.YtahhdbjjfdjloaaJdx0
import Derived.Test.YtahhdbjjfdjloaaJdx4
import Derived.Test.YtahhdbjjfdjloaaJdx5
import Derived.Test.YtahhdbjjfdjloaaJdx6
namespace Go.Proofs.Ytahhdbjjfdjloaa.Jd
open Go.RowKit Go.Proofs.YtahhdbjjfdjloaaW.PrintWords Go.Proofs.YtahhdbjjfdjloaaW.PrintLast Go.Proofs.YtahhdbjjfdjloaaW.PrintMore
attribute [local go_sem] max2_int min2_int max_two min_two max_three min_three max_four min_four   -- for this text's walks alone
set_option linter.unusedVariables false
set_option linter.unusedSimpArgs false

/-! ### spec_l1End: function 63 -/
mutual
def spec_l1End.j0 : Nat → List Int → Int → Bool → Option (Int)
 | 0, _, _, _ => none
 | k + 1, x0, x1, x20 => if x20 = true then (some (-1)) else (if 0 ≤ x1 then (if x1 < (x0.length : Int) then (spec_l1End.l0 k x0 (wrap64 (x1 + 1)) (rd x0 x1) (([] : List Int)) 0) else (none)) else (none))
def spec_l1End.l0 : Nat → List Int → Int → Int → List Int → Int → Option (Int)
 | 0, _, _, _, _, _ => none
 | k + 1, x0, x1, x5, x6, x7 => if x7 < x5 then (if x1 ≥ (x0.length : Int) then (spec_l1End.j2 k x0 x1 x5 x6 x7 true) else (if 0 ≤ x1 then (if x1 < (x0.length : Int) then ((spec_l1In.f (rd x0 x1) 1 9999).bind fun t245 => (spec_l1End.j2 k x0 x1 x5 x6 x7 (!t245))) else (none)) else (none))) else (some x1)
def spec_l1End.j2 : Nat → List Int → Int → Int → List Int → Int → Bool → Option (Int)
 | 0, _, _, _, _, _, _ => none
 | k + 1, x0, x1, x5, x6, x7, x44 => if x44 = true then (some (-1)) else ((spec_l1End.f k x0 (wrap64 (x1 + 1))).bind fun t246 => (if t246 < 0 then (some (-1)) else (if x7 > 0 then (if 0 ≤ (wrap64 (x1 + 1)) then (if (wrap64 (x1 + 1)) ≤ t246 then (if t246 ≤ (x0.length : Int) then ((spec_l1Compare.f k ((x0.take (t246 : Int).toNat).drop ((wrap64 (x1 + 1)) : Int).toNat) x6).bind fun t252 => (if t252 ≥ 0 then (some (-1)) else (spec_l1End.l0 k x0 t246 x5 ((x0.take (t246 : Int).toNat).drop ((wrap64 (x1 + 1)) : Int).toNat) (wrap64 (x7 + 1))))) else (none)) else (none)) else (none)) else (if 0 ≤ (wrap64 (x1 + 1)) then (if (wrap64 (x1 + 1)) ≤ t246 then (if t246 ≤ (x0.length : Int) then (spec_l1End.l0 k x0 t246 x5 ((x0.take (t246 : Int).toNat).drop ((wrap64 (x1 + 1)) : Int).toNat) (wrap64 (x7 + 1))) else (none)) else (none)) else (none)))))
def spec_l1End.f : Nat → List Int → Int → Option (Int)
 | 0, _, _ => none
 | k + 1, l0, a1 => if a1 ≥ (l0.length : Int) then (spec_l1End.j0 k l0 a1 true) else (if 0 ≤ a1 then (if a1 < (l0.length : Int) then ((spec_l1In.f (rd l0 a1) 0 60).bind fun t239 => (spec_l1End.j0 k l0 a1 (!t239))) else (none)) else (none))
end
theorem spec_l1End.mono_l : ∀ k, (∀ y0 y1, LeO (spec_l1End.f k y0 y1) (spec_l1End.f (k + 1) y0 y1)) ∧ (∀ y0 y1 y2, LeO (spec_l1End.j0 k y0 y1 y2) (spec_l1End.j0 (k + 1) y0 y1 y2)) ∧ (∀ y0 y1 y2 y3 y4, LeO (spec_l1End.l0 k y0 y1 y2 y3 y4) (spec_l1End.l0 (k + 1) y0 y1 y2 y3 y4)) ∧ (∀ y0 y1 y2 y3 y4 y5, LeO (spec_l1End.j2 k y0 y1 y2 y3 y4 y5) (spec_l1End.j2 (k + 1) y0 y1 y2 y3 y4 y5))
 | 0 => ⟨fun _ _ r h => by simp [spec_l1End.f] at h, fun _ _ _ r h => by simp [spec_l1End.j0] at h, fun _ _ _ _ _ r h => by simp [spec_l1End.l0] at h, fun _ _ _ _ _ _ r h => by simp [spec_l1End.j2] at h⟩
 | k + 1 => by
  obtain ⟨ih0, ih1, ih2, ih3⟩ := spec_l1End.mono_l k;refine ⟨?_, ?_, ?_, ?_⟩
  all_goals (intros; first | unfold spec_l1End.f | unfold spec_l1End.j0 | unfold spec_l1End.l0 | unfold spec_l1End.j2)
  all_goals repeat' first | (with_reducible exact ih0 _ _) | (with_reducible exact ih1 _ _ _) | (with_reducible exact ih2 _ _ _ _ _) | (with_reducible exact ih3 _ _ _ _ _ _) | (with_reducible exact spec_l1Compare.mono _ _ _) | (with_reducible exact LeO.refl _) | (with_reducible exact LeO.none _) | (with_reducible refine LeO.ite ?_ ?_) | (with_reducible refine LeO.bind ?_ (fun _ => ?_))
theorem spec_l1End.mono : ∀ a0 a1 k, LeO (spec_l1End.f k a0 a1) (spec_l1End.f (k + 1) a0 a1) := by
 intro a0 a1 k;obtain ⟨ih0, ih1, ih2, ih3⟩ := spec_l1End.mono_l k;exact ih0 a0 a1
set_option maxHeartbeats 8000000 in
set_option maxRecDepth 100000 in
theorem spec_l1End.calls (k : Nat) : ∀ (P0_ : Nat → Prop) (A0 : Option Addr) (c0 : Nat) (l0 : List Int) (a1 : Int) (r : Int) (w : World) (hs0 : Kd.V (Kd.int .i64) 3 w w.heap.size (fun k_ => P0_ k_) (.slice A0 l0.length c0) l0) (h : spec_l1End.f k l0 a1 = some r),
  Calls Try.prog 63 #[.slice A0 l0.length c0, .int .i64 a1] w fun e w' => e = .returned (.int .i64 r) ∧ Below w.heap.size w w' := by
 induction k using Nat.strongRecOn with
 | _ k ih =>
 intro P0_ A0 c0 l0 a1 r w hs0 h
 cases k with
 | zero => exact absurd h (by simp [spec_l1End.f])
 | succ k =>
 simp only [spec_l1End.f] at h;have HO0 := am (show Kd.V (Kd.int .i64) 3 w w.heap.size (fun k_ => (P0_ k_ ∨ w.heap.size ≤ k_)) (.slice A0 l0.length c0) l0 from Kd.V_mono hs0 (fun k_ hk => .inl hk));have HB := am (Below.refl w.heap.size w);have H : (if a1 ≥ (l0.length : Int) then (spec_l1End.j0 k l0 a1 true) else (if 0 ≤ a1 then (if a1 < (l0.length : Int) then ((spec_l1In.f (rd l0 a1) 0 60).bind fun t239 => (spec_l1End.j0 k l0 a1 (!t239))) else (none)) else (none))) = some r := h;clear h;have HC3 := am H;clear H;go_enter Try.func63, Try.ntmps63
 go_upto_region 1 with (fail)
 go_cut [20] (fun v20 wc => ∃ (kq : Nat) (x20_2 : Bool), v20 = .bool x20_2 ∧ Aside0 (spec_l1End.j0 kq l0 a1 x20_2 = some r) ∧ Aside0 (kq ≤ k) ∧ Aside0 (Kd.V (Kd.int .i64) 3 wc w.heap.size (fun k_ => (P0_ k_ ∨ w.heap.size ≤ k_)) (.slice A0 l0.length c0) l0) ∧ Aside0 (Below w.heap.size w wc))
 case first =>
  have H := HC3.out;clear HC3;by_cases c4 : a1 ≥ (l0.length : Int)
  ·
   rw [if_pos c4] at H;have c4b0 : decide ((l0.length : Int) ≤ a1) = true := decide_eq_true c4;clear c4
   (first | rw [c4b0] | (simp only [i64_w, i32_w]; rw [c4b0]) | skip)
   have H' := am H;clear H;go_wp2;go_meet
   case rel => exact ⟨_, (true), (by first | rfl | (simp; done) | (simp [*]; done)), H', ⟨by first | omega | exact Nat.le_refl _⟩, ⟨Kd.vm HO0.out⟩, ⟨bm HB.out⟩⟩
  ·
   rw [if_neg c4] at H;have c4b0 : decide ((l0.length : Int) ≤ a1) = false := decide_eq_false c4;clear c4
   (first | rw [c4b0] | (simp only [i64_w, i32_w]; rw [c4b0]) | skip)
   by_cases c5 : 0 ≤ a1
   ·
    rw [if_pos c5] at H;have c5b0 : decide (0 ≤ a1) = true := decide_eq_true c5;clear c5;by_cases c6 : a1 < (l0.length : Int)
    ·
     rw [if_pos c6] at H;have c6b0 : decide (a1 < (l0.length : Int)) = true := decide_eq_true c6;clear c6;replace H := oE H;obtain ⟨t239, A7, H⟩ := H;replace H : (spec_l1End.j0 k l0 a1 (!t239)) = some r := H;replace A7 := am A7;have H' := am H;clear H;have p238 : 0 ≤ (a1 : Int) := of_decide_eq_true (by assumption);have q238 : a1 < (l0.length : Int) := of_decide_eq_true (by assumption);obtain ⟨ad238, e238, hx238_0⟩ := Kd.at_int (Kd.V_reads' HO0.out).2.2 a1 p238 q238;cases e238
     replace p238 := eq_true p238;replace q238 := eq_true q238;go_wp2_with (first | (go_at_call 58; (with_reducible refine (spec_l1In.calls (rd l0 a1) 0 60 t239 _ A7.out).mono ?_); rintro e w' ⟨rfl, ⟨nd, rfl⟩⟩));go_meet
     case rel => exact ⟨_, (!t239), (by first | rfl | (simp; done) | (simp [*]; done)), H', ⟨by first | omega | exact Nat.le_refl _⟩, ⟨Kd.vm HO0.out⟩, ⟨bm HB.out⟩⟩
    ·
     rw [if_neg c6] at H;exact absurd H (by simp)
   ·
    rw [if_neg c5] at H;exact absurd H (by simp)
 case rest =>
  clear HC3;(try clear p2);(try clear q2);(try clear hx2);(try clear c4);(try clear c4b0);(try clear c5);(try clear c5b0);(try clear c6);(try clear c6b0);(try clear hx238_0);(try clear p238);(try clear q238);obtain ⟨kq, x20_2, rfl, HA, HJ2, HO_0, HB⟩ := hcut
  cases kq with
  | zero => exact absurd HA.out (by simp [spec_l1End.j0])
  | succ kj2 =>
   have H := HA.out;clear HA;simp only [spec_l1End.j0] at H;by_cases c8 : x20_2 = true
   ·
    subst c8
    have H1 : (some (-1)) = some r := by rw [if_pos rfl] at H; exact H
    clear H;have H := H1;clear H1;obtain rfl := Option.some.inj H;go_wp2;go_ret;exact ⟨by first | rfl | (simp [errW_none, errW_some] <;> rfl) | (simp [*, errW_none, errW_some] <;> rfl), bm HB.out⟩
   ·
    replace c8 := Bool.eq_false_iff.mpr c8;subst c8
    have H1 : (if 0 ≤ a1 then (if a1 < (l0.length : Int) then (spec_l1End.l0 kj2 l0 (wrap64 (a1 + 1)) (rd l0 a1) (([] : List Int)) 0) else (none)) else (none)) = some r := by rw [if_neg (show ¬ (false = true) by decide)] at H; exact H
    clear H;have H := H1;clear H1;by_cases c9 : 0 ≤ a1
    ·
     rw [if_pos c9] at H;have c9b0 : decide (0 ≤ a1) = true := decide_eq_true c9;clear c9;by_cases c10 : a1 < (l0.length : Int)
     ·
      rw [if_pos c10] at H;have c10b0 : decide (a1 < (l0.length : Int)) = true := decide_eq_true c10;clear c10
      obtain ⟨y241, hy241⟩ : ∃ y_ : List Int, y_ = (([] : List Int)) := ⟨_, rfl⟩
      replace H : (spec_l1End.l0 kj2 l0 (wrap64 (a1 + 1)) (rd l0 a1) y241 0) = some r := by first | (rw [hy241]; with_reducible exact H) | (have H2_ := oB H; rw [hy241]; with_reducible exact H2_) | (have H2_ := oB H; with_reducible exact H2_) | with_reducible exact H | (rw [hy241]; exact H) | exact H
      replace hy241 := am hy241;have H' := am H;clear H;have p240 : 0 ≤ (a1 : Int) := of_decide_eq_true (by assumption);have q240 : a1 < (l0.length : Int) := of_decide_eq_true (by assumption);obtain ⟨ad240, e240, hx240_0⟩ := Kd.at_int (Kd.V_reads' HO_0.out).2.2 a1 p240 q240;cases e240
      replace p240 := eq_true p240;replace q240 := eq_true q240;go_wp2_with (first | ((with_reducible refine gate_dst (N := 27) rfl ?_); refine Kd.R_lit (Kd.int .i64) _ 3 ?hg (N := 27) ?hd (xs := ([] : List Int)) (inner := []) (ok := fun _ => True) (okp := fun _ => True) ?hr ?hp (fun _ hk => hk) trivial (Below.refl _ _) (Nat.le_refl _) (by simp) ?_; (case hd => rfl); (case hg => rfl); (case hr => first | (go_simp; done) | (go_simp; rfl)); (case hp => exact (Reps.none _ _)); intro v242 w11 ho12 hb hg_ hnew_; clear hg_ hnew_; (first | rw [← hy241.out] at ho12 | (simp only [Int.reduceToNat] at ho12; rw [← hy241.out] at ho12)); replace HO_0 := am (Kd.V_elder' (Kd.vm HO_0.out) (Kd.R_base ho12) hb);have HO243 := am (Kd.R_lower (Kd.R_newM (M := fun k_ => (w.heap.size ≤ k_)) ho12 (below_size (bm HB.out)) (fun k_ h_ => h_)) (below_size (bm HB.out)));replace HB := am (below_step (bm HB.out) hb); clear hb ho12))
      go_loopg [1, 6, 7] kj2 (fun kq v1 v6 v7 w' => ∃ (x1_2 : Int) (x6_2 : List Int) (x7_2 : Int), v1 = .int .i64 x1_2 ∧ v7 = .int .i64 x7_2 ∧ Aside0 (spec_l1End.l0 kq l0 x1_2 (rd l0 a1) x6_2 x7_2 = some r) ∧ Aside0 (kq ≤ kj2) ∧ Aside0 (Kd.V (Kd.int .i64) 3 w' w.heap.size (fun k_ => (P0_ k_ ∨ w.heap.size ≤ k_)) (.slice (some ad240) l0.length c0) l0) ∧ Aside0 (Kd.V (Kd.int .i64) 3 w' w.heap.size (fun k_ => (P0_ k_ ∨ w.heap.size ≤ k_)) v6 x6_2) ∧ Aside0 (Below w.heap.size w w'))
      case atStart => exact ⟨(wrap64 (a1 + 1)), (y241), (0), (by first | rfl | (simp; done) | (simp [*]; done)), (by first | rfl | (simp; done) | (simp [*]; done)), H', ⟨Nat.le_refl _⟩, ⟨Kd.vm (Kd.V_mono HO_0.out (fun _ hk => hk.1))⟩, ⟨Kd.V_mono (Kd.R_V (Kd.rm (Kd.R_mono HO243.out (fun _ hk => hk.1)))) (fun k_ hk => by first | exact ⟨(.inr (hk.1)), hk.2⟩ | exact (.inr (hk)))⟩, ⟨bm HB.out⟩⟩
      case round =>
       clear H';(try clear c1);(try clear p2);(try clear q2);(try clear hx2);(try clear c4);(try clear c4b0);(try clear c5);(try clear c5b0);(try clear c6);(try clear c6b0);(try clear p6);(try clear c8);(try clear c9);(try clear c9b0);(try clear c10);(try clear c10b0);(try clear hx238_0);(try clear hx240_0);(try clear p2);(try clear p238);(try clear p240);(try clear q2);(try clear q238);(try clear q240);(try clear HO_0);(try clear HO_6);(try clear HB);obtain ⟨x1_2, x6_2, x7_2, rfl, rfl, HA, HK2, HO_0, HO_6, HB⟩ := hrel
       cases gk with
       | zero => exact absurd HA.out (by simp [spec_l1End.l0])
       | succ k2 =>
        have H := HA.out;clear HA;simp only [spec_l1End.l0] at H;by_cases c13 : x7_2 < (rd l0 a1)
        ·
         rw [if_pos c13] at H;have c13b0 : decide (x7_2 < (rd l0 a1)) = true := decide_eq_true c13;clear c13;have HC14 := am H;clear H
         go_upto_region 9 with (fail)
         go_cut [44] (fun v44 wc => ∃ (kq : Nat) (x44_13 : Bool), v44 = .bool x44_13 ∧ Aside0 (spec_l1End.j2 kq l0 x1_2 (rd l0 a1) x6_2 x7_2 x44_13 = some r) ∧ Aside0 (kq ≤ k2) ∧ Aside0 (Kd.V (Kd.int .i64) 3 wc w.heap.size (fun k_ => (P0_ k_ ∨ w.heap.size ≤ k_)) (.slice (some ad240) l0.length c0) l0) ∧ Aside0 (Kd.V (Kd.int .i64) 3 wc w.heap.size (fun k_ => (P0_ k_ ∨ w.heap.size ≤ k_)) u6 x6_2) ∧ Aside0 (Below w.heap.size w wc))
         case first =>
          have H := HC14.out;clear HC14;by_cases c15 : x1_2 ≥ (l0.length : Int)
          ·
           rw [if_pos c15] at H;have c15b0 : decide ((l0.length : Int) ≤ x1_2) = true := decide_eq_true c15;clear c15
           (first | rw [c15b0] | (simp only [i64_w, i32_w]; rw [c15b0]) | skip)
           have H' := am H;clear H;go_wp2;go_meet
           case rel => exact ⟨_, (true), (by first | rfl | (simp; done) | (simp [*]; done)), H', ⟨by have := HJ2.out; have := HK2.out; first | omega | exact Nat.le_refl _⟩, ⟨Kd.vm HO_0.out⟩, ⟨Kd.vm HO_6.out⟩, ⟨bm HB.out⟩⟩
          ·
           rw [if_neg c15] at H;have c15b0 : decide ((l0.length : Int) ≤ x1_2) = false := decide_eq_false c15;clear c15
           (first | rw [c15b0] | (simp only [i64_w, i32_w]; rw [c15b0]) | skip)
           by_cases c16 : 0 ≤ x1_2
           ·
            rw [if_pos c16] at H;have c16b0 : decide (0 ≤ x1_2) = true := decide_eq_true c16;clear c16;by_cases c17 : x1_2 < (l0.length : Int)
            ·
             rw [if_pos c17] at H;have c17b0 : decide (x1_2 < (l0.length : Int)) = true := decide_eq_true c17;clear c17;replace H := oE H;obtain ⟨t245, A18, H⟩ := H;replace H : (spec_l1End.j2 k2 l0 x1_2 (rd l0 a1) x6_2 x7_2 (!t245)) = some r := H;replace A18 := am A18;have H' := am H;clear H;have p244 : 0 ≤ (x1_2 : Int) := of_decide_eq_true (by assumption);have q244 : x1_2 < (l0.length : Int) := of_decide_eq_true (by assumption);obtain ⟨ad244, e244, hx244_0⟩ := Kd.at_int (Kd.V_reads' HO_0.out).2.2 x1_2 p244 q244;obtain rfl : ad240 = ad244 := (by injection e244);replace p244 := eq_true p244;replace q244 := eq_true q244;go_wp2_with (first | (go_at_call 58; (with_reducible refine (spec_l1In.calls (rd l0 x1_2) 1 9999 t245 _ A18.out).mono ?_); rintro e w' ⟨rfl, ⟨nd, rfl⟩⟩));go_meet
             case rel => exact ⟨_, (!t245), (by first | rfl | (simp; done) | (simp [*]; done)), H', ⟨by have := HJ2.out; have := HK2.out; first | omega | exact Nat.le_refl _⟩, ⟨Kd.vm HO_0.out⟩, ⟨Kd.vm HO_6.out⟩, ⟨bm HB.out⟩⟩
            ·
             rw [if_neg c17] at H;exact absurd H (by simp)
           ·
            rw [if_neg c16] at H;exact absurd H (by simp)
         case rest =>
          clear HC14;(try clear c1);(try clear p2);(try clear q2);(try clear hx2);(try clear c4);(try clear c4b0);(try clear c5);(try clear c5b0);(try clear c6);(try clear c6b0);(try clear p6);(try clear c8);(try clear c9);(try clear c9b0);(try clear c10);(try clear c10b0);(try clear c13);(try clear c13b0);(try clear c15);(try clear c15b0);(try clear c16);(try clear c16b0);(try clear c17);(try clear c17b0);(try clear hx238_0);(try clear hx240_0);(try clear hx244_0);(try clear p2);(try clear p238);(try clear p240);(try clear p244);(try clear p6);(try clear q2);(try clear q238);(try clear q240);(try clear q244);obtain ⟨kq, x44_13, rfl, HA, HJ13, HO_0, HO_6, HB⟩ := hcut
          cases kq with
          | zero => exact absurd HA.out (by simp [spec_l1End.j2])
          | succ kj13 =>
           have H := HA.out;clear HA;simp only [spec_l1End.j2] at H;by_cases c19 : x44_13 = true
           ·
            subst c19
            have H1 : (some (-1)) = some r := by rw [if_pos rfl] at H; exact H
            clear H;have H := H1;clear H1;obtain rfl := Option.some.inj H;go_wp2;go_ret;exact ⟨by first | rfl | (simp [errW_none, errW_some] <;> rfl) | (simp [*, errW_none, errW_some] <;> rfl), bm HB.out⟩
           ·
            replace c19 := Bool.eq_false_iff.mpr c19;subst c19
            have H1 : ((spec_l1End.f kj13 l0 (wrap64 (x1_2 + 1))).bind fun t246 => (if t246 < 0 then (some (-1)) else (if x7_2 > 0 then (if 0 ≤ (wrap64 (x1_2 + 1)) then (if (wrap64 (x1_2 + 1)) ≤ t246 then (if t246 ≤ (l0.length : Int) then ((spec_l1Compare.f kj13 ((l0.take (t246 : Int).toNat).drop ((wrap64 (x1_2 + 1)) : Int).toNat) x6_2).bind fun t252 => (if t252 ≥ 0 then (some (-1)) else (spec_l1End.l0 kj13 l0 t246 (rd l0 a1) ((l0.take (t246 : Int).toNat).drop ((wrap64 (x1_2 + 1)) : Int).toNat) (wrap64 (x7_2 + 1))))) else (none)) else (none)) else (none)) else (if 0 ≤ (wrap64 (x1_2 + 1)) then (if (wrap64 (x1_2 + 1)) ≤ t246 then (if t246 ≤ (l0.length : Int) then (spec_l1End.l0 kj13 l0 t246 (rd l0 a1) ((l0.take (t246 : Int).toNat).drop ((wrap64 (x1_2 + 1)) : Int).toNat) (wrap64 (x7_2 + 1))) else (none)) else (none)) else (none))))) = some r := by rw [if_neg (show ¬ (false = true) by decide)] at H; exact H
            clear H;have H := H1;clear H1;replace H := oE H;obtain ⟨t246, A20, H⟩ := H;replace H : (if t246 < 0 then (some (-1)) else (if x7_2 > 0 then (if 0 ≤ (wrap64 (x1_2 + 1)) then (if (wrap64 (x1_2 + 1)) ≤ t246 then (if t246 ≤ (l0.length : Int) then ((spec_l1Compare.f kj13 ((l0.take (t246 : Int).toNat).drop ((wrap64 (x1_2 + 1)) : Int).toNat) x6_2).bind fun t252 => (if t252 ≥ 0 then (some (-1)) else (spec_l1End.l0 kj13 l0 t246 (rd l0 a1) ((l0.take (t246 : Int).toNat).drop ((wrap64 (x1_2 + 1)) : Int).toNat) (wrap64 (x7_2 + 1))))) else (none)) else (none)) else (none)) else (if 0 ≤ (wrap64 (x1_2 + 1)) then (if (wrap64 (x1_2 + 1)) ≤ t246 then (if t246 ≤ (l0.length : Int) then (spec_l1End.l0 kj13 l0 t246 (rd l0 a1) ((l0.take (t246 : Int).toNat).drop ((wrap64 (x1_2 + 1)) : Int).toNat) (wrap64 (x7_2 + 1))) else (none)) else (none)) else (none)))) = some r := H;replace A20 := am A20;by_cases c21 : t246 < 0
            ·
             rw [if_pos c21] at H;have c21b0 : decide (t246 < 0) = true := decide_eq_true c21;clear c21;obtain rfl := Option.some.inj H;go_wp2_with (first | ((with_reducible refine gate_callee (f := 63) rfl ?_); refine goesL_ (some 48) rfl rfl Try.func63 (by kernel_rfl) rfl #[.slice (some ad240) l0.length c0, .int .i64 (wrap64 (x1_2 + 1))] rfl (by (try simp only [mA, mB, mC]); first | done | rfl) ?_; (with_reducible refine (ih kj13 (by have := HJ2.out; have := HK2.out; have := HJ13.out; omega) (fun k_ => (P0_ k_ ∨ w.heap.size ≤ k_)) _ _ l0 (wrap64 (x1_2 + 1)) t246 _ ?side1 A20.out).mono ?_); (case side1 => exact HO_0.out); rintro e w22 ⟨rfl, hb⟩; refine ⟨_, rfl, ?_⟩; replace HO_0 := am (Kd.V_below (Kd.vm HO_0.out) hb);replace HO_6 := am (Kd.V_below (Kd.vm HO_6.out) hb);replace HB := am (below_step (bm HB.out) hb); (try clear hb)));go_ret;exact ⟨by first | rfl | (simp [errW_none, errW_some] <;> rfl) | (simp [*, errW_none, errW_some] <;> rfl), bm HB.out⟩
            ·
             rw [if_neg c21] at H;have c21b0 : decide (t246 < 0) = false := decide_eq_false c21;clear c21;by_cases c23 : x7_2 > 0
             ·
              rw [if_pos c23] at H;have c23b0 : decide (0 < x7_2) = true := decide_eq_true c23;clear c23
              obtain ⟨ji24, hji24⟩ : ∃ j_ : Int, (wrap64 (x1_2 + 1)) = j_ := ⟨_, rfl⟩
              replace H : (if 0 ≤ (ji24) then (if (ji24) ≤ t246 then (if t246 ≤ (l0.length : Int) then ((spec_l1Compare.f kj13 ((l0.take (t246 : Int).toNat).drop ((ji24) : Int).toNat) x6_2).bind fun t252 => (if t252 ≥ 0 then (some (-1)) else (spec_l1End.l0 kj13 l0 t246 (rd l0 a1) ((l0.take (t246 : Int).toNat).drop ((ji24) : Int).toNat) (wrap64 (x7_2 + 1))))) else (none)) else (none)) else (none)) = some r := by first | (rw [hji24] at H; exact H) | (simp only [hji24] at H ⊢; exact H)
              (try rw [hji24] at A20);have hji24w : (IntKind.i64.wrap (x1_2 + 1)) = ji24 := (i64_w _).trans hji24;by_cases c25 : 0 ≤ (ji24)
              ·
               rw [if_pos c25] at H;have c25b0 := eq_true c25;have c25b1 : decide (0 ≤ (ji24)) = true := decide_eq_true c25;clear c25;by_cases c26 : (ji24) ≤ t246
               ·
                rw [if_pos c26] at H;have c26b0 := eq_true c26;have c26b1 : decide ((ji24) ≤ t246) = true := decide_eq_true c26;clear c26;by_cases c27 : t246 ≤ (l0.length : Int)
                ·
                 rw [if_pos c27] at H;have c27b0 := eq_true c27;have c27b1 : decide (t246 ≤ (l0.length : Int)) = true := decide_eq_true c27;clear c27
                 obtain ⟨y247, hy247⟩ : ∃ y_ : List Int, y_ = ((l0.take (t246 : Int).toNat).drop ((ji24) : Int).toNat) := ⟨_, rfl⟩
                 replace H : ((spec_l1Compare.f kj13 y247 x6_2).bind fun t252 => (if t252 ≥ 0 then (some (-1)) else (spec_l1End.l0 kj13 l0 t246 (rd l0 a1) ((l0.take (t246 : Int).toNat).drop ((ji24) : Int).toNat) (wrap64 (x7_2 + 1))))) = some r := by first | (rw [hy247]; with_reducible exact H) | (have H2_ := oB H; rw [hy247]; with_reducible exact H2_) | (have H2_ := oB H; with_reducible exact H2_) | with_reducible exact H | (rw [hy247]; exact H) | exact H
                 replace hy247 := am hy247;replace H := oE H;obtain ⟨t252, A28, H⟩ := H;replace H : (if t252 ≥ 0 then (some (-1)) else (spec_l1End.l0 kj13 l0 t246 (rd l0 a1) ((l0.take (t246 : Int).toNat).drop ((ji24) : Int).toNat) (wrap64 (x7_2 + 1)))) = some r := H;replace A28 := am A28;by_cases c29 : t252 ≥ 0
                 ·
                  rw [if_pos c29] at H;have c29b0 : decide (0 ≤ t252) = true := decide_eq_true c29;clear c29;obtain rfl := Option.some.inj H;go_wp2_with (first | ((with_reducible refine gate_callee (f := 63) rfl ?_); refine goesL_ (some 48) rfl rfl Try.func63 (by kernel_rfl) rfl #[.slice (some ad240) l0.length c0, .int .i64 ji24] rfl (by (try simp only [List.map_toArray, List.map_cons, List.map_nil]); first | done | (simp only [hji24]; rfl) | rfl | (simp only [List.length_drop, List.length_take]; rfl)) ?_; (with_reducible refine (ih kj13 (by have := HJ2.out; have := HK2.out; have := HJ13.out; omega) (fun k_ => (P0_ k_ ∨ w.heap.size ≤ k_)) _ _ l0 ji24 t246 _ ?side1 A20.out).mono ?_); (case side1 => exact HO_0.out); rintro e w30 ⟨rfl, hb⟩; refine ⟨_, rfl, ?_⟩; replace HO_0 := am (Kd.V_below (Kd.vm HO_0.out) hb);replace HO_6 := am (Kd.V_below (Kd.vm HO_6.out) hb);replace HB := am (below_step (bm HB.out) hb); (try clear hb); (try clear hi); have q31 : (t246 : Int) ≤ ((l0.length : Int) : Int) := of_decide_eq_true (by assumption); obtain ⟨i031, hi031, _, hsz31, _⟩ := info_parts info3; have hroom31 : l0.length ≤ c0 := (Kd.V_reads' HO_0.out).2.1; have hC31 : Kd.F (Kd.int .i64) _ _ (some ad240) l0.length l0 := (Kd.V_at (base := w.heap.size) HO_0.out).2.2; have ql31 : ((ji24) : Int) ≤ (t246 : Int) := of_decide_eq_true (by assumption); have q031 : (0 : Int) ≤ ((ji24) : Int) := of_decide_eq_true (by assumption); have hcut31 := cut_mid (P := Try.prog) 22 3 .i64 .i64 Try.underlying22 hi031 1 hsz31 (some ad240) l0.length c0 (ji24) t246 q031 ql31 q31 hroom31; have hr31 := Kd.F_mid (lo := ((ji24) : Int).toNat) (hi := (t246 : Int).toNat) (c := c0) hC31 (by omega) (by omega) hroom31; obtain ⟨A31, hA31⟩ : ∃ A1, A1 = (if c0 = ((ji24) : Int).toNat then (some ad240) else ((some ad240) : Option Addr).map (·.add (((ji24) : Int).toNat * 1))) := ⟨_, rfl⟩; obtain ⟨c31, hc31⟩ : ∃ c1, c1 = c0 - ((ji24) : Int).toNat := ⟨_, rfl⟩; have hy31 : y247.length = (t246 : Int).toNat - ((ji24) : Int).toNat := (by rw [hy247.out, List.length_drop, List.length_take] <;> omega); rw [show ((l0).take (t246 : Int).toNat).drop ((ji24) : Int).toNat = y247 from hy247.out.symm] at hr31; replace hr31 : Kd.F (Kd.int .i64) _ _ A31 y247.length y247 := (by rw [hA31]; exact hr31); rw [← hy31, ← hA31, ← hc31] at hcut31; have HO251 := am (show Kd.V (Kd.int .i64) 3 _ w.heap.size _ (.slice A31 y247.length c31) y247 from Kd.V_mk (by rw [hy31, hc31]; exact Nat.sub_le_sub_right (Nat.le_trans (by omega) hroom31) _) hr31); have HC251 := am (show y247.length ≤ c31 from by rw [hy31, hc31]; exact Nat.sub_le_sub_right (Nat.le_trans (by omega) hroom31) _); clear hr31 hC31 hroom31 hi031 hsz31 hc31; have KY31 := am hy31; have KA31 := am hA31; clear hy31 hA31; replace q31 := eq_true q31; obtain ⟨Ao32, co32, eo32⟩ := Kd.V_slice HO_6.out; subst eo32) | (go_at_call 87; (with_reducible refine (spec_l1Compare.calls kj13 _ _ y247 _ _ x6_2 t252 _ ?side1 ?side2 ?side3 ?side4 A28.out).mono ?_); (case side1 => exact Kd.cm ((Kd.V_reads' HO251.out).2.2)); (case side2 => exact (Kd.V_reads' HO251.out).2.1); (case side3 => exact Kd.cm ((Kd.V_reads' HO_6.out).2.2)); (case side4 => exact (Kd.V_reads' HO_6.out).2.1); rintro e w33 ⟨rfl, hb⟩; replace HO_0 := am (Kd.V_below (Kd.vm HO_0.out) hb);replace HO_6 := am (Kd.V_below (Kd.vm HO_6.out) hb);replace HO251 := am (Kd.V_below (Kd.vm HO251.out) hb);replace HB := am (below_step (bm HB.out) hb); (try clear hb); (try clear hi)));go_ret;exact ⟨by first | rfl | (simp [errW_none, errW_some] <;> rfl) | (simp only [← hji24]; first | rfl | (simp [errW_none, errW_some] <;> rfl)) | (simp [*, errW_none, errW_some] <;> rfl), bm HB.out⟩
                 ·
                  rw [if_neg c29] at H;have c29b0 : decide (0 ≤ t252) = false := decide_eq_false c29;clear c29;have c34b0 := eq_true (of_decide_eq_true (by assumption) : 0 ≤ (ji24));have c35b0 := eq_true (of_decide_eq_true (by assumption) : (ji24) ≤ t246);have c36b0 := eq_true (of_decide_eq_true (by assumption) : t246 ≤ (l0.length : Int))
                  obtain ⟨y253, hy253⟩ : ∃ y_ : List Int, y_ = ((l0.take (t246 : Int).toNat).drop ((ji24) : Int).toNat) := ⟨_, rfl⟩
                  replace H : (spec_l1End.l0 kj13 l0 t246 (rd l0 a1) y253 (wrap64 (x7_2 + 1))) = some r := by first | (rw [hy253]; with_reducible exact H) | (have H2_ := oB H; rw [hy253]; with_reducible exact H2_) | (have H2_ := oB H; with_reducible exact H2_) | with_reducible exact H | (rw [hy253]; exact H) | exact H
                  replace hy253 := am hy253;have H' := am H;clear H;go_wp2_with (first | ((with_reducible refine gate_callee (f := 63) rfl ?_); refine goesL_ (some 48) rfl rfl Try.func63 (by kernel_rfl) rfl #[.slice (some ad240) l0.length c0, .int .i64 ji24] rfl (by (try simp only [List.map_toArray, List.map_cons, List.map_nil]); first | done | (simp only [hji24]; rfl) | rfl | (simp only [List.length_drop, List.length_take]; rfl)) ?_; (with_reducible refine (ih kj13 (by have := HJ2.out; have := HK2.out; have := HJ13.out; omega) (fun k_ => (P0_ k_ ∨ w.heap.size ≤ k_)) _ _ l0 ji24 t246 _ ?side1 A20.out).mono ?_); (case side1 => exact HO_0.out); rintro e w37 ⟨rfl, hb⟩; refine ⟨_, rfl, ?_⟩; replace HO_0 := am (Kd.V_below (Kd.vm HO_0.out) hb);replace HO_6 := am (Kd.V_below (Kd.vm HO_6.out) hb);replace HB := am (below_step (bm HB.out) hb); (try clear hb); (try clear hi); have q38 : (t246 : Int) ≤ ((l0.length : Int) : Int) := of_decide_eq_true (by assumption); obtain ⟨i038, hi038, _, hsz38, _⟩ := info_parts info3; have hroom38 : l0.length ≤ c0 := (Kd.V_reads' HO_0.out).2.1; have hC38 : Kd.F (Kd.int .i64) _ _ (some ad240) l0.length l0 := (Kd.V_at (base := w.heap.size) HO_0.out).2.2; have ql38 : ((ji24) : Int) ≤ (t246 : Int) := of_decide_eq_true (by assumption); have q038 : (0 : Int) ≤ ((ji24) : Int) := of_decide_eq_true (by assumption); have hcut38 := cut_mid (P := Try.prog) 22 3 .i64 .i64 Try.underlying22 hi038 1 hsz38 (some ad240) l0.length c0 (ji24) t246 q038 ql38 q38 hroom38; have hr38 := Kd.F_mid (lo := ((ji24) : Int).toNat) (hi := (t246 : Int).toNat) (c := c0) hC38 (by omega) (by omega) hroom38; obtain ⟨A38, hA38⟩ : ∃ A1, A1 = (if c0 = ((ji24) : Int).toNat then (some ad240) else ((some ad240) : Option Addr).map (·.add (((ji24) : Int).toNat * 1))) := ⟨_, rfl⟩; obtain ⟨c38, hc38⟩ : ∃ c1, c1 = c0 - ((ji24) : Int).toNat := ⟨_, rfl⟩; have hy38 : y247.length = (t246 : Int).toNat - ((ji24) : Int).toNat := (by rw [hy247.out, List.length_drop, List.length_take] <;> omega); rw [show ((l0).take (t246 : Int).toNat).drop ((ji24) : Int).toNat = y247 from hy247.out.symm] at hr38; replace hr38 : Kd.F (Kd.int .i64) _ _ A38 y247.length y247 := (by rw [hA38]; exact hr38); rw [← hy38, ← hA38, ← hc38] at hcut38; have HO251 := am (show Kd.V (Kd.int .i64) 3 _ w.heap.size _ (.slice A38 y247.length c38) y247 from Kd.V_mk (by rw [hy38, hc38]; exact Nat.sub_le_sub_right (Nat.le_trans (by omega) hroom38) _) hr38); have HC251 := am (show y247.length ≤ c38 from by rw [hy38, hc38]; exact Nat.sub_le_sub_right (Nat.le_trans (by omega) hroom38) _); clear hr38 hC38 hroom38 hi038 hsz38 hc38; have KY38 := am hy38; have KA38 := am hA38; clear hy38 hA38; replace q38 := eq_true q38; obtain ⟨Ao39, co39, eo39⟩ := Kd.V_slice HO_6.out; subst eo39) | (go_at_call 87; (with_reducible refine (spec_l1Compare.calls kj13 _ _ y247 _ _ x6_2 t252 _ ?side1 ?side2 ?side3 ?side4 A28.out).mono ?_); (case side1 => exact Kd.cm ((Kd.V_reads' HO251.out).2.2)); (case side2 => exact (Kd.V_reads' HO251.out).2.1); (case side3 => exact Kd.cm ((Kd.V_reads' HO_6.out).2.2)); (case side4 => exact (Kd.V_reads' HO_6.out).2.1); rintro e w40 ⟨rfl, hb⟩; replace HO_0 := am (Kd.V_below (Kd.vm HO_0.out) hb);replace HO_6 := am (Kd.V_below (Kd.vm HO_6.out) hb);replace HO251 := am (Kd.V_below (Kd.vm HO251.out) hb);replace HB := am (below_step (bm HB.out) hb); (try clear hb); (try clear hi); have q41 : (t246 : Int) ≤ ((l0.length : Int) : Int) := of_decide_eq_true (by assumption); obtain ⟨i041, hi041, _, hsz41, _⟩ := info_parts info3; have hroom41 : l0.length ≤ c0 := (Kd.V_reads' HO_0.out).2.1; have hC41 : Kd.F (Kd.int .i64) _ _ (some ad240) l0.length l0 := (Kd.V_at (base := w.heap.size) HO_0.out).2.2; have ql41 : ((ji24) : Int) ≤ (t246 : Int) := of_decide_eq_true (by assumption); have q041 : (0 : Int) ≤ ((ji24) : Int) := of_decide_eq_true (by assumption); have hcut41 := cut_mid (P := Try.prog) 22 3 .i64 .i64 Try.underlying22 hi041 1 hsz41 (some ad240) l0.length c0 (ji24) t246 q041 ql41 q41 hroom41; have hr41 := Kd.F_mid (lo := ((ji24) : Int).toNat) (hi := (t246 : Int).toNat) (c := c0) hC41 (by omega) (by omega) hroom41; obtain ⟨A41, hA41⟩ : ∃ A1, A1 = (if c0 = ((ji24) : Int).toNat then (some ad240) else ((some ad240) : Option Addr).map (·.add (((ji24) : Int).toNat * 1))) := ⟨_, rfl⟩; obtain ⟨c41, hc41⟩ : ∃ c1, c1 = c0 - ((ji24) : Int).toNat := ⟨_, rfl⟩; have hy41 : y253.length = (t246 : Int).toNat - ((ji24) : Int).toNat := (by rw [hy253.out, List.length_drop, List.length_take] <;> omega); rw [show ((l0).take (t246 : Int).toNat).drop ((ji24) : Int).toNat = y253 from hy253.out.symm] at hr41; replace hr41 : Kd.F (Kd.int .i64) _ _ A41 y253.length y253 := (by rw [hA41]; exact hr41); rw [← hy41, ← hA41, ← hc41] at hcut41; have HO257 := am (show Kd.V (Kd.int .i64) 3 _ w.heap.size _ (.slice A41 y253.length c41) y253 from Kd.V_mk (by rw [hy41, hc41]; exact Nat.sub_le_sub_right (Nat.le_trans (by omega) hroom41) _) hr41); have HC257 := am (show y253.length ≤ c41 from by rw [hy41, hc41]; exact Nat.sub_le_sub_right (Nat.le_trans (by omega) hroom41) _); clear hr41 hC41 hroom41 hi041 hsz41 hc41; have KY41 := am hy41; have KA41 := am hA41; clear hy41 hA41; replace q41 := eq_true q41))
                  go_roundg kj13
                  case measure => have := HJ2.out; have := HK2.out; have := HJ13.out; omega
                  case rel => exact ⟨(t246), (y253), (wrap64 (x7_2 + 1)), (by first | rfl | (simp; done) | (simp [*]; done)), (by first | rfl | (simp; done) | (simp [*]; done)), H', ⟨by have := HJ2.out; have := HK2.out; have := HJ13.out; omega⟩, ⟨Kd.vm HO_0.out⟩, ⟨by (with_reducible repeat (first | apply Kd.V_alloc | apply Kd.V_drewN | apply Kd.V_drew)); first | exact HO257.out | (rw [hy253.out.trans hy247.out.symm]; exact HO251.out)⟩, ⟨bm HB.out⟩⟩
                ·
                 rw [if_neg c27] at H;exact absurd H (by simp)
               ·
                rw [if_neg c26] at H;exact absurd H (by simp)
              ·
               rw [if_neg c25] at H;exact absurd H (by simp)
             ·
              rw [if_neg c23] at H;have c23b0 : decide (0 < x7_2) = false := decide_eq_false c23;clear c23
              obtain ⟨ji42, hji42⟩ : ∃ j_ : Int, (wrap64 (x1_2 + 1)) = j_ := ⟨_, rfl⟩
              replace H : (if 0 ≤ (ji42) then (if (ji42) ≤ t246 then (if t246 ≤ (l0.length : Int) then (spec_l1End.l0 kj13 l0 t246 (rd l0 a1) ((l0.take (t246 : Int).toNat).drop ((ji42) : Int).toNat) (wrap64 (x7_2 + 1))) else (none)) else (none)) else (none)) = some r := by first | (rw [hji42] at H; exact H) | (simp only [hji42] at H ⊢; exact H)
              (try rw [hji42] at A20);have hji42w : (IntKind.i64.wrap (x1_2 + 1)) = ji42 := (i64_w _).trans hji42;by_cases c43 : 0 ≤ (ji42)
              ·
               rw [if_pos c43] at H;have c43b0 := eq_true c43;have c43b1 : decide (0 ≤ (ji42)) = true := decide_eq_true c43;clear c43;by_cases c44 : (ji42) ≤ t246
               ·
                rw [if_pos c44] at H;have c44b0 := eq_true c44;have c44b1 : decide ((ji42) ≤ t246) = true := decide_eq_true c44;clear c44;by_cases c45 : t246 ≤ (l0.length : Int)
                ·
                 rw [if_pos c45] at H;have c45b0 := eq_true c45;have c45b1 : decide (t246 ≤ (l0.length : Int)) = true := decide_eq_true c45;clear c45
                 obtain ⟨y258, hy258⟩ : ∃ y_ : List Int, y_ = ((l0.take (t246 : Int).toNat).drop ((ji42) : Int).toNat) := ⟨_, rfl⟩
                 replace H : (spec_l1End.l0 kj13 l0 t246 (rd l0 a1) y258 (wrap64 (x7_2 + 1))) = some r := by first | (rw [hy258]; with_reducible exact H) | (have H2_ := oB H; rw [hy258]; with_reducible exact H2_) | (have H2_ := oB H; with_reducible exact H2_) | with_reducible exact H | (rw [hy258]; exact H) | exact H
                 replace hy258 := am hy258;have H' := am H;clear H;go_wp2_with (first | ((with_reducible refine gate_callee (f := 63) rfl ?_); refine goesL_ (some 48) rfl rfl Try.func63 (by kernel_rfl) rfl #[.slice (some ad240) l0.length c0, .int .i64 ji42] rfl (by (try simp only [List.map_toArray, List.map_cons, List.map_nil]); first | done | (simp only [hji42]; rfl) | rfl | (simp only [List.length_drop, List.length_take]; rfl)) ?_; (with_reducible refine (ih kj13 (by have := HJ2.out; have := HK2.out; have := HJ13.out; omega) (fun k_ => (P0_ k_ ∨ w.heap.size ≤ k_)) _ _ l0 ji42 t246 _ ?side1 A20.out).mono ?_); (case side1 => exact HO_0.out); rintro e w46 ⟨rfl, hb⟩; refine ⟨_, rfl, ?_⟩; replace HO_0 := am (Kd.V_below (Kd.vm HO_0.out) hb);replace HO_6 := am (Kd.V_below (Kd.vm HO_6.out) hb);replace HB := am (below_step (bm HB.out) hb); (try clear hb); (try clear hi); have q47 : (t246 : Int) ≤ ((l0.length : Int) : Int) := of_decide_eq_true (by assumption); obtain ⟨i047, hi047, _, hsz47, _⟩ := info_parts info3; have hroom47 : l0.length ≤ c0 := (Kd.V_reads' HO_0.out).2.1; have hC47 : Kd.F (Kd.int .i64) _ _ (some ad240) l0.length l0 := (Kd.V_at (base := w.heap.size) HO_0.out).2.2; have ql47 : ((ji42) : Int) ≤ (t246 : Int) := of_decide_eq_true (by assumption); have q047 : (0 : Int) ≤ ((ji42) : Int) := of_decide_eq_true (by assumption); have hcut47 := cut_mid (P := Try.prog) 22 3 .i64 .i64 Try.underlying22 hi047 1 hsz47 (some ad240) l0.length c0 (ji42) t246 q047 ql47 q47 hroom47; have hr47 := Kd.F_mid (lo := ((ji42) : Int).toNat) (hi := (t246 : Int).toNat) (c := c0) hC47 (by omega) (by omega) hroom47; obtain ⟨A47, hA47⟩ : ∃ A1, A1 = (if c0 = ((ji42) : Int).toNat then (some ad240) else ((some ad240) : Option Addr).map (·.add (((ji42) : Int).toNat * 1))) := ⟨_, rfl⟩; obtain ⟨c47, hc47⟩ : ∃ c1, c1 = c0 - ((ji42) : Int).toNat := ⟨_, rfl⟩; have hy47 : y258.length = (t246 : Int).toNat - ((ji42) : Int).toNat := (by rw [hy258.out, List.length_drop, List.length_take] <;> omega); rw [show ((l0).take (t246 : Int).toNat).drop ((ji42) : Int).toNat = y258 from hy258.out.symm] at hr47; replace hr47 : Kd.F (Kd.int .i64) _ _ A47 y258.length y258 := (by rw [hA47]; exact hr47); rw [← hy47, ← hA47, ← hc47] at hcut47; have HO262 := am (show Kd.V (Kd.int .i64) 3 _ w.heap.size _ (.slice A47 y258.length c47) y258 from Kd.V_mk (by rw [hy47, hc47]; exact Nat.sub_le_sub_right (Nat.le_trans (by omega) hroom47) _) hr47); have HC262 := am (show y258.length ≤ c47 from by rw [hy47, hc47]; exact Nat.sub_le_sub_right (Nat.le_trans (by omega) hroom47) _); clear hr47 hC47 hroom47 hi047 hsz47 hc47; have KY47 := am hy47; have KA47 := am hA47; clear hy47 hA47; replace q47 := eq_true q47))
                 go_roundg kj13
                 case measure => have := HJ2.out; have := HK2.out; have := HJ13.out; omega
                 case rel => exact ⟨(t246), (y258), (wrap64 (x7_2 + 1)), (by first | rfl | (simp; done) | (simp [*]; done)), (by first | rfl | (simp; done) | (simp [*]; done)), H', ⟨by have := HJ2.out; have := HK2.out; have := HJ13.out; omega⟩, ⟨Kd.vm HO_0.out⟩, ⟨Kd.vm HO262.out⟩, ⟨bm HB.out⟩⟩
                ·
                 rw [if_neg c45] at H;exact absurd H (by simp)
               ·
                rw [if_neg c44] at H;exact absurd H (by simp)
              ·
               rw [if_neg c43] at H;exact absurd H (by simp)
        ·
         rw [if_neg c13] at H;have c13b0 : decide (x7_2 < (rd l0 a1)) = false := decide_eq_false c13;clear c13;obtain rfl := Option.some.inj H;go_wp2;go_ret;exact ⟨by first | rfl | (simp [errW_none, errW_some] <;> rfl) | (simp [*, errW_none, errW_some] <;> rfl), bm HB.out⟩
     ·
      rw [if_neg c10] at H;exact absurd H (by simp)
    ·
     rw [if_neg c9] at H;exact absurd H (by simp)

/-! ### spec_OrdValid: function 35 -/
def spec_OrdValid.f (k : Nat) (l0 : List Int) : Option (Bool) := (spec_l1In.f (l0.length : Int) 1 60).bind fun t263 => (if t263 = true then ((spec_l1End.f k l0 0).bind fun t264 => (some (t264 == (l0.length : Int)))) else (some false))
theorem spec_OrdValid.mono : ∀ a0 k, LeO (spec_OrdValid.f k a0) (spec_OrdValid.f (k + 1) a0) := by
 intro a0 k;unfold spec_OrdValid.f
 repeat' first | (with_reducible exact spec_l1End.mono _ _ _) | (with_reducible exact LeO.refl _) | (with_reducible exact LeO.none _) | (with_reducible refine LeO.ite ?_ ?_) | (with_reducible refine LeO.bind ?_ (fun _ => ?_))
set_option maxHeartbeats 8000000 in
set_option maxRecDepth 100000 in
theorem spec_OrdValid.calls (k : Nat) (A0 : Option Addr) (c0 : Nat) (l0 : List Int) (r : Bool) (w : World) (hr0 : Kd.C (Kd.int .i64) w A0 l0.length l0) (hc0 : l0.length ≤ c0) (h : spec_OrdValid.f k l0 = some r) :
  Calls Try.prog 35 #[.slice A0 l0.length c0] w fun e w' => e = .returned (.bool r) ∧ Below w.heap.size w w' := by
 have HR0 := am hr0;have HC0 := am hc0;clear hr0 hc0;have HB := am (Below.refl w.heap.size w);have H : ((spec_l1In.f (l0.length : Int) 1 60).bind fun t263 => (if t263 = true then ((spec_l1End.f k l0 0).bind fun t264 => (some (t264 == (l0.length : Int)))) else (some false))) = some r := h;clear h;replace H := oE H;obtain ⟨t263, A2, H⟩ := H;replace H : (if t263 = true then ((spec_l1End.f k l0 0).bind fun t264 => (some (t264 == (l0.length : Int)))) else (some false)) = some r := H;replace A2 := am A2;by_cases c3 : t263 = true
 ·
  subst c3
  have H1 : ((spec_l1End.f k l0 0).bind fun t264 => (some (t264 == (l0.length : Int)))) = some r := by rw [if_pos rfl] at H; exact H
  clear H;have H := H1;clear H1;replace H := oE H;obtain ⟨t264, A4, H⟩ := H;replace H : (some (t264 == (l0.length : Int))) = some r := H;replace A4 := am A4;obtain rfl := Option.some.inj H;go_enter Try.func35, Try.ntmps35;go_wp2_with (first | ((with_reducible refine gate_callee (f := 58) rfl ?_); refine goesL_ (some 5) rfl rfl Try.func58 (by kernel_rfl) rfl #[.int .i64 (l0.length : Int), .int .i64 1, .int .i64 60] rfl (by (try simp only [mA, mB, mC]); first | done | rfl) ?_; (with_reducible refine (spec_l1In.calls (l0.length : Int) 1 60 true _ A2.out).mono ?_); rintro e w' ⟨rfl, ⟨nd, rfl⟩⟩; refine ⟨_, rfl, ?_⟩) | (go_at_call 63; (with_reducible refine (spec_l1End.calls k (fun k_ => k_ < w.heap.size) _ _ l0 0 t264 _ ?side1 A4.out).mono ?_); (case side1 => exact Kd.V_mk HC0.out (Kd.F_below (Kd.C_F (Kd.heap_int .i64) HR0.out) (bm HB.out))); rintro e w5 ⟨rfl, hb⟩; replace HB := am (below_step (bm HB.out) hb); (try clear hb)));go_ret;exact ⟨by first | rfl | (simp [errW_none, errW_some] <;> rfl) | (simp [*, errW_none, errW_some] <;> rfl), bm HB.out⟩
 ·
  replace c3 := Bool.eq_false_iff.mpr c3;subst c3
  have H1 : (some false) = some r := by rw [if_neg (show ¬ (false = true) by decide)] at H; exact H
  clear H;have H := H1;clear H1;obtain rfl := Option.some.inj H;go_enter Try.func35, Try.ntmps35;go_wp2_with (first | ((with_reducible refine gate_callee (f := 58) rfl ?_); refine goesL_ (some 5) rfl rfl Try.func58 (by kernel_rfl) rfl #[.int .i64 (l0.length : Int), .int .i64 1, .int .i64 60] rfl (by (try simp only [mA, mB, mC]); first | done | rfl) ?_; (with_reducible refine (spec_l1In.calls (l0.length : Int) 1 60 false _ A2.out).mono ?_); rintro e w' ⟨rfl, ⟨nd, rfl⟩⟩; refine ⟨_, rfl, ?_⟩));go_ret;exact ⟨by first | rfl | (simp [errW_none, errW_some] <;> rfl) | (simp [*, errW_none, errW_some] <;> rfl), bm HB.out⟩

/-! ### spec_l2Fit: function 41 -/
def spec_l2Fit.f (k : Nat) (l0 : List Int) : Option (List Int × Bool) := (spec_OrdValid.f k l0).bind fun t265 => (if t265 = true then (some (l0, true)) else (some ((([] : List Int)), false)))
theorem spec_l2Fit.mono : ∀ a0 k, LeO (spec_l2Fit.f k a0) (spec_l2Fit.f (k + 1) a0) := by
 intro a0 k;unfold spec_l2Fit.f
 repeat' first | (with_reducible exact spec_OrdValid.mono _ _) | (with_reducible exact LeO.refl _) | (with_reducible exact LeO.none _) | (with_reducible refine LeO.ite ?_ ?_) | (with_reducible refine LeO.bind ?_ (fun _ => ?_))
set_option maxHeartbeats 8000000 in
set_option maxRecDepth 100000 in
theorem spec_l2Fit.calls (k : Nat) (P0_ : Nat → Prop) (u9000_ : Value) (l0 : List Int) (r1 : List Int) (r2 : Bool) (w0 w : World) (hB : Below w0.heap.size w0 w) (ho0 : Kd.R (Kd.int .i64) 3 w w0.heap.size P0_ u9000_ l0) (h : spec_l2Fit.f k l0 = some (r1, r2)) :
  Calls Try.prog 41 #[u9000_] w fun e w' => ∃ v0_ : Value, e = .returned (.tuple #[v0_, .bool r2]) ∧ Kd.R (Kd.int .i64) 3 w' w0.heap.size (fun k_ => (P0_ k_ ∨ w.heap.size ≤ k_)) v0_ r1 ∧ Below w0.heap.size w0 w' ∧ Kept w w' (fun k_ => P0_ k_) := by
 have HO0 := am (show Kd.R (Kd.int .i64) 3 w w0.heap.size (fun k_ => (P0_ k_ ∨ w.heap.size ≤ k_)) u9000_ l0 from Kd.R_mono ho0 (fun k_ hk => (.inl hk)));have HK := am (Kept.refl w (fun k_ => P0_ k_));have HW0 := am hB.size;have HB := am hB;clear hB;have H : ((spec_OrdValid.f k l0).bind fun t265 => (if t265 = true then (some (l0, true)) else (some ((([] : List Int)), false)))) = some (r1, r2) := h;clear h;replace H := oE H;obtain ⟨t265, A2, H⟩ := H;replace H : (if t265 = true then (some (l0, true)) else (some ((([] : List Int)), false))) = some (r1, r2) := H;replace A2 := am A2;by_cases c3 : t265 = true
 ·
  subst c3
  have H1 : (some (l0, true)) = some (r1, r2) := by rw [if_pos rfl] at H; exact H
  clear H;have H := H1;clear H1;simp only [Option.some.injEq, Prod.mk.injEq] at H;obtain ⟨rfl, rfl⟩ := H;obtain ⟨Ao4, co4, eo4⟩ := Kd.R_slice HO0.out;subst eo4;go_enter Try.func41, Try.ntmps41;go_wp2_with (first | ((with_reducible refine gate_callee (f := 35) rfl ?_); refine goesL_ (some 5) rfl rfl Try.func35 (by kernel_rfl) rfl #[.slice Ao4 l0.length co4] rfl (by (try simp only [mA, mB, mC]); first | done | rfl) ?_; (with_reducible refine (spec_OrdValid.calls k _ _ l0 true _ ?side1 ?side2 A2.out).mono ?_); (case side1 => exact Kd.cm ((Kd.R_reads' HO0.out).2.2)); (case side2 => exact (Kd.R_reads' HO0.out).2.1); rintro e w5 ⟨rfl, hb⟩; refine ⟨_, rfl, ?_⟩; replace HO0 := am (Kd.R_below (Kd.rm HO0.out) hb);replace HK := am (Kept.below (S := (fun k_ => P0_ k_)) (by repeat (first | (with_reducible first | exact HK.out | apply Kept.alloc | apply Kept.drewN | apply Kept.drew) | exact HK.out)) hb);replace HB := am (below_step (bm HB.out) hb); (try clear hb)));go_ret2;exact ⟨_, by first | rfl | (simp [errW_none, errW_some] <;> rfl) | (simp [*, errW_none, errW_some] <;> rfl), Kd.rm HO0.out, bm HB.out, by repeat (first | (with_reducible first | exact HK.out | apply Kept.alloc | apply Kept.drewN | apply Kept.drew) | exact HK.out)⟩
 ·
  replace c3 := Bool.eq_false_iff.mpr c3;subst c3
  have H1 : (some ((([] : List Int)), false)) = some (r1, r2) := by rw [if_neg (show ¬ (false = true) by decide)] at H; exact H
  clear H;have H := H1;clear H1
  obtain ⟨y266, hy266⟩ : ∃ y_ : List Int, y_ = (([] : List Int)) := ⟨_, rfl⟩
  replace H : (some (y266, false)) = some (r1, r2) := by first | (rw [hy266]; with_reducible exact H) | (have H2_ := oB H; rw [hy266]; with_reducible exact H2_) | (have H2_ := oB H; with_reducible exact H2_) | with_reducible exact H | (rw [hy266]; exact H) | exact H
  replace hy266 := am hy266;simp only [Option.some.injEq, Prod.mk.injEq] at H;obtain ⟨rfl, rfl⟩ := H;obtain ⟨Ao6, co6, eo6⟩ := Kd.R_slice HO0.out;subst eo6;go_enter Try.func41, Try.ntmps41;go_wp2_with (first | ((with_reducible refine gate_callee (f := 35) rfl ?_); refine goesL_ (some 5) rfl rfl Try.func35 (by kernel_rfl) rfl #[.slice Ao6 l0.length co6] rfl (by (try simp only [mA, mB, mC]); first | done | rfl) ?_; (with_reducible refine (spec_OrdValid.calls k _ _ l0 false _ ?side1 ?side2 A2.out).mono ?_); (case side1 => exact Kd.cm ((Kd.R_reads' HO0.out).2.2)); (case side2 => exact (Kd.R_reads' HO0.out).2.1); rintro e w7 ⟨rfl, hb⟩; refine ⟨_, rfl, ?_⟩; replace HO0 := am (Kd.R_below (Kd.rm HO0.out) hb);replace HK := am (Kept.below (S := (fun k_ => P0_ k_)) (by repeat (first | (with_reducible first | exact HK.out | apply Kept.alloc | apply Kept.drewN | apply Kept.drew) | exact HK.out)) hb);replace HB := am (below_step (bm HB.out) hb); (try clear hb); (try clear hk)) | ((with_reducible refine gate_dst (N := 7) rfl ?_); refine Kd.R_lit (Kd.int .i64) _ 3 ?hg (N := 7) ?hd (xs := ([] : List Int)) (inner := []) (ok := fun _ => True) (okp := fun _ => True) ?hr ?hp (fun _ hk => hk) trivial (Below.refl _ _) (Nat.le_refl _) (by simp) ?_; (case hd => rfl); (case hg => rfl); (case hr => first | (go_simp; done) | (go_simp; rfl)); (case hp => exact (Reps.none _ _)); intro v267 w8 ho9 hb hg_ hnew_; clear hg_ hnew_; (first | rw [← hy266.out] at ho9 | (simp only [Int.reduceToNat] at ho9; rw [← hy266.out] at ho9)); have HO268 := am (Kd.R_lower (Kd.R_new' (Kd.R_newM (M := fun k_ => (P0_ k_ ∨ w.heap.size ≤ k_)) ho9 (by first | exact HK.out.1 | exact (show Kept w _ (fun k_ => P0_ k_) from by repeat (first | (with_reducible first | exact HK.out | apply Kept.alloc | apply Kept.drewN | apply Kept.drew) | exact HK.out)).1) (fun k_ h_ => .inr h_)) (Kd.R_lt (Kd.rm HO0.out))) (below_size (bm HB.out)));replace HO0 := am (Kd.R_elder' (Kd.rm HO0.out) (Kd.R_base ho9) hb);replace HK := am (Kept.below (S := (fun k_ => P0_ k_)) (by repeat (first | (with_reducible first | exact HK.out | apply Kept.alloc | apply Kept.drewN | apply Kept.drew) | exact HK.out)) hb);replace HB := am (below_step (bm HB.out) hb); clear hb ho9));go_ret2;exact ⟨_, by first | rfl | (simp [errW_none, errW_some] <;> rfl) | (simp [*, errW_none, errW_some] <;> rfl), Kd.rm (Kd.R_mono HO268.out (fun _ hk => hk.1.1)), bm HB.out, by repeat (first | (with_reducible first | exact HK.out | apply Kept.alloc | apply Kept.drewN | apply Kept.drew) | exact HK.out)⟩

/-! ### spec_l5Branches: function 61 -/
def spec_l5Branches.l0 : Nat → List Int → List (List Int) → Int → Option ((List (List Int)))
 | 0, _, _, _ => none
 | k + 1, x0, x3, x4 => if x4 < (x0.length : Int) then ((spec_l5End.f k x0 x4).bind fun t272 => (if 0 ≤ x4 then (if x4 ≤ t272 then (if t272 ≤ (x0.length : Int) then (if x3.length < 5864062014805 then (spec_l5Branches.l0 k x0 (x3 ++ [((x0.take (t272 : Int).toNat).drop (x4 : Int).toNat)]) t272) else (none)) else (none)) else (none)) else (none))) else (some x3)
def spec_l5Branches.f (k : Nat) (l0 : List Int) : Option ((List (List Int))) := spec_l5Branches.l0 k l0 (([] : List (List Int))) 1
theorem spec_l5Branches.mono_l : ∀ k, (∀ y0 y1 y2, LeO (spec_l5Branches.l0 k y0 y1 y2) (spec_l5Branches.l0 (k + 1) y0 y1 y2))
 | 0 => fun _ _ _ r h => by simp [spec_l5Branches.l0] at h
 | k + 1 => by
  have ih0 := spec_l5Branches.mono_l k
  ·
   intro y0 y1 y2;unfold spec_l5Branches.l0
   repeat' first | (with_reducible exact ih0 _ _ _) | (with_reducible exact spec_l5End.mono _ _ _) | (with_reducible exact LeO.refl _) | (with_reducible exact LeO.none _) | (with_reducible refine LeO.ite ?_ ?_) | (with_reducible refine LeO.bind ?_ (fun _ => ?_))
theorem spec_l5Branches.mono : ∀ a0 k, LeO (spec_l5Branches.f k a0) (spec_l5Branches.f (k + 1) a0) := by
 intro a0 k;have ih0 := spec_l5Branches.mono_l k;unfold spec_l5Branches.f
 repeat' first | (with_reducible exact ih0 _ _ _) | (with_reducible exact spec_l5End.mono _ _ _) | (with_reducible exact LeO.refl _) | (with_reducible exact LeO.none _) | (with_reducible refine LeO.ite ?_ ?_) | (with_reducible refine LeO.bind ?_ (fun _ => ?_))
set_option maxHeartbeats 8000000 in
set_option maxRecDepth 100000 in
theorem spec_l5Branches.calls (k : Nat) (P0_ : Nat → Prop) (A0 : Option Addr) (c0 : Nat) (l0 : List Int) (r : List (List Int)) (w : World) (hs0 : Kd.V (Kd.int .i64) 3 w w.heap.size (fun k_ => P0_ k_) (.slice A0 l0.length c0) l0) (h : spec_l5Branches.f k l0 = some r) :
  Calls Try.prog 61 #[.slice A0 l0.length c0] w fun e w' => ∃ v0_ : Value, e = .returned (v0_) ∧ Kd.N (Kd.slice 3 (Kd.int .i64)) 22 w' w.heap.size (fun k_ => (P0_ k_ ∨ w.heap.size ≤ k_)) v0_ r ∧ Below w.heap.size w w' := by
 have HO0 := am (show Kd.V (Kd.int .i64) 3 w w.heap.size (fun k_ => (P0_ k_ ∨ w.heap.size ≤ k_)) (.slice A0 l0.length c0) l0 from Kd.V_mono hs0 (fun k_ hk => .inl hk));have HB := am (Below.refl w.heap.size w);have H : (spec_l5Branches.l0 k l0 (([] : List (List Int))) 1) = some r := h;clear h
 obtain ⟨y269, hy269⟩ : ∃ y_ : List (List Int), y_ = (([] : List (List Int))) := ⟨_, rfl⟩
 replace H : (spec_l5Branches.l0 k l0 y269 1) = some r := by first | (rw [hy269]; with_reducible exact H) | (have H2_ := oB H; rw [hy269]; with_reducible exact H2_) | (have H2_ := oB H; with_reducible exact H2_) | with_reducible exact H | (rw [hy269]; exact H) | exact H
 replace hy269 := am hy269;have H' := am H;clear H;go_enter Try.func61, Try.ntmps61;go_wp2_with (first | ((with_reducible refine gate_dst (N := 6) rfl ?_); refine Kd.N_lit (Kd.slice 3 (Kd.int .i64)) _ 22 ?hg (N' := 6) ?hd (xs := ([] : List (List Int))) (inner := []) (ok := (fun k_ => (P0_ k_ ∨ w.heap.size ≤ k_))) (okp := (fun k_ => (P0_ k_ ∨ w.heap.size ≤ k_))) ?hr ?hp (fun _ hk => hk) ((show ∀ k_, w.heap.size ≤ k_ → (fun k_ => (P0_ k_ ∨ w.heap.size ≤ k_)) k_ from fun k_ hk => (.inr (Nat.le_trans (below_size (bm HB.out)) hk))) _ (Nat.le_refl _)) (Below.refl _ _) (Nat.le_refl _) (by simp) ?_; (case hd => rfl); (case hg => rfl); (case hr => first | (go_simp; done) | (go_simp; rfl)); (case hp => exact (Reps.none _ _)); intro v270 w2 ho3 hb hg_ hnew_; clear hg_ hnew_; (first | rw [← hy269.out] at ho3 | (simp only [Int.reduceToNat] at ho3; rw [← hy269.out] at ho3)); replace HO0 := am (Kd.V_elder' (Kd.vm HO0.out) (Kd.N_base ho3) hb);have HO271 := am (Kd.N_lower ho3 (below_size (bm HB.out)));replace HB := am (below_step (bm HB.out) hb); clear hb ho3))
 go_loopg [3, 4] k (fun kq v3 v4 w' => ∃ (x3_1 : List (List Int)) (x4_1 : Int), v4 = .int .i64 x4_1 ∧ Aside0 (spec_l5Branches.l0 kq l0 x3_1 x4_1 = some r) ∧ Aside0 (kq ≤ k) ∧ Aside0 (Kd.V (Kd.int .i64) 3 w' w.heap.size (fun k_ => (P0_ k_ ∨ w.heap.size ≤ k_) ∧ some k_ ≠ (v3 : Value).ownBlock) (.slice A0 l0.length c0) l0) ∧ Aside0 (Kd.N (Kd.slice 3 (Kd.int .i64)) 22 w' w.heap.size (fun k_ => (P0_ k_ ∨ w.heap.size ≤ k_)) v3 x3_1) ∧ Aside0 (Below w.heap.size w w'))
 case atStart => exact ⟨(y269), (1), (by first | rfl | (simp; done) | (simp [*]; done)), H', ⟨Nat.le_refl _⟩, ⟨Kd.vm HO0.out⟩, ⟨Kd.nm HO271.out⟩, ⟨bm HB.out⟩⟩
 case round =>
  clear H';(try clear p2);(try clear HO_0);(try clear HO_3);(try clear HB);obtain ⟨x3_1, x4_1, rfl, HA, HK1, HO_0, HO_3, HB⟩ := hrel
  cases gk with
  | zero => exact absurd HA.out (by simp [spec_l5Branches.l0])
  | succ k1 =>
   have H := HA.out;clear HA;simp only [spec_l5Branches.l0] at H;by_cases c4 : x4_1 < (l0.length : Int)
   ·
    rw [if_pos c4] at H;have c4b0 : decide (x4_1 < (l0.length : Int)) = true := decide_eq_true c4;clear c4;replace H := oE H;obtain ⟨t272, A5, H⟩ := H;replace H : (if 0 ≤ x4_1 then (if x4_1 ≤ t272 then (if t272 ≤ (l0.length : Int) then (if x3_1.length < 5864062014805 then (spec_l5Branches.l0 k1 l0 (x3_1 ++ [((l0.take (t272 : Int).toNat).drop (x4_1 : Int).toNat)]) t272) else (none)) else (none)) else (none)) else (none)) = some r := H;replace A5 := am A5;by_cases c6 : 0 ≤ x4_1
    ·
     rw [if_pos c6] at H;have c6b0 := eq_true c6;have c6b1 : decide (0 ≤ x4_1) = true := decide_eq_true c6;clear c6;by_cases c7 : x4_1 ≤ t272
     ·
      rw [if_pos c7] at H;have c7b0 := eq_true c7;have c7b1 : decide (x4_1 ≤ t272) = true := decide_eq_true c7;clear c7;by_cases c8 : t272 ≤ (l0.length : Int)
      ·
       rw [if_pos c8] at H;have c8b0 := eq_true c8;have c8b1 : decide (t272 ≤ (l0.length : Int)) = true := decide_eq_true c8;clear c8
       obtain ⟨y273, hy273⟩ : ∃ y_ : List Int, y_ = ((l0.take (t272 : Int).toNat).drop (x4_1 : Int).toNat) := ⟨_, rfl⟩
       replace H : (if x3_1.length < 5864062014805 then (spec_l5Branches.l0 k1 l0 (x3_1 ++ [y273]) t272) else (none)) = some r := by first | (rw [hy273]; with_reducible exact H) | (have H2_ := oB H; rw [hy273]; with_reducible exact H2_) | (have H2_ := oB H; with_reducible exact H2_) | with_reducible exact H | (rw [hy273]; exact H) | exact H
       replace hy273 := am hy273;by_cases c9 : x3_1.length < 5864062014805
       ·
        rw [if_pos c9] at H;have LMc9 := am c9;clear c9
        obtain ⟨y278, hy278⟩ : ∃ y_ : List (List Int), y_ = (x3_1 ++ [y273]) := ⟨_, rfl⟩
        replace H : (spec_l5Branches.l0 k1 l0 y278 t272) = some r := by first | (rw [hy278]; with_reducible exact H) | (have H2_ := oB H; rw [hy278]; with_reducible exact H2_) | (have H2_ := oB H; with_reducible exact H2_) | with_reducible exact H | (rw [hy278]; exact H) | exact H
        replace hy278 := am hy278;have H' := am H;clear H;go_wp2_with (first | ((with_reducible refine gate_callee (f := 59) rfl ?_); refine goesL_ (some 13) rfl rfl Try.func59 (by kernel_rfl) rfl #[.slice A0 l0.length c0, .int .i64 x4_1] rfl (by (try simp only [mA, mB, mC]); first | done | rfl) ?_; (with_reducible refine (spec_l5End.calls k1 _ _ l0 x4_1 t272 _ ?side1 ?side2 A5.out).mono ?_); (case side1 => exact Kd.cm ((Kd.V_reads' HO_0.out).2.2)); (case side2 => exact (Kd.V_reads' HO_0.out).2.1); rintro e w' ⟨rfl, ⟨nd, rfl⟩⟩; refine ⟨_, rfl, ?_⟩; have q10 : (t272 : Int) ≤ ((l0.length : Int) : Int) := of_decide_eq_true (by assumption); obtain ⟨i010, hi010, _, hsz10, _⟩ := info_parts info3; have hroom10 : l0.length ≤ c0 := (Kd.V_reads' HO_0.out).2.1; have hC10 : Kd.F (Kd.int .i64) _ _ A0 l0.length l0 := (Kd.V_at (base := w.heap.size) HO_0.out).2.2; have ql10 : (x4_1 : Int) ≤ (t272 : Int) := of_decide_eq_true (by assumption); have q010 : (0 : Int) ≤ (x4_1 : Int) := of_decide_eq_true (by assumption); have hcut10 := cut_mid (P := Try.prog) 22 3 .i64 .i64 Try.underlying22 hi010 1 hsz10 A0 l0.length c0 x4_1 t272 q010 ql10 q10 hroom10; have hr10 := Kd.F_mid (lo := (x4_1 : Int).toNat) (hi := (t272 : Int).toNat) (c := c0) hC10 (by omega) (by omega) hroom10; obtain ⟨A10, hA10⟩ : ∃ A1, A1 = (if c0 = (x4_1 : Int).toNat then A0 else (A0 : Option Addr).map (·.add ((x4_1 : Int).toNat * 1))) := ⟨_, rfl⟩; obtain ⟨c10, hc10⟩ : ∃ c1, c1 = c0 - (x4_1 : Int).toNat := ⟨_, rfl⟩; have hy10 : y273.length = (t272 : Int).toNat - (x4_1 : Int).toNat := (by rw [hy273.out, List.length_drop, List.length_take] <;> omega); rw [show ((l0).take (t272 : Int).toNat).drop (x4_1 : Int).toNat = y273 from hy273.out.symm] at hr10; replace hr10 : Kd.F (Kd.int .i64) _ _ A10 y273.length y273 := (by rw [hA10]; exact hr10); rw [← hy10, ← hA10, ← hc10] at hcut10; have HO277 := am (show Kd.V (Kd.int .i64) 3 _ w.heap.size _ (.slice A10 y273.length c10) y273 from Kd.V_mk (by rw [hy10, hc10]; exact Nat.sub_le_sub_right (Nat.le_trans (by omega) hroom10) _) hr10); have HC277 := am (show y273.length ≤ c10 from by rw [hy10, hc10]; exact Nat.sub_le_sub_right (Nat.le_trans (by omega) hroom10) _); clear hr10 hC10 hroom10 hi010 hsz10 hc10; have KY10 := am hy10; have KA10 := am hA10; clear hy10 hA10; replace q10 := eq_true q10) | ((with_reducible refine gate_builtin (b := .append) (xs := #[.tmp 14, .tmp 19]) rfl ?_); at_builtin; refine Kd.N_append (Kd.slice 3 (Kd.int .i64)) (w0 := w) w.heap.size rfl (.tmp 14) (.tmp 19) 64 22 (.slice none 0 0) 24 rfl Try.underlying64 info22 rfl (by decide) (by omega) u3 x3_1 y273 [.slice A10 y273.length c10] (fun k_ => (P0_ k_ ∨ w.heap.size ≤ k_)) (fun k_ => ((fun k_ => (P0_ k_ ∨ w.heap.size ≤ k_))) k_ ∧ some k_ ≠ (u3 : Value).ownBlock) rfl rfl ?aP (fun _ hk => hk) ?aF ?aO ?aB ?aS ?aL ?_; (case aP => first | exact (Kd.FK_slice_mk (Kd.V_reads' (Kd.V_mono (ok' := (fun k_ => ((fun k_ => (P0_ k_ ∨ w.heap.size ≤ k_))) k_ ∧ some k_ ≠ (u3 : Value).ownBlock)) (HO277.out) (fun k_ hk => ⟨hk.1, hk.2⟩))).2.1 (Kd.V_F (Kd.V_mono (ok' := (fun k_ => ((fun k_ => (P0_ k_ ∨ w.heap.size ≤ k_))) k_ ∧ some k_ ≠ (u3 : Value).ownBlock)) (HO277.out) (fun k_ hk => ⟨hk.1, hk.2⟩)))) | exact (Kd.FK_slice_mk (Kd.V_reads' (Kd.V_mono (ok' := (fun k_ => ((fun k_ => (P0_ k_ ∨ w.heap.size ≤ k_))) k_ ∧ some k_ ≠ (u3 : Value).ownBlock)) (HO277.out) (fun k_ hk => ⟨hk.1, hk.2⟩))).2.1 (Kd.V_F (Kd.V_mono (ok' := (fun k_ => ((fun k_ => (P0_ k_ ∨ w.heap.size ≤ k_))) k_ ∧ some k_ ≠ (u3 : Value).ownBlock)) (Kd.V_drewN HO277.out _) (fun k_ hk => ⟨hk.1, hk.2⟩))))); (case aB => exact (bm HB.out)); (case aF => exact (fun k_ hk => (.inr (Nat.le_trans (below_size (bm HB.out)) hk)))); (case aO => exact (Kd.nm HO_3.out)); (case aS => exact (below_size (bm HB.out))); (case aL => have := LMc9.out; omega); intro v279 w11 ho hb hg hat; rw [← hy278.out] at ho; replace HO_0 := am (Kd.V_afterv (ok := (fun k_ => (P0_ k_ ∨ w.heap.size ≤ k_))) (Kd.vm HO_0.out) hg hat);replace HO277 := am (Kd.V_afterv (ok := (fun k_ => (P0_ k_ ∨ w.heap.size ≤ k_))) (Kd.vm HO277.out) hg hat);replace HB := am (hb);have HO280 := am (ho);clear HO_3; clear ho hb hg hat))
        go_roundg k1
        case measure => have := HK1.out; omega
        case rel => exact ⟨(y278), (t272), (by first | rfl | (simp; done) | (simp [*]; done)), H', ⟨by have := HK1.out; omega⟩, ⟨Kd.vm HO_0.out⟩, ⟨Kd.nm HO280.out⟩, ⟨bm HB.out⟩⟩
       ·
        rw [if_neg c9] at H;exact absurd H (by simp)
      ·
       rw [if_neg c8] at H;exact absurd H (by simp)
     ·
      rw [if_neg c7] at H;exact absurd H (by simp)
    ·
     rw [if_neg c6] at H;exact absurd H (by simp)
   ·
    rw [if_neg c4] at H;have c4b0 : decide (x4_1 < (l0.length : Int)) = false := decide_eq_false c4;clear c4;obtain rfl := Option.some.inj H;go_wp2;go_ret;exact ⟨_, by first | rfl | (simp [errW_none, errW_some] <;> rfl) | (simp [*, errW_none, errW_some] <;> rfl), Kd.nm HO_3.out, bm HB.out⟩

end Go.Proofs.Ytahhdbjjfdjloaa.Jd

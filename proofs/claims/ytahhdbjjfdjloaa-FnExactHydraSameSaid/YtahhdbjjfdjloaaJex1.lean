-- half
-- Written by a program of this session's (wip/mp) out of the translation, over the kit's print with changes.
import Derived.Test.YtahhdbjjfdjloaaJex0
namespace Go.Proofs.Ytahhdbjjfdjloaa.Je
open Go.RowKit Go.Proofs.YtahhdbjjfdjloaaW.PrintWords Go.Proofs.YtahhdbjjfdjloaaW.PrintLast Go.Proofs.YtahhdbjjfdjloaaW.PrintMore
attribute [local go_sem] max2_int min2_int max_two min_two max_three min_three max_four min_four   -- for this text's walks alone
set_option linter.unusedVariables false
set_option linter.unusedSimpArgs false

/-! ### laws_toIntS: function 12 -/
def laws_toIntS.l0 : Nat → List Int → List Int → Int → Option (List Int)
 | 0, _, _, _ => none
 | k + 1, x0, x3, x4 => if x4 < (x0.length : Int) then (if 0 ≤ x4 then (if x4 < (x3.length : Int) then (laws_toIntS.l0 k x0 (x3.set (x4 : Int).toNat (rd x0 x4)) (wrap64 (x4 + 1))) else (none)) else (none)) else (some x3)
def laws_toIntS.f (k : Nat) (l0 : List Int) : Option (List Int) := if 0 ≤ (l0.length : Int) then (if ((l0.length : Int) : Int).toNat ≤ 35184372088832 then (laws_toIntS.l0 k l0 (List.replicate ((l0.length : Int) : Int).toNat 0) 0) else (none)) else (none)
theorem laws_toIntS.mono_l : ∀ k, (∀ y0 y1 y2, LeO (laws_toIntS.l0 k y0 y1 y2) (laws_toIntS.l0 (k + 1) y0 y1 y2))
 | 0 => fun _ _ _ r h => by simp [laws_toIntS.l0] at h
 | k + 1 => by
  have ih0 := laws_toIntS.mono_l k
  ·
   intro y0 y1 y2;unfold laws_toIntS.l0
   repeat' first | (with_reducible exact ih0 _ _ _) | (with_reducible exact LeO.refl _) | (with_reducible exact LeO.none _) | (with_reducible refine LeO.ite ?_ ?_) | (with_reducible refine LeO.bind ?_ (fun _ => ?_))
theorem laws_toIntS.mono : ∀ a0 k, LeO (laws_toIntS.f k a0) (laws_toIntS.f (k + 1) a0) := by
 intro a0 k;have ih0 := laws_toIntS.mono_l k;unfold laws_toIntS.f
 repeat' first | (with_reducible exact ih0 _ _ _) | (with_reducible exact LeO.refl _) | (with_reducible exact LeO.none _) | (with_reducible refine LeO.ite ?_ ?_) | (with_reducible refine LeO.bind ?_ (fun _ => ?_))
set_option maxHeartbeats 8000000 in
set_option maxRecDepth 100000 in
theorem laws_toIntS.calls (k : Nat) (A0 : Option Addr) (c0 : Nat) (l0 : List Int) (r : List Int) (w : World) (hr0 : Kd.C (Kd.int .i64) w A0 l0.length l0) (hc0 : l0.length ≤ c0) (h : laws_toIntS.f k l0 = some r) :
  Calls Try.prog 12 #[.slice A0 l0.length c0] w fun e w' => ∃ v0_ : Value, e = .returned (v0_) ∧ Kd.R (Kd.int .i64) 3 w' w.heap.size (fun _ => True) v0_ r ∧ Below w.heap.size w w' := by
 have HR0 := am hr0;have HC0 := am hc0;clear hr0 hc0;have HB := am (Below.refl w.heap.size w);have H : (if 0 ≤ (l0.length : Int) then (if ((l0.length : Int) : Int).toNat ≤ 35184372088832 then (laws_toIntS.l0 k l0 (List.replicate ((l0.length : Int) : Int).toNat 0) 0) else (none)) else (none)) = some r := h;clear h;by_cases c2 : 0 ≤ (l0.length : Int)
 ·
  rw [if_pos c2] at H;have c2b0 := eq_true c2;have c2b1 : decide (0 ≤ (l0.length : Int)) = true := decide_eq_true c2;clear c2;by_cases c3 : ((l0.length : Int) : Int).toNat ≤ 35184372088832
  ·
   rw [if_pos c3] at H;have c3b0 := eq_true c3;have c3b1 : decide (((l0.length : Int) : Int).toNat ≤ 35184372088832) = true := decide_eq_true c3;clear c3
   obtain ⟨y101, hy101⟩ : ∃ y_ : List Int, y_ = (List.replicate ((l0.length : Int) : Int).toNat 0) := ⟨_, rfl⟩
   replace H : (laws_toIntS.l0 k l0 y101 0) = some r := by first | (rw [hy101]; with_reducible exact H) | (have H2_ := oB H; rw [hy101]; with_reducible exact H2_) | (have H2_ := oB H; with_reducible exact H2_) | with_reducible exact H | (rw [hy101]; exact H) | exact H
   replace hy101 := am hy101;have H' := am H;clear H;go_enter Try.func12, Try.ntmps12;go_wp2_with (first | ((with_reducible refine gate_dst (N := 7) rfl ?_); refine Kd.R_make (Kd.int .i64) _ 3 rfl (N := 7) rfl 22 _ _ rfl (l0.length : Int) rfl rfl Try.underlying22 (.int .i64 0) 8 info3 rfl (by decide) (by omega) 0 (ok := fun _ => True) (okp := fun _ => True) rfl (fun _ hk => hk) trivial (of_decide_eq_true (by assumption)) (Nat.le_trans (Nat.mul_le_mul_right _ (of_decide_eq_true (by assumption) : (l0.length : Int).toNat ≤ 35184372088832)) (by omega)) (Below.refl _ _) (Nat.le_refl _) ?_; intro v102 w4 ho5 hb hg_ hnew_; clear hg_ hnew_; (first | rw [← hy101.out] at ho5 | (simp only [Int.reduceToNat] at ho5; rw [← hy101.out] at ho5)); have HO103 := am (Kd.R_lower ho5 (below_size (bm HB.out)));replace HB := am (below_step (bm HB.out) hb); clear hb ho5))
   go_loopg [4] k (fun kq v4 w' => ∃ (x3_1 : List Int) (x4_1 : Int), v4 = .int .i64 x4_1 ∧ Aside0 (laws_toIntS.l0 kq l0 x3_1 x4_1 = some r) ∧ Aside0 (kq ≤ k) ∧ Aside0 (Kd.R (Kd.int .i64) 3 w' w.heap.size (fun _ => True) v102 x3_1) ∧ Aside0 (Below w.heap.size w w'))
   case atStart => exact ⟨(y101), (0), (by first | rfl | (simp; done) | (simp [*]; done)), H', ⟨Nat.le_refl _⟩, ⟨Kd.rm HO103.out⟩, ⟨bm HB.out⟩⟩
   case round =>
    clear H';(try clear c1);(try clear c2);(try clear c2b0);(try clear c2b1);(try clear p2);(try clear c3);(try clear c3b0);(try clear c3b1);(try clear HO_3);(try clear HB);obtain ⟨x3_1, x4_1, rfl, HA, HK1, HO_3, HB⟩ := hrel
    cases gk with
    | zero => exact absurd HA.out (by simp [laws_toIntS.l0])
    | succ k1 =>
     have H := HA.out;clear HA;simp only [laws_toIntS.l0] at H;by_cases c6 : x4_1 < (l0.length : Int)
     ·
      rw [if_pos c6] at H;have c6b0 : decide (x4_1 < (l0.length : Int)) = true := decide_eq_true c6;clear c6;by_cases c7 : 0 ≤ x4_1
      ·
       rw [if_pos c7] at H;have c7b0 : decide (0 ≤ x4_1) = true := decide_eq_true c7;clear c7;by_cases c8 : x4_1 < (x3_1.length : Int)
       ·
        rw [if_pos c8] at H;have c8b0 : decide (x4_1 < (x3_1.length : Int)) = true := decide_eq_true c8;clear c8
        obtain ⟨y105, hy105⟩ : ∃ y_ : List Int, y_ = (x3_1.set (x4_1 : Int).toNat (rd l0 x4_1)) := ⟨_, rfl⟩
        replace H : (laws_toIntS.l0 k1 l0 y105 (wrap64 (x4_1 + 1))) = some r := by first | (rw [hy105]; with_reducible exact H) | (have H2_ := oB H; rw [hy105]; with_reducible exact H2_) | (have H2_ := oB H; with_reducible exact H2_) | with_reducible exact H | (rw [hy105]; exact H) | exact H
        replace hy105 := am hy105;have H' := am H;clear H;have p104 : 0 ≤ (x4_1 : Int) := of_decide_eq_true (by assumption);have q104 : x4_1 < (l0.length : Int) := of_decide_eq_true (by assumption);obtain ⟨ad104, e104, hx104_0⟩ := Kd.at_int HR0.out x4_1 p104 q104;cases e104
        replace hx104_0 := (HB.out.cell (World.block_lt_of_cell? w _ hx104_0)).trans hx104_0;replace p104 := eq_true p104;replace q104 := eq_true q104;have p9 : 0 ≤ (x4_1 : Int) := of_decide_eq_true (by assumption);have q9 : (x4_1 : Int) < ((x3_1.length : Int) : Int) := of_decide_eq_true (by assumption);obtain ⟨go9, co9, eo9, gb9, gl9, cl9, HG9⟩ := Kd.R_form HO_3.out (by omega)
        (first | cases eo9 | (injection eo9 with ea_ en_ ec_; (first | subst ea_ | (injection ea_ with ea_; subst ea_)); subst ec_; clear en_))
        have GB9 := am gb9;have GG9 := am HG9;clear gb9 gl9 HG9;obtain ⟨hx9_0, hf9_0⟩ := Kd.R_celln 0 HO_3.out (x4_1 : Int) p9 q9;replace p9 := eq_true p9;replace q9 := eq_true q9;have HP10 := Kd.R_putg HO_3.out (x4_1 : Int) (rd l0 x4_1);go_wp2_with (first | ((with_reducible refine gate_store (t := 3) (p := 20) rfl ?_); refine store_event (t := 3) (p := 20) (v := ?vo_w11) (w1 := (wr.setCell ⟨go9, (x4_1 : Int).toNat, none⟩ (.int .i64 (rd l0 x4_1)))) ?hg ?ho ?hn ?hr ?_; (case ho => rfl); (case hg => rfl); (case hn => rfl); (case hr => first | (go_simp; done) | (go_simp; rfl)); intro w11 hw; have hg : wr.grownBy w11 (some go9) := (by rw [hw]; exact HP10.2); have hp_ : Kd.R (Kd.int .i64) 3 w11 w.heap.size (fun _ => True) (.slice (some ⟨go9, 0, none⟩) x3_1.length co9) y105 := (by rw [hw, hy105.out]; exact HP10.1); clear HP10; replace HO_3 := am (hp_);replace HB := am ((by rw [hw]; exact below_set (HB.out) GB9.out : Below w.heap.size w w11)); clear hg hw hp_))
        go_roundg k1
        case measure => have := HK1.out; omega
        case rel => exact ⟨(y105), (wrap64 (x4_1 + 1)), (by first | rfl | (simp; done) | (simp [*]; done)), H', ⟨by have := HK1.out; omega⟩, ⟨Kd.rm HO_3.out⟩, ⟨bm HB.out⟩⟩
       ·
        rw [if_neg c8] at H;exact absurd H (by simp)
      ·
       rw [if_neg c7] at H;exact absurd H (by simp)
     ·
      rw [if_neg c6] at H;have c6b0 : decide (x4_1 < (l0.length : Int)) = false := decide_eq_false c6;clear c6;obtain rfl := Option.some.inj H;go_wp2;go_ret;exact ⟨_, by first | rfl | (simp [errW_none, errW_some] <;> rfl) | (simp [*, errW_none, errW_some] <;> rfl), Kd.rm HO_3.out, bm HB.out⟩
  ·
   rw [if_neg c3] at H;exact absurd H (by simp)
 ·
  rw [if_neg c2] at H;exact absurd H (by simp)

/-! ### laws_eqIntS: function 14 -/
def laws_eqIntS.l0 : Nat → List Int → List Int → Int → Option (Bool)
 | 0, _, _, _ => none
 | k + 1, x0, x1, x5 => if x5 < (x0.length : Int) then (if 0 ≤ x5 then (if x5 < (x1.length : Int) then (if (rd x0 x5) = (rd x1 x5) then (laws_eqIntS.l0 k x0 x1 (wrap64 (x5 + 1))) else (some false)) else (none)) else (none)) else (some true)
def laws_eqIntS.f (k : Nat) (l0 : List Int) (l1 : List Int) : Option (Bool) := if (l0.length : Int) = (l1.length : Int) then (laws_eqIntS.l0 k l0 l1 0) else (some false)
theorem laws_eqIntS.mono_l : ∀ k, (∀ y0 y1 y2, LeO (laws_eqIntS.l0 k y0 y1 y2) (laws_eqIntS.l0 (k + 1) y0 y1 y2))
 | 0 => fun _ _ _ r h => by simp [laws_eqIntS.l0] at h
 | k + 1 => by
  have ih0 := laws_eqIntS.mono_l k
  ·
   intro y0 y1 y2;unfold laws_eqIntS.l0
   repeat' first | (with_reducible exact ih0 _ _ _) | (with_reducible exact LeO.refl _) | (with_reducible exact LeO.none _) | (with_reducible refine LeO.ite ?_ ?_) | (with_reducible refine LeO.bind ?_ (fun _ => ?_))
theorem laws_eqIntS.mono : ∀ a0 a1 k, LeO (laws_eqIntS.f k a0 a1) (laws_eqIntS.f (k + 1) a0 a1) := by
 intro a0 a1 k;have ih0 := laws_eqIntS.mono_l k;unfold laws_eqIntS.f
 repeat' first | (with_reducible exact ih0 _ _ _) | (with_reducible exact LeO.refl _) | (with_reducible exact LeO.none _) | (with_reducible refine LeO.ite ?_ ?_) | (with_reducible refine LeO.bind ?_ (fun _ => ?_))
set_option maxHeartbeats 8000000 in
set_option maxRecDepth 100000 in
theorem laws_eqIntS.calls (k : Nat) (A0 : Option Addr) (c0 : Nat) (l0 : List Int) (A1 : Option Addr) (c1 : Nat) (l1 : List Int) (r : Bool) (w : World) (hr0 : Kd.C (Kd.int .i64) w A0 l0.length l0) (hc0 : l0.length ≤ c0) (hr1 : Kd.C (Kd.int .i64) w A1 l1.length l1) (hc1 : l1.length ≤ c1) (h : laws_eqIntS.f k l0 l1 = some r) :
  Calls Try.prog 14 #[.slice A0 l0.length c0, .slice A1 l1.length c1] w fun e w' => e = .returned (.bool r) ∧ Drawn0 w w' := by
 have HR0 := am hr0;have HC0 := am hc0;clear hr0 hc0;have HR1 := am hr1;have HC1 := am hc1;clear hr1 hc1;have H : (if (l0.length : Int) = (l1.length : Int) then (laws_eqIntS.l0 k l0 l1 0) else (some false)) = some r := h;clear h;by_cases c3 : (l0.length : Int) = (l1.length : Int)
 ·
  rw [if_pos c3] at H;have c3b0 : ((l0.length : Int) == (l1.length : Int)) = true := beq_iff_eq.mpr c3;have c3b1 : ((l0.length : Int) != (l1.length : Int)) = false := bne_eq_false_iff_eq.mpr c3
  have c3b2 : (l0.length == l1.length) = true := by first | simpa using c3 | (simp at c3 ⊢; omega)
  clear c3;have H' := am H;clear H;go_enter Try.func14, Try.ntmps14;go_wp2
  repeat (go_quiet (fail); try go_wp2)
  go_loopg [5] k (fun kq v5 w' => ∃ (x5_1 : Int), v5 = .int .i64 x5_1 ∧ Aside0 (laws_eqIntS.l0 kq l0 l1 x5_1 = some r) ∧ Aside0 (kq ≤ k) ∧ Drawn0 w w')
  case atStart => exact ⟨(0), (by first | rfl | (simp; done) | (simp [*]; done)), H', ⟨Nat.le_refl _⟩, by repeat (first | exact Drawn0.refl _ | apply Drawn0.step)⟩
  case round =>
   clear H';(try clear c1);(try clear p2);(try clear c3);(try clear c3b0);(try clear c3b1);(try clear c3b2);obtain ⟨x5_1, rfl, HA, HK1, ⟨m1, rfl⟩⟩ := hrel
   cases gk with
   | zero => exact absurd HA.out (by simp [laws_eqIntS.l0])
   | succ k1 =>
    have H := HA.out;clear HA;simp only [laws_eqIntS.l0] at H;by_cases c4 : x5_1 < (l0.length : Int)
    ·
     rw [if_pos c4] at H;have c4b0 : decide (x5_1 < (l0.length : Int)) = true := decide_eq_true c4;clear c4;by_cases c5 : 0 ≤ x5_1
     ·
      rw [if_pos c5] at H;have c5b0 : decide (0 ≤ x5_1) = true := decide_eq_true c5;clear c5;by_cases c6 : x5_1 < (l1.length : Int)
      ·
       rw [if_pos c6] at H;have c6b0 : decide (x5_1 < (l1.length : Int)) = true := decide_eq_true c6;clear c6;by_cases c7 : (rd l0 x5_1) = (rd l1 x5_1)
       ·
        rw [if_pos c7] at H;have c7b0 : ((rd l0 x5_1) == (rd l1 x5_1)) = true := beq_iff_eq.mpr c7;have c7b1 : ((rd l0 x5_1) != (rd l1 x5_1)) = false := bne_eq_false_iff_eq.mpr c7;clear c7;have H' := am H;clear H;have p106 : 0 ≤ (x5_1 : Int) := of_decide_eq_true (by assumption);have q106 : x5_1 < (l0.length : Int) := of_decide_eq_true (by assumption);obtain ⟨ad106, e106, hx106_0⟩ := Kd.at_int HR0.out x5_1 p106 q106;cases e106
        replace p106 := eq_true p106;replace q106 := eq_true q106;have p107 : 0 ≤ (x5_1 : Int) := of_decide_eq_true (by assumption);have q107 : x5_1 < (l1.length : Int) := of_decide_eq_true (by assumption);obtain ⟨ad107, e107, hx107_0⟩ := Kd.at_int HR1.out x5_1 p107 q107;cases e107
        replace p107 := eq_true p107;replace q107 := eq_true q107;go_wp2
        repeat (go_quiet (fail); try go_wp2)
        go_roundg k1
        case measure => have := HK1.out; omega
        case rel => exact ⟨(wrap64 (x5_1 + 1)), (by first | rfl | (simp; done) | (simp [*]; done)), H', ⟨by have := HK1.out; omega⟩, by repeat (first | exact Drawn0.refl _ | apply Drawn0.step)⟩
       ·
        rw [if_neg c7] at H;have c7b0 : ((rd l0 x5_1) == (rd l1 x5_1)) = false := beq_eq_false_iff_ne.mpr c7;have c7b1 : ((rd l0 x5_1) != (rd l1 x5_1)) = true := bne_iff_ne.mpr c7;obtain rfl := Option.some.inj H;have p106 : 0 ≤ (x5_1 : Int) := of_decide_eq_true (by assumption);have q106 : x5_1 < (l0.length : Int) := of_decide_eq_true (by assumption);obtain ⟨ad106, e106, hx106_0⟩ := Kd.at_int HR0.out x5_1 p106 q106;cases e106
        replace p106 := eq_true p106;replace q106 := eq_true q106;have p107 : 0 ≤ (x5_1 : Int) := of_decide_eq_true (by assumption);have q107 : x5_1 < (l1.length : Int) := of_decide_eq_true (by assumption);obtain ⟨ad107, e107, hx107_0⟩ := Kd.at_int HR1.out x5_1 p107 q107;cases e107
        replace p107 := eq_true p107;replace q107 := eq_true q107;go_wp2
        repeat (go_quiet (fail); try go_wp2)
        go_ret;exact ⟨by first | rfl | (simp; done) | (simp [*]; done), by repeat (first | exact Drawn0.refl _ | apply Drawn0.step)⟩
      ·
       rw [if_neg c6] at H;exact absurd H (by simp)
     ·
      rw [if_neg c5] at H;exact absurd H (by simp)
    ·
     rw [if_neg c4] at H;have c4b0 : decide (x5_1 < (l0.length : Int)) = false := decide_eq_false c4;clear c4;obtain rfl := Option.some.inj H;go_wp2
     repeat (go_quiet (fail); try go_wp2)
     go_ret;exact ⟨by first | rfl | (simp; done) | (simp [*]; done), by repeat (first | exact Drawn0.refl _ | apply Drawn0.step)⟩
 ·
  rw [if_neg c3] at H;have c3b0 : ((l0.length : Int) == (l1.length : Int)) = false := beq_eq_false_iff_ne.mpr c3;have c3b1 : ((l0.length : Int) != (l1.length : Int)) = true := bne_iff_ne.mpr c3
  have c3b2 : (l0.length == l1.length) = false := by first | simpa using c3 | (simp at c3 ⊢; omega)
  obtain rfl := Option.some.inj H;go_enter Try.func14, Try.ntmps14;go_wp2
  repeat (go_quiet (fail); try go_wp2)
  go_ret;exact ⟨by first | rfl | (simp; done) | (simp [*]; done), by repeat (first | exact Drawn0.refl _ | apply Drawn0.step)⟩

/-! ### impl_takeHydra: function 68 -/
mutual
def impl_takeHydra.j0 : Nat → List Int → Bool → Option ((List (S46)) × List Int × Bool)
 | 0, _, _ => none
 | k + 1, x0, x24 => if x24 = true then (some (([] : List (S46)), ([] : List Int), false)) else (if 0 < (x0.length : Int) then (if 1 ≤ (x0.length : Int) then (impl_takeHydra.l0 k (x0.drop 1) (([] : List (S46))) (rd x0 0) 0) else (none)) else (none))
def impl_takeHydra.l0 : Nat → List Int → List (S46) → Int → Int → Option ((List (S46)) × List Int × Bool)
 | 0, _, _, _, _ => none
 | k + 1, x0, x6, x31, x32 => if x32 < x31 then ((impl_takeHydra.f k x0).bind fun bt119 => (if bt119.2.2 = true then (if x6.length < 5864062014805 then (impl_takeHydra.l0 k bt119.2.1 (x6 ++ [(⟨bt119.1⟩ : S46)]) x31 (wrap64 (x32 + 1))) else (none)) else (some (([] : List (S46)), ([] : List Int), false)))) else (some (x6, x0, true))
def impl_takeHydra.f : Nat → List Int → Option ((List (S46)) × List Int × Bool)
 | 0, _ => none
 | k + 1, l0 => if (l0.length : Int) = 0 then (impl_takeHydra.j0 k l0 true) else (if 0 < (l0.length : Int) then (if (rd l0 0) < 0 then (impl_takeHydra.j0 k l0 true) else (impl_takeHydra.j0 k l0 (decide ((rd l0 0) > 60)))) else (none))
end
theorem impl_takeHydra.mono_l : ∀ k, (∀ y0, LeO (impl_takeHydra.f k y0) (impl_takeHydra.f (k + 1) y0)) ∧ (∀ y0 y1, LeO (impl_takeHydra.j0 k y0 y1) (impl_takeHydra.j0 (k + 1) y0 y1)) ∧ (∀ y0 y1 y2 y3, LeO (impl_takeHydra.l0 k y0 y1 y2 y3) (impl_takeHydra.l0 (k + 1) y0 y1 y2 y3))
 | 0 => ⟨fun _ r h => by simp [impl_takeHydra.f] at h, fun _ _ r h => by simp [impl_takeHydra.j0] at h, fun _ _ _ _ r h => by simp [impl_takeHydra.l0] at h⟩
 | k + 1 => by
  obtain ⟨ih0, ih1, ih2⟩ := impl_takeHydra.mono_l k;refine ⟨?_, ?_, ?_⟩
  all_goals (intros; first | unfold impl_takeHydra.f | unfold impl_takeHydra.j0 | unfold impl_takeHydra.l0)
  all_goals repeat' first | (with_reducible exact ih0 _) | (with_reducible exact ih1 _ _) | (with_reducible exact ih2 _ _ _ _) | (with_reducible exact LeO.refl _) | (with_reducible exact LeO.none _) | (with_reducible refine LeO.ite ?_ ?_) | (with_reducible refine LeO.bind ?_ (fun _ => ?_))
theorem impl_takeHydra.mono : ∀ a0 k, LeO (impl_takeHydra.f k a0) (impl_takeHydra.f (k + 1) a0) := by
 intro a0 k;obtain ⟨ih0, ih1, ih2⟩ := impl_takeHydra.mono_l k;exact ih0 a0
set_option maxHeartbeats 8000000 in
set_option maxRecDepth 100000 in
theorem impl_takeHydra.calls (k : Nat) : ∀ (P0_ : Nat → Prop) (A0 : Option Addr) (c0 : Nat) (l0 : List Int) (r1 : List (S46)) (r2 : List Int) (r3 : Bool) (w : World) (hs0 : Kd.V (Kd.int .i64) 3 w w.heap.size (fun k_ => P0_ k_) (.slice A0 l0.length c0) l0) (h : impl_takeHydra.f k l0 = some (r1, r2, r3)),
  Calls Try.prog 68 #[.slice A0 l0.length c0] w fun e w' => ∃ v0_ v1_ : Value, e = .returned (.tuple #[v0_, v1_, .bool r3]) ∧ Kd.R k46 46 w' w.heap.size (fun k_ => (w.heap.size ≤ k_)) v0_ r1 ∧ Kd.V (Kd.int .i64) 3 w' w.heap.size (fun k_ => (P0_ k_ ∨ w.heap.size ≤ k_) ∧ some k_ ≠ (v0_ : Value).ownBlock) v1_ r2 ∧ Below w.heap.size w w' := by
 induction k using Nat.strongRecOn with
 | _ k ih =>
 intro P0_ A0 c0 l0 r1 r2 r3 w hs0 h
 cases k with
 | zero => exact absurd h (by simp [impl_takeHydra.f])
 | succ k =>
 simp only [impl_takeHydra.f] at h;have HO0 := am (show Kd.V (Kd.int .i64) 3 w w.heap.size (fun k_ => (P0_ k_ ∨ w.heap.size ≤ k_)) (.slice A0 l0.length c0) l0 from Kd.V_mono hs0 (fun k_ hk => .inl hk));have HB := am (Below.refl w.heap.size w);have H : (if (l0.length : Int) = 0 then (impl_takeHydra.j0 k l0 true) else (if 0 < (l0.length : Int) then (if (rd l0 0) < 0 then (impl_takeHydra.j0 k l0 true) else (impl_takeHydra.j0 k l0 (decide ((rd l0 0) > 60)))) else (none))) = some (r1, r2, r3) := h;clear h;have HC2 := am H;clear H;go_enter Try.func68, Try.ntmps68
 go_upto_region 1 with (fail)
 go_cut [24] (fun v24 wc => ∃ (kq : Nat) (x24_1 : Bool), v24 = .bool x24_1 ∧ Aside0 (impl_takeHydra.j0 kq l0 x24_1 = some (r1, r2, r3)) ∧ Aside0 (kq ≤ k) ∧ Aside0 (Kd.V (Kd.int .i64) 3 wc w.heap.size (fun k_ => (P0_ k_ ∨ w.heap.size ≤ k_)) (.slice A0 l0.length c0) l0) ∧ Aside0 (Below w.heap.size w wc))
 case first =>
  have H := HC2.out;clear HC2;by_cases c3 : (l0.length : Int) = 0
  ·
   rw [if_pos c3] at H;have c3b0 : ((l0.length : Int) == 0) = true := beq_iff_eq.mpr c3;have c3b1 : ((l0.length : Int) != 0) = false := bne_eq_false_iff_eq.mpr c3;clear c3
   (first | rw [c3b0] | (simp only [i64_w, i32_w]; rw [c3b0]) | skip)
   have H' := am H;clear H;go_wp2;go_meet
   case rel => exact ⟨_, (true), (by first | rfl | (simp; done) | (simp [*]; done)), H', ⟨by first | omega | exact Nat.le_refl _⟩, ⟨Kd.vm HO0.out⟩, ⟨bm HB.out⟩⟩
  ·
   rw [if_neg c3] at H;have c3b0 : ((l0.length : Int) == 0) = false := beq_eq_false_iff_ne.mpr c3;have c3b1 : ((l0.length : Int) != 0) = true := bne_iff_ne.mpr c3
   have c3b2 : ¬ (l0 = []) := fun h_ => c3 (by rw [h_]; rfl)
   (first | rw [c3b0] | (simp only [i64_w, i32_w]; rw [c3b0]) | skip)
   by_cases c4 : 0 < (l0.length : Int)
   ·
    rw [if_pos c4] at H;have c4b0 : decide (0 < (l0.length : Int)) = true := decide_eq_true c4;have c4b1 : decide (0 < l0.length) = true := decide_eq_true (by omega);clear c4;by_cases c5 : (rd l0 0) < 0
    ·
     rw [if_pos c5] at H;have c5b0 : decide ((rd l0 0) < 0) = true := decide_eq_true c5;clear c5;have H' := am H;clear H;have p108 : 0 ≤ (0 : Int) := (by omega);have q108 : 0 < (l0.length : Int) := of_decide_eq_true (by assumption);obtain ⟨ad108, e108, hx108_0⟩ := Kd.at_int (Kd.V_reads' HO0.out).2.2 0 p108 q108;cases e108
     have qi108 : (0 < l0.length) = True := eq_true (by omega);(try rw [show ((0 : Int)).toNat = 0 from rfl] at hx108_0);(try rw [Addr.add_zero'] at hx108_0);replace p108 := eq_true p108;replace q108 := eq_true q108;go_wp2;go_meet
     case rel => exact ⟨_, (true), (by first | rfl | (simp; done) | (simp [*]; done)), H', ⟨by first | omega | exact Nat.le_refl _⟩, ⟨Kd.vm HO0.out⟩, ⟨bm HB.out⟩⟩
    ·
     rw [if_neg c5] at H;have c5b0 : decide ((rd l0 0) < 0) = false := decide_eq_false c5;clear c5;have H' := am H;clear H;have p108 : 0 ≤ (0 : Int) := (by omega);have q108 : 0 < (l0.length : Int) := of_decide_eq_true (by assumption);obtain ⟨ad108, e108, hx108_0⟩ := Kd.at_int (Kd.V_reads' HO0.out).2.2 0 p108 q108;cases e108
     have qi108 : (0 < l0.length) = True := eq_true (by omega);(try rw [show ((0 : Int)).toNat = 0 from rfl] at hx108_0);(try rw [Addr.add_zero'] at hx108_0);replace p108 := eq_true p108;replace q108 := eq_true q108;have p109 : 0 ≤ (0 : Int) := (by omega);have q109 : 0 < (l0.length : Int) := of_decide_eq_true (by assumption);obtain ⟨ad109, e109, hx109_0⟩ := Kd.at_int (Kd.V_reads' HO0.out).2.2 0 p109 q109;obtain rfl : ad108 = ad109 := (by injection e109);have qi109 : (0 < l0.length) = True := eq_true (by omega);(try rw [show ((0 : Int)).toNat = 0 from rfl] at hx109_0);(try rw [Addr.add_zero'] at hx109_0);replace p109 := eq_true p109;replace q109 := eq_true q109;go_wp2;go_meet
     case rel => exact ⟨_, (decide ((rd l0 0) > 60)), (by first | rfl | (simp; done) | (simp [*]; done)), H', ⟨by first | omega | exact Nat.le_refl _⟩, ⟨Kd.vm HO0.out⟩, ⟨bm HB.out⟩⟩
   ·
    rw [if_neg c4] at H;exact absurd H (by simp)
 case rest =>
  clear HC2;(try clear p1);(try clear q1);(try clear hx1);(try clear qi1);(try clear p2);(try clear c3);(try clear c3b0);(try clear c3b1);(try clear c3b2);(try clear c4);(try clear c4b0);(try clear c4b1);(try clear c5);(try clear c5b0);(try clear hx108_0);(try clear hx109_0);(try clear p108);(try clear p109);(try clear q108);(try clear q109);obtain ⟨kq, x24_1, rfl, HA, HJ1, HO_0, HB⟩ := hcut
  cases kq with
  | zero => exact absurd HA.out (by simp [impl_takeHydra.j0])
  | succ kj1 =>
   have H := HA.out;clear HA;simp only [impl_takeHydra.j0] at H;by_cases c6 : x24_1 = true
   ·
    subst c6
    have H1 : (some (([] : List (S46)), ([] : List Int), false)) = some (r1, r2, r3) := by rw [if_pos rfl] at H; exact H
    clear H;have H := H1;clear H1;simp only [Option.some.injEq, Prod.mk.injEq] at H;obtain ⟨rfl, rfl, rfl⟩ := H;go_wp2;go_ret3;exact ⟨_, _, by first | rfl | (simp [errW_none, errW_some] <;> rfl) | (simp [*, errW_none, errW_some] <;> rfl), by first | exact Kd.R_nil _ _ _ _ _ | exact Kd.N_nil _ _ _ _ _ | exact Kd.V_nil _ _ _ _ _ | exact Kd.Y_nil _ _ _ _ _ | exact Kd.S_nil _ _ _ _ _, (by exact Kd.V_nil _ _ _ _ _), bm HB.out⟩
   ·
    replace c6 := Bool.eq_false_iff.mpr c6;subst c6
    have H1 : (if 0 < (l0.length : Int) then (if 1 ≤ (l0.length : Int) then (impl_takeHydra.l0 kj1 (l0.drop 1) (([] : List (S46))) (rd l0 0) 0) else (none)) else (none)) = some (r1, r2, r3) := by rw [if_neg (show ¬ (false = true) by decide)] at H; exact H
    clear H;have H := H1;clear H1;by_cases c7 : 0 < (l0.length : Int)
    ·
     rw [if_pos c7] at H;have c7b0 : decide (0 < (l0.length : Int)) = true := decide_eq_true c7;have c7b1 : decide (0 < l0.length) = true := decide_eq_true (by omega);clear c7;by_cases c8 : 1 ≤ (l0.length : Int)
     ·
      rw [if_pos c8] at H;have c8b0 := eq_true c8;have c8b1 : decide (1 ≤ (l0.length : Int)) = true := decide_eq_true c8;clear c8
      obtain ⟨y111, hy111⟩ : ∃ y_ : List Int, y_ = (l0.drop 1) := ⟨_, rfl⟩
      replace H : (impl_takeHydra.l0 kj1 y111 (([] : List (S46))) (rd l0 0) 0) = some (r1, r2, r3) := by first | (rw [hy111]; with_reducible exact H) | (have H2_ := oB H; rw [hy111]; with_reducible exact H2_) | (have H2_ := oB H; with_reducible exact H2_) | with_reducible exact H | (rw [hy111]; exact H) | exact H
      replace hy111 := am hy111
      obtain ⟨y116, hy116⟩ : ∃ y_ : List (S46), y_ = (([] : List (S46))) := ⟨_, rfl⟩
      replace H : (impl_takeHydra.l0 kj1 y111 y116 (rd l0 0) 0) = some (r1, r2, r3) := by first | (rw [hy116]; with_reducible exact H) | (have H2_ := oB H; rw [hy116]; with_reducible exact H2_) | (have H2_ := oB H; with_reducible exact H2_) | with_reducible exact H | (rw [hy116]; exact H) | exact H
      replace hy116 := am hy116;have H' := am H;clear H;have p110 : 0 ≤ (0 : Int) := (by omega);have q110 : 0 < (l0.length : Int) := of_decide_eq_true (by assumption);obtain ⟨ad110, e110, hx110_0⟩ := Kd.at_int (Kd.V_reads' HO_0.out).2.2 0 p110 q110;cases e110
      have qi110 : (0 < l0.length) = True := eq_true (by omega);(try rw [show ((0 : Int)).toNat = 0 from rfl] at hx110_0);(try rw [Addr.add_zero'] at hx110_0);replace p110 := eq_true p110;replace q110 := eq_true q110;have q9 : (1 : Int) ≤ ((l0.length : Int) : Int) := of_decide_eq_true (by assumption);obtain ⟨i09, hi09, _, hsz9, _⟩ := info_parts info3;have hroom9 : l0.length ≤ c0 := (Kd.V_reads' HO_0.out).2.1;have hC9 : Kd.F (Kd.int .i64) _ _ (some ad110) l0.length l0 := (Kd.V_at (base := w.heap.size) HO_0.out).2.2;have hcut9 := cut_from (P := Try.prog) 22 3 .i64 Try.underlying22 hi09 1 hsz9 (some ad110) l0.length c0 1 (by omega) q9;have hr9 := Kd.F_cut (m := (1 : Int).toNat) (c := c0) hC9 (by omega) hroom9
      obtain ⟨A9, hA9⟩ : ∃ A1, A1 = (if c0 = (1 : Int).toNat then (some ad110) else ((some ad110) : Option Addr).map (·.add ((1 : Int).toNat * 1))) := ⟨_, rfl⟩
      obtain ⟨c9, hc9⟩ : ∃ c1, c1 = c0 - (1 : Int).toNat := ⟨_, rfl⟩
      have hy9 : y111.length = l0.length - (1 : Int).toNat := (by rw [hy111.out, List.length_drop] <;> omega);rw [show (l0).drop (1 : Int).toNat = y111 from hy111.out.symm] at hr9;replace hr9 : Kd.F (Kd.int .i64) _ _ A9 y111.length y111 := (by rw [hA9]; exact hr9);rw [← hy9, ← hA9, ← hc9] at hcut9;have HO115 := am (show Kd.V (Kd.int .i64) 3 _ w.heap.size _ (.slice A9 y111.length c9) y111 from Kd.V_mk (by rw [hy9, hc9]; exact Nat.sub_le_sub_right hroom9 _) hr9);have HC115 := am (show y111.length ≤ c9 from by rw [hy9, hc9]; exact Nat.sub_le_sub_right hroom9 _);clear hr9 hC9 hroom9 hi09 hsz9 hc9;have KY9 := am hy9;have KA9 := am hA9;clear hy9 hA9;replace q9 := eq_true q9;go_wp2_with (first | ((with_reducible refine gate_dst (N := 30) rfl ?_); refine Kd.R_lit k46 _ 46 ?hg (N := 30) ?hd (xs := ([] : List (S46))) (inner := []) (ok := fun _ => True) (okp := fun _ => True) ?hr ?hp (fun _ hk => hk) trivial (Below.refl _ _) (Nat.le_refl _) (by simp) ?_; (case hd => rfl); (case hg => rfl); (case hr => first | (go_simp; done) | (go_simp; rfl)); (case hp => exact (Reps.none _ _)); intro v117 w10 ho11 hb hg_ hnew_; clear hg_ hnew_; (first | rw [← hy116.out] at ho11 | (simp only [Int.reduceToNat] at ho11; rw [← hy116.out] at ho11)); replace HO_0 := am (Kd.V_elder' (Kd.vm HO_0.out) (Kd.R_base ho11) hb);replace HO115 := am (Kd.V_elder' (Kd.vm HO115.out) (Kd.R_base ho11) hb);have HO118 := am (Kd.R_lower (Kd.R_newM (M := fun k_ => (w.heap.size ≤ k_)) ho11 (below_size (bm HB.out)) (fun k_ h_ => h_)) (below_size (bm HB.out)));replace HB := am (below_step (bm HB.out) hb); clear hb ho11))
      go_loopg [0, 6, 32] kj1 (fun kq v0 v6 v32 w' => ∃ (x0_2 : List Int) (x6_2 : List (S46)) (x32_2 : Int), v32 = .int .i64 x32_2 ∧ Aside0 (impl_takeHydra.l0 kq x0_2 x6_2 (rd l0 0) x32_2 = some (r1, r2, r3)) ∧ Aside0 (kq ≤ kj1) ∧ Aside0 (Kd.V (Kd.int .i64) 3 w' w.heap.size (fun k_ => (P0_ k_ ∨ w.heap.size ≤ k_) ∧ some k_ ≠ (v6 : Value).ownBlock) v0 x0_2) ∧ Aside0 (Kd.R k46 46 w' w.heap.size (fun k_ => (w.heap.size ≤ k_)) v6 x6_2) ∧ Aside0 (Below w.heap.size w w'))
      case atStart => exact ⟨(y111), (y116), (0), (by first | rfl | (simp; done) | (simp [*]; done)), H', ⟨Nat.le_refl _⟩, ⟨Kd.vm HO115.out⟩, ⟨Kd.rm (Kd.R_mono HO118.out (fun _ hk => hk.1))⟩, ⟨bm HB.out⟩⟩
      case round =>
       clear H';(try clear c1);(try clear p1);(try clear q1);(try clear hx1);(try clear qi1);(try clear p2);(try clear c3);(try clear c3b0);(try clear c3b1);(try clear c3b2);(try clear c4);(try clear c4b0);(try clear c4b1);(try clear c5);(try clear c5b0);(try clear c6);(try clear c7);(try clear c7b0);(try clear c7b1);(try clear c8);(try clear c8b0);(try clear c8b1);(try clear c9);(try clear q9);(try clear p10);(try clear q10);(try clear hx10);(try clear qi10);(try clear p11);(try clear q11);(try clear hx11);(try clear qi11);(try clear hx108_0);(try clear hx109_0);(try clear hx110_0);(try clear p1);(try clear p108);(try clear p109);(try clear p110);(try clear p2);(try clear q1);(try clear q108);(try clear q109);(try clear q110);(try clear q9);(try clear HO_0);(try clear HO_6);(try clear HB);obtain ⟨x0_2, x6_2, x32_2, rfl, HA, HK2, HO_0, HO_6, HB⟩ := hrel
       cases gk with
       | zero => exact absurd HA.out (by simp [impl_takeHydra.l0])
       | succ k2 =>
        have H := HA.out;clear HA;simp only [impl_takeHydra.l0] at H;by_cases c12 : x32_2 < (rd l0 0)
        ·
         rw [if_pos c12] at H;have c12b0 : decide (x32_2 < (rd l0 0)) = true := decide_eq_true c12;clear c12;replace H := oE H;obtain ⟨⟨t119, t122, t125⟩, A13, H⟩ := H;replace H : (if t125 = true then (if x6_2.length < 5864062014805 then (impl_takeHydra.l0 k2 t122 (x6_2 ++ [(⟨t119⟩ : S46)]) (rd l0 0) (wrap64 (x32_2 + 1))) else (none)) else (some (([] : List (S46)), ([] : List Int), false))) = some (r1, r2, r3) := H;replace A13 := am A13;by_cases c14 : t125 = true
         ·
          subst c14
          have H1 : (if x6_2.length < 5864062014805 then (impl_takeHydra.l0 k2 t122 (x6_2 ++ [(⟨t119⟩ : S46)]) (rd l0 0) (wrap64 (x32_2 + 1))) else (none)) = some (r1, r2, r3) := by rw [if_pos rfl] at H; exact H
          clear H;have H := H1;clear H1;by_cases c15 : x6_2.length < 5864062014805
          ·
           rw [if_pos c15] at H;have LMc15 := am c15;clear c15
           obtain ⟨y126, hy126⟩ : ∃ y_ : List (S46), y_ = (x6_2 ++ [(⟨t119⟩ : S46)]) := ⟨_, rfl⟩
           replace H : (impl_takeHydra.l0 k2 t122 y126 (rd l0 0) (wrap64 (x32_2 + 1))) = some (r1, r2, r3) := by first | (rw [hy126]; with_reducible exact H) | (have H2_ := oB H; rw [hy126]; with_reducible exact H2_) | (have H2_ := oB H; with_reducible exact H2_) | with_reducible exact H | (rw [hy126]; exact H) | exact H
           replace hy126 := am hy126;have H' := am H;clear H;obtain ⟨Ao16, co16, eo16⟩ := Kd.V_slice HO_0.out;subst eo16;go_wp2_with (first | ((with_reducible refine gate_callee (f := 68) rfl ?_); refine goesL_ (some 36) rfl rfl Try.func68 (by kernel_rfl) rfl #[.slice Ao16 x0_2.length co16] rfl (by (try simp only [mA, mB, mC]); first | done | rfl) ?_; (with_reducible refine (ih k2 (by have := HJ1.out; have := HK2.out; omega) (fun k_ => ((P0_ k_ ∨ w.heap.size ≤ k_) ∧ some k_ ≠ (u6 : Value).ownBlock)) _ _ x0_2 t119 t122 true _ ?side1 A13.out).mono ?_); (case side1 => exact HO_0.out); rintro e w17 ⟨v120, v123, rfl, ho0, ho1, hb⟩; refine ⟨_, rfl, ?_⟩; replace HO_0 := am (Kd.V_elder' (Kd.vm HO_0.out) (Kd.R_base ho0) hb);have HO121 := am (Kd.R_lower (Kd.R_new' (Kd.R_newM (M := fun k_ => (w.heap.size ≤ k_)) (Kd.R_mono (ok' := fun k_ => True) ho0 (fun _ hk_ => trivial)) (below_size (bm HB.out)) (fun k_ h_ => h_)) (Kd.R_lt (Kd.rm HO_6.out))) (below_size (bm HB.out)));have HO124 := am (Kd.V_lower (Kd.V_mono (ok' := fun k_ => (P0_ k_ ∨ w.heap.size ≤ k_) ∧ some k_ ≠ (v120 : Value).ownBlock ∧ some k_ ≠ (u6 : Value).ownBlock) ho1 (fun k_ hk_ => ⟨Or.elim hk_.1 (fun hs_ => hs_.1) (fun hn_ => (.inr (Nat.le_trans (below_size (bm HB.out)) hn_))), hk_.2, Or.elim hk_.1 (fun hs_ => hs_.2) (fun hn_ => (Kd.fresh' (Kd.R_lt (Kd.rm HO_6.out)) k_ hn_))⟩)) (below_size (bm HB.out)));replace HO_6 := am (Kd.R_elder' (Kd.rm HO_6.out) (Kd.R_base ho0) hb);replace HB := am (below_step (bm HB.out) hb); (try clear hb); (try clear hk); (try clear ho0); (try clear ho1); obtain ⟨Ao19, co19, eo19⟩ := Kd.R_slice HO121.out; subst eo19) | ((with_reducible refine gate_builtin (b := .append) (xs := #[.tmp 42, .tmp 44]) rfl ?_); at_builtin; refine Kd.R_append k46 (w0 := w) w.heap.size rfl (.tmp 42) (.tmp 44) 46 46 (.slice none 0 0) 24 rfl Try.underlying46 info46 rfl (by decide) (by omega) u6 x6_2 (⟨t119⟩ : S46) [.slice Ao19 t119.length co19] (fun k_ => (w.heap.size ≤ k_)) (fun k_ => ((fun k_ => (w.heap.size ≤ k_))) k_ ∧ some k_ ≠ (u6 : Value).ownBlock) rfl rfl ?aP (fun _ hk => hk) ?aF ?aO ?aB ?aS ?aL ?_; (case aP => exact k46_mkM _ _ _ (⟨t119⟩ : S46) (Kd.R_mono (HO121.out) (fun k_ hk => ⟨hk.1.1, hk.2⟩))); (case aB => exact (bm HB.out)); (case aF => exact (fun k_ hk => (Nat.le_trans (below_size (bm HB.out)) hk))); (case aO => exact (Kd.rm (Kd.R_mono HO_6.out (fun _ hk => hk.1)))); (case aS => exact (below_size (bm HB.out))); (case aL => have := LMc15.out; omega); intro v127 w18 ho hb hg hat; rw [← hy126.out] at ho; replace HO_0 := am (Kd.V_afterv (ok := (fun k_ => (P0_ k_ ∨ w.heap.size ≤ k_) ∧ some k_ ≠ (.slice Ao19 t119.length co19 : Value).ownBlock)) (Kd.vm (Kd.V_mono HO_0.out (fun _ hk => ⟨⟨hk.1.1, hk.2⟩, hk.1.2⟩))) hg hat);replace HO124 := am (Kd.V_afterv (ok := (fun k_ => (P0_ k_ ∨ w.heap.size ≤ k_) ∧ some k_ ≠ (.slice Ao19 t119.length co19 : Value).ownBlock)) (Kd.vm (Kd.V_mono HO124.out (fun _ hk => ⟨⟨hk.1, hk.2.1⟩, hk.2.2⟩))) hg hat);replace HB := am (hb);have HO128 := am (ho);clear HO_6 HO121; clear ho hb hg hat))
           go_roundg k2
           case measure => have := HJ1.out; have := HK2.out; omega
           case rel => exact ⟨(t122), (y126), (wrap64 (x32_2 + 1)), (by first | rfl | (simp; done) | (simp [*]; done)), H', ⟨by have := HJ1.out; have := HK2.out; omega⟩, ⟨Kd.vm (Kd.V_mono HO124.out (fun _ hk => ⟨hk.1.1, hk.2⟩))⟩, ⟨Kd.rm HO128.out⟩, ⟨bm HB.out⟩⟩
          ·
           rw [if_neg c15] at H;exact absurd H (by simp)
         ·
          replace c14 := Bool.eq_false_iff.mpr c14;subst c14
          have H1 : (some (([] : List (S46)), ([] : List Int), false)) = some (r1, r2, r3) := by rw [if_neg (show ¬ (false = true) by decide)] at H; exact H
          clear H;have H := H1;clear H1;simp only [Option.some.injEq, Prod.mk.injEq] at H;obtain ⟨rfl, rfl, rfl⟩ := H;obtain ⟨Ao20, co20, eo20⟩ := Kd.V_slice HO_0.out;subst eo20;go_wp2_with (first | ((with_reducible refine gate_callee (f := 68) rfl ?_); refine goesL_ (some 36) rfl rfl Try.func68 (by kernel_rfl) rfl #[.slice Ao20 x0_2.length co20] rfl (by (try simp only [mA, mB, mC]); first | done | rfl) ?_; (with_reducible refine (ih k2 (by have := HJ1.out; have := HK2.out; omega) (fun k_ => ((P0_ k_ ∨ w.heap.size ≤ k_) ∧ some k_ ≠ (u6 : Value).ownBlock)) _ _ x0_2 t119 t122 false _ ?side1 A13.out).mono ?_); (case side1 => exact HO_0.out); rintro e w21 ⟨v120, v123, rfl, ho0, ho1, hb⟩; refine ⟨_, rfl, ?_⟩; replace HO_0 := am (Kd.V_elder' (Kd.vm HO_0.out) (Kd.R_base ho0) hb);have HO121 := am (Kd.R_lower (Kd.R_new' (Kd.R_newM (M := fun k_ => (w.heap.size ≤ k_)) (Kd.R_mono (ok' := fun k_ => True) ho0 (fun _ hk_ => trivial)) (below_size (bm HB.out)) (fun k_ h_ => h_)) (Kd.R_lt (Kd.rm HO_6.out))) (below_size (bm HB.out)));have HO124 := am (Kd.V_lower (Kd.V_mono (ok' := fun k_ => (P0_ k_ ∨ w.heap.size ≤ k_) ∧ some k_ ≠ (v120 : Value).ownBlock ∧ some k_ ≠ (u6 : Value).ownBlock) ho1 (fun k_ hk_ => ⟨Or.elim hk_.1 (fun hs_ => hs_.1) (fun hn_ => (.inr (Nat.le_trans (below_size (bm HB.out)) hn_))), hk_.2, Or.elim hk_.1 (fun hs_ => hs_.2) (fun hn_ => (Kd.fresh' (Kd.R_lt (Kd.rm HO_6.out)) k_ hn_))⟩)) (below_size (bm HB.out)));replace HO_6 := am (Kd.R_elder' (Kd.rm HO_6.out) (Kd.R_base ho0) hb);replace HB := am (below_step (bm HB.out) hb); (try clear hb); (try clear ho0); (try clear ho1)));go_ret3;exact ⟨_, _, by first | rfl | (simp [errW_none, errW_some] <;> rfl) | (simp [*, errW_none, errW_some] <;> rfl), by first | exact Kd.R_nil _ _ _ _ _ | exact Kd.N_nil _ _ _ _ _ | exact Kd.V_nil _ _ _ _ _ | exact Kd.Y_nil _ _ _ _ _ | exact Kd.S_nil _ _ _ _ _, (by exact Kd.V_nil _ _ _ _ _), bm HB.out⟩
        ·
         rw [if_neg c12] at H;have c12b0 : decide (x32_2 < (rd l0 0)) = false := decide_eq_false c12;clear c12;simp only [Option.some.injEq, Prod.mk.injEq] at H;obtain ⟨rfl, rfl, rfl⟩ := H;go_wp2;go_ret3;exact ⟨_, _, by first | rfl | (simp [errW_none, errW_some] <;> rfl) | (simp [*, errW_none, errW_some] <;> rfl), Kd.rm HO_6.out, Kd.vm HO_0.out, bm HB.out⟩
     ·
      rw [if_neg c8] at H;exact absurd H (by simp)
    ·
     rw [if_neg c7] at H;exact absurd H (by simp)

/-! ### impl_hydraOf: function 43 -/
def impl_hydraOf.f (k : Nat) (l0 : List Int) : Option ((List (S46)) × Bool) := if (l0.length : Int) < 1 then (some (([] : List (S46)), false)) else (if (l0.length : Int) > 60 then (some (([] : List (S46)), false)) else ((impl_takeHydra.f k l0).bind fun bt129 => (if bt129.2.2 = true then (some (bt129.1, ((bt129.2.1.length : Int) == 0))) else (some (bt129.1, false)))))
theorem impl_hydraOf.mono : ∀ a0 k, LeO (impl_hydraOf.f k a0) (impl_hydraOf.f (k + 1) a0) := by
 intro a0 k;unfold impl_hydraOf.f
 repeat' first | (with_reducible exact impl_takeHydra.mono _ _) | (with_reducible exact LeO.refl _) | (with_reducible exact LeO.none _) | (with_reducible refine LeO.ite ?_ ?_) | (with_reducible refine LeO.bind ?_ (fun _ => ?_))
set_option maxHeartbeats 8000000 in
set_option maxRecDepth 100000 in
theorem impl_hydraOf.calls (k : Nat) (A0 : Option Addr) (c0 : Nat) (l0 : List Int) (r1 : List (S46)) (r2 : Bool) (w : World) (hr0 : Kd.C (Kd.int .i64) w A0 l0.length l0) (hc0 : l0.length ≤ c0) (h : impl_hydraOf.f k l0 = some (r1, r2)) :
  Calls Try.prog 43 #[.slice A0 l0.length c0] w fun e w' => ∃ v0_ : Value, e = .returned (.tuple #[v0_, .bool r2]) ∧ Kd.R k46 46 w' w.heap.size (fun _ => True) v0_ r1 ∧ Below w.heap.size w w' := by
 have HR0 := am hr0;have HC0 := am hc0;clear hr0 hc0;have HB := am (Below.refl w.heap.size w);have H : (if (l0.length : Int) < 1 then (some (([] : List (S46)), false)) else (if (l0.length : Int) > 60 then (some (([] : List (S46)), false)) else ((impl_takeHydra.f k l0).bind fun bt129 => (if bt129.2.2 = true then (some (bt129.1, ((bt129.2.1.length : Int) == 0))) else (some (bt129.1, false)))))) = some (r1, r2) := h;clear h;by_cases c2 : (l0.length : Int) < 1
 ·
  rw [if_pos c2] at H;have c2b0 : decide ((l0.length : Int) < 1) = true := decide_eq_true c2;have c2b1 : decide (l0.length < 1) = true := decide_eq_true (by omega);clear c2;simp only [Option.some.injEq, Prod.mk.injEq] at H;obtain ⟨rfl, rfl⟩ := H;go_enter Try.func43, Try.ntmps43;go_wp2;go_ret2;exact ⟨_, by first | rfl | (simp [errW_none, errW_some] <;> rfl) | (simp [*, errW_none, errW_some] <;> rfl), by first | exact Kd.R_nil _ _ _ _ _ | exact Kd.N_nil _ _ _ _ _ | exact Kd.V_nil _ _ _ _ _ | exact Kd.Y_nil _ _ _ _ _ | exact Kd.S_nil _ _ _ _ _, bm HB.out⟩
 ·
  rw [if_neg c2] at H;have c2b0 : decide ((l0.length : Int) < 1) = false := decide_eq_false c2;have c2b1 : decide (l0.length < 1) = false := decide_eq_false (by omega);clear c2;by_cases c3 : (l0.length : Int) > 60
  ·
   rw [if_pos c3] at H;have c3b0 : decide (60 < (l0.length : Int)) = true := decide_eq_true c3;have c3b1 : decide (60 < l0.length) = true := decide_eq_true (by omega);clear c3;simp only [Option.some.injEq, Prod.mk.injEq] at H;obtain ⟨rfl, rfl⟩ := H;go_enter Try.func43, Try.ntmps43;go_wp2;go_ret2;exact ⟨_, by first | rfl | (simp [errW_none, errW_some] <;> rfl) | (simp [*, errW_none, errW_some] <;> rfl), by first | exact Kd.R_nil _ _ _ _ _ | exact Kd.N_nil _ _ _ _ _ | exact Kd.V_nil _ _ _ _ _ | exact Kd.Y_nil _ _ _ _ _ | exact Kd.S_nil _ _ _ _ _, bm HB.out⟩
  ·
   rw [if_neg c3] at H;have c3b0 : decide (60 < (l0.length : Int)) = false := decide_eq_false c3;have c3b1 : decide (60 < l0.length) = false := decide_eq_false (by omega);clear c3;replace H := oE H;obtain ⟨⟨t129, t132, t135⟩, A4, H⟩ := H;replace H : (if t135 = true then (some (t129, ((t132.length : Int) == 0))) else (some (t129, false))) = some (r1, r2) := H;replace A4 := am A4;by_cases c5 : t135 = true
   ·
    subst c5
    have H1 : (some (t129, ((t132.length : Int) == 0))) = some (r1, r2) := by rw [if_pos rfl] at H; exact H
    clear H;have H := H1;clear H1;simp only [Option.some.injEq, Prod.mk.injEq] at H;obtain ⟨rfl, rfl⟩ := H;go_enter Try.func43, Try.ntmps43;go_wp2_with (first | ((with_reducible refine gate_callee (f := 68) rfl ?_); refine goesL_ (some 17) rfl rfl Try.func68 (by kernel_rfl) rfl #[.slice A0 l0.length c0] rfl (by (try simp only [mA, mB, mC]); first | done | rfl) ?_; (with_reducible refine (impl_takeHydra.calls k (fun k_ => k_ < w.heap.size) _ _ l0 t129 t132 true _ ?side1 A4.out).mono ?_); (case side1 => exact Kd.V_mk HC0.out (Kd.F_below (Kd.C_F (Kd.heap_int .i64) HR0.out) (bm HB.out))); rintro e w6 ⟨v130, v133, rfl, ho0, ho1, hb⟩; refine ⟨_, rfl, ?_⟩; have HO131 := am (Kd.R_lower (Kd.R_mono (ok' := fun k_ => True) ho0 (fun _ hk_ => trivial)) (below_size (bm HB.out)));have HO134 := am (Kd.V_lower (Kd.V_mono (ok' := fun k_ => some k_ ≠ (v130 : Value).ownBlock) ho1 (fun k_ hk_ => hk_.2)) (below_size (bm HB.out)));replace HB := am (below_step (bm HB.out) hb); (try clear hb); (try clear ho0); (try clear ho1); obtain ⟨Ao7, co7, eo7⟩ := Kd.V_slice HO134.out; subst eo7));go_ret2;exact ⟨_, by first | rfl | (simp [errW_none, errW_some] <;> rfl) | (simp [*, errW_none, errW_some] <;> rfl), Kd.rm HO131.out, bm HB.out⟩
   ·
    replace c5 := Bool.eq_false_iff.mpr c5;subst c5
    have H1 : (some (t129, false)) = some (r1, r2) := by rw [if_neg (show ¬ (false = true) by decide)] at H; exact H
    clear H;have H := H1;clear H1;simp only [Option.some.injEq, Prod.mk.injEq] at H;obtain ⟨rfl, rfl⟩ := H;go_enter Try.func43, Try.ntmps43;go_wp2_with (first | ((with_reducible refine gate_callee (f := 68) rfl ?_); refine goesL_ (some 17) rfl rfl Try.func68 (by kernel_rfl) rfl #[.slice A0 l0.length c0] rfl (by (try simp only [mA, mB, mC]); first | done | rfl) ?_; (with_reducible refine (impl_takeHydra.calls k (fun k_ => k_ < w.heap.size) _ _ l0 t129 t132 false _ ?side1 A4.out).mono ?_); (case side1 => exact Kd.V_mk HC0.out (Kd.F_below (Kd.C_F (Kd.heap_int .i64) HR0.out) (bm HB.out))); rintro e w8 ⟨v130, v133, rfl, ho0, ho1, hb⟩; refine ⟨_, rfl, ?_⟩; have HO131 := am (Kd.R_lower (Kd.R_mono (ok' := fun k_ => True) ho0 (fun _ hk_ => trivial)) (below_size (bm HB.out)));have HO134 := am (Kd.V_lower (Kd.V_mono (ok' := fun k_ => some k_ ≠ (v130 : Value).ownBlock) ho1 (fun k_ hk_ => hk_.2)) (below_size (bm HB.out)));replace HB := am (below_step (bm HB.out) hb); (try clear hb); (try clear ho0); (try clear ho1)));go_ret2;exact ⟨_, by first | rfl | (simp [errW_none, errW_some] <;> rfl) | (simp [*, errW_none, errW_some] <;> rfl), Kd.rm HO131.out, bm HB.out⟩

end Go.Proofs.Ytahhdbjjfdjloaa.Je

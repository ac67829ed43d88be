-- half
-- Written by a program of this session's (wip/mp) out of the translation, over the kit's print with changes.
import Derived.Test.YtahhdbjjfdjloaaJdx0
import Derived.Test.YtahhdbjjfdjloaaJdx2
namespace Go.Proofs.Ytahhdbjjfdjloaa.Jd
open Go.RowKit Go.Proofs.YtahhdbjjfdjloaaW.PrintWords Go.Proofs.YtahhdbjjfdjloaaW.PrintLast Go.Proofs.YtahhdbjjfdjloaaW.PrintMore
attribute [local go_sem] max2_int min2_int max_two min_two max_three min_three max_four min_four   -- for this text's walks alone
set_option linter.unusedVariables false
set_option linter.unusedSimpArgs false

/-! ### impl_natural: function 72 -/
mutual
def impl_natural.l0 : Nat → List (S72) → List (S72) → List (S72) → Option ((List (S72)))
 | 0, _, _, _ => none
 | k + 1, x0, x1, x5 => if (x0.length : Int) > 0 then (impl_natural.j1 k x0 x1 x5 (decide ((x1.length : Int) > 0))) else (impl_natural.j1 k x0 x1 x5 false)
def impl_natural.j1 : Nat → List (S72) → List (S72) → List (S72) → Bool → Option ((List (S72)))
 | 0, _, _, _, _ => none
 | k + 1, x0, x1, x5, x15 => if x15 = true then (if 0 < (x0.length : Int) then (if 0 < (x1.length : Int) then ((impl_compare.f k ((rd_T72 x0 0).f1) ((rd_T72 x1 0).f1)).bind fun t450 => (if t450 > 0 then (if x5.length < 4398046511104 then (if 1 ≤ (x0.length : Int) then (impl_natural.l0 k (x0.drop 1) x1 (x5 ++ [(⟨(rd_T72 x0 0).f0, (rd_T72 x0 0).f1⟩ : S72)])) else (none)) else (none)) else (if t450 < 0 then (if x5.length < 4398046511104 then (if 1 ≤ (x1.length : Int) then (impl_natural.l0 k x0 (x1.drop 1) (x5 ++ [(⟨(rd_T72 x1 0).f0, (rd_T72 x1 0).f1⟩ : S72)])) else (none)) else (none)) else (if x5.length < 4398046511104 then (if 1 ≤ (x0.length : Int) then (if 1 ≤ (x1.length : Int) then (impl_natural.l0 k (x0.drop 1) (x1.drop 1) (x5 ++ [(⟨wrap64 (((rd_T72 x0 0).f0) + ((rd_T72 x1 0).f0)), (rd_T72 x0 0).f1⟩ : S72)])) else (none)) else (none)) else (none))))) else (none)) else (none)) else (if x5.length + x0.length < 4398046511104 then ((some (x5 ++ x0 : List (S72))).bind fun y442 => (if y442.length + x1.length < 4398046511104 then (some (y442 ++ x1)) else (none))) else (none))
end
def impl_natural.f (k : Nat) (l0 : List (S72)) (l1 : List (S72)) : Option ((List (S72))) := impl_natural.l0 k l0 l1 (([] : List (S72)))
theorem impl_natural.mono_l : ∀ k, (∀ y0 y1 y2, LeO (impl_natural.l0 k y0 y1 y2) (impl_natural.l0 (k + 1) y0 y1 y2)) ∧ (∀ y0 y1 y2 y3, LeO (impl_natural.j1 k y0 y1 y2 y3) (impl_natural.j1 (k + 1) y0 y1 y2 y3))
 | 0 => ⟨fun _ _ _ r h => by simp [impl_natural.l0] at h, fun _ _ _ _ r h => by simp [impl_natural.j1] at h⟩
 | k + 1 => by
  obtain ⟨ih0, ih1⟩ := impl_natural.mono_l k;refine ⟨?_, ?_⟩
  all_goals (intros; first | unfold impl_natural.l0 | unfold impl_natural.j1)
  all_goals repeat' first | (with_reducible exact ih0 _ _ _) | (with_reducible exact ih1 _ _ _ _) | (with_reducible exact impl_compare.mono _ _ _) | (with_reducible exact LeO.refl _) | (with_reducible exact LeO.none _) | (with_reducible refine LeO.ite ?_ ?_) | (with_reducible refine LeO.bind ?_ (fun _ => ?_))
theorem impl_natural.mono : ∀ a0 a1 k, LeO (impl_natural.f k a0 a1) (impl_natural.f (k + 1) a0 a1) := by
 intro a0 a1 k;obtain ⟨ih0, ih1⟩ := impl_natural.mono_l k;unfold impl_natural.f
 repeat' first | (with_reducible exact ih0 _ _ _) | (with_reducible exact ih1 _ _ _ _) | (with_reducible exact impl_compare.mono _ _ _) | (with_reducible exact LeO.refl _) | (with_reducible exact LeO.none _) | (with_reducible refine LeO.ite ?_ ?_) | (with_reducible refine LeO.bind ?_ (fun _ => ?_))
def impl_natural.T3 : Bool × List (List Nat × List Nat) := (true, [([], []), ([0], [0]), ([1], [1]), ([2], [2]), ([], []), ([4], [4]), ([5], [5]), ([6], [6]), ([3, 7], [3, 7]), ([8, 8, 0, 1, 2, 3, 4, 5, 6, 7, 8], [8])])
def impl_natural.B3 : List Nat := [0, 1, 3, 7, 0, 16, 48, 112, 255, 511]
theorem impl_natural.tab3 : rtab .any (opsOf Try.f72 3) = impl_natural.T3 := by kernel_rfl
theorem impl_natural.bits3 : waitsOk impl_natural.T3.2 impl_natural.B3 = true := by kernel_rfl
def impl_natural.T4 : Bool × List (List Nat × List Nat) := (true, [([], []), ([], []), ([1], [1]), ([2], [2]), ([3], [3]), ([], []), ([5], [5]), ([6], [6]), ([7], [7]), ([4, 8], [4, 8]), ([], []), ([10], [10]), ([11], [11]), ([12], [12]), ([9, 13], [9, 13]), ([14], [14]), ([0, 15], [0, 15]), ([16, 16, 0, 1, 2, 3, 4, 5, 6, 7, 8, 9, 10, 11, 12, 13, 14, 15, 16], [0, 16])])
def impl_natural.B4 : List Nat := [0, 0, 2, 6, 14, 0, 32, 96, 224, 510, 0, 1024, 3072, 7168, 16382, 32766, 65535, 131071]
theorem impl_natural.tab4 : rtab .any (opsOf Try.f72 4) = impl_natural.T4 := by kernel_rfl
theorem impl_natural.bits4 : waitsOk impl_natural.T4.2 impl_natural.B4 = true := by kernel_rfl
set_option maxHeartbeats 8000000 in
set_option maxRecDepth 100000 in
theorem impl_natural.calls (k : Nat) (P0_ : Nat → Prop) (A0 : Option Addr) (c0 : Nat) (l0 : List (S72)) (P1_ : Nat → Prop) (A1 : Option Addr) (c1 : Nat) (l1 : List (S72)) (r : List (S72)) (w : World) (hs0 : Kd.V k72 72 w w.heap.size (fun k_ => P0_ k_) (.slice A0 l0.length c0) l0) (hs1 : Kd.V k72 72 w w.heap.size (fun k_ => P1_ k_) (.slice A1 l1.length c1) l1) (h : impl_natural.f k l0 l1 = some r) :
  Calls Try.prog 72 #[.slice A0 l0.length c0, .slice A1 l1.length c1] w fun e w' => ∃ v0_ : Value, e = .returned (v0_) ∧ Kd.N k72 72 w' w.heap.size (fun k_ => ((P0_ k_ ∨ P1_ k_) ∨ w.heap.size ≤ k_)) v0_ r ∧ Below w.heap.size w w' := by
 have hu72 := Try.underlying72;have HO0 := am (show Kd.V k72 72 w w.heap.size (fun k_ => ((P0_ k_ ∨ P1_ k_) ∨ w.heap.size ≤ k_)) (.slice A0 l0.length c0) l0 from Kd.V_mono hs0 (fun k_ hk => .inl (.inl hk)));have HO1 := am (show Kd.V k72 72 w w.heap.size (fun k_ => ((P0_ k_ ∨ P1_ k_) ∨ w.heap.size ≤ k_)) (.slice A1 l1.length c1) l1 from Kd.V_mono hs1 (fun k_ hk => .inl (.inr hk)));have HB := am (Below.refl w.heap.size w);have H : (impl_natural.l0 k l0 l1 (([] : List (S72)))) = some r := h;clear h
 obtain ⟨y439, hy439⟩ : ∃ y_ : List (S72), y_ = (([] : List (S72))) := ⟨_, rfl⟩
 replace H : (impl_natural.l0 k l0 l1 y439) = some r := by first | (rw [hy439]; with_reducible exact H) | (have H2_ := oB H; rw [hy439]; with_reducible exact H2_) | (have H2_ := oB H; with_reducible exact H2_) | with_reducible exact H | (rw [hy439]; exact H) | exact H
 replace hy439 := am hy439;have H' := am H;clear H;go_enter Try.func72, Try.ntmps72;go_wp2_with (first | ((with_reducible refine gate_dst (N := 7) rfl ?_); (try (refine gate_guard (by rfl) ?_; dsimp only)); refine Kd.N_lit k72 _ 72 ?hg (N' := 7) ?hd (xs := ([] : List (S72))) (inner := []) (ok := (fun k_ => ((P0_ k_ ∨ P1_ k_) ∨ w.heap.size ≤ k_))) (okp := (fun k_ => ((P0_ k_ ∨ P1_ k_) ∨ w.heap.size ≤ k_))) ?hr ?hp (fun _ hk => hk) ((show ∀ k_, w.heap.size ≤ k_ → (fun k_ => ((P0_ k_ ∨ P1_ k_) ∨ w.heap.size ≤ k_)) k_ from fun k_ hk => (.inr (Nat.le_trans (below_size (bm HB.out)) hk))) _ (Nat.le_refl _)) (Below.refl _ _) (Nat.le_refl _) (by simp) ?_; (case hd => rfl); (case hg => rfl); (case hr => first | (go_simp; done) | (go_simp; rfl)); (case hp => exact (Reps.none _ _)); intro v440 w3 ho4 hb hg_ hnew_; clear hg_ hnew_; (first | rw [← hy439.out] at ho4 | (simp only [Int.reduceToNat] at ho4; rw [← hy439.out] at ho4)); replace HO0 := am (Kd.V_elder' (Kd.vm HO0.out) (Kd.N_base ho4) hb);replace HO1 := am (Kd.V_elder' (Kd.vm HO1.out) (Kd.N_base ho4) hb);have HO441 := am (Kd.N_lower ho4 (below_size (bm HB.out)));replace HB := am (below_step (bm HB.out) hb); clear hb ho4))
 go_loopg [0, 1, 5] k (fun kq v0 v1 v5 w' => ∃ (x0_1 : List (S72)) (x1_1 : List (S72)) (x5_1 : List (S72)), Aside0 (impl_natural.l0 kq x0_1 x1_1 x5_1 = some r) ∧ Aside0 (kq ≤ k) ∧ Aside0 (Kd.V k72 72 w' w.heap.size (fun k_ => ((P0_ k_ ∨ P1_ k_) ∨ w.heap.size ≤ k_) ∧ some k_ ≠ (v5 : Value).ownBlock) v0 x0_1) ∧ Aside0 (Kd.V k72 72 w' w.heap.size (fun k_ => ((P0_ k_ ∨ P1_ k_) ∨ w.heap.size ≤ k_) ∧ some k_ ≠ (v5 : Value).ownBlock) v1 x1_1) ∧ Aside0 (Kd.N k72 72 w' w.heap.size (fun k_ => ((P0_ k_ ∨ P1_ k_) ∨ w.heap.size ≤ k_)) v5 x5_1) ∧ Aside0 (Below w.heap.size w w'))
 case atStart => exact ⟨(l0), (l1), (y439), H', ⟨Nat.le_refl _⟩, ⟨Kd.vm HO0.out⟩, ⟨Kd.vm HO1.out⟩, ⟨Kd.nm HO441.out⟩, ⟨bm HB.out⟩⟩
 case round =>
  clear H';(try clear c1);(try clear p2);(try clear HO_0);(try clear HO_1);(try clear HO_5);(try clear HB);obtain ⟨x0_1, x1_1, x5_1, HA, HK1, HO_0, HO_1, HO_5, HB⟩ := hrel
  cases gk with
  | zero => exact absurd HA.out (by simp [impl_natural.l0])
  | succ k1 =>
   have H := HA.out;clear HA;simp only [impl_natural.l0] at H;have HC5 := am H;clear H
   go_upto_region 2 with (fail)
   go_cut [15] (fun v15 wc => ∃ (kq : Nat) (x15_4 : Bool), v15 = .bool x15_4 ∧ Aside0 (impl_natural.j1 kq x0_1 x1_1 x5_1 x15_4 = some r) ∧ Aside0 (kq ≤ k1) ∧ Aside0 (Kd.V k72 72 wc w.heap.size (fun k_ => ((P0_ k_ ∨ P1_ k_) ∨ w.heap.size ≤ k_) ∧ some k_ ≠ (u5 : Value).ownBlock) u0 x0_1) ∧ Aside0 (Kd.V k72 72 wc w.heap.size (fun k_ => ((P0_ k_ ∨ P1_ k_) ∨ w.heap.size ≤ k_) ∧ some k_ ≠ (u5 : Value).ownBlock) u1 x1_1) ∧ Aside0 (Kd.N k72 72 wc w.heap.size (fun k_ => ((P0_ k_ ∨ P1_ k_) ∨ w.heap.size ≤ k_)) u5 x5_1) ∧ Aside0 (Below w.heap.size w wc))
   case first =>
    have H := HC5.out;clear HC5;by_cases c6 : (x0_1.length : Int) > 0
    ·
     rw [if_pos c6] at H;have c6b0 : decide (0 < (x0_1.length : Int)) = true := decide_eq_true c6;have c6b1 : decide (0 < x0_1.length) = true := decide_eq_true (by omega);clear c6
     (first | rw [c6b0] | (simp only [i64_w, i32_w]; rw [c6b0]) | skip)
     have H' := am H;clear H;obtain ⟨Ao7, co7, eo7⟩ := Kd.V_slice HO_0.out;subst eo7;obtain ⟨Ao8, co8, eo8⟩ := Kd.V_slice HO_1.out;subst eo8;go_wp2;go_meet
     case rel => exact ⟨_, (decide ((x1_1.length : Int) > 0)), (by first | rfl | (simp; done) | (simp [*]; done)), H', ⟨by have := HK1.out; first | omega | exact Nat.le_refl _⟩, ⟨Kd.vm HO_0.out⟩, ⟨Kd.vm HO_1.out⟩, ⟨Kd.nm HO_5.out⟩, ⟨bm HB.out⟩⟩
    ·
     rw [if_neg c6] at H;have c6b0 : decide (0 < (x0_1.length : Int)) = false := decide_eq_false c6;have c6b1 : decide (0 < x0_1.length) = false := decide_eq_false (by omega);clear c6
     (first | rw [c6b0] | (simp only [i64_w, i32_w]; rw [c6b0]) | skip)
     have H' := am H;clear H;obtain ⟨Ao9, co9, eo9⟩ := Kd.V_slice HO_0.out;subst eo9;go_wp2;go_meet
     case rel => exact ⟨_, (false), (by first | rfl | (simp; done) | (simp [*]; done)), H', ⟨by have := HK1.out; first | omega | exact Nat.le_refl _⟩, ⟨Kd.vm HO_0.out⟩, ⟨Kd.vm HO_1.out⟩, ⟨Kd.nm HO_5.out⟩, ⟨bm HB.out⟩⟩
   case rest =>
    clear HC5;(try clear c1);(try clear p2);(try clear c6);(try clear c6b0);(try clear c6b1);(try clear c7);(try clear p2);obtain ⟨kq, x15_4, rfl, HA, HJ4, HO_0, HO_1, HO_5, HB⟩ := hcut
    cases kq with
    | zero => exact absurd HA.out (by simp [impl_natural.j1])
    | succ kj4 =>
     have H := HA.out;clear HA;simp only [impl_natural.j1] at H;by_cases c10 : x15_4 = true
     ·
      subst c10
      have H1 : (if 0 < (x0_1.length : Int) then (if 0 < (x1_1.length : Int) then ((impl_compare.f kj4 ((rd_T72 x0_1 0).f1) ((rd_T72 x1_1 0).f1)).bind fun t450 => (if t450 > 0 then (if x5_1.length < 4398046511104 then (if 1 ≤ (x0_1.length : Int) then (impl_natural.l0 kj4 (x0_1.drop 1) x1_1 (x5_1 ++ [(⟨(rd_T72 x0_1 0).f0, (rd_T72 x0_1 0).f1⟩ : S72)])) else (none)) else (none)) else (if t450 < 0 then (if x5_1.length < 4398046511104 then (if 1 ≤ (x1_1.length : Int) then (impl_natural.l0 kj4 x0_1 (x1_1.drop 1) (x5_1 ++ [(⟨(rd_T72 x1_1 0).f0, (rd_T72 x1_1 0).f1⟩ : S72)])) else (none)) else (none)) else (if x5_1.length < 4398046511104 then (if 1 ≤ (x0_1.length : Int) then (if 1 ≤ (x1_1.length : Int) then (impl_natural.l0 kj4 (x0_1.drop 1) (x1_1.drop 1) (x5_1 ++ [(⟨wrap64 (((rd_T72 x0_1 0).f0) + ((rd_T72 x1_1 0).f0)), (rd_T72 x0_1 0).f1⟩ : S72)])) else (none)) else (none)) else (none))))) else (none)) else (none)) = some r := by rw [if_pos rfl] at H; exact H
      clear H;have H := H1;clear H1;by_cases c11 : 0 < (x0_1.length : Int)
      ·
       rw [if_pos c11] at H;have c11b0 : decide (0 < (x0_1.length : Int)) = true := decide_eq_true c11;have c11b1 : decide (0 < x0_1.length) = true := decide_eq_true (by omega);clear c11;by_cases c12 : 0 < (x1_1.length : Int)
       ·
        rw [if_pos c12] at H;have c12b0 : decide (0 < (x1_1.length : Int)) = true := decide_eq_true c12;have c12b1 : decide (0 < x1_1.length) = true := decide_eq_true (by omega);clear c12;replace H := oE H;obtain ⟨t450, A13, H⟩ := H;replace H : (if t450 > 0 then (if x5_1.length < 4398046511104 then (if 1 ≤ (x0_1.length : Int) then (impl_natural.l0 kj4 (x0_1.drop 1) x1_1 (x5_1 ++ [(⟨(rd_T72 x0_1 0).f0, (rd_T72 x0_1 0).f1⟩ : S72)])) else (none)) else (none)) else (if t450 < 0 then (if x5_1.length < 4398046511104 then (if 1 ≤ (x1_1.length : Int) then (impl_natural.l0 kj4 x0_1 (x1_1.drop 1) (x5_1 ++ [(⟨(rd_T72 x1_1 0).f0, (rd_T72 x1_1 0).f1⟩ : S72)])) else (none)) else (none)) else (if x5_1.length < 4398046511104 then (if 1 ≤ (x0_1.length : Int) then (if 1 ≤ (x1_1.length : Int) then (impl_natural.l0 kj4 (x0_1.drop 1) (x1_1.drop 1) (x5_1 ++ [(⟨wrap64 (((rd_T72 x0_1 0).f0) + ((rd_T72 x1_1 0).f0)), (rd_T72 x0_1 0).f1⟩ : S72)])) else (none)) else (none)) else (none)))) = some r := H;replace A13 := am A13;by_cases c14 : t450 > 0
        ·
         rw [if_pos c14] at H;have c14b0 : decide (0 < t450) = true := decide_eq_true c14;clear c14;by_cases c15 : x5_1.length < 4398046511104
         ·
          rw [if_pos c15] at H;have LMc15 := am c15;clear c15
          obtain ⟨y452, hy452⟩ : ∃ y_ : List (S72), y_ = (x5_1 ++ [(⟨(rd_T72 x0_1 0).f0, (rd_T72 x0_1 0).f1⟩ : S72)]) := ⟨_, rfl⟩
          replace H : (if 1 ≤ (x0_1.length : Int) then (impl_natural.l0 kj4 (x0_1.drop 1) x1_1 y452) else (none)) = some r := by first | (rw [hy452]; with_reducible exact H) | (have H2_ := oB H; rw [hy452]; with_reducible exact H2_) | (have H2_ := oB H; with_reducible exact H2_) | with_reducible exact H | (rw [hy452]; exact H) | exact H
          replace hy452 := am hy452;by_cases c16 : 1 ≤ (x0_1.length : Int)
          ·
           rw [if_pos c16] at H;have c16b0 := eq_true c16;have c16b1 : decide (1 ≤ (x0_1.length : Int)) = true := decide_eq_true c16;clear c16
           obtain ⟨y455, hy455⟩ : ∃ y_ : List (S72), y_ = (x0_1.drop 1) := ⟨_, rfl⟩
           replace H : (impl_natural.l0 kj4 y455 x1_1 y452) = some r := by first | (rw [hy455]; with_reducible exact H) | (have H2_ := oB H; rw [hy455]; with_reducible exact H2_) | (have H2_ := oB H; with_reducible exact H2_) | with_reducible exact H | (rw [hy455]; exact H) | exact H
           replace hy455 := am hy455;have H' := am H;clear H;(try go_wp2);replace HO_0 := am (Kd.V_drew HO_0.out);replace HO_1 := am (Kd.V_drew HO_1.out);replace HO_5 := am (Kd.N_drew HO_5.out);replace HB := am (below_drew1 HB.out);obtain ⟨Ao18, co18, eo18⟩ := Kd.V_slice HO_0.out
           (first | subst eo18 | (injection eo18 with f1_ f2_ f3_; have f4_ := f1_.symm; have f5_ := f3_.symm; clear f1_ f2_ f3_; subst f4_; subst f5_))
           have p448 : 0 ≤ (0 : Int) := (by omega);have q448 : 0 < (x0_1.length : Int) := of_decide_eq_true (by assumption);obtain ⟨ad448, A448_1, c448_1, e448, hx448_0, hx448_1, hl448_1, hi448_1⟩ := at_T72 (Kd.V_reads' HO_0.out).2.2 0 p448 q448;cases e448
           obtain ⟨ce448, hce448, hMe448, hcc448⟩ := Kd.V_get HO_0.out z72 0 p448 (by first | exact q448 | exact of_decide_eq_true (by assumption) | (have e_ := (Kd.V_reads' HO_0.out).1; omega));obtain ⟨ua448_1, uc448_1, rfl, ul448_1, ge448_1⟩ := k72_openF hMe448;have hv448_1 := hcc448 1 _ rfl;rw [add_field _ _ 1 (by omega)] at hv448_1;replace hv448_1 := Option.some.inj (hv448_1.symm.trans hx448_1)
           injection hv448_1 with hva_ hvn_ hvc_
           rw [hva_] at ge448_1;rw [hvc_] at ul448_1;have HL448_1 := am (show Kd.V k72 72 _ w.heap.size _ _ ((rd_T72 x0_1 0).f1) from Kd.V_mk ul448_1 ge448_1);clear hva_ hvn_ hvc_ ge448_1 ul448_1;clear hcc448 hce448;have qi448 : (0 < x0_1.length) = True := eq_true (by omega);(try rw [show ((0 : Int)).toNat = 0 from rfl] at hx448_0);(try rw [show 0 * 2 = 0 from rfl] at hx448_0);(try rw [Addr.add_zero'] at hx448_0);(try rw [show ((0 : Int)).toNat = 0 from rfl] at hx448_1);(try rw [show 0 * 2 = 0 from rfl] at hx448_1);(try rw [Addr.add_zero'] at hx448_1);have HR448_1 := am hi448_1;have HC448_1 := am hl448_1;clear hi448_1 hl448_1;replace p448 := eq_true p448;replace q448 := eq_true q448;obtain ⟨Ao19, co19, eo19⟩ := Kd.V_slice HO_1.out
           (first | subst eo19 | (injection eo19 with f1_ f2_ f3_; have f4_ := f1_.symm; have f5_ := f3_.symm; clear f1_ f2_ f3_; subst f4_; subst f5_))
           have p449 : 0 ≤ (0 : Int) := (by omega);have q449 : 0 < (x1_1.length : Int) := of_decide_eq_true (by assumption);obtain ⟨ad449, A449_1, c449_1, e449, hx449_0, hx449_1, hl449_1, hi449_1⟩ := at_T72 (Kd.V_reads' HO_1.out).2.2 0 p449 q449;cases e449
           obtain ⟨ce449, hce449, hMe449, hcc449⟩ := Kd.V_get HO_1.out z72 0 p449 (by first | exact q449 | exact of_decide_eq_true (by assumption) | (have e_ := (Kd.V_reads' HO_1.out).1; omega));obtain ⟨ua449_1, uc449_1, rfl, ul449_1, ge449_1⟩ := k72_openF hMe449;have hv449_1 := hcc449 1 _ rfl;rw [add_field _ _ 1 (by omega)] at hv449_1;replace hv449_1 := Option.some.inj (hv449_1.symm.trans hx449_1)
           injection hv449_1 with hva_ hvn_ hvc_
           rw [hva_] at ge449_1;rw [hvc_] at ul449_1;have HL449_1 := am (show Kd.V k72 72 _ w.heap.size _ _ ((rd_T72 x1_1 0).f1) from Kd.V_mk ul449_1 ge449_1);clear hva_ hvn_ hvc_ ge449_1 ul449_1;clear hcc449 hce449;have qi449 : (0 < x1_1.length) = True := eq_true (by omega);(try rw [show ((0 : Int)).toNat = 0 from rfl] at hx449_0);(try rw [show 0 * 2 = 0 from rfl] at hx449_0);(try rw [Addr.add_zero'] at hx449_0);(try rw [show ((0 : Int)).toNat = 0 from rfl] at hx449_1);(try rw [show 0 * 2 = 0 from rfl] at hx449_1);(try rw [Addr.add_zero'] at hx449_1);have HR449_1 := am hi449_1;have HC449_1 := am hl449_1;clear hi449_1 hl449_1;replace p449 := eq_true p449;replace q449 := eq_true q449;refine start_ (n := 10) (S := fun w' => w'.cell? ad448 = some (.int .i64 ((rd_T72 x0_1 0).f0)) ∧ w'.cell? ⟨ad448.block, ad448.off + 1, none⟩ = some (.slice A448_1 ((rd_T72 x0_1 0).f1).length c448_1) ∧ w'.cell? ad449 = some (.int .i64 ((rd_T72 x1_1 0).f0)) ∧ w'.cell? ⟨ad449.block, ad449.off + 1, none⟩ = some (.slice A449_1 ((rd_T72 x1_1 0).f1).length c449_1)) (ds := []) #[false, false, false, false, false, false, false, false, false, false] (by kernel_rfl) rfl rfl ⟨hx448_0, hx448_1, hx449_0, hx449_1⟩ (fun hHeld => ?_); refine with_tabW impl_natural.tab3 impl_natural.bits3 (fun HT_ HW_ => ?_);generalize wc.drew = w17 at HO_0 HO_1 HO_5 HB HL448_1 HL449_1 HR448_1 HR449_1 hx448_0 hx448_1 hx449_0 hx449_1 hHeld ⊢;refine pure_ (i := 0) (N := some 16) (v := ?_) (a' := ?_) #[true, false, false, false, false, false, false, false, false, false] rfl rfl (any_of HT_.out (by kernel_rfl)) (fun _ _ _ h => h) (Or.inl ⟨by rfl, ?_⟩) ?_ ?_;rotate_left
           ·
            intro w';go_simp;with_reducible rfl
           rotate_left
           ·
            simp only [Act.put, sA, sB, sC, i64_w, i32_w];rfl
           refine pure_ (i := 1) (N := some 17) (v := ?_) (a' := ?_) #[true, true, false, false, false, false, false, false, false, false] rfl rfl (any_of HT_.out (by kernel_rfl)) (fun _ _ _ h => h) (Or.inl ⟨by rfl, ?_⟩) ?_ ?_;rotate_left
           ·
            intro w';go_simp;with_reducible rfl
           rotate_left
           ·
            simp only [Act.put, sA, sB, sC, i64_w, i32_w];rfl
           refine pure_ (i := 2) (N := some 18) (v := ?_) (a' := ?_) #[true, true, true, false, false, false, false, false, false, false] rfl rfl (any_of HT_.out (by kernel_rfl)) (fun _ _ _ h => h) (Or.inl ⟨by rfl, ?_⟩) ?_ ?_;rotate_left
           ·
            intro w';go_simp;with_reducible rfl
           rotate_left
           ·
            simp only [Act.put, sA, sB, sC, i64_w, i32_w];rfl
           refine pure_ (i := 4) (N := some 20) (v := ?_) (a' := ?_) #[true, true, true, false, true, false, false, false, false, false] rfl rfl (any_of HT_.out (by kernel_rfl)) (fun _ _ _ h => h) (Or.inl ⟨by rfl, ?_⟩) ?_ ?_;rotate_left
           ·
            intro w';go_simp;with_reducible rfl
           rotate_left
           ·
            simp only [Act.put, sA, sB, sC, i64_w, i32_w];rfl
           refine pure_ (i := 5) (N := some 21) (v := ?_) (a' := ?_) #[true, true, true, false, true, true, false, false, false, false] rfl rfl (any_of HT_.out (by kernel_rfl)) (fun _ _ _ h => h) (Or.inl ⟨by rfl, ?_⟩) ?_ ?_;rotate_left
           ·
            intro w';go_simp;with_reducible rfl
           rotate_left
           ·
            simp only [Act.put, sA, sB, sC, i64_w, i32_w];rfl
           refine pure_ (i := 6) (N := some 22) (v := ?_) (a' := ?_) #[true, true, true, false, true, true, true, false, false, false] rfl rfl (any_of HT_.out (by kernel_rfl)) (fun _ _ _ h => h) (Or.inl ⟨by rfl, ?_⟩) ?_ ?_;rotate_left
           ·
            intro w';go_simp;with_reducible rfl
           rotate_left
           ·
            simp only [Act.put, sA, sB, sC, i64_w, i32_w];rfl
           refine take_ (i := 3) (N := some 19) (v := ?_) (a' := ?_) #[true, true, true, true, true, true, true, false, false, false] rfl rfl (take_ofW HT_.out HW_.out (by kernel_rfl)) (fun _ _ _ h => h) (Or.inl ⟨by rfl, ?_⟩) hHeld ?_ ?_;rotate_left
           ·
            rintro w' ⟨s0, s1, s2, s3⟩
            go_simp;with_reducible rfl
           rotate_left
           ·
            simp only [Act.put, sA, sB, sC, i64_w, i32_w];rfl
           refine take_ (i := 7) (N := some 23) (v := ?_) (a' := ?_) #[true, true, true, true, true, true, true, true, false, false] rfl rfl (take_ofW HT_.out HW_.out (by kernel_rfl)) (fun _ _ _ h => h) (Or.inl ⟨by rfl, ?_⟩) hHeld ?_ ?_;rotate_left
           ·
            rintro w' ⟨s0, s1, s2, s3⟩
            go_simp;with_reducible rfl
           rotate_left
           ·
            simp only [Act.put, sA, sB, sC, i64_w, i32_w];rfl
           refine one_ (i := 8) (N := some 24) #[true, true, true, true, true, true, true, true, true, false] rfl rfl (one_of HT_.out (by kernel_rfl)) (by decide) (fun K hK => ?_);refine goes_ Try.func86 (by kernel_rfl) rfl #[.slice A448_1 ((rd_T72 x0_1 0).f1).length c448_1, .slice A449_1 ((rd_T72 x1_1 0).f1).length c449_1] (by rfl) rfl rfl (by (try simp only [mA, mB, mC]); first | done | rfl) ?_
           with_reducible refine (impl_compare.calls kj4 _ _ ((rd_T72 x0_1 0).f1) _ _ ((rd_T72 x1_1 0).f1) t450 _ ?side1 ?side2 ?side3 ?side4 A13.out).mono ?_
           (case side1 => exact Kd.cm ((by repeat (first | (with_reducible exact HR448_1.out) | (with_reducible refine Kd.C_alloc ?_ _) | (with_reducible refine Kd.C_drewN ?_ _) | (with_reducible refine Kd.C_drew ?_) | exact HR448_1.out))));(case side2 => exact HC448_1.out);(case side3 => exact Kd.cm ((by repeat (first | (with_reducible exact HR449_1.out) | (with_reducible refine Kd.C_alloc ?_ _) | (with_reducible refine Kd.C_drewN ?_ _) | (with_reducible refine Kd.C_drew ?_) | exact HR449_1.out))));(case side4 => exact HC449_1.out)
           rintro e w20 ⟨rfl, hb⟩
           have HS0_ := (hb.cell (World.block_lt_of_cell? _ _ (hHeld.1))).trans (hHeld.1);have HS1_ := (hb.cell (World.block_lt_of_cell? _ _ (hHeld.2.1))).trans (hHeld.2.1);have HS2_ := (hb.cell (World.block_lt_of_cell? _ _ (hHeld.2.2.1))).trans (hHeld.2.2.1);have HS3_ := (hb.cell (World.block_lt_of_cell? _ _ (hHeld.2.2.2))).trans (hHeld.2.2.2);refine ⟨_, rfl, ?_⟩;replace HO_0 := am (Kd.V_below (Kd.vm HO_0.out) hb);replace HO_1 := am (Kd.V_below (Kd.vm HO_1.out) hb);replace HO_5 := am (Kd.N_below (Kd.nm HO_5.out) hb);replace HL448_1 := am (Kd.V_below (Kd.vm HL448_1.out) hb);replace HL449_1 := am (Kd.V_below (Kd.vm HL449_1.out) hb);replace HR448_1 := am (Kd.C_below (by repeat (first | (with_reducible exact HR448_1.out) | (with_reducible refine Kd.C_alloc ?_ _) | (with_reducible refine Kd.C_drewN ?_ _) | (with_reducible refine Kd.C_drew ?_) | exact HR448_1.out)) hb);replace HR449_1 := am (Kd.C_below (by repeat (first | (with_reducible exact HR449_1.out) | (with_reducible refine Kd.C_alloc ?_ _) | (with_reducible refine Kd.C_drewN ?_ _) | (with_reducible refine Kd.C_drew ?_) | exact HR449_1.out)) hb);replace HB := am (below_step (bm HB.out) hb);(try clear hb);refine hK.out _ _ ⟨HS0_, HS1_, HS2_, HS3_⟩ (fun hHeld => ?_);clear hK K;refine norm_ (a' := ?_) ?_ ?_;rotate_left
           ·
            show Act.put _ (some 24) _ = _
            simp only [Act.put, sA, sB, sC, i64_w, i32_w];rfl
           refine pure_ (i := 9) (N := some 6) (v := ?_) (a' := ?_) #[true, true, true, true, true, true, true, true, true, true] rfl rfl (any_of HT_.out (by kernel_rfl)) (fun _ _ _ h => h) (Or.inl ⟨by rfl, ?_⟩) ?_ ?_;rotate_left
           ·
            intro w';go_simp;with_reducible rfl
           rotate_left
           ·
            simp only [Act.put, sA, sB, sC, i64_w, i32_w];rfl
           refine done_ (done_of HT_.out (by kernel_rfl)) ?_;have p451 : 0 ≤ (0 : Int) := (by omega);have q451 : 0 < (x0_1.length : Int) := of_decide_eq_true (by assumption);obtain ⟨ad451, A451_1, c451_1, e451, hx451_0, hx451_1, hl451_1, hi451_1⟩ := at_T72 (Kd.V_reads' HO_0.out).2.2 0 p451 q451;(try clear hx448_0);(try clear hx448_1);(try clear hx448_2);(try clear hx448_3);(try clear HS0_);(try clear HS1_);(try clear HS2_);(try clear HS3_);(try clear HS4_);(try clear HS5_);(try clear HS6_);(try clear HS7_);(try clear HS8_);(try clear HS9_);(try clear hHeld);obtain rfl : ad448 = ad451 := (by injection e451);obtain ⟨ce451, hce451, hMe451, hcc451⟩ := Kd.V_get HO_0.out z72 0 p451 (by first | exact q451 | exact of_decide_eq_true (by assumption) | (have e_ := (Kd.V_reads' HO_0.out).1; omega));obtain ⟨ua451_1, uc451_1, rfl, ul451_1, ge451_1⟩ := k72_openF hMe451;have hv451_1 := hcc451 1 _ rfl;rw [add_field _ _ 1 (by omega)] at hv451_1;replace hv451_1 := Option.some.inj (hv451_1.symm.trans hx451_1)
           injection hv451_1 with hva_ hvn_ hvc_
           rw [hva_] at ge451_1;rw [hvc_] at ul451_1;have HL451_1 := am (show Kd.V k72 72 _ w.heap.size _ _ ((rd_T72 x0_1 0).f1) from Kd.V_mk ul451_1 ge451_1);clear hva_ hvn_ hvc_ ge451_1 ul451_1;clear hcc451 hce451;have qi451 : (0 < x0_1.length) = True := eq_true (by omega);(try rw [show ((0 : Int)).toNat = 0 from rfl] at hx451_0);(try rw [show 0 * 2 = 0 from rfl] at hx451_0);(try rw [Addr.add_zero'] at hx451_0);(try rw [show ((0 : Int)).toNat = 0 from rfl] at hx451_1);(try rw [show 0 * 2 = 0 from rfl] at hx451_1);(try rw [Addr.add_zero'] at hx451_1);have HR451_1 := am hi451_1;have HC451_1 := am hl451_1;clear hi451_1 hl451_1;replace p451 := eq_true p451;replace q451 := eq_true q451;(try go_wp2_with (first | ((with_reducible refine gate_builtin (b := .append) (xs := #[.tmp 49, .tmp 53]) rfl ?_); (try (refine gate_guard (by rfl) ?_; dsimp only)); at_builtin; refine Kd.N_append k72 (w0 := w) w.heap.size rfl (.tmp 49) (.tmp 53) 40 72 (.agg #[(.int .i64 0), (.slice none 0 0)]) 32 rfl Try.underlying40 info72 rfl (by decide) (by omega) u5 x5_1 (⟨(rd_T72 x0_1 0).f0, (rd_T72 x0_1 0).f1⟩ : S72) [.int .i64 ((rd_T72 x0_1 0).f0), .slice A451_1 ((rd_T72 x0_1 0).f1).length c451_1] (fun k_ => ((P0_ k_ ∨ P1_ k_) ∨ w.heap.size ≤ k_)) (fun k_ => ((fun k_ => ((P0_ k_ ∨ P1_ k_) ∨ w.heap.size ≤ k_))) k_ ∧ some k_ ≠ (u5 : Value).ownBlock) rfl rfl ?aP (fun _ hk => hk) ?aF ?aO ?aB ?aS ?aL ?_; (case aP => exact (k72_mkF _ _ (⟨(rd_T72 x0_1 0).f0, (rd_T72 x0_1 0).f1⟩ : S72) (Kd.V_reads' (Kd.V_mono (ok' := (fun k_ => ((fun k_ => ((P0_ k_ ∨ P1_ k_) ∨ w.heap.size ≤ k_))) k_ ∧ some k_ ≠ (u5 : Value).ownBlock)) (HL451_1.out) (fun k_ hk => ⟨hk.1, hk.2⟩))).2.1 (Kd.V_F (Kd.V_mono (ok' := (fun k_ => ((fun k_ => ((P0_ k_ ∨ P1_ k_) ∨ w.heap.size ≤ k_))) k_ ∧ some k_ ≠ (u5 : Value).ownBlock)) (HL451_1.out) (fun k_ hk => ⟨hk.1, hk.2⟩))))); (case aB => exact (bm HB.out)); (case aF => exact (fun k_ hk => (.inr (Nat.le_trans (below_size (bm HB.out)) hk)))); (case aO => exact (Kd.nm HO_5.out)); (case aS => exact (below_size (bm HB.out))); (case aL => have := LMc15.out; omega); intro v453 w21 ho hb hg hat; rw [← hy452.out] at ho; replace HO_0 := am (Kd.V_afterv (ok := (fun k_ => ((P0_ k_ ∨ P1_ k_) ∨ w.heap.size ≤ k_))) (Kd.vm HO_0.out) hg hat);replace HO_1 := am (Kd.V_afterv (ok := (fun k_ => ((P0_ k_ ∨ P1_ k_) ∨ w.heap.size ≤ k_))) (Kd.vm HO_1.out) hg hat);replace HL448_1 := am (Kd.V_afterv (ok := (fun k_ => ((P0_ k_ ∨ P1_ k_) ∨ w.heap.size ≤ k_))) (Kd.vm HL448_1.out) hg hat);replace HL449_1 := am (Kd.V_afterv (ok := (fun k_ => ((P0_ k_ ∨ P1_ k_) ∨ w.heap.size ≤ k_))) (Kd.vm HL449_1.out) hg hat);replace HL451_1 := am (Kd.V_afterv (ok := (fun k_ => ((P0_ k_ ∨ P1_ k_) ∨ w.heap.size ≤ k_))) (Kd.vm HL451_1.out) hg hat);replace HB := am (hb);have HO454 := am (ho);clear HO_5; clear ho hb hg hat; have q22 : (1 : Int) ≤ ((x0_1.length : Int) : Int) := of_decide_eq_true (by assumption); obtain ⟨i022, hi022, _, hsz22, _⟩ := info_parts info72; have hroom22 : x0_1.length ≤ co18 := (Kd.V_reads' HO_0.out).2.1; have hC22 : Kd.F k72 _ _ (some ad448) x0_1.length x0_1 := (Kd.V_at (base := w.heap.size) HO_0.out).2.2; have hcut22 := cut_from (P := Try.prog) 40 72 .i64 Try.underlying40 hi022 2 hsz22 (some ad448) x0_1.length co18 1 (by omega) q22; have hr22 := Kd.F_cut (m := (1 : Int).toNat) (c := co18) hC22 (by omega) hroom22; obtain ⟨A22, hA22⟩ : ∃ A1, A1 = (if co18 = (1 : Int).toNat then (some ad448) else ((some ad448) : Option Addr).map (·.add ((1 : Int).toNat * 2))) := ⟨_, rfl⟩; obtain ⟨c22, hc22⟩ : ∃ c1, c1 = co18 - (1 : Int).toNat := ⟨_, rfl⟩; have hy22 : y455.length = x0_1.length - (1 : Int).toNat := (by rw [hy455.out, List.length_drop] <;> omega); rw [show (x0_1).drop (1 : Int).toNat = y455 from hy455.out.symm] at hr22; replace hr22 : Kd.F k72 _ _ A22 y455.length y455 := (by rw [hA22]; exact hr22); rw [← hy22, ← hA22, ← hc22] at hcut22; have HO459 := am (show Kd.V k72 72 _ w.heap.size _ (.slice A22 y455.length c22) y455 from Kd.V_mk (by rw [hy22, hc22]; exact Nat.sub_le_sub_right hroom22 _) hr22); have HC459 := am (show y455.length ≤ c22 from by rw [hy22, hc22]; exact Nat.sub_le_sub_right hroom22 _); clear hr22 hC22 hroom22 hi022 hsz22 hc22; have KY22 := am hy22; have KA22 := am hA22; clear hy22 hA22; replace q22 := eq_true q22)))
           go_roundg kj4
           case measure => have := HK1.out; have := HJ4.out; omega
           case rel => exact ⟨(y455), (x1_1), (y452), H', ⟨by have := HK1.out; have := HJ4.out; omega⟩, ⟨Kd.vm HO459.out⟩, ⟨Kd.vm HO_1.out⟩, ⟨Kd.nm HO454.out⟩, ⟨bm HB.out⟩⟩
          ·
           rw [if_neg c16] at H;exact absurd H (by simp)
         ·
          rw [if_neg c15] at H;exact absurd H (by simp)
        ·
         rw [if_neg c14] at H;have c14b0 : decide (0 < t450) = false := decide_eq_false c14;clear c14;by_cases c23 : t450 < 0
         ·
          rw [if_pos c23] at H;have c23b0 : decide (t450 < 0) = true := decide_eq_true c23;clear c23;by_cases c24 : x5_1.length < 4398046511104
          ·
           rw [if_pos c24] at H;have LMc24 := am c24;clear c24
           obtain ⟨y461, hy461⟩ : ∃ y_ : List (S72), y_ = (x5_1 ++ [(⟨(rd_T72 x1_1 0).f0, (rd_T72 x1_1 0).f1⟩ : S72)]) := ⟨_, rfl⟩
           replace H : (if 1 ≤ (x1_1.length : Int) then (impl_natural.l0 kj4 x0_1 (x1_1.drop 1) y461) else (none)) = some r := by first | (rw [hy461]; with_reducible exact H) | (have H2_ := oB H; rw [hy461]; with_reducible exact H2_) | (have H2_ := oB H; with_reducible exact H2_) | with_reducible exact H | (rw [hy461]; exact H) | exact H
           replace hy461 := am hy461;by_cases c25 : 1 ≤ (x1_1.length : Int)
           ·
            rw [if_pos c25] at H;have c25b0 := eq_true c25;have c25b1 : decide (1 ≤ (x1_1.length : Int)) = true := decide_eq_true c25;clear c25
            obtain ⟨y464, hy464⟩ : ∃ y_ : List (S72), y_ = (x1_1.drop 1) := ⟨_, rfl⟩
            replace H : (impl_natural.l0 kj4 x0_1 y464 y461) = some r := by first | (rw [hy464]; with_reducible exact H) | (have H2_ := oB H; rw [hy464]; with_reducible exact H2_) | (have H2_ := oB H; with_reducible exact H2_) | with_reducible exact H | (rw [hy464]; exact H) | exact H
            replace hy464 := am hy464;have H' := am H;clear H;(try go_wp2);replace HO_0 := am (Kd.V_drew HO_0.out);replace HO_1 := am (Kd.V_drew HO_1.out);replace HO_5 := am (Kd.N_drew HO_5.out);replace HB := am (below_drew1 HB.out);obtain ⟨Ao27, co27, eo27⟩ := Kd.V_slice HO_0.out
            (first | subst eo27 | (injection eo27 with f1_ f2_ f3_; have f4_ := f1_.symm; have f5_ := f3_.symm; clear f1_ f2_ f3_; subst f4_; subst f5_))
            have p448 : 0 ≤ (0 : Int) := (by omega);have q448 : 0 < (x0_1.length : Int) := of_decide_eq_true (by assumption);obtain ⟨ad448, A448_1, c448_1, e448, hx448_0, hx448_1, hl448_1, hi448_1⟩ := at_T72 (Kd.V_reads' HO_0.out).2.2 0 p448 q448;(try clear hx451_0);(try clear hx451_1);(try clear hx451_2);(try clear hx451_3);(try clear HS4_);(try clear HS5_);(try clear HS6_);(try clear HS7_);(try clear HS8_);(try clear HS9_);(try clear hHeld);cases e448
            obtain ⟨ce448, hce448, hMe448, hcc448⟩ := Kd.V_get HO_0.out z72 0 p448 (by first | exact q448 | exact of_decide_eq_true (by assumption) | (have e_ := (Kd.V_reads' HO_0.out).1; omega));obtain ⟨ua448_1, uc448_1, rfl, ul448_1, ge448_1⟩ := k72_openF hMe448;have hv448_1 := hcc448 1 _ rfl;rw [add_field _ _ 1 (by omega)] at hv448_1;replace hv448_1 := Option.some.inj (hv448_1.symm.trans hx448_1)
            injection hv448_1 with hva_ hvn_ hvc_
            rw [hva_] at ge448_1;rw [hvc_] at ul448_1;have HL448_1 := am (show Kd.V k72 72 _ w.heap.size _ _ ((rd_T72 x0_1 0).f1) from Kd.V_mk ul448_1 ge448_1);clear hva_ hvn_ hvc_ ge448_1 ul448_1;clear hcc448 hce448;have qi448 : (0 < x0_1.length) = True := eq_true (by omega);(try rw [show ((0 : Int)).toNat = 0 from rfl] at hx448_0);(try rw [show 0 * 2 = 0 from rfl] at hx448_0);(try rw [Addr.add_zero'] at hx448_0);(try rw [show ((0 : Int)).toNat = 0 from rfl] at hx448_1);(try rw [show 0 * 2 = 0 from rfl] at hx448_1);(try rw [Addr.add_zero'] at hx448_1);have HR448_1 := am hi448_1;have HC448_1 := am hl448_1;clear hi448_1 hl448_1;replace p448 := eq_true p448;replace q448 := eq_true q448;obtain ⟨Ao28, co28, eo28⟩ := Kd.V_slice HO_1.out
            (first | subst eo28 | (injection eo28 with f1_ f2_ f3_; have f4_ := f1_.symm; have f5_ := f3_.symm; clear f1_ f2_ f3_; subst f4_; subst f5_))
            have p449 : 0 ≤ (0 : Int) := (by omega);have q449 : 0 < (x1_1.length : Int) := of_decide_eq_true (by assumption);obtain ⟨ad449, A449_1, c449_1, e449, hx449_0, hx449_1, hl449_1, hi449_1⟩ := at_T72 (Kd.V_reads' HO_1.out).2.2 0 p449 q449;cases e449
            obtain ⟨ce449, hce449, hMe449, hcc449⟩ := Kd.V_get HO_1.out z72 0 p449 (by first | exact q449 | exact of_decide_eq_true (by assumption) | (have e_ := (Kd.V_reads' HO_1.out).1; omega));obtain ⟨ua449_1, uc449_1, rfl, ul449_1, ge449_1⟩ := k72_openF hMe449;have hv449_1 := hcc449 1 _ rfl;rw [add_field _ _ 1 (by omega)] at hv449_1;replace hv449_1 := Option.some.inj (hv449_1.symm.trans hx449_1)
            injection hv449_1 with hva_ hvn_ hvc_
            rw [hva_] at ge449_1;rw [hvc_] at ul449_1;have HL449_1 := am (show Kd.V k72 72 _ w.heap.size _ _ ((rd_T72 x1_1 0).f1) from Kd.V_mk ul449_1 ge449_1);clear hva_ hvn_ hvc_ ge449_1 ul449_1;clear hcc449 hce449;have qi449 : (0 < x1_1.length) = True := eq_true (by omega);(try rw [show ((0 : Int)).toNat = 0 from rfl] at hx449_0);(try rw [show 0 * 2 = 0 from rfl] at hx449_0);(try rw [Addr.add_zero'] at hx449_0);(try rw [show ((0 : Int)).toNat = 0 from rfl] at hx449_1);(try rw [show 0 * 2 = 0 from rfl] at hx449_1);(try rw [Addr.add_zero'] at hx449_1);have HR449_1 := am hi449_1;have HC449_1 := am hl449_1;clear hi449_1 hl449_1;replace p449 := eq_true p449;replace q449 := eq_true q449;refine start_ (n := 10) (S := fun w' => w'.cell? ad448 = some (.int .i64 ((rd_T72 x0_1 0).f0)) ∧ w'.cell? ⟨ad448.block, ad448.off + 1, none⟩ = some (.slice A448_1 ((rd_T72 x0_1 0).f1).length c448_1) ∧ w'.cell? ad449 = some (.int .i64 ((rd_T72 x1_1 0).f0)) ∧ w'.cell? ⟨ad449.block, ad449.off + 1, none⟩ = some (.slice A449_1 ((rd_T72 x1_1 0).f1).length c449_1)) (ds := []) #[false, false, false, false, false, false, false, false, false, false] (by kernel_rfl) rfl rfl ⟨hx448_0, hx448_1, hx449_0, hx449_1⟩ (fun hHeld => ?_); refine with_tabW impl_natural.tab3 impl_natural.bits3 (fun HT_ HW_ => ?_);generalize wc.drew = w26 at HO_0 HO_1 HO_5 HB HL448_1 HL449_1 HR448_1 HR449_1 hx448_0 hx448_1 hx449_0 hx449_1 hHeld ⊢;refine pure_ (i := 0) (N := some 16) (v := ?_) (a' := ?_) #[true, false, false, false, false, false, false, false, false, false] rfl rfl (any_of HT_.out (by kernel_rfl)) (fun _ _ _ h => h) (Or.inl ⟨by rfl, ?_⟩) ?_ ?_;rotate_left
            ·
             intro w';go_simp;with_reducible rfl
            rotate_left
            ·
             simp only [Act.put, sA, sB, sC, i64_w, i32_w];rfl
            refine pure_ (i := 1) (N := some 17) (v := ?_) (a' := ?_) #[true, true, false, false, false, false, false, false, false, false] rfl rfl (any_of HT_.out (by kernel_rfl)) (fun _ _ _ h => h) (Or.inl ⟨by rfl, ?_⟩) ?_ ?_;rotate_left
            ·
             intro w';go_simp;with_reducible rfl
            rotate_left
            ·
             simp only [Act.put, sA, sB, sC, i64_w, i32_w];rfl
            refine pure_ (i := 2) (N := some 18) (v := ?_) (a' := ?_) #[true, true, true, false, false, false, false, false, false, false] rfl rfl (any_of HT_.out (by kernel_rfl)) (fun _ _ _ h => h) (Or.inl ⟨by rfl, ?_⟩) ?_ ?_;rotate_left
            ·
             intro w';go_simp;with_reducible rfl
            rotate_left
            ·
             simp only [Act.put, sA, sB, sC, i64_w, i32_w];rfl
            refine pure_ (i := 4) (N := some 20) (v := ?_) (a' := ?_) #[true, true, true, false, true, false, false, false, false, false] rfl rfl (any_of HT_.out (by kernel_rfl)) (fun _ _ _ h => h) (Or.inl ⟨by rfl, ?_⟩) ?_ ?_;rotate_left
            ·
             intro w';go_simp;with_reducible rfl
            rotate_left
            ·
             simp only [Act.put, sA, sB, sC, i64_w, i32_w];rfl
            refine pure_ (i := 5) (N := some 21) (v := ?_) (a' := ?_) #[true, true, true, false, true, true, false, false, false, false] rfl rfl (any_of HT_.out (by kernel_rfl)) (fun _ _ _ h => h) (Or.inl ⟨by rfl, ?_⟩) ?_ ?_;rotate_left
            ·
             intro w';go_simp;with_reducible rfl
            rotate_left
            ·
             simp only [Act.put, sA, sB, sC, i64_w, i32_w];rfl
            refine pure_ (i := 6) (N := some 22) (v := ?_) (a' := ?_) #[true, true, true, false, true, true, true, false, false, false] rfl rfl (any_of HT_.out (by kernel_rfl)) (fun _ _ _ h => h) (Or.inl ⟨by rfl, ?_⟩) ?_ ?_;rotate_left
            ·
             intro w';go_simp;with_reducible rfl
            rotate_left
            ·
             simp only [Act.put, sA, sB, sC, i64_w, i32_w];rfl
            refine take_ (i := 3) (N := some 19) (v := ?_) (a' := ?_) #[true, true, true, true, true, true, true, false, false, false] rfl rfl (take_ofW HT_.out HW_.out (by kernel_rfl)) (fun _ _ _ h => h) (Or.inl ⟨by rfl, ?_⟩) hHeld ?_ ?_;rotate_left
            ·
             rintro w' ⟨s0, s1, s2, s3⟩
             go_simp;with_reducible rfl
            rotate_left
            ·
             simp only [Act.put, sA, sB, sC, i64_w, i32_w];rfl
            refine take_ (i := 7) (N := some 23) (v := ?_) (a' := ?_) #[true, true, true, true, true, true, true, true, false, false] rfl rfl (take_ofW HT_.out HW_.out (by kernel_rfl)) (fun _ _ _ h => h) (Or.inl ⟨by rfl, ?_⟩) hHeld ?_ ?_;rotate_left
            ·
             rintro w' ⟨s0, s1, s2, s3⟩
             go_simp;with_reducible rfl
            rotate_left
            ·
             simp only [Act.put, sA, sB, sC, i64_w, i32_w];rfl
            refine one_ (i := 8) (N := some 24) #[true, true, true, true, true, true, true, true, true, false] rfl rfl (one_of HT_.out (by kernel_rfl)) (by decide) (fun K hK => ?_);refine goes_ Try.func86 (by kernel_rfl) rfl #[.slice A448_1 ((rd_T72 x0_1 0).f1).length c448_1, .slice A449_1 ((rd_T72 x1_1 0).f1).length c449_1] (by rfl) rfl rfl (by (try simp only [mA, mB, mC]); first | done | rfl) ?_
            with_reducible refine (impl_compare.calls kj4 _ _ ((rd_T72 x0_1 0).f1) _ _ ((rd_T72 x1_1 0).f1) t450 _ ?side1 ?side2 ?side3 ?side4 A13.out).mono ?_
            (case side1 => exact Kd.cm ((by repeat (first | (with_reducible exact HR448_1.out) | (with_reducible refine Kd.C_alloc ?_ _) | (with_reducible refine Kd.C_drewN ?_ _) | (with_reducible refine Kd.C_drew ?_) | exact HR448_1.out))));(case side2 => exact HC448_1.out);(case side3 => exact Kd.cm ((by repeat (first | (with_reducible exact HR449_1.out) | (with_reducible refine Kd.C_alloc ?_ _) | (with_reducible refine Kd.C_drewN ?_ _) | (with_reducible refine Kd.C_drew ?_) | exact HR449_1.out))));(case side4 => exact HC449_1.out)
            rintro e w29 ⟨rfl, hb⟩
            have HS0_ := (hb.cell (World.block_lt_of_cell? _ _ (hHeld.1))).trans (hHeld.1);have HS1_ := (hb.cell (World.block_lt_of_cell? _ _ (hHeld.2.1))).trans (hHeld.2.1);have HS2_ := (hb.cell (World.block_lt_of_cell? _ _ (hHeld.2.2.1))).trans (hHeld.2.2.1);have HS3_ := (hb.cell (World.block_lt_of_cell? _ _ (hHeld.2.2.2))).trans (hHeld.2.2.2);refine ⟨_, rfl, ?_⟩;replace HO_0 := am (Kd.V_below (Kd.vm HO_0.out) hb);replace HO_1 := am (Kd.V_below (Kd.vm HO_1.out) hb);replace HO_5 := am (Kd.N_below (Kd.nm HO_5.out) hb);replace HL448_1 := am (Kd.V_below (Kd.vm HL448_1.out) hb);replace HL449_1 := am (Kd.V_below (Kd.vm HL449_1.out) hb);replace HR448_1 := am (Kd.C_below (by repeat (first | (with_reducible exact HR448_1.out) | (with_reducible refine Kd.C_alloc ?_ _) | (with_reducible refine Kd.C_drewN ?_ _) | (with_reducible refine Kd.C_drew ?_) | exact HR448_1.out)) hb);replace HR449_1 := am (Kd.C_below (by repeat (first | (with_reducible exact HR449_1.out) | (with_reducible refine Kd.C_alloc ?_ _) | (with_reducible refine Kd.C_drewN ?_ _) | (with_reducible refine Kd.C_drew ?_) | exact HR449_1.out)) hb);replace HB := am (below_step (bm HB.out) hb);(try clear hb);refine hK.out _ _ ⟨HS0_, HS1_, HS2_, HS3_⟩ (fun hHeld => ?_);clear hK K;refine norm_ (a' := ?_) ?_ ?_;rotate_left
            ·
             show Act.put _ (some 24) _ = _
             simp only [Act.put, sA, sB, sC, i64_w, i32_w];rfl
            refine pure_ (i := 9) (N := some 6) (v := ?_) (a' := ?_) #[true, true, true, true, true, true, true, true, true, true] rfl rfl (any_of HT_.out (by kernel_rfl)) (fun _ _ _ h => h) (Or.inl ⟨by rfl, ?_⟩) ?_ ?_;rotate_left
            ·
             intro w';go_simp;with_reducible rfl
            rotate_left
            ·
             simp only [Act.put, sA, sB, sC, i64_w, i32_w];rfl
            refine done_ (done_of HT_.out (by kernel_rfl)) ?_;have p460 : 0 ≤ (0 : Int) := (by omega);have q460 : 0 < (x1_1.length : Int) := of_decide_eq_true (by assumption);obtain ⟨ad460, A460_1, c460_1, e460, hx460_0, hx460_1, hl460_1, hi460_1⟩ := at_T72 (Kd.V_reads' HO_1.out).2.2 0 p460 q460;(try clear hx449_0);(try clear hx449_1);(try clear hx449_2);(try clear hx449_3);(try clear hx449_0);(try clear hx449_1);(try clear hx449_2);(try clear hx449_3);(try clear HS0_);(try clear HS1_);(try clear HS2_);(try clear HS3_);(try clear HS4_);(try clear HS5_);(try clear HS6_);(try clear HS7_);(try clear HS8_);(try clear HS9_);(try clear hHeld);obtain rfl : ad449 = ad460 := (by injection e460);obtain ⟨ce460, hce460, hMe460, hcc460⟩ := Kd.V_get HO_1.out z72 0 p460 (by first | exact q460 | exact of_decide_eq_true (by assumption) | (have e_ := (Kd.V_reads' HO_1.out).1; omega));obtain ⟨ua460_1, uc460_1, rfl, ul460_1, ge460_1⟩ := k72_openF hMe460;have hv460_1 := hcc460 1 _ rfl;rw [add_field _ _ 1 (by omega)] at hv460_1;replace hv460_1 := Option.some.inj (hv460_1.symm.trans hx460_1)
            injection hv460_1 with hva_ hvn_ hvc_
            rw [hva_] at ge460_1;rw [hvc_] at ul460_1;have HL460_1 := am (show Kd.V k72 72 _ w.heap.size _ _ ((rd_T72 x1_1 0).f1) from Kd.V_mk ul460_1 ge460_1);clear hva_ hvn_ hvc_ ge460_1 ul460_1;clear hcc460 hce460;have qi460 : (0 < x1_1.length) = True := eq_true (by omega);(try rw [show ((0 : Int)).toNat = 0 from rfl] at hx460_0);(try rw [show 0 * 2 = 0 from rfl] at hx460_0);(try rw [Addr.add_zero'] at hx460_0);(try rw [show ((0 : Int)).toNat = 0 from rfl] at hx460_1);(try rw [show 0 * 2 = 0 from rfl] at hx460_1);(try rw [Addr.add_zero'] at hx460_1);have HR460_1 := am hi460_1;have HC460_1 := am hl460_1;clear hi460_1 hl460_1;replace p460 := eq_true p460;replace q460 := eq_true q460;(try go_wp2_with (first | ((with_reducible refine gate_builtin (b := .append) (xs := #[.tmp 60, .tmp 64]) rfl ?_); (try (refine gate_guard (by rfl) ?_; dsimp only)); at_builtin; refine Kd.N_append k72 (w0 := w) w.heap.size rfl (.tmp 60) (.tmp 64) 40 72 (.agg #[(.int .i64 0), (.slice none 0 0)]) 32 rfl Try.underlying40 info72 rfl (by decide) (by omega) u5 x5_1 (⟨(rd_T72 x1_1 0).f0, (rd_T72 x1_1 0).f1⟩ : S72) [.int .i64 ((rd_T72 x1_1 0).f0), .slice A460_1 ((rd_T72 x1_1 0).f1).length c460_1] (fun k_ => ((P0_ k_ ∨ P1_ k_) ∨ w.heap.size ≤ k_)) (fun k_ => ((fun k_ => ((P0_ k_ ∨ P1_ k_) ∨ w.heap.size ≤ k_))) k_ ∧ some k_ ≠ (u5 : Value).ownBlock) rfl rfl ?aP (fun _ hk => hk) ?aF ?aO ?aB ?aS ?aL ?_; (case aP => exact (k72_mkF _ _ (⟨(rd_T72 x1_1 0).f0, (rd_T72 x1_1 0).f1⟩ : S72) (Kd.V_reads' (Kd.V_mono (ok' := (fun k_ => ((fun k_ => ((P0_ k_ ∨ P1_ k_) ∨ w.heap.size ≤ k_))) k_ ∧ some k_ ≠ (u5 : Value).ownBlock)) (HL460_1.out) (fun k_ hk => ⟨hk.1, hk.2⟩))).2.1 (Kd.V_F (Kd.V_mono (ok' := (fun k_ => ((fun k_ => ((P0_ k_ ∨ P1_ k_) ∨ w.heap.size ≤ k_))) k_ ∧ some k_ ≠ (u5 : Value).ownBlock)) (HL460_1.out) (fun k_ hk => ⟨hk.1, hk.2⟩))))); (case aB => exact (bm HB.out)); (case aF => exact (fun k_ hk => (.inr (Nat.le_trans (below_size (bm HB.out)) hk)))); (case aO => exact (Kd.nm HO_5.out)); (case aS => exact (below_size (bm HB.out))); (case aL => have := LMc24.out; omega); intro v462 w30 ho hb hg hat; rw [← hy461.out] at ho; replace HO_0 := am (Kd.V_afterv (ok := (fun k_ => ((P0_ k_ ∨ P1_ k_) ∨ w.heap.size ≤ k_))) (Kd.vm HO_0.out) hg hat);replace HO_1 := am (Kd.V_afterv (ok := (fun k_ => ((P0_ k_ ∨ P1_ k_) ∨ w.heap.size ≤ k_))) (Kd.vm HO_1.out) hg hat);replace HL448_1 := am (Kd.V_afterv (ok := (fun k_ => ((P0_ k_ ∨ P1_ k_) ∨ w.heap.size ≤ k_))) (Kd.vm HL448_1.out) hg hat);replace HL449_1 := am (Kd.V_afterv (ok := (fun k_ => ((P0_ k_ ∨ P1_ k_) ∨ w.heap.size ≤ k_))) (Kd.vm HL449_1.out) hg hat);replace HL460_1 := am (Kd.V_afterv (ok := (fun k_ => ((P0_ k_ ∨ P1_ k_) ∨ w.heap.size ≤ k_))) (Kd.vm HL460_1.out) hg hat);replace HB := am (hb);have HO463 := am (ho);clear HO_5; clear ho hb hg hat; have q31 : (1 : Int) ≤ ((x1_1.length : Int) : Int) := of_decide_eq_true (by assumption); obtain ⟨i031, hi031, _, hsz31, _⟩ := info_parts info72; have hroom31 : x1_1.length ≤ co28 := (Kd.V_reads' HO_1.out).2.1; have hC31 : Kd.F k72 _ _ (some ad449) x1_1.length x1_1 := (Kd.V_at (base := w.heap.size) HO_1.out).2.2; have hcut31 := cut_from (P := Try.prog) 40 72 .i64 Try.underlying40 hi031 2 hsz31 (some ad449) x1_1.length co28 1 (by omega) q31; have hr31 := Kd.F_cut (m := (1 : Int).toNat) (c := co28) hC31 (by omega) hroom31; obtain ⟨A31, hA31⟩ : ∃ A1, A1 = (if co28 = (1 : Int).toNat then (some ad449) else ((some ad449) : Option Addr).map (·.add ((1 : Int).toNat * 2))) := ⟨_, rfl⟩; obtain ⟨c31, hc31⟩ : ∃ c1, c1 = co28 - (1 : Int).toNat := ⟨_, rfl⟩; have hy31 : y464.length = x1_1.length - (1 : Int).toNat := (by rw [hy464.out, List.length_drop] <;> omega); rw [show (x1_1).drop (1 : Int).toNat = y464 from hy464.out.symm] at hr31; replace hr31 : Kd.F k72 _ _ A31 y464.length y464 := (by rw [hA31]; exact hr31); rw [← hy31, ← hA31, ← hc31] at hcut31; have HO468 := am (show Kd.V k72 72 _ w.heap.size _ (.slice A31 y464.length c31) y464 from Kd.V_mk (by rw [hy31, hc31]; exact Nat.sub_le_sub_right hroom31 _) hr31); have HC468 := am (show y464.length ≤ c31 from by rw [hy31, hc31]; exact Nat.sub_le_sub_right hroom31 _); clear hr31 hC31 hroom31 hi031 hsz31 hc31; have KY31 := am hy31; have KA31 := am hA31; clear hy31 hA31; replace q31 := eq_true q31)))
            go_roundg kj4
            case measure => have := HK1.out; have := HJ4.out; omega
            case rel => exact ⟨(x0_1), (y464), (y461), H', ⟨by have := HK1.out; have := HJ4.out; omega⟩, ⟨Kd.vm HO_0.out⟩, ⟨Kd.vm HO468.out⟩, ⟨Kd.nm HO463.out⟩, ⟨bm HB.out⟩⟩
           ·
            rw [if_neg c25] at H;exact absurd H (by simp)
          ·
           rw [if_neg c24] at H;exact absurd H (by simp)
         ·
          rw [if_neg c23] at H;have c23b0 : decide (t450 < 0) = false := decide_eq_false c23;clear c23;by_cases c32 : x5_1.length < 4398046511104
          ·
           rw [if_pos c32] at H;have LMc32 := am c32;clear c32
           obtain ⟨y472, hy472⟩ : ∃ y_ : List (S72), y_ = (x5_1 ++ [(⟨wrap64 (((rd_T72 x0_1 0).f0) + ((rd_T72 x1_1 0).f0)), (rd_T72 x0_1 0).f1⟩ : S72)]) := ⟨_, rfl⟩
           replace H : (if 1 ≤ (x0_1.length : Int) then (if 1 ≤ (x1_1.length : Int) then (impl_natural.l0 kj4 (x0_1.drop 1) (x1_1.drop 1) y472) else (none)) else (none)) = some r := by first | (rw [hy472]; with_reducible exact H) | (have H2_ := oB H; rw [hy472]; with_reducible exact H2_) | (have H2_ := oB H; with_reducible exact H2_) | with_reducible exact H | (rw [hy472]; exact H) | exact H
           replace hy472 := am hy472;by_cases c33 : 1 ≤ (x0_1.length : Int)
           ·
            rw [if_pos c33] at H;have c33b0 := eq_true c33;have c33b1 : decide (1 ≤ (x0_1.length : Int)) = true := decide_eq_true c33;clear c33
            obtain ⟨y475, hy475⟩ : ∃ y_ : List (S72), y_ = (x0_1.drop 1) := ⟨_, rfl⟩
            replace H : (if 1 ≤ (x1_1.length : Int) then (impl_natural.l0 kj4 y475 (x1_1.drop 1) y472) else (none)) = some r := by first | (rw [hy475]; with_reducible exact H) | (have H2_ := oB H; rw [hy475]; with_reducible exact H2_) | (have H2_ := oB H; with_reducible exact H2_) | with_reducible exact H | (rw [hy475]; exact H) | exact H
            replace hy475 := am hy475;by_cases c34 : 1 ≤ (x1_1.length : Int)
            ·
             rw [if_pos c34] at H;have c34b0 := eq_true c34;have c34b1 : decide (1 ≤ (x1_1.length : Int)) = true := decide_eq_true c34;clear c34
             obtain ⟨y480, hy480⟩ : ∃ y_ : List (S72), y_ = (x1_1.drop 1) := ⟨_, rfl⟩
             replace H : (impl_natural.l0 kj4 y475 y480 y472) = some r := by first | (rw [hy480]; with_reducible exact H) | (have H2_ := oB H; rw [hy480]; with_reducible exact H2_) | (have H2_ := oB H; with_reducible exact H2_) | with_reducible exact H | (rw [hy480]; exact H) | exact H
             replace hy480 := am hy480;have H' := am H;clear H;(try go_wp2);replace HO_0 := am (Kd.V_drew HO_0.out);replace HO_1 := am (Kd.V_drew HO_1.out);replace HO_5 := am (Kd.N_drew HO_5.out);replace HB := am (below_drew1 HB.out);obtain ⟨Ao36, co36, eo36⟩ := Kd.V_slice HO_0.out
             (first | subst eo36 | (injection eo36 with f1_ f2_ f3_; have f4_ := f1_.symm; have f5_ := f3_.symm; clear f1_ f2_ f3_; subst f4_; subst f5_))
             have p448 : 0 ≤ (0 : Int) := (by omega);have q448 : 0 < (x0_1.length : Int) := of_decide_eq_true (by assumption);obtain ⟨ad448, A448_1, c448_1, e448, hx448_0, hx448_1, hl448_1, hi448_1⟩ := at_T72 (Kd.V_reads' HO_0.out).2.2 0 p448 q448;(try clear hx451_0);(try clear hx451_1);(try clear hx451_2);(try clear hx451_3);(try clear HS4_);(try clear HS5_);(try clear HS6_);(try clear HS7_);(try clear HS8_);(try clear HS9_);(try clear hHeld);cases e448
             obtain ⟨ce448, hce448, hMe448, hcc448⟩ := Kd.V_get HO_0.out z72 0 p448 (by first | exact q448 | exact of_decide_eq_true (by assumption) | (have e_ := (Kd.V_reads' HO_0.out).1; omega));obtain ⟨ua448_1, uc448_1, rfl, ul448_1, ge448_1⟩ := k72_openF hMe448;have hv448_1 := hcc448 1 _ rfl;rw [add_field _ _ 1 (by omega)] at hv448_1;replace hv448_1 := Option.some.inj (hv448_1.symm.trans hx448_1)
             injection hv448_1 with hva_ hvn_ hvc_
             rw [hva_] at ge448_1;rw [hvc_] at ul448_1;have HL448_1 := am (show Kd.V k72 72 _ w.heap.size _ _ ((rd_T72 x0_1 0).f1) from Kd.V_mk ul448_1 ge448_1);clear hva_ hvn_ hvc_ ge448_1 ul448_1;clear hcc448 hce448;have qi448 : (0 < x0_1.length) = True := eq_true (by omega);(try rw [show ((0 : Int)).toNat = 0 from rfl] at hx448_0);(try rw [show 0 * 2 = 0 from rfl] at hx448_0);(try rw [Addr.add_zero'] at hx448_0);(try rw [show ((0 : Int)).toNat = 0 from rfl] at hx448_1);(try rw [show 0 * 2 = 0 from rfl] at hx448_1);(try rw [Addr.add_zero'] at hx448_1);have HR448_1 := am hi448_1;have HC448_1 := am hl448_1;clear hi448_1 hl448_1;replace p448 := eq_true p448;replace q448 := eq_true q448;obtain ⟨Ao37, co37, eo37⟩ := Kd.V_slice HO_1.out
             (first | subst eo37 | (injection eo37 with f1_ f2_ f3_; have f4_ := f1_.symm; have f5_ := f3_.symm; clear f1_ f2_ f3_; subst f4_; subst f5_))
             have p449 : 0 ≤ (0 : Int) := (by omega);have q449 : 0 < (x1_1.length : Int) := of_decide_eq_true (by assumption);obtain ⟨ad449, A449_1, c449_1, e449, hx449_0, hx449_1, hl449_1, hi449_1⟩ := at_T72 (Kd.V_reads' HO_1.out).2.2 0 p449 q449;(try clear hx460_0);(try clear hx460_1);(try clear hx460_2);(try clear hx460_3);(try clear HS4_);(try clear HS5_);(try clear HS6_);(try clear HS7_);(try clear HS8_);(try clear HS9_);cases e449
             obtain ⟨ce449, hce449, hMe449, hcc449⟩ := Kd.V_get HO_1.out z72 0 p449 (by first | exact q449 | exact of_decide_eq_true (by assumption) | (have e_ := (Kd.V_reads' HO_1.out).1; omega));obtain ⟨ua449_1, uc449_1, rfl, ul449_1, ge449_1⟩ := k72_openF hMe449;have hv449_1 := hcc449 1 _ rfl;rw [add_field _ _ 1 (by omega)] at hv449_1;replace hv449_1 := Option.some.inj (hv449_1.symm.trans hx449_1)
             injection hv449_1 with hva_ hvn_ hvc_
             rw [hva_] at ge449_1;rw [hvc_] at ul449_1;have HL449_1 := am (show Kd.V k72 72 _ w.heap.size _ _ ((rd_T72 x1_1 0).f1) from Kd.V_mk ul449_1 ge449_1);clear hva_ hvn_ hvc_ ge449_1 ul449_1;clear hcc449 hce449;have qi449 : (0 < x1_1.length) = True := eq_true (by omega);(try rw [show ((0 : Int)).toNat = 0 from rfl] at hx449_0);(try rw [show 0 * 2 = 0 from rfl] at hx449_0);(try rw [Addr.add_zero'] at hx449_0);(try rw [show ((0 : Int)).toNat = 0 from rfl] at hx449_1);(try rw [show 0 * 2 = 0 from rfl] at hx449_1);(try rw [Addr.add_zero'] at hx449_1);have HR449_1 := am hi449_1;have HC449_1 := am hl449_1;clear hi449_1 hl449_1;replace p449 := eq_true p449;replace q449 := eq_true q449;refine start_ (n := 10) (S := fun w' => w'.cell? ad448 = some (.int .i64 ((rd_T72 x0_1 0).f0)) ∧ w'.cell? ⟨ad448.block, ad448.off + 1, none⟩ = some (.slice A448_1 ((rd_T72 x0_1 0).f1).length c448_1) ∧ w'.cell? ad449 = some (.int .i64 ((rd_T72 x1_1 0).f0)) ∧ w'.cell? ⟨ad449.block, ad449.off + 1, none⟩ = some (.slice A449_1 ((rd_T72 x1_1 0).f1).length c449_1)) (ds := []) #[false, false, false, false, false, false, false, false, false, false] (by kernel_rfl) rfl rfl ⟨hx448_0, hx448_1, hx449_0, hx449_1⟩ (fun hHeld => ?_); refine with_tabW impl_natural.tab3 impl_natural.bits3 (fun HT_ HW_ => ?_);generalize wc.drew = w35 at HO_0 HO_1 HO_5 HB HL448_1 HL449_1 HR448_1 HR449_1 hx448_0 hx448_1 hx449_0 hx449_1 hHeld ⊢;refine pure_ (i := 0) (N := some 16) (v := ?_) (a' := ?_) #[true, false, false, false, false, false, false, false, false, false] rfl rfl (any_of HT_.out (by kernel_rfl)) (fun _ _ _ h => h) (Or.inl ⟨by rfl, ?_⟩) ?_ ?_;rotate_left
             ·
              intro w';go_simp;with_reducible rfl
             rotate_left
             ·
              simp only [Act.put, sA, sB, sC, i64_w, i32_w];rfl
             refine pure_ (i := 1) (N := some 17) (v := ?_) (a' := ?_) #[true, true, false, false, false, false, false, false, false, false] rfl rfl (any_of HT_.out (by kernel_rfl)) (fun _ _ _ h => h) (Or.inl ⟨by rfl, ?_⟩) ?_ ?_;rotate_left
             ·
              intro w';go_simp;with_reducible rfl
             rotate_left
             ·
              simp only [Act.put, sA, sB, sC, i64_w, i32_w];rfl
             refine pure_ (i := 2) (N := some 18) (v := ?_) (a' := ?_) #[true, true, true, false, false, false, false, false, false, false] rfl rfl (any_of HT_.out (by kernel_rfl)) (fun _ _ _ h => h) (Or.inl ⟨by rfl, ?_⟩) ?_ ?_;rotate_left
             ·
              intro w';go_simp;with_reducible rfl
             rotate_left
             ·
              simp only [Act.put, sA, sB, sC, i64_w, i32_w];rfl
             refine pure_ (i := 4) (N := some 20) (v := ?_) (a' := ?_) #[true, true, true, false, true, false, false, false, false, false] rfl rfl (any_of HT_.out (by kernel_rfl)) (fun _ _ _ h => h) (Or.inl ⟨by rfl, ?_⟩) ?_ ?_;rotate_left
             ·
              intro w';go_simp;with_reducible rfl
             rotate_left
             ·
              simp only [Act.put, sA, sB, sC, i64_w, i32_w];rfl
             refine pure_ (i := 5) (N := some 21) (v := ?_) (a' := ?_) #[true, true, true, false, true, true, false, false, false, false] rfl rfl (any_of HT_.out (by kernel_rfl)) (fun _ _ _ h => h) (Or.inl ⟨by rfl, ?_⟩) ?_ ?_;rotate_left
             ·
              intro w';go_simp;with_reducible rfl
             rotate_left
             ·
              simp only [Act.put, sA, sB, sC, i64_w, i32_w];rfl
             refine pure_ (i := 6) (N := some 22) (v := ?_) (a' := ?_) #[true, true, true, false, true, true, true, false, false, false] rfl rfl (any_of HT_.out (by kernel_rfl)) (fun _ _ _ h => h) (Or.inl ⟨by rfl, ?_⟩) ?_ ?_;rotate_left
             ·
              intro w';go_simp;with_reducible rfl
             rotate_left
             ·
              simp only [Act.put, sA, sB, sC, i64_w, i32_w];rfl
             refine take_ (i := 3) (N := some 19) (v := ?_) (a' := ?_) #[true, true, true, true, true, true, true, false, false, false] rfl rfl (take_ofW HT_.out HW_.out (by kernel_rfl)) (fun _ _ _ h => h) (Or.inl ⟨by rfl, ?_⟩) hHeld ?_ ?_;rotate_left
             ·
              rintro w' ⟨s0, s1, s2, s3⟩
              go_simp;with_reducible rfl
             rotate_left
             ·
              simp only [Act.put, sA, sB, sC, i64_w, i32_w];rfl
             refine take_ (i := 7) (N := some 23) (v := ?_) (a' := ?_) #[true, true, true, true, true, true, true, true, false, false] rfl rfl (take_ofW HT_.out HW_.out (by kernel_rfl)) (fun _ _ _ h => h) (Or.inl ⟨by rfl, ?_⟩) hHeld ?_ ?_;rotate_left
             ·
              rintro w' ⟨s0, s1, s2, s3⟩
              go_simp;with_reducible rfl
             rotate_left
             ·
              simp only [Act.put, sA, sB, sC, i64_w, i32_w];rfl
             refine one_ (i := 8) (N := some 24) #[true, true, true, true, true, true, true, true, true, false] rfl rfl (one_of HT_.out (by kernel_rfl)) (by decide) (fun K hK => ?_);refine goes_ Try.func86 (by kernel_rfl) rfl #[.slice A448_1 ((rd_T72 x0_1 0).f1).length c448_1, .slice A449_1 ((rd_T72 x1_1 0).f1).length c449_1] (by rfl) rfl rfl (by (try simp only [mA, mB, mC]); first | done | rfl) ?_
             with_reducible refine (impl_compare.calls kj4 _ _ ((rd_T72 x0_1 0).f1) _ _ ((rd_T72 x1_1 0).f1) t450 _ ?side1 ?side2 ?side3 ?side4 A13.out).mono ?_
             (case side1 => exact Kd.cm ((by repeat (first | (with_reducible exact HR448_1.out) | (with_reducible refine Kd.C_alloc ?_ _) | (with_reducible refine Kd.C_drewN ?_ _) | (with_reducible refine Kd.C_drew ?_) | exact HR448_1.out))));(case side2 => exact HC448_1.out);(case side3 => exact Kd.cm ((by repeat (first | (with_reducible exact HR449_1.out) | (with_reducible refine Kd.C_alloc ?_ _) | (with_reducible refine Kd.C_drewN ?_ _) | (with_reducible refine Kd.C_drew ?_) | exact HR449_1.out))));(case side4 => exact HC449_1.out)
             rintro e w38 ⟨rfl, hb⟩
             have HS0_ := (hb.cell (World.block_lt_of_cell? _ _ (hHeld.1))).trans (hHeld.1);have HS1_ := (hb.cell (World.block_lt_of_cell? _ _ (hHeld.2.1))).trans (hHeld.2.1);have HS2_ := (hb.cell (World.block_lt_of_cell? _ _ (hHeld.2.2.1))).trans (hHeld.2.2.1);have HS3_ := (hb.cell (World.block_lt_of_cell? _ _ (hHeld.2.2.2))).trans (hHeld.2.2.2);refine ⟨_, rfl, ?_⟩;replace HO_0 := am (Kd.V_below (Kd.vm HO_0.out) hb);replace HO_1 := am (Kd.V_below (Kd.vm HO_1.out) hb);replace HO_5 := am (Kd.N_below (Kd.nm HO_5.out) hb);replace HL448_1 := am (Kd.V_below (Kd.vm HL448_1.out) hb);replace HL449_1 := am (Kd.V_below (Kd.vm HL449_1.out) hb);replace HR448_1 := am (Kd.C_below (by repeat (first | (with_reducible exact HR448_1.out) | (with_reducible refine Kd.C_alloc ?_ _) | (with_reducible refine Kd.C_drewN ?_ _) | (with_reducible refine Kd.C_drew ?_) | exact HR448_1.out)) hb);replace HR449_1 := am (Kd.C_below (by repeat (first | (with_reducible exact HR449_1.out) | (with_reducible refine Kd.C_alloc ?_ _) | (with_reducible refine Kd.C_drewN ?_ _) | (with_reducible refine Kd.C_drew ?_) | exact HR449_1.out)) hb);replace HB := am (below_step (bm HB.out) hb);(try clear hb);refine hK.out _ _ ⟨HS0_, HS1_, HS2_, HS3_⟩ (fun hHeld => ?_);clear hK K;refine norm_ (a' := ?_) ?_ ?_;rotate_left
             ·
              show Act.put _ (some 24) _ = _
              simp only [Act.put, sA, sB, sC, i64_w, i32_w];rfl
             refine pure_ (i := 9) (N := some 6) (v := ?_) (a' := ?_) #[true, true, true, true, true, true, true, true, true, true] rfl rfl (any_of HT_.out (by kernel_rfl)) (fun _ _ _ h => h) (Or.inl ⟨by rfl, ?_⟩) ?_ ?_;rotate_left
             ·
              intro w';go_simp;with_reducible rfl
             rotate_left
             ·
              simp only [Act.put, sA, sB, sC, i64_w, i32_w];rfl
             refine done_ (done_of HT_.out (by kernel_rfl)) ?_;(try go_wp2);replace HO_0 := am (Kd.V_drew HO_0.out);replace HO_1 := am (Kd.V_drew HO_1.out);replace HO_5 := am (Kd.N_drew HO_5.out);replace HL448_1 := am (Kd.V_drew HL448_1.out);replace HL449_1 := am (Kd.V_drew HL449_1.out);replace HR448_1 := am (Kd.C_drew HR448_1.out);replace HR449_1 := am (Kd.C_drew HR449_1.out);replace HB := am (below_drew1 HB.out);have p469 : 0 ≤ (0 : Int) := (by omega);have q469 : 0 < (x0_1.length : Int) := of_decide_eq_true (by assumption);obtain ⟨ad469, A469_1, c469_1, e469, hx469_0, hx469_1, hl469_1, hi469_1⟩ := at_T72 (Kd.V_reads' HO_0.out).2.2 0 p469 q469;(try clear hx448_0);(try clear hx448_1);(try clear hx448_2);(try clear hx448_3);(try clear hx451_0);(try clear hx451_1);(try clear hx451_2);(try clear hx451_3);(try clear hx448_0);(try clear hx448_1);(try clear hx448_2);(try clear hx448_3);(try clear hx448_0);(try clear hx448_1);(try clear hx448_2);(try clear hx448_3);(try clear HS0_);(try clear HS1_);(try clear HS2_);(try clear HS3_);(try clear HS4_);(try clear HS5_);(try clear HS6_);(try clear HS7_);(try clear HS8_);(try clear HS9_);(try clear hHeld);obtain rfl : ad448 = ad469 := (by injection e469);obtain ⟨ce469, hce469, hMe469, hcc469⟩ := Kd.V_get HO_0.out z72 0 p469 (by first | exact q469 | exact of_decide_eq_true (by assumption) | (have e_ := (Kd.V_reads' HO_0.out).1; omega));obtain ⟨ua469_1, uc469_1, rfl, ul469_1, ge469_1⟩ := k72_openF hMe469;have hv469_1 := hcc469 1 _ rfl;rw [add_field _ _ 1 (by omega)] at hv469_1;replace hv469_1 := Option.some.inj (hv469_1.symm.trans hx469_1)
             injection hv469_1 with hva_ hvn_ hvc_
             rw [hva_] at ge469_1;rw [hvc_] at ul469_1;have HL469_1 := am (show Kd.V k72 72 _ w.heap.size _ _ ((rd_T72 x0_1 0).f1) from Kd.V_mk ul469_1 ge469_1);clear hva_ hvn_ hvc_ ge469_1 ul469_1;clear hcc469 hce469;have qi469 : (0 < x0_1.length) = True := eq_true (by omega);(try rw [show ((0 : Int)).toNat = 0 from rfl] at hx469_0);(try rw [show 0 * 2 = 0 from rfl] at hx469_0);(try rw [Addr.add_zero'] at hx469_0);(try rw [show ((0 : Int)).toNat = 0 from rfl] at hx469_1);(try rw [show 0 * 2 = 0 from rfl] at hx469_1);(try rw [Addr.add_zero'] at hx469_1);have HR469_1 := am hi469_1;have HC469_1 := am hl469_1;clear hi469_1 hl469_1;replace p469 := eq_true p469;replace q469 := eq_true q469;have p470 : 0 ≤ (0 : Int) := (by omega);have q470 : 0 < (x1_1.length : Int) := of_decide_eq_true (by assumption);obtain ⟨ad470, A470_1, c470_1, e470, hx470_0, hx470_1, hl470_1, hi470_1⟩ := at_T72 (Kd.V_reads' HO_1.out).2.2 0 p470 q470;(try clear hx449_0);(try clear hx449_1);(try clear hx449_2);(try clear hx449_3);(try clear hx449_0);(try clear hx449_1);(try clear hx449_2);(try clear hx449_3);(try clear hx460_0);(try clear hx460_1);(try clear hx460_2);(try clear hx460_3);(try clear hx449_0);(try clear hx449_1);(try clear hx449_2);(try clear hx449_3);(try clear HS0_);(try clear HS1_);(try clear HS2_);(try clear HS3_);(try clear HS4_);(try clear HS5_);(try clear HS6_);(try clear HS7_);(try clear HS8_);(try clear HS9_);(try clear hHeld);obtain rfl : ad449 = ad470 := (by injection e470);obtain ⟨ce470, hce470, hMe470, hcc470⟩ := Kd.V_get HO_1.out z72 0 p470 (by first | exact q470 | exact of_decide_eq_true (by assumption) | (have e_ := (Kd.V_reads' HO_1.out).1; omega));obtain ⟨ua470_1, uc470_1, rfl, ul470_1, ge470_1⟩ := k72_openF hMe470;have hv470_1 := hcc470 1 _ rfl;rw [add_field _ _ 1 (by omega)] at hv470_1;replace hv470_1 := Option.some.inj (hv470_1.symm.trans hx470_1)
             injection hv470_1 with hva_ hvn_ hvc_
             rw [hva_] at ge470_1;rw [hvc_] at ul470_1;have HL470_1 := am (show Kd.V k72 72 _ w.heap.size _ _ ((rd_T72 x1_1 0).f1) from Kd.V_mk ul470_1 ge470_1);clear hva_ hvn_ hvc_ ge470_1 ul470_1;clear hcc470 hce470;have qi470 : (0 < x1_1.length) = True := eq_true (by omega);(try rw [show ((0 : Int)).toNat = 0 from rfl] at hx470_0);(try rw [show 0 * 2 = 0 from rfl] at hx470_0);(try rw [Addr.add_zero'] at hx470_0);(try rw [show ((0 : Int)).toNat = 0 from rfl] at hx470_1);(try rw [show 0 * 2 = 0 from rfl] at hx470_1);(try rw [Addr.add_zero'] at hx470_1);have HR470_1 := am hi470_1;have HC470_1 := am hl470_1;clear hi470_1 hl470_1;replace p470 := eq_true p470;replace q470 := eq_true q470;have p471 : 0 ≤ (0 : Int) := (by omega);have q471 : 0 < (x0_1.length : Int) := of_decide_eq_true (by assumption);obtain ⟨ad471, A471_1, c471_1, e471, hx471_0, hx471_1, hl471_1, hi471_1⟩ := at_T72 (Kd.V_reads' HO_0.out).2.2 0 p471 q471;(try clear hx448_0);(try clear hx448_1);(try clear hx448_2);(try clear hx448_3);(try clear hx451_0);(try clear hx451_1);(try clear hx451_2);(try clear hx451_3);(try clear hx448_0);(try clear hx448_1);(try clear hx448_2);(try clear hx448_3);(try clear hx448_0);(try clear hx448_1);(try clear hx448_2);(try clear hx448_3);(try clear HS0_);(try clear HS1_);(try clear HS2_);(try clear HS3_);(try clear HS4_);(try clear HS5_);(try clear HS6_);(try clear HS7_);(try clear HS8_);(try clear HS9_);obtain rfl : ad448 = ad471 := (by injection e471);obtain ⟨ce471, hce471, hMe471, hcc471⟩ := Kd.V_get HO_0.out z72 0 p471 (by first | exact q471 | exact of_decide_eq_true (by assumption) | (have e_ := (Kd.V_reads' HO_0.out).1; omega));obtain ⟨ua471_1, uc471_1, rfl, ul471_1, ge471_1⟩ := k72_openF hMe471;have hv471_1 := hcc471 1 _ rfl;rw [add_field _ _ 1 (by omega)] at hv471_1;replace hv471_1 := Option.some.inj (hv471_1.symm.trans hx471_1)
             injection hv471_1 with hva_ hvn_ hvc_
             rw [hva_] at ge471_1;rw [hvc_] at ul471_1;have HL471_1 := am (show Kd.V k72 72 _ w.heap.size _ _ ((rd_T72 x0_1 0).f1) from Kd.V_mk ul471_1 ge471_1);clear hva_ hvn_ hvc_ ge471_1 ul471_1;clear hcc471 hce471;have qi471 : (0 < x0_1.length) = True := eq_true (by omega);(try rw [show ((0 : Int)).toNat = 0 from rfl] at hx471_0);(try rw [show 0 * 2 = 0 from rfl] at hx471_0);(try rw [Addr.add_zero'] at hx471_0);(try rw [show ((0 : Int)).toNat = 0 from rfl] at hx471_1);(try rw [show 0 * 2 = 0 from rfl] at hx471_1);(try rw [Addr.add_zero'] at hx471_1);have HR471_1 := am hi471_1;have HC471_1 := am hl471_1;clear hi471_1 hl471_1;replace p471 := eq_true p471;replace q471 := eq_true q471;have ea_ := Option.some.inj (hx469_1.symm.trans hx471_1)
             injection ea_ with ea_ en_ ec_
             subst ea_;subst ec_;clear en_;refine start_ (n := 18) (S := fun w' => w'.cell? ad448 = some (.int .i64 ((rd_T72 x0_1 0).f0)) ∧ w'.cell? ⟨ad448.block, ad448.off + 1, none⟩ = some (.slice A469_1 ((rd_T72 x0_1 0).f1).length c469_1) ∧ w'.cell? ad449 = some (.int .i64 ((rd_T72 x1_1 0).f0)) ∧ w'.cell? ⟨ad449.block, ad449.off + 1, none⟩ = some (.slice A470_1 ((rd_T72 x1_1 0).f1).length c470_1) ∧ w'.cell? ad448 = some (.int .i64 ((rd_T72 x0_1 0).f0)) ∧ w'.cell? ⟨ad448.block, ad448.off + 1, none⟩ = some (.slice A469_1 ((rd_T72 x0_1 0).f1).length c469_1)) (ds := [15, 16]) #[false, false, false, false, false, false, false, false, false, false, false, false, false, false, false, false, false, false] (by kernel_rfl) rfl rfl ⟨hx469_0, hx469_1, hx470_0, hx470_1, hx471_0, hx471_1⟩ (fun hHeld => ?_); refine with_tabW impl_natural.tab4 impl_natural.bits4 (fun HT_ HW_ => ?_);generalize w38.drew = w39 at HO_0 HO_1 HO_5 HL448_1 HL449_1 HR448_1 HR449_1 HB HL469_1 HL470_1 HL471_1 HR469_1 HR470_1 HR471_1 hx469_0 hx469_1 hx470_0 hx470_1 hx471_0 hx471_1 hHeld ⊢;refine pure_ (i := 0) (N := some 25) (v := ?_) (a' := ?_) #[true, false, false, false, false, false, false, false, false, false, false, false, false, false, false, false, false, false] rfl rfl (any_of HT_.out (by kernel_rfl)) (fun _ _ _ h => h) (Or.inl ⟨by rfl, ?_⟩) ?_ ?_;rotate_left
             ·
              intro w';go_simp;with_reducible rfl
             rotate_left
             ·
              simp only [Act.put, sA, sB, sC, i64_w, i32_w];rfl
             refine pure_ (i := 1) (N := some 26) (v := ?_) (a' := ?_) #[true, true, false, false, false, false, false, false, false, false, false, false, false, false, false, false, false, false] rfl rfl (any_of HT_.out (by kernel_rfl)) (fun _ _ _ h => h) (Or.inl ⟨by rfl, ?_⟩) ?_ ?_;rotate_left
             ·
              intro w';go_simp;with_reducible rfl
             rotate_left
             ·
              simp only [Act.put, sA, sB, sC, i64_w, i32_w];rfl
             refine pure_ (i := 2) (N := some 27) (v := ?_) (a' := ?_) #[true, true, true, false, false, false, false, false, false, false, false, false, false, false, false, false, false, false] rfl rfl (any_of HT_.out (by kernel_rfl)) (fun _ _ _ h => h) (Or.inl ⟨by rfl, ?_⟩) ?_ ?_;rotate_left
             ·
              intro w';go_simp;with_reducible rfl
             rotate_left
             ·
              simp only [Act.put, sA, sB, sC, i64_w, i32_w];rfl
             refine pure_ (i := 3) (N := some 28) (v := ?_) (a' := ?_) #[true, true, true, true, false, false, false, false, false, false, false, false, false, false, false, false, false, false] rfl rfl (any_of HT_.out (by kernel_rfl)) (fun _ _ _ h => h) (Or.inl ⟨by rfl, ?_⟩) ?_ ?_;rotate_left
             ·
              intro w';go_simp;with_reducible rfl
             rotate_left
             ·
              simp only [Act.put, sA, sB, sC, i64_w, i32_w];rfl
             refine pure_ (i := 5) (N := some 30) (v := ?_) (a' := ?_) #[true, true, true, true, false, true, false, false, false, false, false, false, false, false, false, false, false, false] rfl rfl (any_of HT_.out (by kernel_rfl)) (fun _ _ _ h => h) (Or.inl ⟨by rfl, ?_⟩) ?_ ?_;rotate_left
             ·
              intro w';go_simp;with_reducible rfl
             rotate_left
             ·
              simp only [Act.put, sA, sB, sC, i64_w, i32_w];rfl
             refine pure_ (i := 6) (N := some 31) (v := ?_) (a' := ?_) #[true, true, true, true, false, true, true, false, false, false, false, false, false, false, false, false, false, false] rfl rfl (any_of HT_.out (by kernel_rfl)) (fun _ _ _ h => h) (Or.inl ⟨by rfl, ?_⟩) ?_ ?_;rotate_left
             ·
              intro w';go_simp;with_reducible rfl
             rotate_left
             ·
              simp only [Act.put, sA, sB, sC, i64_w, i32_w];rfl
             refine pure_ (i := 7) (N := some 32) (v := ?_) (a' := ?_) #[true, true, true, true, false, true, true, true, false, false, false, false, false, false, false, false, false, false] rfl rfl (any_of HT_.out (by kernel_rfl)) (fun _ _ _ h => h) (Or.inl ⟨by rfl, ?_⟩) ?_ ?_;rotate_left
             ·
              intro w';go_simp;with_reducible rfl
             rotate_left
             ·
              simp only [Act.put, sA, sB, sC, i64_w, i32_w];rfl
             refine pure_ (i := 10) (N := some 35) (v := ?_) (a' := ?_) #[true, true, true, true, false, true, true, true, false, false, true, false, false, false, false, false, false, false] rfl rfl (any_of HT_.out (by kernel_rfl)) (fun _ _ _ h => h) (Or.inl ⟨by rfl, ?_⟩) ?_ ?_;rotate_left
             ·
              intro w';go_simp;with_reducible rfl
             rotate_left
             ·
              simp only [Act.put, sA, sB, sC, i64_w, i32_w];rfl
             refine pure_ (i := 11) (N := some 36) (v := ?_) (a' := ?_) #[true, true, true, true, false, true, true, true, false, false, true, true, false, false, false, false, false, false] rfl rfl (any_of HT_.out (by kernel_rfl)) (fun _ _ _ h => h) (Or.inl ⟨by rfl, ?_⟩) ?_ ?_;rotate_left
             ·
              intro w';go_simp;with_reducible rfl
             rotate_left
             ·
              simp only [Act.put, sA, sB, sC, i64_w, i32_w];rfl
             refine pure_ (i := 12) (N := some 37) (v := ?_) (a' := ?_) #[true, true, true, true, false, true, true, true, false, false, true, true, true, false, false, false, false, false] rfl rfl (any_of HT_.out (by kernel_rfl)) (fun _ _ _ h => h) (Or.inl ⟨by rfl, ?_⟩) ?_ ?_;rotate_left
             ·
              intro w';go_simp;with_reducible rfl
             rotate_left
             ·
              simp only [Act.put, sA, sB, sC, i64_w, i32_w];rfl
             refine take_ (i := 4) (N := some 29) (v := ?_) (a' := ?_) #[true, true, true, true, true, true, true, true, false, false, true, true, true, false, false, false, false, false] rfl rfl (take_ofW HT_.out HW_.out (by kernel_rfl)) (fun _ _ _ h => h) (Or.inl ⟨by rfl, ?_⟩) hHeld ?_ ?_;rotate_left
             ·
              rintro w' ⟨s0, s1, s2, s3, s4, s5⟩
              go_simp;with_reducible rfl
             rotate_left
             ·
              simp only [Act.put, sA, sB, sC, i64_w, i32_w];rfl
             refine take_ (i := 8) (N := some 33) (v := ?_) (a' := ?_) #[true, true, true, true, true, true, true, true, true, false, true, true, true, false, false, false, false, false] rfl rfl (take_ofW HT_.out HW_.out (by kernel_rfl)) (fun _ _ _ h => h) (Or.inl ⟨by rfl, ?_⟩) hHeld ?_ ?_;rotate_left
             ·
              rintro w' ⟨s0, s1, s2, s3, s4, s5⟩
              go_simp;with_reducible rfl
             rotate_left
             ·
              simp only [Act.put, sA, sB, sC, i64_w, i32_w];rfl
             refine pure_ (i := 9) (N := some 34) (v := ?_) (a' := ?_) #[true, true, true, true, true, true, true, true, true, true, true, true, true, false, false, false, false, false] rfl rfl (any_of HT_.out (by kernel_rfl)) (fun _ _ _ h => h) (Or.inl ⟨by rfl, ?_⟩) ?_ ?_;rotate_left
             ·
              intro w';go_simp;with_reducible rfl
             rotate_left
             ·
              simp only [Act.put, sA, sB, sC, i64_w, i32_w];rfl
             refine take_ (i := 13) (N := some 38) (v := ?_) (a' := ?_) #[true, true, true, true, true, true, true, true, true, true, true, true, true, true, false, false, false, false] rfl rfl (take_ofW HT_.out HW_.out (by kernel_rfl)) (fun _ _ _ h => h) (Or.inl ⟨by rfl, ?_⟩) hHeld ?_ ?_;rotate_left
             ·
              rintro w' ⟨s0, s1, s2, s3, s4, s5⟩
              go_simp;with_reducible rfl
             rotate_left
             ·
              simp only [Act.put, sA, sB, sC, i64_w, i32_w];rfl
             refine pure_ (i := 14) (N := some 39) (v := ?_) (a' := ?_) #[true, true, true, true, true, true, true, true, true, true, true, true, true, true, true, false, false, false] rfl rfl (any_of HT_.out (by kernel_rfl)) (fun _ _ _ h => h) (Or.inl ⟨by rfl, ?_⟩) ?_ ?_;rotate_left
             ·
              intro w';go_simp;with_reducible rfl
             rotate_left
             ·
              simp only [Act.put, sA, sB, sC, i64_w, i32_w];rfl
             refine last_ (i := 15) (N := some 40) #[true, true, true, true, true, true, true, true, true, true, true, true, true, true, true, true, false, false] rfl rfl (one_of HT_.out (by kernel_rfl)) (by decide) (fun K hK => ?_);refine value_ (w1 := ?_) (v := ?_) (by rfl) rfl ?_ ?_;rotate_left 2
             ·
              go_simp
              constructor
              ·
               rfl
              ·
               rfl
             refine hK.out _ _ ?_;clear hK K;refine norm_ (a' := ?_) ?_ ?_;rotate_left
             ·
              show Act.put _ (some 40) _ = _
              simp only [Act.put, sA, sB, sC, i64_w, i32_w];rfl
             refine last_ (i := 16) (N := some 41) #[true, true, true, true, true, true, true, true, true, true, true, true, true, true, true, true, true, false] rfl rfl (one_of HT_.out (by kernel_rfl)) (by decide) (fun K hK => ?_);refine Kd.N_append_step k72 (w0 := w) w.heap.size (by rfl) (.tmp 25) (.tmp 40) 40 72 (.agg #[(.int .i64 0), (.slice none 0 0)]) 32 rfl Try.underlying40 info72 rfl (by decide) (by omega) u5 x5_1 (⟨wrap64 (((rd_T72 x0_1 0).f0) + ((rd_T72 x1_1 0).f0)), (rd_T72 x0_1 0).f1⟩ : S72) [.int .i64 (wrap64 (((rd_T72 x0_1 0).f0) + ((rd_T72 x1_1 0).f0))), .slice A469_1 ((rd_T72 x0_1 0).f1).length c469_1] (fun k_ => ((P0_ k_ ∨ P1_ k_) ∨ w.heap.size ≤ k_)) (fun k_ => ((fun k_ => ((P0_ k_ ∨ P1_ k_) ∨ w.heap.size ≤ k_))) k_ ∧ some k_ ≠ (u5 : Value).ownBlock) rfl rfl ?aP (fun _ hk => hk) ?aF ?aO ?aB ?aS ?aL ?_
             (case aP => exact (k72_mkF _ _ (⟨wrap64 (((rd_T72 x0_1 0).f0) + ((rd_T72 x1_1 0).f0)), (rd_T72 x0_1 0).f1⟩ : S72) (Kd.V_reads' (Kd.V_mono (ok' := (fun k_ => ((fun k_ => ((P0_ k_ ∨ P1_ k_) ∨ w.heap.size ≤ k_))) k_ ∧ some k_ ≠ (u5 : Value).ownBlock)) (HL471_1.out) (fun k_ hk => ⟨hk.1, hk.2⟩))).2.1 (Kd.V_F (Kd.V_mono (ok' := (fun k_ => ((fun k_ => ((P0_ k_ ∨ P1_ k_) ∨ w.heap.size ≤ k_))) k_ ∧ some k_ ≠ (u5 : Value).ownBlock)) (HL471_1.out) (fun k_ hk => ⟨hk.1, hk.2⟩)))))
             (case aB => exact (bm HB.out))
             (case aF => exact (fun k_ hk => (.inr (Nat.le_trans (below_size (bm HB.out)) hk))))
             (case aO => exact (Kd.nm HO_5.out))
             (case aS => exact (below_size (bm HB.out)))
             (case aL => have := LMc32.out; omega)
             intro v473 w40 ho hb hg hat;rw [← hy472.out] at ho;replace HO_0 := am (Kd.V_afterv (ok := (fun k_ => ((P0_ k_ ∨ P1_ k_) ∨ w.heap.size ≤ k_))) (Kd.vm HO_0.out) hg hat);replace HO_1 := am (Kd.V_afterv (ok := (fun k_ => ((P0_ k_ ∨ P1_ k_) ∨ w.heap.size ≤ k_))) (Kd.vm HO_1.out) hg hat);replace HL448_1 := am (Kd.V_afterv (ok := (fun k_ => ((P0_ k_ ∨ P1_ k_) ∨ w.heap.size ≤ k_))) (Kd.vm HL448_1.out) hg hat);replace HL449_1 := am (Kd.V_afterv (ok := (fun k_ => ((P0_ k_ ∨ P1_ k_) ∨ w.heap.size ≤ k_))) (Kd.vm HL449_1.out) hg hat);replace HL469_1 := am (Kd.V_afterv (ok := (fun k_ => ((P0_ k_ ∨ P1_ k_) ∨ w.heap.size ≤ k_))) (Kd.vm HL469_1.out) hg hat);replace HL470_1 := am (Kd.V_afterv (ok := (fun k_ => ((P0_ k_ ∨ P1_ k_) ∨ w.heap.size ≤ k_))) (Kd.vm HL470_1.out) hg hat);replace HL471_1 := am (Kd.V_afterv (ok := (fun k_ => ((P0_ k_ ∨ P1_ k_) ∨ w.heap.size ≤ k_))) (Kd.vm HL471_1.out) hg hat);replace HB := am (hb);have HO474 := am (ho);clear HO_5;clear ho hb hg hat;refine hK.out _ _ ?_;clear hK K;refine norm_ (a' := ?_) ?_ ?_;rotate_left
             ·
              show Act.put _ (some 41) _ = _
              simp only [Act.put, sA, sB, sC, i64_w, i32_w];rfl
             refine pure_ (i := 17) (N := some 5) (v := ?_) (a' := ?_) #[true, true, true, true, true, true, true, true, true, true, true, true, true, true, true, true, true, true] rfl rfl (any_of HT_.out (by kernel_rfl)) (fun _ _ _ h => h) (Or.inl ⟨by rfl, ?_⟩) ?_ ?_;rotate_left
             ·
              intro w';go_simp;with_reducible rfl
             rotate_left
             ·
              simp only [Act.put, sA, sB, sC, i64_w, i32_w];rfl
             refine done_ (done_of HT_.out (by kernel_rfl)) ?_;(try go_wp2);replace HO_0 := am (Kd.V_drew HO_0.out);replace HO_1 := am (Kd.V_drew HO_1.out);replace HL448_1 := am (Kd.V_drew HL448_1.out);replace HL449_1 := am (Kd.V_drew HL449_1.out);replace HL469_1 := am (Kd.V_drew HL469_1.out);replace HL470_1 := am (Kd.V_drew HL470_1.out);replace HL471_1 := am (Kd.V_drew HL471_1.out);replace HO474 := am (Kd.N_drew HO474.out);replace HB := am (below_drew1 HB.out);have q42 : (1 : Int) ≤ ((x0_1.length : Int) : Int) := of_decide_eq_true (by assumption);obtain ⟨i042, hi042, _, hsz42, _⟩ := info_parts info72;have hroom42 : x0_1.length ≤ co36 := (Kd.V_reads' HO_0.out).2.1;have hC42 : Kd.F k72 _ _ (some ad448) x0_1.length x0_1 := (Kd.V_at (base := w.heap.size) HO_0.out).2.2;have hcut42 := cut_from (P := Try.prog) 40 72 .i64 Try.underlying40 hi042 2 hsz42 (some ad448) x0_1.length co36 1 (by omega) q42;have hr42 := Kd.F_cut (m := (1 : Int).toNat) (c := co36) hC42 (by omega) hroom42
             obtain ⟨A42, hA42⟩ : ∃ A1, A1 = (if co36 = (1 : Int).toNat then (some ad448) else ((some ad448) : Option Addr).map (·.add ((1 : Int).toNat * 2))) := ⟨_, rfl⟩
             obtain ⟨c42, hc42⟩ : ∃ c1, c1 = co36 - (1 : Int).toNat := ⟨_, rfl⟩
             have hy42 : y475.length = x0_1.length - (1 : Int).toNat := (by rw [hy475.out, List.length_drop] <;> omega);rw [show (x0_1).drop (1 : Int).toNat = y475 from hy475.out.symm] at hr42;replace hr42 : Kd.F k72 _ _ A42 y475.length y475 := (by rw [hA42]; exact hr42);rw [← hy42, ← hA42, ← hc42] at hcut42;have HO479 := am (show Kd.V k72 72 _ w.heap.size _ (.slice A42 y475.length c42) y475 from Kd.V_mk (by rw [hy42, hc42]; exact Nat.sub_le_sub_right hroom42 _) hr42);have HC479 := am (show y475.length ≤ c42 from by rw [hy42, hc42]; exact Nat.sub_le_sub_right hroom42 _);clear hr42 hC42 hroom42 hi042 hsz42 hc42;have KY42 := am hy42;have KA42 := am hA42;clear hy42 hA42;replace q42 := eq_true q42;have q43 : (1 : Int) ≤ ((x1_1.length : Int) : Int) := of_decide_eq_true (by assumption);obtain ⟨i043, hi043, _, hsz43, _⟩ := info_parts info72;have hroom43 : x1_1.length ≤ co37 := (Kd.V_reads' HO_1.out).2.1;have hC43 : Kd.F k72 _ _ (some ad449) x1_1.length x1_1 := (Kd.V_at (base := w.heap.size) HO_1.out).2.2;have hcut43 := cut_from (P := Try.prog) 40 72 .i64 Try.underlying40 hi043 2 hsz43 (some ad449) x1_1.length co37 1 (by omega) q43;have hr43 := Kd.F_cut (m := (1 : Int).toNat) (c := co37) hC43 (by omega) hroom43
             obtain ⟨A43, hA43⟩ : ∃ A1, A1 = (if co37 = (1 : Int).toNat then (some ad449) else ((some ad449) : Option Addr).map (·.add ((1 : Int).toNat * 2))) := ⟨_, rfl⟩
             obtain ⟨c43, hc43⟩ : ∃ c1, c1 = co37 - (1 : Int).toNat := ⟨_, rfl⟩
             have hy43 : y480.length = x1_1.length - (1 : Int).toNat := (by rw [hy480.out, List.length_drop] <;> omega);rw [show (x1_1).drop (1 : Int).toNat = y480 from hy480.out.symm] at hr43;replace hr43 : Kd.F k72 _ _ A43 y480.length y480 := (by rw [hA43]; exact hr43);rw [← hy43, ← hA43, ← hc43] at hcut43;have HO484 := am (show Kd.V k72 72 _ w.heap.size _ (.slice A43 y480.length c43) y480 from Kd.V_mk (by rw [hy43, hc43]; exact Nat.sub_le_sub_right hroom43 _) hr43);have HC484 := am (show y480.length ≤ c43 from by rw [hy43, hc43]; exact Nat.sub_le_sub_right hroom43 _);clear hr43 hC43 hroom43 hi043 hsz43 hc43;have KY43 := am hy43;have KA43 := am hA43;clear hy43 hA43;replace q43 := eq_true q43;refine start_ (n := 6) (S := fun w' => True) (ds := []) #[false, false, false, false, false, false] (by kernel_rfl) rfl rfl trivial (fun hHeld => ?_);generalize w40.drew = w41 at HO_0 HO_1 HL448_1 HL449_1 HL469_1 HL470_1 HL471_1 HO474 HB HO479 HO484 hHeld ⊢;refine pure_ (i := 0) (N := some 42) (v := ?_) (a' := ?_) #[true, false, false, false, false, false] rfl rfl (by kernel_rfl) (fun _ _ _ h => h) (Or.inl ⟨by rfl, ?_⟩) ?_ ?_;rotate_left
             ·
              intro w';go_simp;with_reducible rfl
             rotate_left
             ·
              simp only [Act.put, sA, sB, sC, i64_w, i32_w];rfl
             refine pure_ (i := 1) (N := some 43) (v := ?_) (a' := ?_) #[true, true, false, false, false, false] rfl rfl (by kernel_rfl) (fun _ _ _ h => h) (Or.inl ⟨by rfl, ?_⟩) ?_ ?_;rotate_left
             ·
              intro w';go_simp;with_reducible rfl
             rotate_left
             ·
              simp only [Act.put, sA, sB, sC, i64_w, i32_w];rfl
             refine pure_ (i := 2) (N := some 44) (v := ?_) (a' := ?_) #[true, true, true, false, false, false] rfl rfl (by kernel_rfl) (fun _ _ _ h => h) (Or.inl ⟨by rfl, ?_⟩) ?_ ?_;rotate_left
             ·
              intro w';go_simp;with_reducible rfl
             rotate_left
             ·
              simp only [Act.put, sA, sB, sC, i64_w, i32_w];rfl
             refine pure_ (i := 3) (N := some 45) (v := ?_) (a' := ?_) #[true, true, true, true, false, false] rfl rfl (by kernel_rfl) (fun _ _ _ h => h) (Or.inl ⟨by rfl, ?_⟩) ?_ ?_;rotate_left
             ·
              intro w';go_simp;with_reducible rfl
             rotate_left
             ·
              simp only [Act.put, sA, sB, sC, i64_w, i32_w];rfl
             refine pure_ (i := 4) (N := some 0) (v := ?_) (a' := ?_) #[true, true, true, true, true, false] rfl rfl (by kernel_rfl) (fun _ _ _ h => h) (Or.inl ⟨by rfl, ?_⟩) ?_ ?_;rotate_left
             ·
              intro w';go_simp;with_reducible rfl
             rotate_left
             ·
              simp only [Act.put, sA, sB, sC, i64_w, i32_w];rfl
             refine pure_ (i := 5) (N := some 1) (v := ?_) (a' := ?_) #[true, true, true, true, true, true] rfl rfl (by kernel_rfl) (fun _ _ _ h => h) (Or.inl ⟨by rfl, ?_⟩) ?_ ?_;rotate_left
             ·
              intro w';go_simp;with_reducible rfl
             rotate_left
             ·
              simp only [Act.put, sA, sB, sC, i64_w, i32_w];rfl
             refine done_ (by kernel_rfl) ?_;(try go_wp2)
             go_roundg kj4
             case measure => have := HK1.out; have := HJ4.out; omega
             case rel => exact ⟨(y475), (y480), (y472), H', ⟨by have := HK1.out; have := HJ4.out; omega⟩, ⟨by (with_reducible repeat (first | apply Kd.V_alloc | apply Kd.V_drewN | apply Kd.V_drew)); first | exact HO479.out | (rw [hy475.out.trans hy455.out.symm]; exact HO459.out)⟩, ⟨by (with_reducible repeat (first | apply Kd.V_alloc | apply Kd.V_drewN | apply Kd.V_drew)); first | exact HO484.out | (rw [hy480.out.trans hy464.out.symm]; exact HO468.out)⟩, ⟨Kd.nm HO474.out⟩, ⟨bm HB.out⟩⟩
            ·
             rw [if_neg c34] at H;exact absurd H (by simp)
           ·
            rw [if_neg c33] at H;exact absurd H (by simp)
          ·
           rw [if_neg c32] at H;exact absurd H (by simp)
       ·
        rw [if_neg c12] at H;exact absurd H (by simp)
      ·
       rw [if_neg c11] at H;exact absurd H (by simp)
     ·
      replace c10 := Bool.eq_false_iff.mpr c10;subst c10
      have H1 : (if x5_1.length + x0_1.length < 4398046511104 then ((some (x5_1 ++ x0_1 : List (S72))).bind fun y442 => (if y442.length + x1_1.length < 4398046511104 then (some (y442 ++ x1_1)) else (none))) else (none)) = some r := by rw [if_neg (show ¬ (false = true) by decide)] at H; exact H
      clear H;have H := H1;clear H1;by_cases c44 : x5_1.length + x0_1.length < 4398046511104
      ·
       rw [if_pos c44] at H;have LMc44 := am c44;clear c44
       obtain ⟨y442, hy442⟩ : ∃ y_ : List (S72), y_ = (x5_1 ++ x0_1) := ⟨_, rfl⟩
       replace H : (if y442.length + x1_1.length < 4398046511104 then (some (y442 ++ x1_1)) else (none)) = some r := by first | (rw [hy442]; with_reducible exact H) | (have H2_ := oB H; rw [hy442]; with_reducible exact H2_) | (have H2_ := oB H; with_reducible exact H2_) | with_reducible exact H | (rw [hy442]; exact H) | exact H
       replace hy442 := am hy442;by_cases c45 : y442.length + x1_1.length < 4398046511104
       ·
        rw [if_pos c45] at H;have LMc45 := am c45;clear c45
        obtain ⟨y445, hy445⟩ : ∃ y_ : List (S72), y_ = (y442 ++ x1_1) := ⟨_, rfl⟩
        replace H : (some y445) = some r := by first | (rw [hy445]; with_reducible exact H) | (have H2_ := oB H; rw [hy445]; with_reducible exact H2_) | (have H2_ := oB H; with_reducible exact H2_) | with_reducible exact H | (rw [hy445]; exact H) | exact H
        replace hy445 := am hy445;obtain rfl := Option.some.inj H;obtain ⟨Ao47, co47, eo47⟩ := Kd.V_slice HO_0.out;subst eo47;go_wp2_with (first | ((with_reducible refine gate_builtin (b := .append) (xs := #[.tmp 68, .tmp 69]) rfl ?_); (try (refine gate_guard (by rfl) ?_; dsimp only)); at_builtin; refine Kd.N_append_rows k72 (w0 := w) w.heap.size rfl (.tmp 68) (.tmp 69) 40 72 (.agg #[(.int .i64 0), (.slice none 0 0)]) 32 rfl Try.underlying40 info72 rfl (by decide) (by omega) u5 x5_1 x0_1 _ _ _ (fun k_ => ((P0_ k_ ∨ P1_ k_) ∨ w.heap.size ≤ k_)) (fun k_ => ((fun k_ => ((P0_ k_ ∨ P1_ k_) ∨ w.heap.size ≤ k_))) k_ ∧ some k_ ≠ (u5 : Value).ownBlock) rfl rfl ?aO ?aR (fun _ hk => hk) ?aF ?aB ?aS ?aL ?_; (case aR => exact (by skip; exact Kd.V_F (Kd.V_mono (ok' := (fun k_ => ((fun k_ => ((P0_ k_ ∨ P1_ k_) ∨ w.heap.size ≤ k_))) k_ ∧ some k_ ≠ (u5 : Value).ownBlock)) (HO_0.out) (fun k_ hk => ⟨hk.1, hk.2⟩)))); (case aB => exact (bm HB.out)); (case aF => exact (fun k_ hk => (.inr (Nat.le_trans (below_size (bm HB.out)) hk)))); (case aO => exact (Kd.nm HO_5.out)); (case aS => exact (below_size (bm HB.out))); (case aL => have := LMc44.out; omega); intro v443 w46 ho hb hg hat; rw [← hy442.out] at ho; replace HO_0 := am (Kd.V_afterv (ok := (fun k_ => ((P0_ k_ ∨ P1_ k_) ∨ w.heap.size ≤ k_))) (Kd.vm HO_0.out) hg hat);replace HO_1 := am (Kd.V_afterv (ok := (fun k_ => ((P0_ k_ ∨ P1_ k_) ∨ w.heap.size ≤ k_))) (Kd.vm HO_1.out) hg hat);replace HB := am (hb);have HO444 := am (ho);clear HO_5; clear ho hb hg hat; obtain ⟨Ao49, co49, eo49⟩ := Kd.V_slice HO_1.out; subst eo49) | ((with_reducible refine gate_builtin (b := .append) (xs := #[.tmp 70, .tmp 71]) rfl ?_); (try (refine gate_guard (by rfl) ?_; dsimp only)); at_builtin; refine Kd.N_append_rows k72 (w0 := w) w.heap.size rfl (.tmp 70) (.tmp 71) 40 72 (.agg #[(.int .i64 0), (.slice none 0 0)]) 32 rfl Try.underlying40 info72 rfl (by decide) (by omega) v443 y442 x1_1 _ _ _ (fun k_ => ((P0_ k_ ∨ P1_ k_) ∨ w.heap.size ≤ k_)) (fun k_ => ((fun k_ => ((P0_ k_ ∨ P1_ k_) ∨ w.heap.size ≤ k_))) k_ ∧ some k_ ≠ (v443 : Value).ownBlock) rfl rfl ?aO ?aR (fun _ hk => hk) ?aF ?aB ?aS ?aL ?_; (case aR => exact (by skip; exact Kd.V_F (Kd.V_mono (ok' := (fun k_ => ((fun k_ => ((P0_ k_ ∨ P1_ k_) ∨ w.heap.size ≤ k_))) k_ ∧ some k_ ≠ (v443 : Value).ownBlock)) (HO_1.out) (fun k_ hk => ⟨hk.1, hk.2⟩)))); (case aB => exact (bm HB.out)); (case aF => exact (fun k_ hk => (.inr (Nat.le_trans (below_size (bm HB.out)) hk)))); (case aO => exact (Kd.nm HO444.out)); (case aS => exact (below_size (bm HB.out))); (case aL => have := LMc45.out; omega); intro v446 w48 ho hb hg hat; rw [← hy445.out] at ho; replace HO_0 := am (Kd.V_afterv (ok := (fun k_ => ((P0_ k_ ∨ P1_ k_) ∨ w.heap.size ≤ k_))) (Kd.vm HO_0.out) hg hat);replace HO_1 := am (Kd.V_afterv (ok := (fun k_ => ((P0_ k_ ∨ P1_ k_) ∨ w.heap.size ≤ k_))) (Kd.vm HO_1.out) hg hat);replace HB := am (hb);have HO447 := am (ho);clear HO444; clear ho hb hg hat));go_ret;exact ⟨_, by first | rfl | (simp [errW_none, errW_some] <;> rfl) | (simp [*, errW_none, errW_some] <;> rfl), Kd.nm HO447.out, bm HB.out⟩
       ·
        rw [if_neg c45] at H;exact absurd H (by simp)
      ·
       rw [if_neg c44] at H;exact absurd H (by simp)

end Go.Proofs.Ytahhdbjjfdjloaa.Jd

-- half
-- Written by a program of this session's (wip/mp) out of the translation, over the kit's print with changes.
import Derived.Test.YtahhdbjjfdjloaaJex0
import Derived.Test.YtahhdbjjfdjloaaJex3
namespace Go.Proofs.Ytahhdbjjfdjloaa.Je
open Go.RowKit Go.Proofs.YtahhdbjjfdjloaaW.PrintWords Go.Proofs.YtahhdbjjfdjloaaW.PrintLast Go.Proofs.YtahhdbjjfdjloaaW.PrintMore
attribute [local go_sem] max2_int min2_int max_two min_two max_three min_three max_four min_four   -- for this text's walks alone
set_option linter.unusedVariables false
set_option linter.unusedSimpArgs false

/-! ### impl_natural: function 72 -/
mutual
def impl_natural.l0 : Nat → List (S72) → List (S72) → List (S72) → Option ((List (S72)))
 | 0, _, _, _ => none
 | k + 1, x0, x1, x5 => if (x0.length : Int) > 0 then (impl_natural.j1 k x0 x1 x5 (decide ((x1.length : Int) > 0))) else (impl_natural.j1 k x0 x1 x5 false)
def impl_natural.j1 : Nat → List (S72) → List (S72) → List (S72) → Bool → Option ((List (S72)))
 | 0, _, _, _, _ => none
 | k + 1, x0, x1, x5, x15 => if x15 = true then (if 0 < (x0.length : Int) then (if 0 < (x1.length : Int) then ((impl_compare.f k ((rd_T72 x0 0).f1) ((rd_T72 x1 0).f1)).bind fun t158 => (if t158 > 0 then (if x5.length < 4398046511104 then (if 1 ≤ (x0.length : Int) then (impl_natural.l0 k (x0.drop 1) x1 (x5 ++ [(⟨(rd_T72 x0 0).f0, (rd_T72 x0 0).f1⟩ : S72)])) else (none)) else (none)) else (if t158 < 0 then (if x5.length < 4398046511104 then (if 1 ≤ (x1.length : Int) then (impl_natural.l0 k x0 (x1.drop 1) (x5 ++ [(⟨(rd_T72 x1 0).f0, (rd_T72 x1 0).f1⟩ : S72)])) else (none)) else (none)) else (if x5.length < 4398046511104 then (if 1 ≤ (x0.length : Int) then (if 1 ≤ (x1.length : Int) then (impl_natural.l0 k (x0.drop 1) (x1.drop 1) (x5 ++ [(⟨wrap64 (((rd_T72 x0 0).f0) + ((rd_T72 x1 0).f0)), (rd_T72 x0 0).f1⟩ : S72)])) else (none)) else (none)) else (none))))) else (none)) else (none)) else (if x5.length + x0.length < 4398046511104 then ((some (x5 ++ x0 : List (S72))).bind fun y150 => (if y150.length + x1.length < 4398046511104 then (some (y150 ++ x1)) else (none))) else (none))
end
def impl_natural.f (k : Nat) (l0 : List (S72)) (l1 : List (S72)) : Option ((List (S72))) := impl_natural.l0 k l0 l1 (([] : List (S72)))
theorem impl_natural.mono_l : ∀ k, (∀ y0 y1 y2, LeO (impl_natural.l0 k y0 y1 y2) (impl_natural.l0 (k + 1) y0 y1 y2)) ∧ (∀ y0 y1 y2 y3, LeO (impl_natural.j1 k y0 y1 y2 y3) (impl_natural.j1 (k + 1) y0 y1 y2 y3))
 | 0 => ⟨fun _ _ _ r h => by simp [impl_natural.l0] at h, fun _ _ _ _ r h => by simp [impl_natural.j1] at h⟩
 | k + 1 => by
  obtain ⟨ih0, ih1⟩ := impl_natural.mono_l k;refine ⟨?_, ?_⟩
  all_goals (intros; first | unfold impl_natural.l0 | unfold impl_natural.j1)
  all_goals repeat' first | (with_reducible exact ih0 _ _ _) | (with_reducible exact ih1 _ _ _ _) | (with_reducible exact impl_compare.mono _ _ _) | (with_reducible exact LeO.refl _) | (with_reducible exact LeO.none _) | (with_reducible refine LeO.ite ?_ ?_) | (with_reducible refine LeO.bind ?_ (fun _ => ?_))
theorem impl_natural.mono : ∀ a0 a1 k, LeO (impl_natural.f k a0 a1) (impl_natural.f (k + 1) a0 a1) := by
 intro a0 a1 k;obtain ⟨ih0, ih1⟩ := impl_natural.mono_l k;unfold impl_natural.f
 repeat' first | (with_reducible exact ih0 _ _ _) | (with_reducible exact ih1 _ _ _ _) | (with_reducible exact impl_compare.mono _ _ _) | (with_reducible exact LeO.refl _) | (with_reducible exact LeO.none _) | (with_reducible refine LeO.ite ?_ ?_) | (with_reducible refine LeO.bind ?_ (fun _ => ?_))
def impl_natural.T3 : Bool × List (List Nat × List Nat) := (true, [([], []), ([0], [0]), ([1], [1]), ([2], [2]), ([], []), ([4], [4]), ([5], [5]), ([6], [6]), ([3, 7], [3, 7]), ([8, 8, 0, 1, 2, 3, 4, 5, 6, 7, 8], [8])])
def impl_natural.B3 : List Nat := [0, 1, 3, 7, 0, 16, 48, 112, 255, 511]
theorem impl_natural.tab3 : rtab .any (opsOf Try.f72 3) = impl_natural.T3 := by kernel_rfl
theorem impl_natural.bits3 : waitsOk impl_natural.T3.2 impl_natural.B3 = true := by kernel_rfl
def impl_natural.T4 : Bool × List (List Nat × List Nat) := (true, [([], []), ([], []), ([1], [1]), ([2], [2]), ([3], [3]), ([], []), ([5], [5]), ([6], [6]), ([7], [7]), ([4, 8], [4, 8]), ([], []), ([10], [10]), ([11], [11]), ([12], [12]), ([9, 13], [9, 13]), ([14], [14]), ([0, 15], [0, 15]), ([16, 16, 0, 1, 2, 3, 4, 5, 6, 7, 8, 9, 10, 11, 12, 13, 14, 15, 16], [0, 16])])
def impl_natural.B4 : List Nat := [0, 0, 2, 6, 14, 0, 32, 96, 224, 510, 0, 1024, 3072, 7168, 16382, 32766, 65535, 131071]
theorem impl_natural.tab4 : rtab .any (opsOf Try.f72 4) = impl_natural.T4 := by kernel_rfl
theorem impl_natural.bits4 : waitsOk impl_natural.T4.2 impl_natural.B4 = true := by kernel_rfl
set_option maxHeartbeats 8000000 in
set_option maxRecDepth 100000 in
theorem impl_natural.calls (k : Nat) (P0_ : Nat → Prop) (A0 : Option Addr) (c0 : Nat) (l0 : List (S72)) (P1_ : Nat → Prop) (A1 : Option Addr) (c1 : Nat) (l1 : List (S72)) (r : List (S72)) (w : World) (hs0 : Kd.V k72 72 w w.heap.size (fun k_ => P0_ k_) (.slice A0 l0.length c0) l0) (hs1 : Kd.V k72 72 w w.heap.size (fun k_ => P1_ k_) (.slice A1 l1.length c1) l1) (h : impl_natural.f k l0 l1 = some r) :
  Calls Try.prog 72 #[.slice A0 l0.length c0, .slice A1 l1.length c1] w fun e w' => ∃ v0_ : Value, e = .returned (v0_) ∧ Kd.N k72 72 w' w.heap.size (fun k_ => ((P0_ k_ ∨ P1_ k_) ∨ w.heap.size ≤ k_)) v0_ r ∧ Below w.heap.size w w' := by
 have hu72 := Try.underlying72;have HO0 := am (show Kd.V k72 72 w w.heap.size (fun k_ => ((P0_ k_ ∨ P1_ k_) ∨ w.heap.size ≤ k_)) (.slice A0 l0.length c0) l0 from Kd.V_mono hs0 (fun k_ hk => .inl (.inl hk)));have HO1 := am (show Kd.V k72 72 w w.heap.size (fun k_ => ((P0_ k_ ∨ P1_ k_) ∨ w.heap.size ≤ k_)) (.slice A1 l1.length c1) l1 from Kd.V_mono hs1 (fun k_ hk => .inl (.inr hk)));have HB := am (Below.refl w.heap.size w);have H : (impl_natural.l0 k l0 l1 (([] : List (S72)))) = some r := h;clear h
 obtain ⟨y147, hy147⟩ : ∃ y_ : List (S72), y_ = (([] : List (S72))) := ⟨_, rfl⟩
 replace H : (impl_natural.l0 k l0 l1 y147) = some r := by first | (rw [hy147]; with_reducible exact H) | (have H2_ := oB H; rw [hy147]; with_reducible exact H2_) | (have H2_ := oB H; with_reducible exact H2_) | with_reducible exact H | (rw [hy147]; exact H) | exact H
 replace hy147 := am hy147;have H' := am H;clear H;go_enter Try.func72, Try.ntmps72;go_wp2_with (first | ((with_reducible refine gate_dst (N := 7) rfl ?_); (try (refine gate_guard (by rfl) ?_; dsimp only)); refine Kd.N_lit k72 _ 72 ?hg (N' := 7) ?hd (xs := ([] : List (S72))) (inner := []) (ok := (fun k_ => ((P0_ k_ ∨ P1_ k_) ∨ w.heap.size ≤ k_))) (okp := (fun k_ => ((P0_ k_ ∨ P1_ k_) ∨ w.heap.size ≤ k_))) ?hr ?hp (fun _ hk => hk) ((show ∀ k_, w.heap.size ≤ k_ → (fun k_ => ((P0_ k_ ∨ P1_ k_) ∨ w.heap.size ≤ k_)) k_ from fun k_ hk => (.inr (Nat.le_trans (below_size (bm HB.out)) hk))) _ (Nat.le_refl _)) (Below.refl _ _) (Nat.le_refl _) (by simp) ?_; (case hd => rfl); (case hg => rfl); (case hr => first | (go_simp; done) | (go_simp; rfl)); (case hp => exact (Reps.none _ _)); intro v148 w3 ho4 hb hg_ hnew_; clear hg_ hnew_; (first | rw [← hy147.out] at ho4 | (simp only [Int.reduceToNat] at ho4; rw [← hy147.out] at ho4)); replace HO0 := am (Kd.V_elder' (Kd.vm HO0.out) (Kd.N_base ho4) hb);replace HO1 := am (Kd.V_elder' (Kd.vm HO1.out) (Kd.N_base ho4) hb);have HO149 := am (Kd.N_lower ho4 (below_size (bm HB.out)));replace HB := am (below_step (bm HB.out) hb); clear hb ho4))
 go_loopg [0, 1, 5] k (fun kq v0 v1 v5 w' => ∃ (x0_1 : List (S72)) (x1_1 : List (S72)) (x5_1 : List (S72)), Aside0 (impl_natural.l0 kq x0_1 x1_1 x5_1 = some r) ∧ Aside0 (kq ≤ k) ∧ Aside0 (Kd.V k72 72 w' w.heap.size (fun k_ => ((P0_ k_ ∨ P1_ k_) ∨ w.heap.size ≤ k_) ∧ some k_ ≠ (v5 : Value).ownBlock) v0 x0_1) ∧ Aside0 (Kd.V k72 72 w' w.heap.size (fun k_ => ((P0_ k_ ∨ P1_ k_) ∨ w.heap.size ≤ k_) ∧ some k_ ≠ (v5 : Value).ownBlock) v1 x1_1) ∧ Aside0 (Kd.N k72 72 w' w.heap.size (fun k_ => ((P0_ k_ ∨ P1_ k_) ∨ w.heap.size ≤ k_)) v5 x5_1) ∧ Aside0 (Below w.heap.size w w'))
 case atStart => exact ⟨(l0), (l1), (y147), H', ⟨Nat.le_refl _⟩, ⟨Kd.vm HO0.out⟩, ⟨Kd.vm HO1.out⟩, ⟨Kd.nm HO149.out⟩, ⟨bm HB.out⟩⟩
 case round =>
  clear H';(try clear c1);(try clear p2);(try clear HO_0);(try clear HO_1);(try clear HO_5);(try clear HB);obtain ⟨x0_1, x1_1, x5_1, HA, HK1, HO_0, HO_1, HO_5, HB⟩ := hrel
  cases gk with
  | zero => exact absurd HA.out (by simp [impl_natural.l0])
  | succ k1 =>
   have H := HA.out;clear HA;simp only [impl_natural.l0] at H;have HC5 := am H;clear H
   go_upto_region 2 with (fail)
   go_cut [15] (fun v15 wc => ∃ (kq : Nat) (x15_4 : Bool), v15 = .bool x15_4 ∧ Aside0 (impl_natural.j1 kq x0_1 x1_1 x5_1 x15_4 = some r) ∧ Aside0 (kq ≤ k1) ∧ Aside0 (Kd.V k72 72 wc w.heap.size (fun k_ => ((P0_ k_ ∨ P1_ k_) ∨ w.heap.size ≤ k_) ∧ some k_ ≠ (u5 : Value).ownBlock) u0 x0_1) ∧ Aside0 (Kd.V k72 72 wc w.heap.size (fun k_ => ((P0_ k_ ∨ P1_ k_) ∨ w.heap.size ≤ k_) ∧ some k_ ≠ (u5 : Value).ownBlock) u1 x1_1) ∧ Aside0 (Kd.N k72 72 wc w.heap.size (fun k_ => ((P0_ k_ ∨ P1_ k_) ∨ w.heap.size ≤ k_)) u5 x5_1) ∧ Aside0 (Below w.heap.size w wc))
   case first =>
    have H := HC5.out;clear HC5;by_cases c6 : (x0_1.length : Int) > 0
    ·
     rw [if_pos c6] at H;have c6b0 : decide (0 < (x0_1.length : Int)) = true := decide_eq_true c6;have c6b1 : decide (0 < x0_1.length) = true := decide_eq_true (by omega);clear c6
     (first | rw [c6b0] | (simp only [i64_w, i32_w]; rw [c6b0]) | skip)
     have H' := am H;clear H;obtain ⟨Ao7, co7, eo7⟩ := Kd.V_slice HO_0.out;subst eo7;obtain ⟨Ao8, co8, eo8⟩ := Kd.V_slice HO_1.out;subst eo8;go_wp2;go_meet
     case rel => exact ⟨_, (decide ((x1_1.length : Int) > 0)), (by first | rfl | (simp; done) | (simp [*]; done)), H', ⟨by have := HK1.out; first | omega | exact Nat.le_refl _⟩, ⟨Kd.vm HO_0.out⟩, ⟨Kd.vm HO_1.out⟩, ⟨Kd.nm HO_5.out⟩, ⟨bm HB.out⟩⟩
    ·
     rw [if_neg c6] at H;have c6b0 : decide (0 < (x0_1.length : Int)) = false := decide_eq_false c6;have c6b1 : decide (0 < x0_1.length) = false := decide_eq_false (by omega);clear c6
     (first | rw [c6b0] | (simp only [i64_w, i32_w]; rw [c6b0]) | skip)
     have H' := am H;clear H;obtain ⟨Ao9, co9, eo9⟩ := Kd.V_slice HO_0.out;subst eo9;go_wp2;go_meet
     case rel => exact ⟨_, (false), (by first | rfl | (simp; done) | (simp [*]; done)), H', ⟨by have := HK1.out; first | omega | exact Nat.le_refl _⟩, ⟨Kd.vm HO_0.out⟩, ⟨Kd.vm HO_1.out⟩, ⟨Kd.nm HO_5.out⟩, ⟨bm HB.out⟩⟩
   case rest =>
    clear HC5;(try clear c1);(try clear p2);(try clear c6);(try clear c6b0);(try clear c6b1);(try clear c7);(try clear p2);obtain ⟨kq, x15_4, rfl, HA, HJ4, HO_0, HO_1, HO_5, HB⟩ := hcut
    cases kq with
    | zero => exact absurd HA.out (by simp [impl_natural.j1])
    | succ kj4 =>
     have H := HA.out;clear HA;simp only [impl_natural.j1] at H;by_cases c10 : x15_4 = true
     ·
      subst c10
      have H1 : (if 0 < (x0_1.length : Int) then (if 0 < (x1_1.length : Int) then ((impl_compare.f kj4 ((rd_T72 x0_1 0).f1) ((rd_T72 x1_1 0).f1)).bind fun t158 => (if t158 > 0 then (if x5_1.length < 4398046511104 then (if 1 ≤ (x0_1.length : Int) then (impl_natural.l0 kj4 (x0_1.drop 1) x1_1 (x5_1 ++ [(⟨(rd_T72 x0_1 0).f0, (rd_T72 x0_1 0).f1⟩ : S72)])) else (none)) else (none)) else (if t158 < 0 then (if x5_1.length < 4398046511104 then (if 1 ≤ (x1_1.length : Int) then (impl_natural.l0 kj4 x0_1 (x1_1.drop 1) (x5_1 ++ [(⟨(rd_T72 x1_1 0).f0, (rd_T72 x1_1 0).f1⟩ : S72)])) else (none)) else (none)) else (if x5_1.length < 4398046511104 then (if 1 ≤ (x0_1.length : Int) then (if 1 ≤ (x1_1.length : Int) then (impl_natural.l0 kj4 (x0_1.drop 1) (x1_1.drop 1) (x5_1 ++ [(⟨wrap64 (((rd_T72 x0_1 0).f0) + ((rd_T72 x1_1 0).f0)), (rd_T72 x0_1 0).f1⟩ : S72)])) else (none)) else (none)) else (none))))) else (none)) else (none)) = some r := by rw [if_pos rfl] at H; exact H
      clear H;have H := H1;clear H1;by_cases c11 : 0 < (x0_1.length : Int)
      ·
       rw [if_pos c11] at H;have c11b0 : decide (0 < (x0_1.length : Int)) = true := decide_eq_true c11;have c11b1 : decide (0 < x0_1.length) = true := decide_eq_true (by omega);clear c11;by_cases c12 : 0 < (x1_1.length : Int)
       ·
        rw [if_pos c12] at H;have c12b0 : decide (0 < (x1_1.length : Int)) = true := decide_eq_true c12;have c12b1 : decide (0 < x1_1.length) = true := decide_eq_true (by omega);clear c12;replace H := oE H;obtain ⟨t158, A13, H⟩ := H;replace H : (if t158 > 0 then (if x5_1.length < 4398046511104 then (if 1 ≤ (x0_1.length : Int) then (impl_natural.l0 kj4 (x0_1.drop 1) x1_1 (x5_1 ++ [(⟨(rd_T72 x0_1 0).f0, (rd_T72 x0_1 0).f1⟩ : S72)])) else (none)) else (none)) else (if t158 < 0 then (if x5_1.length < 4398046511104 then (if 1 ≤ (x1_1.length : Int) then (impl_natural.l0 kj4 x0_1 (x1_1.drop 1) (x5_1 ++ [(⟨(rd_T72 x1_1 0).f0, (rd_T72 x1_1 0).f1⟩ : S72)])) else (none)) else (none)) else (if x5_1.length < 4398046511104 then (if 1 ≤ (x0_1.length : Int) then (if 1 ≤ (x1_1.length : Int) then (impl_natural.l0 kj4 (x0_1.drop 1) (x1_1.drop 1) (x5_1 ++ [(⟨wrap64 (((rd_T72 x0_1 0).f0) + ((rd_T72 x1_1 0).f0)), (rd_T72 x0_1 0).f1⟩ : S72)])) else (none)) else (none)) else (none)))) = some r := H;replace A13 := am A13;by_cases c14 : t158 > 0
        ·
         rw [if_pos c14] at H;have c14b0 : decide (0 < t158) = true := decide_eq_true c14;clear c14;by_cases c15 : x5_1.length < 4398046511104
         ·
          rw [if_pos c15] at H;have LMc15 := am c15;clear c15
          obtain ⟨y160, hy160⟩ : ∃ y_ : List (S72), y_ = (x5_1 ++ [(⟨(rd_T72 x0_1 0).f0, (rd_T72 x0_1 0).f1⟩ : S72)]) := ⟨_, rfl⟩
          replace H : (if 1 ≤ (x0_1.length : Int) then (impl_natural.l0 kj4 (x0_1.drop 1) x1_1 y160) else (none)) = some r := by first | (rw [hy160]; with_reducible exact H) | (have H2_ := oB H; rw [hy160]; with_reducible exact H2_) | (have H2_ := oB H; with_reducible exact H2_) | with_reducible exact H | (rw [hy160]; exact H) | exact H
          replace hy160 := am hy160;by_cases c16 : 1 ≤ (x0_1.length : Int)
          ·
           rw [if_pos c16] at H;have c16b0 := eq_true c16;have c16b1 : decide (1 ≤ (x0_1.length : Int)) = true := decide_eq_true c16;clear c16
           obtain ⟨y163, hy163⟩ : ∃ y_ : List (S72), y_ = (x0_1.drop 1) := ⟨_, rfl⟩
           replace H : (impl_natural.l0 kj4 y163 x1_1 y160) = some r := by first | (rw [hy163]; with_reducible exact H) | (have H2_ := oB H; rw [hy163]; with_reducible exact H2_) | (have H2_ := oB H; with_reducible exact H2_) | with_reducible exact H | (rw [hy163]; exact H) | exact H
           replace hy163 := am hy163;have H' := am H;clear H;(try go_wp2);replace HO_0 := am (Kd.V_drew HO_0.out);replace HO_1 := am (Kd.V_drew HO_1.out);replace HO_5 := am (Kd.N_drew HO_5.out);replace HB := am (below_drew1 HB.out);obtain ⟨Ao18, co18, eo18⟩ := Kd.V_slice HO_0.out
           (first | subst eo18 | (injection eo18 with f1_ f2_ f3_; have f4_ := f1_.symm; have f5_ := f3_.symm; clear f1_ f2_ f3_; subst f4_; subst f5_))
           have p156 : 0 ≤ (0 : Int) := (by omega);have q156 : 0 < (x0_1.length : Int) := of_decide_eq_true (by assumption);obtain ⟨ad156, A156_1, c156_1, e156, hx156_0, hx156_1, hl156_1, hi156_1⟩ := at_T72 (Kd.V_reads' HO_0.out).2.2 0 p156 q156;cases e156
           obtain ⟨ce156, hce156, hMe156, hcc156⟩ := Kd.V_get HO_0.out z72 0 p156 (by first | exact q156 | exact of_decide_eq_true (by assumption) | (have e_ := (Kd.V_reads' HO_0.out).1; omega));obtain ⟨ua156_1, uc156_1, rfl, ul156_1, ge156_1⟩ := k72_openF hMe156;have hv156_1 := hcc156 1 _ rfl;rw [add_field _ _ 1 (by omega)] at hv156_1;replace hv156_1 := Option.some.inj (hv156_1.symm.trans hx156_1)
           injection hv156_1 with hva_ hvn_ hvc_
           rw [hva_] at ge156_1;rw [hvc_] at ul156_1;have HL156_1 := am (show Kd.V k72 72 _ w.heap.size _ _ ((rd_T72 x0_1 0).f1) from Kd.V_mk ul156_1 ge156_1);clear hva_ hvn_ hvc_ ge156_1 ul156_1;clear hcc156 hce156;have qi156 : (0 < x0_1.length) = True := eq_true (by omega);(try rw [show ((0 : Int)).toNat = 0 from rfl] at hx156_0);(try rw [show 0 * 2 = 0 from rfl] at hx156_0);(try rw [Addr.add_zero'] at hx156_0);(try rw [show ((0 : Int)).toNat = 0 from rfl] at hx156_1);(try rw [show 0 * 2 = 0 from rfl] at hx156_1);(try rw [Addr.add_zero'] at hx156_1);have HR156_1 := am hi156_1;have HC156_1 := am hl156_1;clear hi156_1 hl156_1;replace p156 := eq_true p156;replace q156 := eq_true q156;obtain ⟨Ao19, co19, eo19⟩ := Kd.V_slice HO_1.out
           (first | subst eo19 | (injection eo19 with f1_ f2_ f3_; have f4_ := f1_.symm; have f5_ := f3_.symm; clear f1_ f2_ f3_; subst f4_; subst f5_))
           have p157 : 0 ≤ (0 : Int) := (by omega);have q157 : 0 < (x1_1.length : Int) := of_decide_eq_true (by assumption);obtain ⟨ad157, A157_1, c157_1, e157, hx157_0, hx157_1, hl157_1, hi157_1⟩ := at_T72 (Kd.V_reads' HO_1.out).2.2 0 p157 q157;cases e157
           obtain ⟨ce157, hce157, hMe157, hcc157⟩ := Kd.V_get HO_1.out z72 0 p157 (by first | exact q157 | exact of_decide_eq_true (by assumption) | (have e_ := (Kd.V_reads' HO_1.out).1; omega));obtain ⟨ua157_1, uc157_1, rfl, ul157_1, ge157_1⟩ := k72_openF hMe157;have hv157_1 := hcc157 1 _ rfl;rw [add_field _ _ 1 (by omega)] at hv157_1;replace hv157_1 := Option.some.inj (hv157_1.symm.trans hx157_1)
           injection hv157_1 with hva_ hvn_ hvc_
           rw [hva_] at ge157_1;rw [hvc_] at ul157_1;have HL157_1 := am (show Kd.V k72 72 _ w.heap.size _ _ ((rd_T72 x1_1 0).f1) from Kd.V_mk ul157_1 ge157_1);clear hva_ hvn_ hvc_ ge157_1 ul157_1;clear hcc157 hce157;have qi157 : (0 < x1_1.length) = True := eq_true (by omega);(try rw [show ((0 : Int)).toNat = 0 from rfl] at hx157_0);(try rw [show 0 * 2 = 0 from rfl] at hx157_0);(try rw [Addr.add_zero'] at hx157_0);(try rw [show ((0 : Int)).toNat = 0 from rfl] at hx157_1);(try rw [show 0 * 2 = 0 from rfl] at hx157_1);(try rw [Addr.add_zero'] at hx157_1);have HR157_1 := am hi157_1;have HC157_1 := am hl157_1;clear hi157_1 hl157_1;replace p157 := eq_true p157;replace q157 := eq_true q157;refine start_ (n := 10) (S := fun w' => w'.cell? ad156 = some (.int .i64 ((rd_T72 x0_1 0).f0)) ∧ w'.cell? ⟨ad156.block, ad156.off + 1, none⟩ = some (.slice A156_1 ((rd_T72 x0_1 0).f1).length c156_1) ∧ w'.cell? ad157 = some (.int .i64 ((rd_T72 x1_1 0).f0)) ∧ w'.cell? ⟨ad157.block, ad157.off + 1, none⟩ = some (.slice A157_1 ((rd_T72 x1_1 0).f1).length c157_1)) (ds := []) #[false, false, false, false, false, false, false, false, false, false] (by kernel_rfl) rfl rfl ⟨hx156_0, hx156_1, hx157_0, hx157_1⟩ (fun hHeld => ?_); refine with_tabW impl_natural.tab3 impl_natural.bits3 (fun HT_ HW_ => ?_);generalize wc.drew = w17 at HO_0 HO_1 HO_5 HB HL156_1 HL157_1 HR156_1 HR157_1 hx156_0 hx156_1 hx157_0 hx157_1 hHeld ⊢;refine pure_ (i := 0) (N := some 16) (v := ?_) (a' := ?_) #[true, false, false, false, false, false, false, false, false, false] rfl rfl (any_of HT_.out (by kernel_rfl)) (fun _ _ _ h => h) (Or.inl ⟨by rfl, ?_⟩) ?_ ?_;rotate_left
           ·
            intro w';go_simp;with_reducible rfl
           rotate_left
           ·
            simp only [Act.put, sA, sB, sC, i64_w, i32_w];rfl
           refine pure_ (i := 1) (N := some 17) (v := ?_) (a' := ?_) #[true, true, false, false, false, false, false, false, false, false] rfl rfl (any_of HT_.out (by kernel_rfl)) (fun _ _ _ h => h) (Or.inl ⟨by rfl, ?_⟩) ?_ ?_;rotate_left
           ·
            intro w';go_simp;with_reducible rfl
           rotate_left
           ·
            simp only [Act.put, sA, sB, sC, i64_w, i32_w];rfl
           refine pure_ (i := 2) (N := some 18) (v := ?_) (a' := ?_) #[true, true, true, false, false, false, false, false, false, false] rfl rfl (any_of HT_.out (by kernel_rfl)) (fun _ _ _ h => h) (Or.inl ⟨by rfl, ?_⟩) ?_ ?_;rotate_left
           ·
            intro w';go_simp;with_reducible rfl
           rotate_left
           ·
            simp only [Act.put, sA, sB, sC, i64_w, i32_w];rfl
           refine pure_ (i := 4) (N := some 20) (v := ?_) (a' := ?_) #[true, true, true, false, true, false, false, false, false, false] rfl rfl (any_of HT_.out (by kernel_rfl)) (fun _ _ _ h => h) (Or.inl ⟨by rfl, ?_⟩) ?_ ?_;rotate_left
           ·
            intro w';go_simp;with_reducible rfl
           rotate_left
           ·
            simp only [Act.put, sA, sB, sC, i64_w, i32_w];rfl
           refine pure_ (i := 5) (N := some 21) (v := ?_) (a' := ?_) #[true, true, true, false, true, true, false, false, false, false] rfl rfl (any_of HT_.out (by kernel_rfl)) (fun _ _ _ h => h) (Or.inl ⟨by rfl, ?_⟩) ?_ ?_;rotate_left
           ·
            intro w';go_simp;with_reducible rfl
           rotate_left
           ·
            simp only [Act.put, sA, sB, sC, i64_w, i32_w];rfl
           refine pure_ (i := 6) (N := some 22) (v := ?_) (a' := ?_) #[true, true, true, false, true, true, true, false, false, false] rfl rfl (any_of HT_.out (by kernel_rfl)) (fun _ _ _ h => h) (Or.inl ⟨by rfl, ?_⟩) ?_ ?_;rotate_left
           ·
            intro w';go_simp;with_reducible rfl
           rotate_left
           ·
            simp only [Act.put, sA, sB, sC, i64_w, i32_w];rfl
           refine take_ (i := 3) (N := some 19) (v := ?_) (a' := ?_) #[true, true, true, true, true, true, true, false, false, false] rfl rfl (take_ofW HT_.out HW_.out (by kernel_rfl)) (fun _ _ _ h => h) (Or.inl ⟨by rfl, ?_⟩) hHeld ?_ ?_;rotate_left
           ·
            rintro w' ⟨s0, s1, s2, s3⟩
            go_simp;with_reducible rfl
           rotate_left
           ·
            simp only [Act.put, sA, sB, sC, i64_w, i32_w];rfl
           refine take_ (i := 7) (N := some 23) (v := ?_) (a' := ?_) #[true, true, true, true, true, true, true, true, false, false] rfl rfl (take_ofW HT_.out HW_.out (by kernel_rfl)) (fun _ _ _ h => h) (Or.inl ⟨by rfl, ?_⟩) hHeld ?_ ?_;rotate_left
           ·
            rintro w' ⟨s0, s1, s2, s3⟩
            go_simp;with_reducible rfl
           rotate_left
           ·
            simp only [Act.put, sA, sB, sC, i64_w, i32_w];rfl
           refine one_ (i := 8) (N := some 24) #[true, true, true, true, true, true, true, true, true, false] rfl rfl (one_of HT_.out (by kernel_rfl)) (by decide) (fun K hK => ?_);refine goes_ Try.func86 (by kernel_rfl) rfl #[.slice A156_1 ((rd_T72 x0_1 0).f1).length c156_1, .slice A157_1 ((rd_T72 x1_1 0).f1).length c157_1] (by rfl) rfl rfl (by (try simp only [mA, mB, mC]); first | done | rfl) ?_
           with_reducible refine (impl_compare.calls kj4 _ _ ((rd_T72 x0_1 0).f1) _ _ ((rd_T72 x1_1 0).f1) t158 _ ?side1 ?side2 ?side3 ?side4 A13.out).mono ?_
           (case side1 => exact Kd.cm ((by repeat (first | (with_reducible exact HR156_1.out) | (with_reducible refine Kd.C_alloc ?_ _) | (with_reducible refine Kd.C_drewN ?_ _) | (with_reducible refine Kd.C_drew ?_) | exact HR156_1.out))));(case side2 => exact HC156_1.out);(case side3 => exact Kd.cm ((by repeat (first | (with_reducible exact HR157_1.out) | (with_reducible refine Kd.C_alloc ?_ _) | (with_reducible refine Kd.C_drewN ?_ _) | (with_reducible refine Kd.C_drew ?_) | exact HR157_1.out))));(case side4 => exact HC157_1.out)
           rintro e w20 ⟨rfl, hb⟩
           have HS0_ := (hb.cell (World.block_lt_of_cell? _ _ (hHeld.1))).trans (hHeld.1);have HS1_ := (hb.cell (World.block_lt_of_cell? _ _ (hHeld.2.1))).trans (hHeld.2.1);have HS2_ := (hb.cell (World.block_lt_of_cell? _ _ (hHeld.2.2.1))).trans (hHeld.2.2.1);have HS3_ := (hb.cell (World.block_lt_of_cell? _ _ (hHeld.2.2.2))).trans (hHeld.2.2.2);refine ⟨_, rfl, ?_⟩;replace HO_0 := am (Kd.V_below (Kd.vm HO_0.out) hb);replace HO_1 := am (Kd.V_below (Kd.vm HO_1.out) hb);replace HO_5 := am (Kd.N_below (Kd.nm HO_5.out) hb);replace HL156_1 := am (Kd.V_below (Kd.vm HL156_1.out) hb);replace HL157_1 := am (Kd.V_below (Kd.vm HL157_1.out) hb);replace HR156_1 := am (Kd.C_below (by repeat (first | (with_reducible exact HR156_1.out) | (with_reducible refine Kd.C_alloc ?_ _) | (with_reducible refine Kd.C_drewN ?_ _) | (with_reducible refine Kd.C_drew ?_) | exact HR156_1.out)) hb);replace HR157_1 := am (Kd.C_below (by repeat (first | (with_reducible exact HR157_1.out) | (with_reducible refine Kd.C_alloc ?_ _) | (with_reducible refine Kd.C_drewN ?_ _) | (with_reducible refine Kd.C_drew ?_) | exact HR157_1.out)) hb);replace HB := am (below_step (bm HB.out) hb);(try clear hb);refine hK.out _ _ ⟨HS0_, HS1_, HS2_, HS3_⟩ (fun hHeld => ?_);clear hK K;refine norm_ (a' := ?_) ?_ ?_;rotate_left
           ·
            show Act.put _ (some 24) _ = _
            simp only [Act.put, sA, sB, sC, i64_w, i32_w];rfl
           refine pure_ (i := 9) (N := some 6) (v := ?_) (a' := ?_) #[true, true, true, true, true, true, true, true, true, true] rfl rfl (any_of HT_.out (by kernel_rfl)) (fun _ _ _ h => h) (Or.inl ⟨by rfl, ?_⟩) ?_ ?_;rotate_left
           ·
            intro w';go_simp;with_reducible rfl
           rotate_left
           ·
            simp only [Act.put, sA, sB, sC, i64_w, i32_w];rfl
           refine done_ (done_of HT_.out (by kernel_rfl)) ?_;have p159 : 0 ≤ (0 : Int) := (by omega);have q159 : 0 < (x0_1.length : Int) := of_decide_eq_true (by assumption);obtain ⟨ad159, A159_1, c159_1, e159, hx159_0, hx159_1, hl159_1, hi159_1⟩ := at_T72 (Kd.V_reads' HO_0.out).2.2 0 p159 q159;(try clear hx156_0);(try clear hx156_1);(try clear hx156_2);(try clear hx156_3);(try clear HS0_);(try clear HS1_);(try clear HS2_);(try clear HS3_);(try clear HS4_);(try clear HS5_);(try clear HS6_);(try clear HS7_);(try clear HS8_);(try clear HS9_);(try clear hHeld);obtain rfl : ad156 = ad159 := (by injection e159);obtain ⟨ce159, hce159, hMe159, hcc159⟩ := Kd.V_get HO_0.out z72 0 p159 (by first | exact q159 | exact of_decide_eq_true (by assumption) | (have e_ := (Kd.V_reads' HO_0.out).1; omega));obtain ⟨ua159_1, uc159_1, rfl, ul159_1, ge159_1⟩ := k72_openF hMe159;have hv159_1 := hcc159 1 _ rfl;rw [add_field _ _ 1 (by omega)] at hv159_1;replace hv159_1 := Option.some.inj (hv159_1.symm.trans hx159_1)
           injection hv159_1 with hva_ hvn_ hvc_
           rw [hva_] at ge159_1;rw [hvc_] at ul159_1;have HL159_1 := am (show Kd.V k72 72 _ w.heap.size _ _ ((rd_T72 x0_1 0).f1) from Kd.V_mk ul159_1 ge159_1);clear hva_ hvn_ hvc_ ge159_1 ul159_1;clear hcc159 hce159;have qi159 : (0 < x0_1.length) = True := eq_true (by omega);(try rw [show ((0 : Int)).toNat = 0 from rfl] at hx159_0);(try rw [show 0 * 2 = 0 from rfl] at hx159_0);(try rw [Addr.add_zero'] at hx159_0);(try rw [show ((0 : Int)).toNat = 0 from rfl] at hx159_1);(try rw [show 0 * 2 = 0 from rfl] at hx159_1);(try rw [Addr.add_zero'] at hx159_1);have HR159_1 := am hi159_1;have HC159_1 := am hl159_1;clear hi159_1 hl159_1;replace p159 := eq_true p159;replace q159 := eq_true q159;(try go_wp2_with (first | ((with_reducible refine gate_builtin (b := .append) (xs := #[.tmp 49, .tmp 53]) rfl ?_); (try (refine gate_guard (by rfl) ?_; dsimp only)); at_builtin; refine Kd.N_append k72 (w0 := w) w.heap.size rfl (.tmp 49) (.tmp 53) 40 72 (.agg #[(.int .i64 0), (.slice none 0 0)]) 32 rfl Try.underlying40 info72 rfl (by decide) (by omega) u5 x5_1 (⟨(rd_T72 x0_1 0).f0, (rd_T72 x0_1 0).f1⟩ : S72) [.int .i64 ((rd_T72 x0_1 0).f0), .slice A159_1 ((rd_T72 x0_1 0).f1).length c159_1] (fun k_ => ((P0_ k_ ∨ P1_ k_) ∨ w.heap.size ≤ k_)) (fun k_ => ((fun k_ => ((P0_ k_ ∨ P1_ k_) ∨ w.heap.size ≤ k_))) k_ ∧ some k_ ≠ (u5 : Value).ownBlock) rfl rfl ?aP (fun _ hk => hk) ?aF ?aO ?aB ?aS ?aL ?_; (case aP => exact (k72_mkF _ _ (⟨(rd_T72 x0_1 0).f0, (rd_T72 x0_1 0).f1⟩ : S72) (Kd.V_reads' (Kd.V_mono (ok' := (fun k_ => ((fun k_ => ((P0_ k_ ∨ P1_ k_) ∨ w.heap.size ≤ k_))) k_ ∧ some k_ ≠ (u5 : Value).ownBlock)) (HL159_1.out) (fun k_ hk => ⟨hk.1, hk.2⟩))).2.1 (Kd.V_F (Kd.V_mono (ok' := (fun k_ => ((fun k_ => ((P0_ k_ ∨ P1_ k_) ∨ w.heap.size ≤ k_))) k_ ∧ some k_ ≠ (u5 : Value).ownBlock)) (HL159_1.out) (fun k_ hk => ⟨hk.1, hk.2⟩))))); (case aB => exact (bm HB.out)); (case aF => exact (fun k_ hk => (.inr (Nat.le_trans (below_size (bm HB.out)) hk)))); (case aO => exact (Kd.nm HO_5.out)); (case aS => exact (below_size (bm HB.out))); (case aL => have := LMc15.out; omega); intro v161 w21 ho hb hg hat; rw [← hy160.out] at ho; replace HO_0 := am (Kd.V_afterv (ok := (fun k_ => ((P0_ k_ ∨ P1_ k_) ∨ w.heap.size ≤ k_))) (Kd.vm HO_0.out) hg hat);replace HO_1 := am (Kd.V_afterv (ok := (fun k_ => ((P0_ k_ ∨ P1_ k_) ∨ w.heap.size ≤ k_))) (Kd.vm HO_1.out) hg hat);replace HL156_1 := am (Kd.V_afterv (ok := (fun k_ => ((P0_ k_ ∨ P1_ k_) ∨ w.heap.size ≤ k_))) (Kd.vm HL156_1.out) hg hat);replace HL157_1 := am (Kd.V_afterv (ok := (fun k_ => ((P0_ k_ ∨ P1_ k_) ∨ w.heap.size ≤ k_))) (Kd.vm HL157_1.out) hg hat);replace HL159_1 := am (Kd.V_afterv (ok := (fun k_ => ((P0_ k_ ∨ P1_ k_) ∨ w.heap.size ≤ k_))) (Kd.vm HL159_1.out) hg hat);replace HB := am (hb);have HO162 := am (ho);clear HO_5; clear ho hb hg hat; have q22 : (1 : Int) ≤ ((x0_1.length : Int) : Int) := of_decide_eq_true (by assumption); obtain ⟨i022, hi022, _, hsz22, _⟩ := info_parts info72; have hroom22 : x0_1.length ≤ co18 := (Kd.V_reads' HO_0.out).2.1; have hC22 : Kd.F k72 _ _ (some ad156) x0_1.length x0_1 := (Kd.V_at (base := w.heap.size) HO_0.out).2.2; have hcut22 := cut_from (P := Try.prog) 40 72 .i64 Try.underlying40 hi022 2 hsz22 (some ad156) x0_1.length co18 1 (by omega) q22; have hr22 := Kd.F_cut (m := (1 : Int).toNat) (c := co18) hC22 (by omega) hroom22; obtain ⟨A22, hA22⟩ : ∃ A1, A1 = (if co18 = (1 : Int).toNat then (some ad156) else ((some ad156) : Option Addr).map (·.add ((1 : Int).toNat * 2))) := ⟨_, rfl⟩; obtain ⟨c22, hc22⟩ : ∃ c1, c1 = co18 - (1 : Int).toNat := ⟨_, rfl⟩; have hy22 : y163.length = x0_1.length - (1 : Int).toNat := (by rw [hy163.out, List.length_drop] <;> omega); rw [show (x0_1).drop (1 : Int).toNat = y163 from hy163.out.symm] at hr22; replace hr22 : Kd.F k72 _ _ A22 y163.length y163 := (by rw [hA22]; exact hr22); rw [← hy22, ← hA22, ← hc22] at hcut22; have HO167 := am (show Kd.V k72 72 _ w.heap.size _ (.slice A22 y163.length c22) y163 from Kd.V_mk (by rw [hy22, hc22]; exact Nat.sub_le_sub_right hroom22 _) hr22); have HC167 := am (show y163.length ≤ c22 from by rw [hy22, hc22]; exact Nat.sub_le_sub_right hroom22 _); clear hr22 hC22 hroom22 hi022 hsz22 hc22; have KY22 := am hy22; have KA22 := am hA22; clear hy22 hA22; replace q22 := eq_true q22)))
           go_roundg kj4
           case measure => have := HK1.out; have := HJ4.out; omega
           case rel => exact ⟨(y163), (x1_1), (y160), H', ⟨by have := HK1.out; have := HJ4.out; omega⟩, ⟨Kd.vm HO167.out⟩, ⟨Kd.vm HO_1.out⟩, ⟨Kd.nm HO162.out⟩, ⟨bm HB.out⟩⟩
          ·
           rw [if_neg c16] at H;exact absurd H (by simp)
         ·
          rw [if_neg c15] at H;exact absurd H (by simp)
        ·
         rw [if_neg c14] at H;have c14b0 : decide (0 < t158) = false := decide_eq_false c14;clear c14;by_cases c23 : t158 < 0
         ·
          rw [if_pos c23] at H;have c23b0 : decide (t158 < 0) = true := decide_eq_true c23;clear c23;by_cases c24 : x5_1.length < 4398046511104
          ·
           rw [if_pos c24] at H;have LMc24 := am c24;clear c24
           obtain ⟨y169, hy169⟩ : ∃ y_ : List (S72), y_ = (x5_1 ++ [(⟨(rd_T72 x1_1 0).f0, (rd_T72 x1_1 0).f1⟩ : S72)]) := ⟨_, rfl⟩
           replace H : (if 1 ≤ (x1_1.length : Int) then (impl_natural.l0 kj4 x0_1 (x1_1.drop 1) y169) else (none)) = some r := by first | (rw [hy169]; with_reducible exact H) | (have H2_ := oB H; rw [hy169]; with_reducible exact H2_) | (have H2_ := oB H; with_reducible exact H2_) | with_reducible exact H | (rw [hy169]; exact H) | exact H
           replace hy169 := am hy169;by_cases c25 : 1 ≤ (x1_1.length : Int)
           ·
            rw [if_pos c25] at H;have c25b0 := eq_true c25;have c25b1 : decide (1 ≤ (x1_1.length : Int)) = true := decide_eq_true c25;clear c25
            obtain ⟨y172, hy172⟩ : ∃ y_ : List (S72), y_ = (x1_1.drop 1) := ⟨_, rfl⟩
            replace H : (impl_natural.l0 kj4 x0_1 y172 y169) = some r := by first | (rw [hy172]; with_reducible exact H) | (have H2_ := oB H; rw [hy172]; with_reducible exact H2_) | (have H2_ := oB H; with_reducible exact H2_) | with_reducible exact H | (rw [hy172]; exact H) | exact H
            replace hy172 := am hy172;have H' := am H;clear H;(try go_wp2);replace HO_0 := am (Kd.V_drew HO_0.out);replace HO_1 := am (Kd.V_drew HO_1.out);replace HO_5 := am (Kd.N_drew HO_5.out);replace HB := am (below_drew1 HB.out);obtain ⟨Ao27, co27, eo27⟩ := Kd.V_slice HO_0.out
            (first | subst eo27 | (injection eo27 with f1_ f2_ f3_; have f4_ := f1_.symm; have f5_ := f3_.symm; clear f1_ f2_ f3_; subst f4_; subst f5_))
            have p156 : 0 ≤ (0 : Int) := (by omega);have q156 : 0 < (x0_1.length : Int) := of_decide_eq_true (by assumption);obtain ⟨ad156, A156_1, c156_1, e156, hx156_0, hx156_1, hl156_1, hi156_1⟩ := at_T72 (Kd.V_reads' HO_0.out).2.2 0 p156 q156;(try clear hx159_0);(try clear hx159_1);(try clear hx159_2);(try clear hx159_3);(try clear HS4_);(try clear HS5_);(try clear HS6_);(try clear HS7_);(try clear HS8_);(try clear HS9_);(try clear hHeld);cases e156
            obtain ⟨ce156, hce156, hMe156, hcc156⟩ := Kd.V_get HO_0.out z72 0 p156 (by first | exact q156 | exact of_decide_eq_true (by assumption) | (have e_ := (Kd.V_reads' HO_0.out).1; omega));obtain ⟨ua156_1, uc156_1, rfl, ul156_1, ge156_1⟩ := k72_openF hMe156;have hv156_1 := hcc156 1 _ rfl;rw [add_field _ _ 1 (by omega)] at hv156_1;replace hv156_1 := Option.some.inj (hv156_1.symm.trans hx156_1)
            injection hv156_1 with hva_ hvn_ hvc_
            rw [hva_] at ge156_1;rw [hvc_] at ul156_1;have HL156_1 := am (show Kd.V k72 72 _ w.heap.size _ _ ((rd_T72 x0_1 0).f1) from Kd.V_mk ul156_1 ge156_1);clear hva_ hvn_ hvc_ ge156_1 ul156_1;clear hcc156 hce156;have qi156 : (0 < x0_1.length) = True := eq_true (by omega);(try rw [show ((0 : Int)).toNat = 0 from rfl] at hx156_0);(try rw [show 0 * 2 = 0 from rfl] at hx156_0);(try rw [Addr.add_zero'] at hx156_0);(try rw [show ((0 : Int)).toNat = 0 from rfl] at hx156_1);(try rw [show 0 * 2 = 0 from rfl] at hx156_1);(try rw [Addr.add_zero'] at hx156_1);have HR156_1 := am hi156_1;have HC156_1 := am hl156_1;clear hi156_1 hl156_1;replace p156 := eq_true p156;replace q156 := eq_true q156;obtain ⟨Ao28, co28, eo28⟩ := Kd.V_slice HO_1.out
            (first | subst eo28 | (injection eo28 with f1_ f2_ f3_; have f4_ := f1_.symm; have f5_ := f3_.symm; clear f1_ f2_ f3_; subst f4_; subst f5_))
            have p157 : 0 ≤ (0 : Int) := (by omega);have q157 : 0 < (x1_1.length : Int) := of_decide_eq_true (by assumption);obtain ⟨ad157, A157_1, c157_1, e157, hx157_0, hx157_1, hl157_1, hi157_1⟩ := at_T72 (Kd.V_reads' HO_1.out).2.2 0 p157 q157;cases e157
            obtain ⟨ce157, hce157, hMe157, hcc157⟩ := Kd.V_get HO_1.out z72 0 p157 (by first | exact q157 | exact of_decide_eq_true (by assumption) | (have e_ := (Kd.V_reads' HO_1.out).1; omega));obtain ⟨ua157_1, uc157_1, rfl, ul157_1, ge157_1⟩ := k72_openF hMe157;have hv157_1 := hcc157 1 _ rfl;rw [add_field _ _ 1 (by omega)] at hv157_1;replace hv157_1 := Option.some.inj (hv157_1.symm.trans hx157_1)
            injection hv157_1 with hva_ hvn_ hvc_
            rw [hva_] at ge157_1;rw [hvc_] at ul157_1;have HL157_1 := am (show Kd.V k72 72 _ w.heap.size _ _ ((rd_T72 x1_1 0).f1) from Kd.V_mk ul157_1 ge157_1);clear hva_ hvn_ hvc_ ge157_1 ul157_1;clear hcc157 hce157;have qi157 : (0 < x1_1.length) = True := eq_true (by omega);(try rw [show ((0 : Int)).toNat = 0 from rfl] at hx157_0);(try rw [show 0 * 2 = 0 from rfl] at hx157_0);(try rw [Addr.add_zero'] at hx157_0);(try rw [show ((0 : Int)).toNat = 0 from rfl] at hx157_1);(try rw [show 0 * 2 = 0 from rfl] at hx157_1);(try rw [Addr.add_zero'] at hx157_1);have HR157_1 := am hi157_1;have HC157_1 := am hl157_1;clear hi157_1 hl157_1;replace p157 := eq_true p157;replace q157 := eq_true q157;refine start_ (n := 10) (S := fun w' => w'.cell? ad156 = some (.int .i64 ((rd_T72 x0_1 0).f0)) ∧ w'.cell? ⟨ad156.block, ad156.off + 1, none⟩ = some (.slice A156_1 ((rd_T72 x0_1 0).f1).length c156_1) ∧ w'.cell? ad157 = some (.int .i64 ((rd_T72 x1_1 0).f0)) ∧ w'.cell? ⟨ad157.block, ad157.off + 1, none⟩ = some (.slice A157_1 ((rd_T72 x1_1 0).f1).length c157_1)) (ds := []) #[false, false, false, false, false, false, false, false, false, false] (by kernel_rfl) rfl rfl ⟨hx156_0, hx156_1, hx157_0, hx157_1⟩ (fun hHeld => ?_); refine with_tabW impl_natural.tab3 impl_natural.bits3 (fun HT_ HW_ => ?_);generalize wc.drew = w26 at HO_0 HO_1 HO_5 HB HL156_1 HL157_1 HR156_1 HR157_1 hx156_0 hx156_1 hx157_0 hx157_1 hHeld ⊢;refine pure_ (i := 0) (N := some 16) (v := ?_) (a' := ?_) #[true, false, false, false, false, false, false, false, false, false] rfl rfl (any_of HT_.out (by kernel_rfl)) (fun _ _ _ h => h) (Or.inl ⟨by rfl, ?_⟩) ?_ ?_;rotate_left
            ·
             intro w';go_simp;with_reducible rfl
            rotate_left
            ·
             simp only [Act.put, sA, sB, sC, i64_w, i32_w];rfl
            refine pure_ (i := 1) (N := some 17) (v := ?_) (a' := ?_) #[true, true, false, false, false, false, false, false, false, false] rfl rfl (any_of HT_.out (by kernel_rfl)) (fun _ _ _ h => h) (Or.inl ⟨by rfl, ?_⟩) ?_ ?_;rotate_left
            ·
             intro w';go_simp;with_reducible rfl
            rotate_left
            ·
             simp only [Act.put, sA, sB, sC, i64_w, i32_w];rfl
            refine pure_ (i := 2) (N := some 18) (v := ?_) (a' := ?_) #[true, true, true, false, false, false, false, false, false, false] rfl rfl (any_of HT_.out (by kernel_rfl)) (fun _ _ _ h => h) (Or.inl ⟨by rfl, ?_⟩) ?_ ?_;rotate_left
            ·
             intro w';go_simp;with_reducible rfl
            rotate_left
            ·
             simp only [Act.put, sA, sB, sC, i64_w, i32_w];rfl
            refine pure_ (i := 4) (N := some 20) (v := ?_) (a' := ?_) #[true, true, true, false, true, false, false, false, false, false] rfl rfl (any_of HT_.out (by kernel_rfl)) (fun _ _ _ h => h) (Or.inl ⟨by rfl, ?_⟩) ?_ ?_;rotate_left
            ·
             intro w';go_simp;with_reducible rfl
            rotate_left
            ·
             simp only [Act.put, sA, sB, sC, i64_w, i32_w];rfl
            refine pure_ (i := 5) (N := some 21) (v := ?_) (a' := ?_) #[true, true, true, false, true, true, false, false, false, false] rfl rfl (any_of HT_.out (by kernel_rfl)) (fun _ _ _ h => h) (Or.inl ⟨by rfl, ?_⟩) ?_ ?_;rotate_left
            ·
             intro w';go_simp;with_reducible rfl
            rotate_left
            ·
             simp only [Act.put, sA, sB, sC, i64_w, i32_w];rfl
            refine pure_ (i := 6) (N := some 22) (v := ?_) (a' := ?_) #[true, true, true, false, true, true, true, false, false, false] rfl rfl (any_of HT_.out (by kernel_rfl)) (fun _ _ _ h => h) (Or.inl ⟨by rfl, ?_⟩) ?_ ?_;rotate_left
            ·
             intro w';go_simp;with_reducible rfl
            rotate_left
            ·
             simp only [Act.put, sA, sB, sC, i64_w, i32_w];rfl
            refine take_ (i := 3) (N := some 19) (v := ?_) (a' := ?_) #[true, true, true, true, true, true, true, false, false, false] rfl rfl (take_ofW HT_.out HW_.out (by kernel_rfl)) (fun _ _ _ h => h) (Or.inl ⟨by rfl, ?_⟩) hHeld ?_ ?_;rotate_left
            ·
             rintro w' ⟨s0, s1, s2, s3⟩
             go_simp;with_reducible rfl
            rotate_left
            ·
             simp only [Act.put, sA, sB, sC, i64_w, i32_w];rfl
            refine take_ (i := 7) (N := some 23) (v := ?_) (a' := ?_) #[true, true, true, true, true, true, true, true, false, false] rfl rfl (take_ofW HT_.out HW_.out (by kernel_rfl)) (fun _ _ _ h => h) (Or.inl ⟨by rfl, ?_⟩) hHeld ?_ ?_;rotate_left
            ·
             rintro w' ⟨s0, s1, s2, s3⟩
             go_simp;with_reducible rfl
            rotate_left
            ·
             simp only [Act.put, sA, sB, sC, i64_w, i32_w];rfl
            refine one_ (i := 8) (N := some 24) #[true, true, true, true, true, true, true, true, true, false] rfl rfl (one_of HT_.out (by kernel_rfl)) (by decide) (fun K hK => ?_);refine goes_ Try.func86 (by kernel_rfl) rfl #[.slice A156_1 ((rd_T72 x0_1 0).f1).length c156_1, .slice A157_1 ((rd_T72 x1_1 0).f1).length c157_1] (by rfl) rfl rfl (by (try simp only [mA, mB, mC]); first | done | rfl) ?_
            with_reducible refine (impl_compare.calls kj4 _ _ ((rd_T72 x0_1 0).f1) _ _ ((rd_T72 x1_1 0).f1) t158 _ ?side1 ?side2 ?side3 ?side4 A13.out).mono ?_
            (case side1 => exact Kd.cm ((by repeat (first | (with_reducible exact HR156_1.out) | (with_reducible refine Kd.C_alloc ?_ _) | (with_reducible refine Kd.C_drewN ?_ _) | (with_reducible refine Kd.C_drew ?_) | exact HR156_1.out))));(case side2 => exact HC156_1.out);(case side3 => exact Kd.cm ((by repeat (first | (with_reducible exact HR157_1.out) | (with_reducible refine Kd.C_alloc ?_ _) | (with_reducible refine Kd.C_drewN ?_ _) | (with_reducible refine Kd.C_drew ?_) | exact HR157_1.out))));(case side4 => exact HC157_1.out)
            rintro e w29 ⟨rfl, hb⟩
            have HS0_ := (hb.cell (World.block_lt_of_cell? _ _ (hHeld.1))).trans (hHeld.1);have HS1_ := (hb.cell (World.block_lt_of_cell? _ _ (hHeld.2.1))).trans (hHeld.2.1);have HS2_ := (hb.cell (World.block_lt_of_cell? _ _ (hHeld.2.2.1))).trans (hHeld.2.2.1);have HS3_ := (hb.cell (World.block_lt_of_cell? _ _ (hHeld.2.2.2))).trans (hHeld.2.2.2);refine ⟨_, rfl, ?_⟩;replace HO_0 := am (Kd.V_below (Kd.vm HO_0.out) hb);replace HO_1 := am (Kd.V_below (Kd.vm HO_1.out) hb);replace HO_5 := am (Kd.N_below (Kd.nm HO_5.out) hb);replace HL156_1 := am (Kd.V_below (Kd.vm HL156_1.out) hb);replace HL157_1 := am (Kd.V_below (Kd.vm HL157_1.out) hb);replace HR156_1 := am (Kd.C_below (by repeat (first | (with_reducible exact HR156_1.out) | (with_reducible refine Kd.C_alloc ?_ _) | (with_reducible refine Kd.C_drewN ?_ _) | (with_reducible refine Kd.C_drew ?_) | exact HR156_1.out)) hb);replace HR157_1 := am (Kd.C_below (by repeat (first | (with_reducible exact HR157_1.out) | (with_reducible refine Kd.C_alloc ?_ _) | (with_reducible refine Kd.C_drewN ?_ _) | (with_reducible refine Kd.C_drew ?_) | exact HR157_1.out)) hb);replace HB := am (below_step (bm HB.out) hb);(try clear hb);refine hK.out _ _ ⟨HS0_, HS1_, HS2_, HS3_⟩ (fun hHeld => ?_);clear hK K;refine norm_ (a' := ?_) ?_ ?_;rotate_left
            ·
             show Act.put _ (some 24) _ = _
             simp only [Act.put, sA, sB, sC, i64_w, i32_w];rfl
            refine pure_ (i := 9) (N := some 6) (v := ?_) (a' := ?_) #[true, true, true, true, true, true, true, true, true, true] rfl rfl (any_of HT_.out (by kernel_rfl)) (fun _ _ _ h => h) (Or.inl ⟨by rfl, ?_⟩) ?_ ?_;rotate_left
            ·
             intro w';go_simp;with_reducible rfl
            rotate_left
            ·
             simp only [Act.put, sA, sB, sC, i64_w, i32_w];rfl
            refine done_ (done_of HT_.out (by kernel_rfl)) ?_;have p168 : 0 ≤ (0 : Int) := (by omega);have q168 : 0 < (x1_1.length : Int) := of_decide_eq_true (by assumption);obtain ⟨ad168, A168_1, c168_1, e168, hx168_0, hx168_1, hl168_1, hi168_1⟩ := at_T72 (Kd.V_reads' HO_1.out).2.2 0 p168 q168;(try clear hx157_0);(try clear hx157_1);(try clear hx157_2);(try clear hx157_3);(try clear hx157_0);(try clear hx157_1);(try clear hx157_2);(try clear hx157_3);(try clear HS0_);(try clear HS1_);(try clear HS2_);(try clear HS3_);(try clear HS4_);(try clear HS5_);(try clear HS6_);(try clear HS7_);(try clear HS8_);(try clear HS9_);(try clear hHeld);obtain rfl : ad157 = ad168 := (by injection e168);obtain ⟨ce168, hce168, hMe168, hcc168⟩ := Kd.V_get HO_1.out z72 0 p168 (by first | exact q168 | exact of_decide_eq_true (by assumption) | (have e_ := (Kd.V_reads' HO_1.out).1; omega));obtain ⟨ua168_1, uc168_1, rfl, ul168_1, ge168_1⟩ := k72_openF hMe168;have hv168_1 := hcc168 1 _ rfl;rw [add_field _ _ 1 (by omega)] at hv168_1;replace hv168_1 := Option.some.inj (hv168_1.symm.trans hx168_1)
            injection hv168_1 with hva_ hvn_ hvc_
            rw [hva_] at ge168_1;rw [hvc_] at ul168_1;have HL168_1 := am (show Kd.V k72 72 _ w.heap.size _ _ ((rd_T72 x1_1 0).f1) from Kd.V_mk ul168_1 ge168_1);clear hva_ hvn_ hvc_ ge168_1 ul168_1;clear hcc168 hce168;have qi168 : (0 < x1_1.length) = True := eq_true (by omega);(try rw [show ((0 : Int)).toNat = 0 from rfl] at hx168_0);(try rw [show 0 * 2 = 0 from rfl] at hx168_0);(try rw [Addr.add_zero'] at hx168_0);(try rw [show ((0 : Int)).toNat = 0 from rfl] at hx168_1);(try rw [show 0 * 2 = 0 from rfl] at hx168_1);(try rw [Addr.add_zero'] at hx168_1);have HR168_1 := am hi168_1;have HC168_1 := am hl168_1;clear hi168_1 hl168_1;replace p168 := eq_true p168;replace q168 := eq_true q168;(try go_wp2_with (first | ((with_reducible refine gate_builtin (b := .append) (xs := #[.tmp 60, .tmp 64]) rfl ?_); (try (refine gate_guard (by rfl) ?_; dsimp only)); at_builtin; refine Kd.N_append k72 (w0 := w) w.heap.size rfl (.tmp 60) (.tmp 64) 40 72 (.agg #[(.int .i64 0), (.slice none 0 0)]) 32 rfl Try.underlying40 info72 rfl (by decide) (by omega) u5 x5_1 (⟨(rd_T72 x1_1 0).f0, (rd_T72 x1_1 0).f1⟩ : S72) [.int .i64 ((rd_T72 x1_1 0).f0), .slice A168_1 ((rd_T72 x1_1 0).f1).length c168_1] (fun k_ => ((P0_ k_ ∨ P1_ k_) ∨ w.heap.size ≤ k_)) (fun k_ => ((fun k_ => ((P0_ k_ ∨ P1_ k_) ∨ w.heap.size ≤ k_))) k_ ∧ some k_ ≠ (u5 : Value).ownBlock) rfl rfl ?aP (fun _ hk => hk) ?aF ?aO ?aB ?aS ?aL ?_; (case aP => exact (k72_mkF _ _ (⟨(rd_T72 x1_1 0).f0, (rd_T72 x1_1 0).f1⟩ : S72) (Kd.V_reads' (Kd.V_mono (ok' := (fun k_ => ((fun k_ => ((P0_ k_ ∨ P1_ k_) ∨ w.heap.size ≤ k_))) k_ ∧ some k_ ≠ (u5 : Value).ownBlock)) (HL168_1.out) (fun k_ hk => ⟨hk.1, hk.2⟩))).2.1 (Kd.V_F (Kd.V_mono (ok' := (fun k_ => ((fun k_ => ((P0_ k_ ∨ P1_ k_) ∨ w.heap.size ≤ k_))) k_ ∧ some k_ ≠ (u5 : Value).ownBlock)) (HL168_1.out) (fun k_ hk => ⟨hk.1, hk.2⟩))))); (case aB => exact (bm HB.out)); (case aF => exact (fun k_ hk => (.inr (Nat.le_trans (below_size (bm HB.out)) hk)))); (case aO => exact (Kd.nm HO_5.out)); (case aS => exact (below_size (bm HB.out))); (case aL => have := LMc24.out; omega); intro v170 w30 ho hb hg hat; rw [← hy169.out] at ho; replace HO_0 := am (Kd.V_afterv (ok := (fun k_ => ((P0_ k_ ∨ P1_ k_) ∨ w.heap.size ≤ k_))) (Kd.vm HO_0.out) hg hat);replace HO_1 := am (Kd.V_afterv (ok := (fun k_ => ((P0_ k_ ∨ P1_ k_) ∨ w.heap.size ≤ k_))) (Kd.vm HO_1.out) hg hat);replace HL156_1 := am (Kd.V_afterv (ok := (fun k_ => ((P0_ k_ ∨ P1_ k_) ∨ w.heap.size ≤ k_))) (Kd.vm HL156_1.out) hg hat);replace HL157_1 := am (Kd.V_afterv (ok := (fun k_ => ((P0_ k_ ∨ P1_ k_) ∨ w.heap.size ≤ k_))) (Kd.vm HL157_1.out) hg hat);replace HL168_1 := am (Kd.V_afterv (ok := (fun k_ => ((P0_ k_ ∨ P1_ k_) ∨ w.heap.size ≤ k_))) (Kd.vm HL168_1.out) hg hat);replace HB := am (hb);have HO171 := am (ho);clear HO_5; clear ho hb hg hat; have q31 : (1 : Int) ≤ ((x1_1.length : Int) : Int) := of_decide_eq_true (by assumption); obtain ⟨i031, hi031, _, hsz31, _⟩ := info_parts info72; have hroom31 : x1_1.length ≤ co28 := (Kd.V_reads' HO_1.out).2.1; have hC31 : Kd.F k72 _ _ (some ad157) x1_1.length x1_1 := (Kd.V_at (base := w.heap.size) HO_1.out).2.2; have hcut31 := cut_from (P := Try.prog) 40 72 .i64 Try.underlying40 hi031 2 hsz31 (some ad157) x1_1.length co28 1 (by omega) q31; have hr31 := Kd.F_cut (m := (1 : Int).toNat) (c := co28) hC31 (by omega) hroom31; obtain ⟨A31, hA31⟩ : ∃ A1, A1 = (if co28 = (1 : Int).toNat then (some ad157) else ((some ad157) : Option Addr).map (·.add ((1 : Int).toNat * 2))) := ⟨_, rfl⟩; obtain ⟨c31, hc31⟩ : ∃ c1, c1 = co28 - (1 : Int).toNat := ⟨_, rfl⟩; have hy31 : y172.length = x1_1.length - (1 : Int).toNat := (by rw [hy172.out, List.length_drop] <;> omega); rw [show (x1_1).drop (1 : Int).toNat = y172 from hy172.out.symm] at hr31; replace hr31 : Kd.F k72 _ _ A31 y172.length y172 := (by rw [hA31]; exact hr31); rw [← hy31, ← hA31, ← hc31] at hcut31; have HO176 := am (show Kd.V k72 72 _ w.heap.size _ (.slice A31 y172.length c31) y172 from Kd.V_mk (by rw [hy31, hc31]; exact Nat.sub_le_sub_right hroom31 _) hr31); have HC176 := am (show y172.length ≤ c31 from by rw [hy31, hc31]; exact Nat.sub_le_sub_right hroom31 _); clear hr31 hC31 hroom31 hi031 hsz31 hc31; have KY31 := am hy31; have KA31 := am hA31; clear hy31 hA31; replace q31 := eq_true q31)))
            go_roundg kj4
            case measure => have := HK1.out; have := HJ4.out; omega
            case rel => exact ⟨(x0_1), (y172), (y169), H', ⟨by have := HK1.out; have := HJ4.out; omega⟩, ⟨Kd.vm HO_0.out⟩, ⟨Kd.vm HO176.out⟩, ⟨Kd.nm HO171.out⟩, ⟨bm HB.out⟩⟩
           ·
            rw [if_neg c25] at H;exact absurd H (by simp)
          ·
           rw [if_neg c24] at H;exact absurd H (by simp)
         ·
          rw [if_neg c23] at H;have c23b0 : decide (t158 < 0) = false := decide_eq_false c23;clear c23;by_cases c32 : x5_1.length < 4398046511104
          ·
           rw [if_pos c32] at H;have LMc32 := am c32;clear c32
           obtain ⟨y180, hy180⟩ : ∃ y_ : List (S72), y_ = (x5_1 ++ [(⟨wrap64 (((rd_T72 x0_1 0).f0) + ((rd_T72 x1_1 0).f0)), (rd_T72 x0_1 0).f1⟩ : S72)]) := ⟨_, rfl⟩
           replace H : (if 1 ≤ (x0_1.length : Int) then (if 1 ≤ (x1_1.length : Int) then (impl_natural.l0 kj4 (x0_1.drop 1) (x1_1.drop 1) y180) else (none)) else (none)) = some r := by first | (rw [hy180]; with_reducible exact H) | (have H2_ := oB H; rw [hy180]; with_reducible exact H2_) | (have H2_ := oB H; with_reducible exact H2_) | with_reducible exact H | (rw [hy180]; exact H) | exact H
           replace hy180 := am hy180;by_cases c33 : 1 ≤ (x0_1.length : Int)
           ·
            rw [if_pos c33] at H;have c33b0 := eq_true c33;have c33b1 : decide (1 ≤ (x0_1.length : Int)) = true := decide_eq_true c33;clear c33
            obtain ⟨y183, hy183⟩ : ∃ y_ : List (S72), y_ = (x0_1.drop 1) := ⟨_, rfl⟩
            replace H : (if 1 ≤ (x1_1.length : Int) then (impl_natural.l0 kj4 y183 (x1_1.drop 1) y180) else (none)) = some r := by first | (rw [hy183]; with_reducible exact H) | (have H2_ := oB H; rw [hy183]; with_reducible exact H2_) | (have H2_ := oB H; with_reducible exact H2_) | with_reducible exact H | (rw [hy183]; exact H) | exact H
            replace hy183 := am hy183;by_cases c34 : 1 ≤ (x1_1.length : Int)
            ·
             rw [if_pos c34] at H;have c34b0 := eq_true c34;have c34b1 : decide (1 ≤ (x1_1.length : Int)) = true := decide_eq_true c34;clear c34
             obtain ⟨y188, hy188⟩ : ∃ y_ : List (S72), y_ = (x1_1.drop 1) := ⟨_, rfl⟩
             replace H : (impl_natural.l0 kj4 y183 y188 y180) = some r := by first | (rw [hy188]; with_reducible exact H) | (have H2_ := oB H; rw [hy188]; with_reducible exact H2_) | (have H2_ := oB H; with_reducible exact H2_) | with_reducible exact H | (rw [hy188]; exact H) | exact H
             replace hy188 := am hy188;have H' := am H;clear H;(try go_wp2);replace HO_0 := am (Kd.V_drew HO_0.out);replace HO_1 := am (Kd.V_drew HO_1.out);replace HO_5 := am (Kd.N_drew HO_5.out);replace HB := am (below_drew1 HB.out);obtain ⟨Ao36, co36, eo36⟩ := Kd.V_slice HO_0.out
             (first | subst eo36 | (injection eo36 with f1_ f2_ f3_; have f4_ := f1_.symm; have f5_ := f3_.symm; clear f1_ f2_ f3_; subst f4_; subst f5_))
             have p156 : 0 ≤ (0 : Int) := (by omega);have q156 : 0 < (x0_1.length : Int) := of_decide_eq_true (by assumption);obtain ⟨ad156, A156_1, c156_1, e156, hx156_0, hx156_1, hl156_1, hi156_1⟩ := at_T72 (Kd.V_reads' HO_0.out).2.2 0 p156 q156;(try clear hx159_0);(try clear hx159_1);(try clear hx159_2);(try clear hx159_3);(try clear HS4_);(try clear HS5_);(try clear HS6_);(try clear HS7_);(try clear HS8_);(try clear HS9_);(try clear hHeld);cases e156
             obtain ⟨ce156, hce156, hMe156, hcc156⟩ := Kd.V_get HO_0.out z72 0 p156 (by first | exact q156 | exact of_decide_eq_true (by assumption) | (have e_ := (Kd.V_reads' HO_0.out).1; omega));obtain ⟨ua156_1, uc156_1, rfl, ul156_1, ge156_1⟩ := k72_openF hMe156;have hv156_1 := hcc156 1 _ rfl;rw [add_field _ _ 1 (by omega)] at hv156_1;replace hv156_1 := Option.some.inj (hv156_1.symm.trans hx156_1)
             injection hv156_1 with hva_ hvn_ hvc_
             rw [hva_] at ge156_1;rw [hvc_] at ul156_1;have HL156_1 := am (show Kd.V k72 72 _ w.heap.size _ _ ((rd_T72 x0_1 0).f1) from Kd.V_mk ul156_1 ge156_1);clear hva_ hvn_ hvc_ ge156_1 ul156_1;clear hcc156 hce156;have qi156 : (0 < x0_1.length) = True := eq_true (by omega);(try rw [show ((0 : Int)).toNat = 0 from rfl] at hx156_0);(try rw [show 0 * 2 = 0 from rfl] at hx156_0);(try rw [Addr.add_zero'] at hx156_0);(try rw [show ((0 : Int)).toNat = 0 from rfl] at hx156_1);(try rw [show 0 * 2 = 0 from rfl] at hx156_1);(try rw [Addr.add_zero'] at hx156_1);have HR156_1 := am hi156_1;have HC156_1 := am hl156_1;clear hi156_1 hl156_1;replace p156 := eq_true p156;replace q156 := eq_true q156;obtain ⟨Ao37, co37, eo37⟩ := Kd.V_slice HO_1.out
             (first | subst eo37 | (injection eo37 with f1_ f2_ f3_; have f4_ := f1_.symm; have f5_ := f3_.symm; clear f1_ f2_ f3_; subst f4_; subst f5_))
             have p157 : 0 ≤ (0 : Int) := (by omega);have q157 : 0 < (x1_1.length : Int) := of_decide_eq_true (by assumption);obtain ⟨ad157, A157_1, c157_1, e157, hx157_0, hx157_1, hl157_1, hi157_1⟩ := at_T72 (Kd.V_reads' HO_1.out).2.2 0 p157 q157;(try clear hx168_0);(try clear hx168_1);(try clear hx168_2);(try clear hx168_3);(try clear HS4_);(try clear HS5_);(try clear HS6_);(try clear HS7_);(try clear HS8_);(try clear HS9_);cases e157
             obtain ⟨ce157, hce157, hMe157, hcc157⟩ := Kd.V_get HO_1.out z72 0 p157 (by first | exact q157 | exact of_decide_eq_true (by assumption) | (have e_ := (Kd.V_reads' HO_1.out).1; omega));obtain ⟨ua157_1, uc157_1, rfl, ul157_1, ge157_1⟩ := k72_openF hMe157;have hv157_1 := hcc157 1 _ rfl;rw [add_field _ _ 1 (by omega)] at hv157_1;replace hv157_1 := Option.some.inj (hv157_1.symm.trans hx157_1)
             injection hv157_1 with hva_ hvn_ hvc_
             rw [hva_] at ge157_1;rw [hvc_] at ul157_1;have HL157_1 := am (show Kd.V k72 72 _ w.heap.size _ _ ((rd_T72 x1_1 0).f1) from Kd.V_mk ul157_1 ge157_1);clear hva_ hvn_ hvc_ ge157_1 ul157_1;clear hcc157 hce157;have qi157 : (0 < x1_1.length) = True := eq_true (by omega);(try rw [show ((0 : Int)).toNat = 0 from rfl] at hx157_0);(try rw [show 0 * 2 = 0 from rfl] at hx157_0);(try rw [Addr.add_zero'] at hx157_0);(try rw [show ((0 : Int)).toNat = 0 from rfl] at hx157_1);(try rw [show 0 * 2 = 0 from rfl] at hx157_1);(try rw [Addr.add_zero'] at hx157_1);have HR157_1 := am hi157_1;have HC157_1 := am hl157_1;clear hi157_1 hl157_1;replace p157 := eq_true p157;replace q157 := eq_true q157;refine start_ (n := 10) (S := fun w' => w'.cell? ad156 = some (.int .i64 ((rd_T72 x0_1 0).f0)) ∧ w'.cell? ⟨ad156.block, ad156.off + 1, none⟩ = some (.slice A156_1 ((rd_T72 x0_1 0).f1).length c156_1) ∧ w'.cell? ad157 = some (.int .i64 ((rd_T72 x1_1 0).f0)) ∧ w'.cell? ⟨ad157.block, ad157.off + 1, none⟩ = some (.slice A157_1 ((rd_T72 x1_1 0).f1).length c157_1)) (ds := []) #[false, false, false, false, false, false, false, false, false, false] (by kernel_rfl) rfl rfl ⟨hx156_0, hx156_1, hx157_0, hx157_1⟩ (fun hHeld => ?_); refine with_tabW impl_natural.tab3 impl_natural.bits3 (fun HT_ HW_ => ?_);generalize wc.drew = w35 at HO_0 HO_1 HO_5 HB HL156_1 HL157_1 HR156_1 HR157_1 hx156_0 hx156_1 hx157_0 hx157_1 hHeld ⊢;refine pure_ (i := 0) (N := some 16) (v := ?_) (a' := ?_) #[true, false, false, false, false, false, false, false, false, false] rfl rfl (any_of HT_.out (by kernel_rfl)) (fun _ _ _ h => h) (Or.inl ⟨by rfl, ?_⟩) ?_ ?_;rotate_left
             ·
              intro w';go_simp;with_reducible rfl
             rotate_left
             ·
              simp only [Act.put, sA, sB, sC, i64_w, i32_w];rfl
             refine pure_ (i := 1) (N := some 17) (v := ?_) (a' := ?_) #[true, true, false, false, false, false, false, false, false, false] rfl rfl (any_of HT_.out (by kernel_rfl)) (fun _ _ _ h => h) (Or.inl ⟨by rfl, ?_⟩) ?_ ?_;rotate_left
             ·
              intro w';go_simp;with_reducible rfl
             rotate_left
             ·
              simp only [Act.put, sA, sB, sC, i64_w, i32_w];rfl
             refine pure_ (i := 2) (N := some 18) (v := ?_) (a' := ?_) #[true, true, true, false, false, false, false, false, false, false] rfl rfl (any_of HT_.out (by kernel_rfl)) (fun _ _ _ h => h) (Or.inl ⟨by rfl, ?_⟩) ?_ ?_;rotate_left
             ·
              intro w';go_simp;with_reducible rfl
             rotate_left
             ·
              simp only [Act.put, sA, sB, sC, i64_w, i32_w];rfl
             refine pure_ (i := 4) (N := some 20) (v := ?_) (a' := ?_) #[true, true, true, false, true, false, false, false, false, false] rfl rfl (any_of HT_.out (by kernel_rfl)) (fun _ _ _ h => h) (Or.inl ⟨by rfl, ?_⟩) ?_ ?_;rotate_left
             ·
              intro w';go_simp;with_reducible rfl
             rotate_left
             ·
              simp only [Act.put, sA, sB, sC, i64_w, i32_w];rfl
             refine pure_ (i := 5) (N := some 21) (v := ?_) (a' := ?_) #[true, true, true, false, true, true, false, false, false, false] rfl rfl (any_of HT_.out (by kernel_rfl)) (fun _ _ _ h => h) (Or.inl ⟨by rfl, ?_⟩) ?_ ?_;rotate_left
             ·
              intro w';go_simp;with_reducible rfl
             rotate_left
             ·
              simp only [Act.put, sA, sB, sC, i64_w, i32_w];rfl
             refine pure_ (i := 6) (N := some 22) (v := ?_) (a' := ?_) #[true, true, true, false, true, true, true, false, false, false] rfl rfl (any_of HT_.out (by kernel_rfl)) (fun _ _ _ h => h) (Or.inl ⟨by rfl, ?_⟩) ?_ ?_;rotate_left
             ·
              intro w';go_simp;with_reducible rfl
             rotate_left
             ·
              simp only [Act.put, sA, sB, sC, i64_w, i32_w];rfl
             refine take_ (i := 3) (N := some 19) (v := ?_) (a' := ?_) #[true, true, true, true, true, true, true, false, false, false] rfl rfl (take_ofW HT_.out HW_.out (by kernel_rfl)) (fun _ _ _ h => h) (Or.inl ⟨by rfl, ?_⟩) hHeld ?_ ?_;rotate_left
             ·
              rintro w' ⟨s0, s1, s2, s3⟩
              go_simp;with_reducible rfl
             rotate_left
             ·
              simp only [Act.put, sA, sB, sC, i64_w, i32_w];rfl
             refine take_ (i := 7) (N := some 23) (v := ?_) (a' := ?_) #[true, true, true, true, true, true, true, true, false, false] rfl rfl (take_ofW HT_.out HW_.out (by kernel_rfl)) (fun _ _ _ h => h) (Or.inl ⟨by rfl, ?_⟩) hHeld ?_ ?_;rotate_left
             ·
              rintro w' ⟨s0, s1, s2, s3⟩
              go_simp;with_reducible rfl
             rotate_left
             ·
              simp only [Act.put, sA, sB, sC, i64_w, i32_w];rfl
             refine one_ (i := 8) (N := some 24) #[true, true, true, true, true, true, true, true, true, false] rfl rfl (one_of HT_.out (by kernel_rfl)) (by decide) (fun K hK => ?_);refine goes_ Try.func86 (by kernel_rfl) rfl #[.slice A156_1 ((rd_T72 x0_1 0).f1).length c156_1, .slice A157_1 ((rd_T72 x1_1 0).f1).length c157_1] (by rfl) rfl rfl (by (try simp only [mA, mB, mC]); first | done | rfl) ?_
             with_reducible refine (impl_compare.calls kj4 _ _ ((rd_T72 x0_1 0).f1) _ _ ((rd_T72 x1_1 0).f1) t158 _ ?side1 ?side2 ?side3 ?side4 A13.out).mono ?_
             (case side1 => exact Kd.cm ((by repeat (first | (with_reducible exact HR156_1.out) | (with_reducible refine Kd.C_alloc ?_ _) | (with_reducible refine Kd.C_drewN ?_ _) | (with_reducible refine Kd.C_drew ?_) | exact HR156_1.out))));(case side2 => exact HC156_1.out);(case side3 => exact Kd.cm ((by repeat (first | (with_reducible exact HR157_1.out) | (with_reducible refine Kd.C_alloc ?_ _) | (with_reducible refine Kd.C_drewN ?_ _) | (with_reducible refine Kd.C_drew ?_) | exact HR157_1.out))));(case side4 => exact HC157_1.out)
             rintro e w38 ⟨rfl, hb⟩
             have HS0_ := (hb.cell (World.block_lt_of_cell? _ _ (hHeld.1))).trans (hHeld.1);have HS1_ := (hb.cell (World.block_lt_of_cell? _ _ (hHeld.2.1))).trans (hHeld.2.1);have HS2_ := (hb.cell (World.block_lt_of_cell? _ _ (hHeld.2.2.1))).trans (hHeld.2.2.1);have HS3_ := (hb.cell (World.block_lt_of_cell? _ _ (hHeld.2.2.2))).trans (hHeld.2.2.2);refine ⟨_, rfl, ?_⟩;replace HO_0 := am (Kd.V_below (Kd.vm HO_0.out) hb);replace HO_1 := am (Kd.V_below (Kd.vm HO_1.out) hb);replace HO_5 := am (Kd.N_below (Kd.nm HO_5.out) hb);replace HL156_1 := am (Kd.V_below (Kd.vm HL156_1.out) hb);replace HL157_1 := am (Kd.V_below (Kd.vm HL157_1.out) hb);replace HR156_1 := am (Kd.C_below (by repeat (first | (with_reducible exact HR156_1.out) | (with_reducible refine Kd.C_alloc ?_ _) | (with_reducible refine Kd.C_drewN ?_ _) | (with_reducible refine Kd.C_drew ?_) | exact HR156_1.out)) hb);replace HR157_1 := am (Kd.C_below (by repeat (first | (with_reducible exact HR157_1.out) | (with_reducible refine Kd.C_alloc ?_ _) | (with_reducible refine Kd.C_drewN ?_ _) | (with_reducible refine Kd.C_drew ?_) | exact HR157_1.out)) hb);replace HB := am (below_step (bm HB.out) hb);(try clear hb);refine hK.out _ _ ⟨HS0_, HS1_, HS2_, HS3_⟩ (fun hHeld => ?_);clear hK K;refine norm_ (a' := ?_) ?_ ?_;rotate_left
             ·
              show Act.put _ (some 24) _ = _
              simp only [Act.put, sA, sB, sC, i64_w, i32_w];rfl
             refine pure_ (i := 9) (N := some 6) (v := ?_) (a' := ?_) #[true, true, true, true, true, true, true, true, true, true] rfl rfl (any_of HT_.out (by kernel_rfl)) (fun _ _ _ h => h) (Or.inl ⟨by rfl, ?_⟩) ?_ ?_;rotate_left
             ·
              intro w';go_simp;with_reducible rfl
             rotate_left
             ·
              simp only [Act.put, sA, sB, sC, i64_w, i32_w];rfl
             refine done_ (done_of HT_.out (by kernel_rfl)) ?_;(try go_wp2);replace HO_0 := am (Kd.V_drew HO_0.out);replace HO_1 := am (Kd.V_drew HO_1.out);replace HO_5 := am (Kd.N_drew HO_5.out);replace HL156_1 := am (Kd.V_drew HL156_1.out);replace HL157_1 := am (Kd.V_drew HL157_1.out);replace HR156_1 := am (Kd.C_drew HR156_1.out);replace HR157_1 := am (Kd.C_drew HR157_1.out);replace HB := am (below_drew1 HB.out);have p177 : 0 ≤ (0 : Int) := (by omega);have q177 : 0 < (x0_1.length : Int) := of_decide_eq_true (by assumption);obtain ⟨ad177, A177_1, c177_1, e177, hx177_0, hx177_1, hl177_1, hi177_1⟩ := at_T72 (Kd.V_reads' HO_0.out).2.2 0 p177 q177;(try clear hx156_0);(try clear hx156_1);(try clear hx156_2);(try clear hx156_3);(try clear hx159_0);(try clear hx159_1);(try clear hx159_2);(try clear hx159_3);(try clear hx156_0);(try clear hx156_1);(try clear hx156_2);(try clear hx156_3);(try clear hx156_0);(try clear hx156_1);(try clear hx156_2);(try clear hx156_3);(try clear HS0_);(try clear HS1_);(try clear HS2_);(try clear HS3_);(try clear HS4_);(try clear HS5_);(try clear HS6_);(try clear HS7_);(try clear HS8_);(try clear HS9_);(try clear hHeld);obtain rfl : ad156 = ad177 := (by injection e177);obtain ⟨ce177, hce177, hMe177, hcc177⟩ := Kd.V_get HO_0.out z72 0 p177 (by first | exact q177 | exact of_decide_eq_true (by assumption) | (have e_ := (Kd.V_reads' HO_0.out).1; omega));obtain ⟨ua177_1, uc177_1, rfl, ul177_1, ge177_1⟩ := k72_openF hMe177;have hv177_1 := hcc177 1 _ rfl;rw [add_field _ _ 1 (by omega)] at hv177_1;replace hv177_1 := Option.some.inj (hv177_1.symm.trans hx177_1)
             injection hv177_1 with hva_ hvn_ hvc_
             rw [hva_] at ge177_1;rw [hvc_] at ul177_1;have HL177_1 := am (show Kd.V k72 72 _ w.heap.size _ _ ((rd_T72 x0_1 0).f1) from Kd.V_mk ul177_1 ge177_1);clear hva_ hvn_ hvc_ ge177_1 ul177_1;clear hcc177 hce177;have qi177 : (0 < x0_1.length) = True := eq_true (by omega);(try rw [show ((0 : Int)).toNat = 0 from rfl] at hx177_0);(try rw [show 0 * 2 = 0 from rfl] at hx177_0);(try rw [Addr.add_zero'] at hx177_0);(try rw [show ((0 : Int)).toNat = 0 from rfl] at hx177_1);(try rw [show 0 * 2 = 0 from rfl] at hx177_1);(try rw [Addr.add_zero'] at hx177_1);have HR177_1 := am hi177_1;have HC177_1 := am hl177_1;clear hi177_1 hl177_1;replace p177 := eq_true p177;replace q177 := eq_true q177;have p178 : 0 ≤ (0 : Int) := (by omega);have q178 : 0 < (x1_1.length : Int) := of_decide_eq_true (by assumption);obtain ⟨ad178, A178_1, c178_1, e178, hx178_0, hx178_1, hl178_1, hi178_1⟩ := at_T72 (Kd.V_reads' HO_1.out).2.2 0 p178 q178;(try clear hx157_0);(try clear hx157_1);(try clear hx157_2);(try clear hx157_3);(try clear hx157_0);(try clear hx157_1);(try clear hx157_2);(try clear hx157_3);(try clear hx168_0);(try clear hx168_1);(try clear hx168_2);(try clear hx168_3);(try clear hx157_0);(try clear hx157_1);(try clear hx157_2);(try clear hx157_3);(try clear HS0_);(try clear HS1_);(try clear HS2_);(try clear HS3_);(try clear HS4_);(try clear HS5_);(try clear HS6_);(try clear HS7_);(try clear HS8_);(try clear HS9_);(try clear hHeld);obtain rfl : ad157 = ad178 := (by injection e178);obtain ⟨ce178, hce178, hMe178, hcc178⟩ := Kd.V_get HO_1.out z72 0 p178 (by first | exact q178 | exact of_decide_eq_true (by assumption) | (have e_ := (Kd.V_reads' HO_1.out).1; omega));obtain ⟨ua178_1, uc178_1, rfl, ul178_1, ge178_1⟩ := k72_openF hMe178;have hv178_1 := hcc178 1 _ rfl;rw [add_field _ _ 1 (by omega)] at hv178_1;replace hv178_1 := Option.some.inj (hv178_1.symm.trans hx178_1)
             injection hv178_1 with hva_ hvn_ hvc_
             rw [hva_] at ge178_1;rw [hvc_] at ul178_1;have HL178_1 := am (show Kd.V k72 72 _ w.heap.size _ _ ((rd_T72 x1_1 0).f1) from Kd.V_mk ul178_1 ge178_1);clear hva_ hvn_ hvc_ ge178_1 ul178_1;clear hcc178 hce178;have qi178 : (0 < x1_1.length) = True := eq_true (by omega);(try rw [show ((0 : Int)).toNat = 0 from rfl] at hx178_0);(try rw [show 0 * 2 = 0 from rfl] at hx178_0);(try rw [Addr.add_zero'] at hx178_0);(try rw [show ((0 : Int)).toNat = 0 from rfl] at hx178_1);(try rw [show 0 * 2 = 0 from rfl] at hx178_1);(try rw [Addr.add_zero'] at hx178_1);have HR178_1 := am hi178_1;have HC178_1 := am hl178_1;clear hi178_1 hl178_1;replace p178 := eq_true p178;replace q178 := eq_true q178;have p179 : 0 ≤ (0 : Int) := (by omega);have q179 : 0 < (x0_1.length : Int) := of_decide_eq_true (by assumption);obtain ⟨ad179, A179_1, c179_1, e179, hx179_0, hx179_1, hl179_1, hi179_1⟩ := at_T72 (Kd.V_reads' HO_0.out).2.2 0 p179 q179;(try clear hx156_0);(try clear hx156_1);(try clear hx156_2);(try clear hx156_3);(try clear hx159_0);(try clear hx159_1);(try clear hx159_2);(try clear hx159_3);(try clear hx156_0);(try clear hx156_1);(try clear hx156_2);(try clear hx156_3);(try clear hx156_0);(try clear hx156_1);(try clear hx156_2);(try clear hx156_3);(try clear HS0_);(try clear HS1_);(try clear HS2_);(try clear HS3_);(try clear HS4_);(try clear HS5_);(try clear HS6_);(try clear HS7_);(try clear HS8_);(try clear HS9_);obtain rfl : ad156 = ad179 := (by injection e179);obtain ⟨ce179, hce179, hMe179, hcc179⟩ := Kd.V_get HO_0.out z72 0 p179 (by first | exact q179 | exact of_decide_eq_true (by assumption) | (have e_ := (Kd.V_reads' HO_0.out).1; omega));obtain ⟨ua179_1, uc179_1, rfl, ul179_1, ge179_1⟩ := k72_openF hMe179;have hv179_1 := hcc179 1 _ rfl;rw [add_field _ _ 1 (by omega)] at hv179_1;replace hv179_1 := Option.some.inj (hv179_1.symm.trans hx179_1)
             injection hv179_1 with hva_ hvn_ hvc_
             rw [hva_] at ge179_1;rw [hvc_] at ul179_1;have HL179_1 := am (show Kd.V k72 72 _ w.heap.size _ _ ((rd_T72 x0_1 0).f1) from Kd.V_mk ul179_1 ge179_1);clear hva_ hvn_ hvc_ ge179_1 ul179_1;clear hcc179 hce179;have qi179 : (0 < x0_1.length) = True := eq_true (by omega);(try rw [show ((0 : Int)).toNat = 0 from rfl] at hx179_0);(try rw [show 0 * 2 = 0 from rfl] at hx179_0);(try rw [Addr.add_zero'] at hx179_0);(try rw [show ((0 : Int)).toNat = 0 from rfl] at hx179_1);(try rw [show 0 * 2 = 0 from rfl] at hx179_1);(try rw [Addr.add_zero'] at hx179_1);have HR179_1 := am hi179_1;have HC179_1 := am hl179_1;clear hi179_1 hl179_1;replace p179 := eq_true p179;replace q179 := eq_true q179;have ea_ := Option.some.inj (hx177_1.symm.trans hx179_1)
             injection ea_ with ea_ en_ ec_
             subst ea_;subst ec_;clear en_;refine start_ (n := 18) (S := fun w' => w'.cell? ad156 = some (.int .i64 ((rd_T72 x0_1 0).f0)) ∧ w'.cell? ⟨ad156.block, ad156.off + 1, none⟩ = some (.slice A177_1 ((rd_T72 x0_1 0).f1).length c177_1) ∧ w'.cell? ad157 = some (.int .i64 ((rd_T72 x1_1 0).f0)) ∧ w'.cell? ⟨ad157.block, ad157.off + 1, none⟩ = some (.slice A178_1 ((rd_T72 x1_1 0).f1).length c178_1) ∧ w'.cell? ad156 = some (.int .i64 ((rd_T72 x0_1 0).f0)) ∧ w'.cell? ⟨ad156.block, ad156.off + 1, none⟩ = some (.slice A177_1 ((rd_T72 x0_1 0).f1).length c177_1)) (ds := [15, 16]) #[false, false, false, false, false, false, false, false, false, false, false, false, false, false, false, false, false, false] (by kernel_rfl) rfl rfl ⟨hx177_0, hx177_1, hx178_0, hx178_1, hx179_0, hx179_1⟩ (fun hHeld => ?_); refine with_tabW impl_natural.tab4 impl_natural.bits4 (fun HT_ HW_ => ?_);generalize w38.drew = w39 at HO_0 HO_1 HO_5 HL156_1 HL157_1 HR156_1 HR157_1 HB HL177_1 HL178_1 HL179_1 HR177_1 HR178_1 HR179_1 hx177_0 hx177_1 hx178_0 hx178_1 hx179_0 hx179_1 hHeld ⊢;refine pure_ (i := 0) (N := some 25) (v := ?_) (a' := ?_) #[true, false, false, false, false, false, false, false, false, false, false, false, false, false, false, false, false, false] rfl rfl (any_of HT_.out (by kernel_rfl)) (fun _ _ _ h => h) (Or.inl ⟨by rfl, ?_⟩) ?_ ?_;rotate_left
             ·
              intro w';go_simp;with_reducible rfl
             rotate_left
             ·
              simp only [Act.put, sA, sB, sC, i64_w, i32_w];rfl
             refine pure_ (i := 1) (N := some 26) (v := ?_) (a' := ?_) #[true, true, false, false, false, false, false, false, false, false, false, false, false, false, false, false, false, false] rfl rfl (any_of HT_.out (by kernel_rfl)) (fun _ _ _ h => h) (Or.inl ⟨by rfl, ?_⟩) ?_ ?_;rotate_left
             ·
              intro w';go_simp;with_reducible rfl
             rotate_left
             ·
              simp only [Act.put, sA, sB, sC, i64_w, i32_w];rfl
             refine pure_ (i := 2) (N := some 27) (v := ?_) (a' := ?_) #[true, true, true, false, false, false, false, false, false, false, false, false, false, false, false, false, false, false] rfl rfl (any_of HT_.out (by kernel_rfl)) (fun _ _ _ h => h) (Or.inl ⟨by rfl, ?_⟩) ?_ ?_;rotate_left
             ·
              intro w';go_simp;with_reducible rfl
             rotate_left
             ·
              simp only [Act.put, sA, sB, sC, i64_w, i32_w];rfl
             refine pure_ (i := 3) (N := some 28) (v := ?_) (a' := ?_) #[true, true, true, true, false, false, false, false, false, false, false, false, false, false, false, false, false, false] rfl rfl (any_of HT_.out (by kernel_rfl)) (fun _ _ _ h => h) (Or.inl ⟨by rfl, ?_⟩) ?_ ?_;rotate_left
             ·
              intro w';go_simp;with_reducible rfl
             rotate_left
             ·
              simp only [Act.put, sA, sB, sC, i64_w, i32_w];rfl
             refine pure_ (i := 5) (N := some 30) (v := ?_) (a' := ?_) #[true, true, true, true, false, true, false, false, false, false, false, false, false, false, false, false, false, false] rfl rfl (any_of HT_.out (by kernel_rfl)) (fun _ _ _ h => h) (Or.inl ⟨by rfl, ?_⟩) ?_ ?_;rotate_left
             ·
              intro w';go_simp;with_reducible rfl
             rotate_left
             ·
              simp only [Act.put, sA, sB, sC, i64_w, i32_w];rfl
             refine pure_ (i := 6) (N := some 31) (v := ?_) (a' := ?_) #[true, true, true, true, false, true, true, false, false, false, false, false, false, false, false, false, false, false] rfl rfl (any_of HT_.out (by kernel_rfl)) (fun _ _ _ h => h) (Or.inl ⟨by rfl, ?_⟩) ?_ ?_;rotate_left
             ·
              intro w';go_simp;with_reducible rfl
             rotate_left
             ·
              simp only [Act.put, sA, sB, sC, i64_w, i32_w];rfl
             refine pure_ (i := 7) (N := some 32) (v := ?_) (a' := ?_) #[true, true, true, true, false, true, true, true, false, false, false, false, false, false, false, false, false, false] rfl rfl (any_of HT_.out (by kernel_rfl)) (fun _ _ _ h => h) (Or.inl ⟨by rfl, ?_⟩) ?_ ?_;rotate_left
             ·
              intro w';go_simp;with_reducible rfl
             rotate_left
             ·
              simp only [Act.put, sA, sB, sC, i64_w, i32_w];rfl
             refine pure_ (i := 10) (N := some 35) (v := ?_) (a' := ?_) #[true, true, true, true, false, true, true, true, false, false, true, false, false, false, false, false, false, false] rfl rfl (any_of HT_.out (by kernel_rfl)) (fun _ _ _ h => h) (Or.inl ⟨by rfl, ?_⟩) ?_ ?_;rotate_left
             ·
              intro w';go_simp;with_reducible rfl
             rotate_left
             ·
              simp only [Act.put, sA, sB, sC, i64_w, i32_w];rfl
             refine pure_ (i := 11) (N := some 36) (v := ?_) (a' := ?_) #[true, true, true, true, false, true, true, true, false, false, true, true, false, false, false, false, false, false] rfl rfl (any_of HT_.out (by kernel_rfl)) (fun _ _ _ h => h) (Or.inl ⟨by rfl, ?_⟩) ?_ ?_;rotate_left
             ·
              intro w';go_simp;with_reducible rfl
             rotate_left
             ·
              simp only [Act.put, sA, sB, sC, i64_w, i32_w];rfl
             refine pure_ (i := 12) (N := some 37) (v := ?_) (a' := ?_) #[true, true, true, true, false, true, true, true, false, false, true, true, true, false, false, false, false, false] rfl rfl (any_of HT_.out (by kernel_rfl)) (fun _ _ _ h => h) (Or.inl ⟨by rfl, ?_⟩) ?_ ?_;rotate_left
             ·
              intro w';go_simp;with_reducible rfl
             rotate_left
             ·
              simp only [Act.put, sA, sB, sC, i64_w, i32_w];rfl
             refine take_ (i := 4) (N := some 29) (v := ?_) (a' := ?_) #[true, true, true, true, true, true, true, true, false, false, true, true, true, false, false, false, false, false] rfl rfl (take_ofW HT_.out HW_.out (by kernel_rfl)) (fun _ _ _ h => h) (Or.inl ⟨by rfl, ?_⟩) hHeld ?_ ?_;rotate_left
             ·
              rintro w' ⟨s0, s1, s2, s3, s4, s5⟩
              go_simp;with_reducible rfl
             rotate_left
             ·
              simp only [Act.put, sA, sB, sC, i64_w, i32_w];rfl
             refine take_ (i := 8) (N := some 33) (v := ?_) (a' := ?_) #[true, true, true, true, true, true, true, true, true, false, true, true, true, false, false, false, false, false] rfl rfl (take_ofW HT_.out HW_.out (by kernel_rfl)) (fun _ _ _ h => h) (Or.inl ⟨by rfl, ?_⟩) hHeld ?_ ?_;rotate_left
             ·
              rintro w' ⟨s0, s1, s2, s3, s4, s5⟩
              go_simp;with_reducible rfl
             rotate_left
             ·
              simp only [Act.put, sA, sB, sC, i64_w, i32_w];rfl
             refine pure_ (i := 9) (N := some 34) (v := ?_) (a' := ?_) #[true, true, true, true, true, true, true, true, true, true, true, true, true, false, false, false, false, false] rfl rfl (any_of HT_.out (by kernel_rfl)) (fun _ _ _ h => h) (Or.inl ⟨by rfl, ?_⟩) ?_ ?_;rotate_left
             ·
              intro w';go_simp;with_reducible rfl
             rotate_left
             ·
              simp only [Act.put, sA, sB, sC, i64_w, i32_w];rfl
             refine take_ (i := 13) (N := some 38) (v := ?_) (a' := ?_) #[true, true, true, true, true, true, true, true, true, true, true, true, true, true, false, false, false, false] rfl rfl (take_ofW HT_.out HW_.out (by kernel_rfl)) (fun _ _ _ h => h) (Or.inl ⟨by rfl, ?_⟩) hHeld ?_ ?_;rotate_left
             ·
              rintro w' ⟨s0, s1, s2, s3, s4, s5⟩
              go_simp;with_reducible rfl
             rotate_left
             ·
              simp only [Act.put, sA, sB, sC, i64_w, i32_w];rfl
             refine pure_ (i := 14) (N := some 39) (v := ?_) (a' := ?_) #[true, true, true, true, true, true, true, true, true, true, true, true, true, true, true, false, false, false] rfl rfl (any_of HT_.out (by kernel_rfl)) (fun _ _ _ h => h) (Or.inl ⟨by rfl, ?_⟩) ?_ ?_;rotate_left
             ·
              intro w';go_simp;with_reducible rfl
             rotate_left
             ·
              simp only [Act.put, sA, sB, sC, i64_w, i32_w];rfl
             refine last_ (i := 15) (N := some 40) #[true, true, true, true, true, true, true, true, true, true, true, true, true, true, true, true, false, false] rfl rfl (one_of HT_.out (by kernel_rfl)) (by decide) (fun K hK => ?_);refine value_ (w1 := ?_) (v := ?_) (by rfl) rfl ?_ ?_;rotate_left 2
             ·
              go_simp
              constructor
              ·
               rfl
              ·
               rfl
             refine hK.out _ _ ?_;clear hK K;refine norm_ (a' := ?_) ?_ ?_;rotate_left
             ·
              show Act.put _ (some 40) _ = _
              simp only [Act.put, sA, sB, sC, i64_w, i32_w];rfl
             refine last_ (i := 16) (N := some 41) #[true, true, true, true, true, true, true, true, true, true, true, true, true, true, true, true, true, false] rfl rfl (one_of HT_.out (by kernel_rfl)) (by decide) (fun K hK => ?_);refine Kd.N_append_step k72 (w0 := w) w.heap.size (by rfl) (.tmp 25) (.tmp 40) 40 72 (.agg #[(.int .i64 0), (.slice none 0 0)]) 32 rfl Try.underlying40 info72 rfl (by decide) (by omega) u5 x5_1 (⟨wrap64 (((rd_T72 x0_1 0).f0) + ((rd_T72 x1_1 0).f0)), (rd_T72 x0_1 0).f1⟩ : S72) [.int .i64 (wrap64 (((rd_T72 x0_1 0).f0) + ((rd_T72 x1_1 0).f0))), .slice A177_1 ((rd_T72 x0_1 0).f1).length c177_1] (fun k_ => ((P0_ k_ ∨ P1_ k_) ∨ w.heap.size ≤ k_)) (fun k_ => ((fun k_ => ((P0_ k_ ∨ P1_ k_) ∨ w.heap.size ≤ k_))) k_ ∧ some k_ ≠ (u5 : Value).ownBlock) rfl rfl ?aP (fun _ hk => hk) ?aF ?aO ?aB ?aS ?aL ?_
             (case aP => exact (k72_mkF _ _ (⟨wrap64 (((rd_T72 x0_1 0).f0) + ((rd_T72 x1_1 0).f0)), (rd_T72 x0_1 0).f1⟩ : S72) (Kd.V_reads' (Kd.V_mono (ok' := (fun k_ => ((fun k_ => ((P0_ k_ ∨ P1_ k_) ∨ w.heap.size ≤ k_))) k_ ∧ some k_ ≠ (u5 : Value).ownBlock)) (HL179_1.out) (fun k_ hk => ⟨hk.1, hk.2⟩))).2.1 (Kd.V_F (Kd.V_mono (ok' := (fun k_ => ((fun k_ => ((P0_ k_ ∨ P1_ k_) ∨ w.heap.size ≤ k_))) k_ ∧ some k_ ≠ (u5 : Value).ownBlock)) (HL179_1.out) (fun k_ hk => ⟨hk.1, hk.2⟩)))))
             (case aB => exact (bm HB.out))
             (case aF => exact (fun k_ hk => (.inr (Nat.le_trans (below_size (bm HB.out)) hk))))
             (case aO => exact (Kd.nm HO_5.out))
             (case aS => exact (below_size (bm HB.out)))
             (case aL => have := LMc32.out; omega)
             intro v181 w40 ho hb hg hat;rw [← hy180.out] at ho;replace HO_0 := am (Kd.V_afterv (ok := (fun k_ => ((P0_ k_ ∨ P1_ k_) ∨ w.heap.size ≤ k_))) (Kd.vm HO_0.out) hg hat);replace HO_1 := am (Kd.V_afterv (ok := (fun k_ => ((P0_ k_ ∨ P1_ k_) ∨ w.heap.size ≤ k_))) (Kd.vm HO_1.out) hg hat);replace HL156_1 := am (Kd.V_afterv (ok := (fun k_ => ((P0_ k_ ∨ P1_ k_) ∨ w.heap.size ≤ k_))) (Kd.vm HL156_1.out) hg hat);replace HL157_1 := am (Kd.V_afterv (ok := (fun k_ => ((P0_ k_ ∨ P1_ k_) ∨ w.heap.size ≤ k_))) (Kd.vm HL157_1.out) hg hat);replace HL177_1 := am (Kd.V_afterv (ok := (fun k_ => ((P0_ k_ ∨ P1_ k_) ∨ w.heap.size ≤ k_))) (Kd.vm HL177_1.out) hg hat);replace HL178_1 := am (Kd.V_afterv (ok := (fun k_ => ((P0_ k_ ∨ P1_ k_) ∨ w.heap.size ≤ k_))) (Kd.vm HL178_1.out) hg hat);replace HL179_1 := am (Kd.V_afterv (ok := (fun k_ => ((P0_ k_ ∨ P1_ k_) ∨ w.heap.size ≤ k_))) (Kd.vm HL179_1.out) hg hat);replace HB := am (hb);have HO182 := am (ho);clear HO_5;clear ho hb hg hat;refine hK.out _ _ ?_;clear hK K;refine norm_ (a' := ?_) ?_ ?_;rotate_left
             ·
              show Act.put _ (some 41) _ = _
              simp only [Act.put, sA, sB, sC, i64_w, i32_w];rfl
             refine pure_ (i := 17) (N := some 5) (v := ?_) (a' := ?_) #[true, true, true, true, true, true, true, true, true, true, true, true, true, true, true, true, true, true] rfl rfl (any_of HT_.out (by kernel_rfl)) (fun _ _ _ h => h) (Or.inl ⟨by rfl, ?_⟩) ?_ ?_;rotate_left
             ·
              intro w';go_simp;with_reducible rfl
             rotate_left
             ·
              simp only [Act.put, sA, sB, sC, i64_w, i32_w];rfl
             refine done_ (done_of HT_.out (by kernel_rfl)) ?_;(try go_wp2);replace HO_0 := am (Kd.V_drew HO_0.out);replace HO_1 := am (Kd.V_drew HO_1.out);replace HL156_1 := am (Kd.V_drew HL156_1.out);replace HL157_1 := am (Kd.V_drew HL157_1.out);replace HL177_1 := am (Kd.V_drew HL177_1.out);replace HL178_1 := am (Kd.V_drew HL178_1.out);replace HL179_1 := am (Kd.V_drew HL179_1.out);replace HO182 := am (Kd.N_drew HO182.out);replace HB := am (below_drew1 HB.out);have q42 : (1 : Int) ≤ ((x0_1.length : Int) : Int) := of_decide_eq_true (by assumption);obtain ⟨i042, hi042, _, hsz42, _⟩ := info_parts info72;have hroom42 : x0_1.length ≤ co36 := (Kd.V_reads' HO_0.out).2.1;have hC42 : Kd.F k72 _ _ (some ad156) x0_1.length x0_1 := (Kd.V_at (base := w.heap.size) HO_0.out).2.2;have hcut42 := cut_from (P := Try.prog) 40 72 .i64 Try.underlying40 hi042 2 hsz42 (some ad156) x0_1.length co36 1 (by omega) q42;have hr42 := Kd.F_cut (m := (1 : Int).toNat) (c := co36) hC42 (by omega) hroom42
             obtain ⟨A42, hA42⟩ : ∃ A1, A1 = (if co36 = (1 : Int).toNat then (some ad156) else ((some ad156) : Option Addr).map (·.add ((1 : Int).toNat * 2))) := ⟨_, rfl⟩
             obtain ⟨c42, hc42⟩ : ∃ c1, c1 = co36 - (1 : Int).toNat := ⟨_, rfl⟩
             have hy42 : y183.length = x0_1.length - (1 : Int).toNat := (by rw [hy183.out, List.length_drop] <;> omega);rw [show (x0_1).drop (1 : Int).toNat = y183 from hy183.out.symm] at hr42;replace hr42 : Kd.F k72 _ _ A42 y183.length y183 := (by rw [hA42]; exact hr42);rw [← hy42, ← hA42, ← hc42] at hcut42;have HO187 := am (show Kd.V k72 72 _ w.heap.size _ (.slice A42 y183.length c42) y183 from Kd.V_mk (by rw [hy42, hc42]; exact Nat.sub_le_sub_right hroom42 _) hr42);have HC187 := am (show y183.length ≤ c42 from by rw [hy42, hc42]; exact Nat.sub_le_sub_right hroom42 _);clear hr42 hC42 hroom42 hi042 hsz42 hc42;have KY42 := am hy42;have KA42 := am hA42;clear hy42 hA42;replace q42 := eq_true q42;have q43 : (1 : Int) ≤ ((x1_1.length : Int) : Int) := of_decide_eq_true (by assumption);obtain ⟨i043, hi043, _, hsz43, _⟩ := info_parts info72;have hroom43 : x1_1.length ≤ co37 := (Kd.V_reads' HO_1.out).2.1;have hC43 : Kd.F k72 _ _ (some ad157) x1_1.length x1_1 := (Kd.V_at (base := w.heap.size) HO_1.out).2.2;have hcut43 := cut_from (P := Try.prog) 40 72 .i64 Try.underlying40 hi043 2 hsz43 (some ad157) x1_1.length co37 1 (by omega) q43;have hr43 := Kd.F_cut (m := (1 : Int).toNat) (c := co37) hC43 (by omega) hroom43
             obtain ⟨A43, hA43⟩ : ∃ A1, A1 = (if co37 = (1 : Int).toNat then (some ad157) else ((some ad157) : Option Addr).map (·.add ((1 : Int).toNat * 2))) := ⟨_, rfl⟩
             obtain ⟨c43, hc43⟩ : ∃ c1, c1 = co37 - (1 : Int).toNat := ⟨_, rfl⟩
             have hy43 : y188.length = x1_1.length - (1 : Int).toNat := (by rw [hy188.out, List.length_drop] <;> omega);rw [show (x1_1).drop (1 : Int).toNat = y188 from hy188.out.symm] at hr43;replace hr43 : Kd.F k72 _ _ A43 y188.length y188 := (by rw [hA43]; exact hr43);rw [← hy43, ← hA43, ← hc43] at hcut43;have HO192 := am (show Kd.V k72 72 _ w.heap.size _ (.slice A43 y188.length c43) y188 from Kd.V_mk (by rw [hy43, hc43]; exact Nat.sub_le_sub_right hroom43 _) hr43);have HC192 := am (show y188.length ≤ c43 from by rw [hy43, hc43]; exact Nat.sub_le_sub_right hroom43 _);clear hr43 hC43 hroom43 hi043 hsz43 hc43;have KY43 := am hy43;have KA43 := am hA43;clear hy43 hA43;replace q43 := eq_true q43;refine start_ (n := 6) (S := fun w' => True) (ds := []) #[false, false, false, false, false, false] (by kernel_rfl) rfl rfl trivial (fun hHeld => ?_);generalize w40.drew = w41 at HO_0 HO_1 HL156_1 HL157_1 HL177_1 HL178_1 HL179_1 HO182 HB HO187 HO192 hHeld ⊢;refine pure_ (i := 0) (N := some 42) (v := ?_) (a' := ?_) #[true, false, false, false, false, false] rfl rfl (by kernel_rfl) (fun _ _ _ h => h) (Or.inl ⟨by rfl, ?_⟩) ?_ ?_;rotate_left
             ·
              intro w';go_simp;with_reducible rfl
             rotate_left
             ·
              simp only [Act.put, sA, sB, sC, i64_w, i32_w];rfl
             refine pure_ (i := 1) (N := some 43) (v := ?_) (a' := ?_) #[true, true, false, false, false, false] rfl rfl (by kernel_rfl) (fun _ _ _ h => h) (Or.inl ⟨by rfl, ?_⟩) ?_ ?_;rotate_left
             ·
              intro w';go_simp;with_reducible rfl
             rotate_left
             ·
              simp only [Act.put, sA, sB, sC, i64_w, i32_w];rfl
             refine pure_ (i := 2) (N := some 44) (v := ?_) (a' := ?_) #[true, true, true, false, false, false] rfl rfl (by kernel_rfl) (fun _ _ _ h => h) (Or.inl ⟨by rfl, ?_⟩) ?_ ?_;rotate_left
             ·
              intro w';go_simp;with_reducible rfl
             rotate_left
             ·
              simp only [Act.put, sA, sB, sC, i64_w, i32_w];rfl
             refine pure_ (i := 3) (N := some 45) (v := ?_) (a' := ?_) #[true, true, true, true, false, false] rfl rfl (by kernel_rfl) (fun _ _ _ h => h) (Or.inl ⟨by rfl, ?_⟩) ?_ ?_;rotate_left
             ·
              intro w';go_simp;with_reducible rfl
             rotate_left
             ·
              simp only [Act.put, sA, sB, sC, i64_w, i32_w];rfl
             refine pure_ (i := 4) (N := some 0) (v := ?_) (a' := ?_) #[true, true, true, true, true, false] rfl rfl (by kernel_rfl) (fun _ _ _ h => h) (Or.inl ⟨by rfl, ?_⟩) ?_ ?_;rotate_left
             ·
              intro w';go_simp;with_reducible rfl
             rotate_left
             ·
              simp only [Act.put, sA, sB, sC, i64_w, i32_w];rfl
             refine pure_ (i := 5) (N := some 1) (v := ?_) (a' := ?_) #[true, true, true, true, true, true] rfl rfl (by kernel_rfl) (fun _ _ _ h => h) (Or.inl ⟨by rfl, ?_⟩) ?_ ?_;rotate_left
             ·
              intro w';go_simp;with_reducible rfl
             rotate_left
             ·
              simp only [Act.put, sA, sB, sC, i64_w, i32_w];rfl
             refine done_ (by kernel_rfl) ?_;(try go_wp2)
             go_roundg kj4
             case measure => have := HK1.out; have := HJ4.out; omega
             case rel => exact ⟨(y183), (y188), (y180), H', ⟨by have := HK1.out; have := HJ4.out; omega⟩, ⟨by (with_reducible repeat (first | apply Kd.V_alloc | apply Kd.V_drewN | apply Kd.V_drew)); first | exact HO187.out | (rw [hy183.out.trans hy163.out.symm]; exact HO167.out)⟩, ⟨by (with_reducible repeat (first | apply Kd.V_alloc | apply Kd.V_drewN | apply Kd.V_drew)); first | exact HO192.out | (rw [hy188.out.trans hy172.out.symm]; exact HO176.out)⟩, ⟨Kd.nm HO182.out⟩, ⟨bm HB.out⟩⟩
            ·
             rw [if_neg c34] at H;exact absurd H (by simp)
           ·
            rw [if_neg c33] at H;exact absurd H (by simp)
          ·
           rw [if_neg c32] at H;exact absurd H (by simp)
       ·
        rw [if_neg c12] at H;exact absurd H (by simp)
      ·
       rw [if_neg c11] at H;exact absurd H (by simp)
     ·
      replace c10 := Bool.eq_false_iff.mpr c10;subst c10
      have H1 : (if x5_1.length + x0_1.length < 4398046511104 then ((some (x5_1 ++ x0_1 : List (S72))).bind fun y150 => (if y150.length + x1_1.length < 4398046511104 then (some (y150 ++ x1_1)) else (none))) else (none)) = some r := by rw [if_neg (show ¬ (false = true) by decide)] at H; exact H
      clear H;have H := H1;clear H1;by_cases c44 : x5_1.length + x0_1.length < 4398046511104
      ·
       rw [if_pos c44] at H;have LMc44 := am c44;clear c44
       obtain ⟨y150, hy150⟩ : ∃ y_ : List (S72), y_ = (x5_1 ++ x0_1) := ⟨_, rfl⟩
       replace H : (if y150.length + x1_1.length < 4398046511104 then (some (y150 ++ x1_1)) else (none)) = some r := by first | (rw [hy150]; with_reducible exact H) | (have H2_ := oB H; rw [hy150]; with_reducible exact H2_) | (have H2_ := oB H; with_reducible exact H2_) | with_reducible exact H | (rw [hy150]; exact H) | exact H
       replace hy150 := am hy150;by_cases c45 : y150.length + x1_1.length < 4398046511104
       ·
        rw [if_pos c45] at H;have LMc45 := am c45;clear c45
        obtain ⟨y153, hy153⟩ : ∃ y_ : List (S72), y_ = (y150 ++ x1_1) := ⟨_, rfl⟩
        replace H : (some y153) = some r := by first | (rw [hy153]; with_reducible exact H) | (have H2_ := oB H; rw [hy153]; with_reducible exact H2_) | (have H2_ := oB H; with_reducible exact H2_) | with_reducible exact H | (rw [hy153]; exact H) | exact H
        replace hy153 := am hy153;obtain rfl := Option.some.inj H;obtain ⟨Ao47, co47, eo47⟩ := Kd.V_slice HO_0.out;subst eo47;go_wp2_with (first | ((with_reducible refine gate_builtin (b := .append) (xs := #[.tmp 68, .tmp 69]) rfl ?_); (try (refine gate_guard (by rfl) ?_; dsimp only)); at_builtin; refine Kd.N_append_rows k72 (w0 := w) w.heap.size rfl (.tmp 68) (.tmp 69) 40 72 (.agg #[(.int .i64 0), (.slice none 0 0)]) 32 rfl Try.underlying40 info72 rfl (by decide) (by omega) u5 x5_1 x0_1 _ _ _ (fun k_ => ((P0_ k_ ∨ P1_ k_) ∨ w.heap.size ≤ k_)) (fun k_ => ((fun k_ => ((P0_ k_ ∨ P1_ k_) ∨ w.heap.size ≤ k_))) k_ ∧ some k_ ≠ (u5 : Value).ownBlock) rfl rfl ?aO ?aR (fun _ hk => hk) ?aF ?aB ?aS ?aL ?_; (case aR => exact (by skip; exact Kd.V_F (Kd.V_mono (ok' := (fun k_ => ((fun k_ => ((P0_ k_ ∨ P1_ k_) ∨ w.heap.size ≤ k_))) k_ ∧ some k_ ≠ (u5 : Value).ownBlock)) (HO_0.out) (fun k_ hk => ⟨hk.1, hk.2⟩)))); (case aB => exact (bm HB.out)); (case aF => exact (fun k_ hk => (.inr (Nat.le_trans (below_size (bm HB.out)) hk)))); (case aO => exact (Kd.nm HO_5.out)); (case aS => exact (below_size (bm HB.out))); (case aL => have := LMc44.out; omega); intro v151 w46 ho hb hg hat; rw [← hy150.out] at ho; replace HO_0 := am (Kd.V_afterv (ok := (fun k_ => ((P0_ k_ ∨ P1_ k_) ∨ w.heap.size ≤ k_))) (Kd.vm HO_0.out) hg hat);replace HO_1 := am (Kd.V_afterv (ok := (fun k_ => ((P0_ k_ ∨ P1_ k_) ∨ w.heap.size ≤ k_))) (Kd.vm HO_1.out) hg hat);replace HB := am (hb);have HO152 := am (ho);clear HO_5; clear ho hb hg hat; obtain ⟨Ao49, co49, eo49⟩ := Kd.V_slice HO_1.out; subst eo49) | ((with_reducible refine gate_builtin (b := .append) (xs := #[.tmp 70, .tmp 71]) rfl ?_); (try (refine gate_guard (by rfl) ?_; dsimp only)); at_builtin; refine Kd.N_append_rows k72 (w0 := w) w.heap.size rfl (.tmp 70) (.tmp 71) 40 72 (.agg #[(.int .i64 0), (.slice none 0 0)]) 32 rfl Try.underlying40 info72 rfl (by decide) (by omega) v151 y150 x1_1 _ _ _ (fun k_ => ((P0_ k_ ∨ P1_ k_) ∨ w.heap.size ≤ k_)) (fun k_ => ((fun k_ => ((P0_ k_ ∨ P1_ k_) ∨ w.heap.size ≤ k_))) k_ ∧ some k_ ≠ (v151 : Value).ownBlock) rfl rfl ?aO ?aR (fun _ hk => hk) ?aF ?aB ?aS ?aL ?_; (case aR => exact (by skip; exact Kd.V_F (Kd.V_mono (ok' := (fun k_ => ((fun k_ => ((P0_ k_ ∨ P1_ k_) ∨ w.heap.size ≤ k_))) k_ ∧ some k_ ≠ (v151 : Value).ownBlock)) (HO_1.out) (fun k_ hk => ⟨hk.1, hk.2⟩)))); (case aB => exact (bm HB.out)); (case aF => exact (fun k_ hk => (.inr (Nat.le_trans (below_size (bm HB.out)) hk)))); (case aO => exact (Kd.nm HO152.out)); (case aS => exact (below_size (bm HB.out))); (case aL => have := LMc45.out; omega); intro v154 w48 ho hb hg hat; rw [← hy153.out] at ho; replace HO_0 := am (Kd.V_afterv (ok := (fun k_ => ((P0_ k_ ∨ P1_ k_) ∨ w.heap.size ≤ k_))) (Kd.vm HO_0.out) hg hat);replace HO_1 := am (Kd.V_afterv (ok := (fun k_ => ((P0_ k_ ∨ P1_ k_) ∨ w.heap.size ≤ k_))) (Kd.vm HO_1.out) hg hat);replace HB := am (hb);have HO155 := am (ho);clear HO152; clear ho hb hg hat));go_ret;exact ⟨_, by first | rfl | (simp [errW_none, errW_some] <;> rfl) | (simp [*, errW_none, errW_some] <;> rfl), Kd.nm HO155.out, bm HB.out⟩
       ·
        rw [if_neg c45] at H;exact absurd H (by simp)
      ·
       rw [if_neg c44] at H;exact absurd H (by simp)

end Go.Proofs.Ytahhdbjjfdjloaa.Je

-- half
-- Written by a program of this session's (wip/mp) out of the translation, over the kit's print with changes.
import Derived.Test.YtmidgjmlgjjobaaIgx0
import Derived.Test.YtmidgjmlgjjobaaIgx7
namespace Go.Proofs.Ytmidgjmlgjjobaa.Ig
open Go.RowKit Go.Proofs.YtmidgjmlgjjobaaW.PrintWords Go.Proofs.YtmidgjmlgjjobaaW.PrintLast Go.Proofs.YtmidgjmlgjjobaaW.PrintMore
attribute [local go_sem] max2_int min2_int max_two min_two max_three min_three max_four min_four   -- for this text's walks alone
set_option linter.unusedVariables false
set_option linter.unusedSimpArgs false

/-! ### impl_natural: function 65 -/
mutual
def impl_natural.l0 : Nat → List (S89) → List (S89) → List (S89) → Option ((List (S89)))
 | 0, _, _, _ => none
 | k + 1, x0, x1, x5 => if (x0.length : Int) > 0 then (impl_natural.j1 k x0 x1 x5 (decide ((x1.length : Int) > 0))) else (impl_natural.j1 k x0 x1 x5 false)
def impl_natural.j1 : Nat → List (S89) → List (S89) → List (S89) → Bool → Option ((List (S89)))
 | 0, _, _, _, _ => none
 | k + 1, x0, x1, x5, x15 => if x15 = true then (if 0 < (x0.length : Int) then (if 0 < (x1.length : Int) then ((impl_compare.f k ((rd_T89 x0 0).f1) ((rd_T89 x1 0).f1)).bind fun t332 => (if t332 > 0 then (if x5.length < 4398046511104 then (if 1 ≤ (x0.length : Int) then (impl_natural.l0 k (x0.drop 1) x1 (x5 ++ [(⟨(rd_T89 x0 0).f0, (rd_T89 x0 0).f1⟩ : S89)])) else (none)) else (none)) else (if t332 < 0 then (if x5.length < 4398046511104 then (if 1 ≤ (x1.length : Int) then (impl_natural.l0 k x0 (x1.drop 1) (x5 ++ [(⟨(rd_T89 x1 0).f0, (rd_T89 x1 0).f1⟩ : S89)])) else (none)) else (none)) else (if x5.length < 4398046511104 then (if 1 ≤ (x0.length : Int) then (if 1 ≤ (x1.length : Int) then (impl_natural.l0 k (x0.drop 1) (x1.drop 1) (x5 ++ [(⟨wrap64 (((rd_T89 x0 0).f0) + ((rd_T89 x1 0).f0)), (rd_T89 x0 0).f1⟩ : S89)])) else (none)) else (none)) else (none))))) else (none)) else (none)) else (if x5.length + x0.length < 4398046511104 then ((some (x5 ++ x0 : List (S89))).bind fun y324 => (if y324.length + x1.length < 4398046511104 then (some (y324 ++ x1)) else (none))) else (none))
end
def impl_natural.f (k : Nat) (l0 : List (S89)) (l1 : List (S89)) : Option ((List (S89))) := impl_natural.l0 k l0 l1 (([] : List (S89)))
theorem impl_natural.mono_l : ∀ k, (∀ y0 y1 y2, LeO (impl_natural.l0 k y0 y1 y2) (impl_natural.l0 (k + 1) y0 y1 y2)) ∧ (∀ y0 y1 y2 y3, LeO (impl_natural.j1 k y0 y1 y2 y3) (impl_natural.j1 (k + 1) y0 y1 y2 y3))
 | 0 => ⟨fun _ _ _ r h => by simp [impl_natural.l0] at h, fun _ _ _ _ r h => by simp [impl_natural.j1] at h⟩
 | k + 1 => by
  obtain ⟨ih0, ih1⟩ := impl_natural.mono_l k;refine ⟨?_, ?_⟩
  all_goals (intros; first | unfold impl_natural.l0 | unfold impl_natural.j1)
  all_goals repeat' first | (with_reducible exact ih0 _ _ _) | (with_reducible exact ih1 _ _ _ _) | (with_reducible exact impl_compare.mono _ _ _) | (with_reducible exact LeO.refl _) | (with_reducible exact LeO.none _) | (with_reducible refine LeO.ite ?_ ?_) | (with_reducible refine LeO.bind ?_ (fun _ => ?_))
theorem impl_natural.mono : ∀ a0 a1 k, LeO (impl_natural.f k a0 a1) (impl_natural.f (k + 1) a0 a1) := by
 intro a0 a1 k;obtain ⟨ih0, ih1⟩ := impl_natural.mono_l k;unfold impl_natural.f
 repeat' first | (with_reducible exact ih0 _ _ _) | (with_reducible exact ih1 _ _ _ _) | (with_reducible exact impl_compare.mono _ _ _) | (with_reducible exact LeO.refl _) | (with_reducible exact LeO.none _) | (with_reducible refine LeO.ite ?_ ?_) | (with_reducible refine LeO.bind ?_ (fun _ => ?_))
def impl_natural.T3 : Bool × List (List Nat × List Nat) := (true, [([], []), ([0], [0]), ([1], [1]), ([2], [2]), ([], []), ([4], [4]), ([5], [5]), ([6], [6]), ([3, 7], [3, 7]), ([8, 8, 0, 1, 2, 3, 4, 5, 6, 7, 8], [8])])
def impl_natural.B3 : List Nat := [0, 1, 3, 7, 0, 16, 48, 112, 255, 511]
theorem impl_natural.tab3 : rtab .any (opsOf Try.f65 3) = impl_natural.T3 := by kernel_rfl
theorem impl_natural.bits3 : waitsOk impl_natural.T3.2 impl_natural.B3 = true := by kernel_rfl
def impl_natural.T4 : Bool × List (List Nat × List Nat) := (true, [([], []), ([], []), ([1], [1]), ([2], [2]), ([3], [3]), ([], []), ([5], [5]), ([6], [6]), ([7], [7]), ([4, 8], [4, 8]), ([], []), ([10], [10]), ([11], [11]), ([12], [12]), ([9, 13], [9, 13]), ([14], [14]), ([0, 15], [0, 15]), ([16, 16, 0, 1, 2, 3, 4, 5, 6, 7, 8, 9, 10, 11, 12, 13, 14, 15, 16], [0, 16])])
def impl_natural.B4 : List Nat := [0, 0, 2, 6, 14, 0, 32, 96, 224, 510, 0, 1024, 3072, 7168, 16382, 32766, 65535, 131071]
theorem impl_natural.tab4 : rtab .any (opsOf Try.f65 4) = impl_natural.T4 := by kernel_rfl
theorem impl_natural.bits4 : waitsOk impl_natural.T4.2 impl_natural.B4 = true := by kernel_rfl
set_option maxHeartbeats 8000000 in
set_option maxRecDepth 100000 in
theorem impl_natural.calls (k : Nat) (P0_ : Nat → Prop) (A0 : Option Addr) (c0 : Nat) (l0 : List (S89)) (P1_ : Nat → Prop) (A1 : Option Addr) (c1 : Nat) (l1 : List (S89)) (r : List (S89)) (w : World) (hs0 : Kd.V k89 89 w w.heap.size (fun k_ => P0_ k_) (.slice A0 l0.length c0) l0) (hs1 : Kd.V k89 89 w w.heap.size (fun k_ => P1_ k_) (.slice A1 l1.length c1) l1) (h : impl_natural.f k l0 l1 = some r) :
  Calls Try.prog 65 #[.slice A0 l0.length c0, .slice A1 l1.length c1] w fun e w' => ∃ v0_ : Value, e = .returned (v0_) ∧ Kd.N k89 89 w' w.heap.size (fun k_ => ((P0_ k_ ∨ P1_ k_) ∨ w.heap.size ≤ k_)) v0_ r ∧ Below w.heap.size w w' := by
 have hu89 := Try.underlying89;have HO0 := am (show Kd.V k89 89 w w.heap.size (fun k_ => ((P0_ k_ ∨ P1_ k_) ∨ w.heap.size ≤ k_)) (.slice A0 l0.length c0) l0 from Kd.V_mono hs0 (fun k_ hk => .inl (.inl hk)));have HO1 := am (show Kd.V k89 89 w w.heap.size (fun k_ => ((P0_ k_ ∨ P1_ k_) ∨ w.heap.size ≤ k_)) (.slice A1 l1.length c1) l1 from Kd.V_mono hs1 (fun k_ hk => .inl (.inr hk)));have HB := am (Below.refl w.heap.size w);have H : (impl_natural.l0 k l0 l1 (([] : List (S89)))) = some r := h;clear h
 obtain ⟨y321, hy321⟩ : ∃ y_ : List (S89), y_ = (([] : List (S89))) := ⟨_, rfl⟩
 replace H : (impl_natural.l0 k l0 l1 y321) = some r := by first | (rw [hy321]; with_reducible exact H) | (have H2_ := oB H; rw [hy321]; with_reducible exact H2_) | (have H2_ := oB H; with_reducible exact H2_) | with_reducible exact H | (rw [hy321]; exact H) | exact H
 replace hy321 := am hy321;have H' := am H;clear H;go_enter Try.func65, Try.ntmps65;go_wp2_with (first | ((with_reducible refine gate_dst (N := 7) rfl ?_); (try (refine gate_guard (by rfl) ?_; dsimp only)); refine Kd.N_lit k89 _ 89 ?hg (N' := 7) ?hd (xs := ([] : List (S89))) (inner := []) (ok := (fun k_ => ((P0_ k_ ∨ P1_ k_) ∨ w.heap.size ≤ k_))) (okp := (fun k_ => ((P0_ k_ ∨ P1_ k_) ∨ w.heap.size ≤ k_))) ?hr ?hp (fun _ hk => hk) ((show ∀ k_, w.heap.size ≤ k_ → (fun k_ => ((P0_ k_ ∨ P1_ k_) ∨ w.heap.size ≤ k_)) k_ from fun k_ hk => (.inr (Nat.le_trans (below_size (bm HB.out)) hk))) _ (Nat.le_refl _)) (Below.refl _ _) (Nat.le_refl _) (by simp) ?_; (case hd => rfl); (case hg => rfl); (case hr => first | (go_simp; done) | (go_simp; rfl)); (case hp => exact (Reps.none _ _)); intro v322 w3 ho4 hb hg_ hnew_; clear hg_ hnew_; (first | rw [← hy321.out] at ho4 | (simp only [Int.reduceToNat] at ho4; rw [← hy321.out] at ho4)); replace HO0 := am (Kd.V_elder' (Kd.vm HO0.out) (Kd.N_base ho4) hb);replace HO1 := am (Kd.V_elder' (Kd.vm HO1.out) (Kd.N_base ho4) hb);have HO323 := am (Kd.N_lower ho4 (below_size (bm HB.out)));replace HB := am (below_step (bm HB.out) hb); clear hb ho4))
 go_loopg [0, 1, 5] k (fun kq v0 v1 v5 w' => ∃ (x0_1 : List (S89)) (x1_1 : List (S89)) (x5_1 : List (S89)), Aside0 (impl_natural.l0 kq x0_1 x1_1 x5_1 = some r) ∧ Aside0 (kq ≤ k) ∧ Aside0 (Kd.V k89 89 w' w.heap.size (fun k_ => ((P0_ k_ ∨ P1_ k_) ∨ w.heap.size ≤ k_) ∧ some k_ ≠ (v5 : Value).ownBlock) v0 x0_1) ∧ Aside0 (Kd.V k89 89 w' w.heap.size (fun k_ => ((P0_ k_ ∨ P1_ k_) ∨ w.heap.size ≤ k_) ∧ some k_ ≠ (v5 : Value).ownBlock) v1 x1_1) ∧ Aside0 (Kd.N k89 89 w' w.heap.size (fun k_ => ((P0_ k_ ∨ P1_ k_) ∨ w.heap.size ≤ k_)) v5 x5_1) ∧ Aside0 (Below w.heap.size w w'))
 case atStart => exact ⟨(l0), (l1), (y321), H', ⟨Nat.le_refl _⟩, ⟨Kd.vm HO0.out⟩, ⟨Kd.vm HO1.out⟩, ⟨Kd.nm HO323.out⟩, ⟨bm HB.out⟩⟩
 case round =>
  clear H';(try clear c1);(try clear p2);(try clear HO_0);(try clear HO_1);(try clear HO_5);(try clear HB);obtain ⟨x0_1, x1_1, x5_1, HA, HK1, HO_0, HO_1, HO_5, HB⟩ := hrel
  cases gk with
  | zero => exact absurd HA.out (by simp [impl_natural.l0])
  | succ k1 =>
   have H := HA.out;clear HA;simp only [impl_natural.l0] at H;have HC5 := am H;clear H
   go_upto_region 2 with (fail)
   go_cut [15] (fun v15 wc => ∃ (kq : Nat) (x15_4 : Bool), v15 = .bool x15_4 ∧ Aside0 (impl_natural.j1 kq x0_1 x1_1 x5_1 x15_4 = some r) ∧ Aside0 (kq ≤ k1) ∧ Aside0 (Kd.V k89 89 wc w.heap.size (fun k_ => ((P0_ k_ ∨ P1_ k_) ∨ w.heap.size ≤ k_) ∧ some k_ ≠ (u5 : Value).ownBlock) u0 x0_1) ∧ Aside0 (Kd.V k89 89 wc w.heap.size (fun k_ => ((P0_ k_ ∨ P1_ k_) ∨ w.heap.size ≤ k_) ∧ some k_ ≠ (u5 : Value).ownBlock) u1 x1_1) ∧ Aside0 (Kd.N k89 89 wc w.heap.size (fun k_ => ((P0_ k_ ∨ P1_ k_) ∨ w.heap.size ≤ k_)) u5 x5_1) ∧ Aside0 (Below w.heap.size w wc))
   case first =>
    have H := HC5.out;clear HC5;by_cases c6 : (x0_1.length : Int) > 0
    ·
     rw [if_pos c6] at H;have c6b0 : decide (0 < (x0_1.length : Int)) = true := decide_eq_true c6;have c6b1 : decide (0 < x0_1.length) = true := decide_eq_true (by omega);clear c6
     (first | rw [c6b0] | (simp only [i64_w, i32_w]; rw [c6b0]) | skip)
     have H' := am H;clear H;obtain ⟨Ao7, co7, eo7⟩ := Kd.V_slice HO_0.out;subst eo7;obtain ⟨Ao8, co8, eo8⟩ := Kd.V_slice HO_1.out;subst eo8;go_wp2;go_meet
     case rel => exact ⟨_, (decide ((x1_1.length : Int) > 0)), (by first | rfl | (simp; done) | (simp [*]; done)), H', ⟨by have := HK1.out; first | omega | exact Nat.le_refl _⟩, ⟨Kd.vm HO_0.out⟩, ⟨Kd.vm HO_1.out⟩, ⟨Kd.nm HO_5.out⟩, ⟨bm HB.out⟩⟩
    ·
     rw [if_neg c6] at H;have c6b0 : decide (0 < (x0_1.length : Int)) = false := decide_eq_false c6;have c6b1 : decide (0 < x0_1.length) = false := decide_eq_false (by omega);clear c6
     (first | rw [c6b0] | (simp only [i64_w, i32_w]; rw [c6b0]) | skip)
     have H' := am H;clear H;obtain ⟨Ao9, co9, eo9⟩ := Kd.V_slice HO_0.out;subst eo9;go_wp2;go_meet
     case rel => exact ⟨_, (false), (by first | rfl | (simp; done) | (simp [*]; done)), H', ⟨by have := HK1.out; first | omega | exact Nat.le_refl _⟩, ⟨Kd.vm HO_0.out⟩, ⟨Kd.vm HO_1.out⟩, ⟨Kd.nm HO_5.out⟩, ⟨bm HB.out⟩⟩
   case rest =>
    clear HC5;(try clear c1);(try clear p2);(try clear c6);(try clear c6b0);(try clear c6b1);(try clear p2);obtain ⟨kq, x15_4, rfl, HA, HJ4, HO_0, HO_1, HO_5, HB⟩ := hcut
    cases kq with
    | zero => exact absurd HA.out (by simp [impl_natural.j1])
    | succ kj4 =>
     have H := HA.out;clear HA;simp only [impl_natural.j1] at H;by_cases c10 : x15_4 = true
     ·
      subst c10
      have H1 : (if 0 < (x0_1.length : Int) then (if 0 < (x1_1.length : Int) then ((impl_compare.f kj4 ((rd_T89 x0_1 0).f1) ((rd_T89 x1_1 0).f1)).bind fun t332 => (if t332 > 0 then (if x5_1.length < 4398046511104 then (if 1 ≤ (x0_1.length : Int) then (impl_natural.l0 kj4 (x0_1.drop 1) x1_1 (x5_1 ++ [(⟨(rd_T89 x0_1 0).f0, (rd_T89 x0_1 0).f1⟩ : S89)])) else (none)) else (none)) else (if t332 < 0 then (if x5_1.length < 4398046511104 then (if 1 ≤ (x1_1.length : Int) then (impl_natural.l0 kj4 x0_1 (x1_1.drop 1) (x5_1 ++ [(⟨(rd_T89 x1_1 0).f0, (rd_T89 x1_1 0).f1⟩ : S89)])) else (none)) else (none)) else (if x5_1.length < 4398046511104 then (if 1 ≤ (x0_1.length : Int) then (if 1 ≤ (x1_1.length : Int) then (impl_natural.l0 kj4 (x0_1.drop 1) (x1_1.drop 1) (x5_1 ++ [(⟨wrap64 (((rd_T89 x0_1 0).f0) + ((rd_T89 x1_1 0).f0)), (rd_T89 x0_1 0).f1⟩ : S89)])) else (none)) else (none)) else (none))))) else (none)) else (none)) = some r := by rw [if_pos rfl] at H; exact H
      clear H;have H := H1;clear H1;by_cases c11 : 0 < (x0_1.length : Int)
      ·
       rw [if_pos c11] at H;have c11b0 : decide (0 < (x0_1.length : Int)) = true := decide_eq_true c11;have c11b1 : decide (0 < x0_1.length) = true := decide_eq_true (by omega);clear c11;by_cases c12 : 0 < (x1_1.length : Int)
       ·
        rw [if_pos c12] at H;have c12b0 : decide (0 < (x1_1.length : Int)) = true := decide_eq_true c12;have c12b1 : decide (0 < x1_1.length) = true := decide_eq_true (by omega);clear c12;replace H := oE H;obtain ⟨t332, A13, H⟩ := H;replace H : (if t332 > 0 then (if x5_1.length < 4398046511104 then (if 1 ≤ (x0_1.length : Int) then (impl_natural.l0 kj4 (x0_1.drop 1) x1_1 (x5_1 ++ [(⟨(rd_T89 x0_1 0).f0, (rd_T89 x0_1 0).f1⟩ : S89)])) else (none)) else (none)) else (if t332 < 0 then (if x5_1.length < 4398046511104 then (if 1 ≤ (x1_1.length : Int) then (impl_natural.l0 kj4 x0_1 (x1_1.drop 1) (x5_1 ++ [(⟨(rd_T89 x1_1 0).f0, (rd_T89 x1_1 0).f1⟩ : S89)])) else (none)) else (none)) else (if x5_1.length < 4398046511104 then (if 1 ≤ (x0_1.length : Int) then (if 1 ≤ (x1_1.length : Int) then (impl_natural.l0 kj4 (x0_1.drop 1) (x1_1.drop 1) (x5_1 ++ [(⟨wrap64 (((rd_T89 x0_1 0).f0) + ((rd_T89 x1_1 0).f0)), (rd_T89 x0_1 0).f1⟩ : S89)])) else (none)) else (none)) else (none)))) = some r := H;replace A13 := am A13;by_cases c14 : t332 > 0
        ·
         rw [if_pos c14] at H;have c14b0 : decide (0 < t332) = true := decide_eq_true c14;clear c14;by_cases c15 : x5_1.length < 4398046511104
         ·
          rw [if_pos c15] at H;have LMc15 := am c15;clear c15
          obtain ⟨y334, hy334⟩ : ∃ y_ : List (S89), y_ = (x5_1 ++ [(⟨(rd_T89 x0_1 0).f0, (rd_T89 x0_1 0).f1⟩ : S89)]) := ⟨_, rfl⟩
          replace H : (if 1 ≤ (x0_1.length : Int) then (impl_natural.l0 kj4 (x0_1.drop 1) x1_1 y334) else (none)) = some r := by first | (rw [hy334]; with_reducible exact H) | (have H2_ := oB H; rw [hy334]; with_reducible exact H2_) | (have H2_ := oB H; with_reducible exact H2_) | with_reducible exact H | (rw [hy334]; exact H) | exact H
          replace hy334 := am hy334;by_cases c16 : 1 ≤ (x0_1.length : Int)
          ·
           rw [if_pos c16] at H;have c16b0 := eq_true c16;have c16b1 : decide (1 ≤ (x0_1.length : Int)) = true := decide_eq_true c16;clear c16
           obtain ⟨y337, hy337⟩ : ∃ y_ : List (S89), y_ = (x0_1.drop 1) := ⟨_, rfl⟩
           replace H : (impl_natural.l0 kj4 y337 x1_1 y334) = some r := by first | (rw [hy337]; with_reducible exact H) | (have H2_ := oB H; rw [hy337]; with_reducible exact H2_) | (have H2_ := oB H; with_reducible exact H2_) | with_reducible exact H | (rw [hy337]; exact H) | exact H
           replace hy337 := am hy337;have H' := am H;clear H;(try go_wp2);replace HO_0 := am (Kd.V_drew HO_0.out);replace HO_1 := am (Kd.V_drew HO_1.out);replace HO_5 := am (Kd.N_drew HO_5.out);replace HB := am (below_drew1 HB.out);obtain ⟨Ao18, co18, eo18⟩ := Kd.V_slice HO_0.out
           (first | subst eo18 | (injection eo18 with f1_ f2_ f3_; have f4_ := f1_.symm; have f5_ := f3_.symm; clear f1_ f2_ f3_; subst f4_; subst f5_))
           have p330 : 0 ≤ (0 : Int) := (by omega);have q330 : 0 < (x0_1.length : Int) := of_decide_eq_true (by assumption);obtain ⟨ad330, A330_1, c330_1, e330, hx330_0, hx330_1, hl330_1, hi330_1⟩ := at_T89 (Kd.V_reads' HO_0.out).2.2 0 p330 q330;cases e330
           obtain ⟨ce330, hce330, hMe330, hcc330⟩ := Kd.V_get HO_0.out z89 0 p330 (by first | exact q330 | exact of_decide_eq_true (by assumption) | (have e_ := (Kd.V_reads' HO_0.out).1; omega));obtain ⟨ua330_1, uc330_1, rfl, ul330_1, ge330_1⟩ := k89_openF hMe330;have hv330_1 := hcc330 1 _ rfl;rw [add_field _ _ 1 (by omega)] at hv330_1;replace hv330_1 := Option.some.inj (hv330_1.symm.trans hx330_1)
           injection hv330_1 with hva_ hvn_ hvc_
           rw [hva_] at ge330_1;rw [hvc_] at ul330_1;have HL330_1 := am (show Kd.V k89 89 _ w.heap.size _ _ ((rd_T89 x0_1 0).f1) from Kd.V_mk ul330_1 ge330_1);clear hva_ hvn_ hvc_ ge330_1 ul330_1;clear hcc330 hce330;have qi330 : (0 < x0_1.length) = True := eq_true (by omega);(try rw [show ((0 : Int)).toNat = 0 from rfl] at hx330_0);(try rw [show 0 * 2 = 0 from rfl] at hx330_0);(try rw [Addr.add_zero'] at hx330_0);(try rw [show ((0 : Int)).toNat = 0 from rfl] at hx330_1);(try rw [show 0 * 2 = 0 from rfl] at hx330_1);(try rw [Addr.add_zero'] at hx330_1);have HR330_1 := am hi330_1;have HC330_1 := am hl330_1;clear hi330_1 hl330_1;replace p330 := eq_true p330;replace q330 := eq_true q330;obtain ⟨Ao19, co19, eo19⟩ := Kd.V_slice HO_1.out
           (first | subst eo19 | (injection eo19 with f1_ f2_ f3_; have f4_ := f1_.symm; have f5_ := f3_.symm; clear f1_ f2_ f3_; subst f4_; subst f5_))
           have p331 : 0 ≤ (0 : Int) := (by omega);have q331 : 0 < (x1_1.length : Int) := of_decide_eq_true (by assumption);obtain ⟨ad331, A331_1, c331_1, e331, hx331_0, hx331_1, hl331_1, hi331_1⟩ := at_T89 (Kd.V_reads' HO_1.out).2.2 0 p331 q331;cases e331
           obtain ⟨ce331, hce331, hMe331, hcc331⟩ := Kd.V_get HO_1.out z89 0 p331 (by first | exact q331 | exact of_decide_eq_true (by assumption) | (have e_ := (Kd.V_reads' HO_1.out).1; omega));obtain ⟨ua331_1, uc331_1, rfl, ul331_1, ge331_1⟩ := k89_openF hMe331;have hv331_1 := hcc331 1 _ rfl;rw [add_field _ _ 1 (by omega)] at hv331_1;replace hv331_1 := Option.some.inj (hv331_1.symm.trans hx331_1)
           injection hv331_1 with hva_ hvn_ hvc_
           rw [hva_] at ge331_1;rw [hvc_] at ul331_1;have HL331_1 := am (show Kd.V k89 89 _ w.heap.size _ _ ((rd_T89 x1_1 0).f1) from Kd.V_mk ul331_1 ge331_1);clear hva_ hvn_ hvc_ ge331_1 ul331_1;clear hcc331 hce331;have qi331 : (0 < x1_1.length) = True := eq_true (by omega);(try rw [show ((0 : Int)).toNat = 0 from rfl] at hx331_0);(try rw [show 0 * 2 = 0 from rfl] at hx331_0);(try rw [Addr.add_zero'] at hx331_0);(try rw [show ((0 : Int)).toNat = 0 from rfl] at hx331_1);(try rw [show 0 * 2 = 0 from rfl] at hx331_1);(try rw [Addr.add_zero'] at hx331_1);have HR331_1 := am hi331_1;have HC331_1 := am hl331_1;clear hi331_1 hl331_1;replace p331 := eq_true p331;replace q331 := eq_true q331;refine start_ (n := 10) (S := fun w' => w'.cell? ad330 = some (.int .i64 ((rd_T89 x0_1 0).f0)) ∧ w'.cell? ⟨ad330.block, ad330.off + 1, none⟩ = some (.slice A330_1 ((rd_T89 x0_1 0).f1).length c330_1) ∧ w'.cell? ad331 = some (.int .i64 ((rd_T89 x1_1 0).f0)) ∧ w'.cell? ⟨ad331.block, ad331.off + 1, none⟩ = some (.slice A331_1 ((rd_T89 x1_1 0).f1).length c331_1)) (ds := []) #[false, false, false, false, false, false, false, false, false, false] (by kernel_rfl) rfl rfl ⟨hx330_0, hx330_1, hx331_0, hx331_1⟩ (fun hHeld => ?_); refine with_tabW impl_natural.tab3 impl_natural.bits3 (fun HT_ HW_ => ?_);generalize wc.drew = w17 at HO_0 HO_1 HO_5 HB HL330_1 HL331_1 HR330_1 HR331_1 hx330_0 hx330_1 hx331_0 hx331_1 hHeld ⊢;refine pure_ (i := 0) (N := some 16) (v := ?_) (a' := ?_) #[true, false, false, false, false, false, false, false, false, false] rfl rfl (any_of HT_.out (by kernel_rfl)) (fun _ _ _ h => h) (Or.inl ⟨by rfl, ?_⟩) ?_ ?_;rotate_left
           ·
            intro w';go_simp;with_reducible rfl
           rotate_left
           ·
            simp only [Act.put, sA, sB, sC, i64_w, i32_w];rfl
           refine pure_ (i := 1) (N := some 17) (v := ?_) (a' := ?_) #[true, true, false, false, false, false, false, false, false, false] rfl rfl (any_of HT_.out (by kernel_rfl)) (fun _ _ _ h => h) (Or.inl ⟨by rfl, ?_⟩) ?_ ?_;rotate_left
           ·
            intro w';go_simp;with_reducible rfl
           rotate_left
           ·
            simp only [Act.put, sA, sB, sC, i64_w, i32_w];rfl
           refine pure_ (i := 2) (N := some 18) (v := ?_) (a' := ?_) #[true, true, true, false, false, false, false, false, false, false] rfl rfl (any_of HT_.out (by kernel_rfl)) (fun _ _ _ h => h) (Or.inl ⟨by rfl, ?_⟩) ?_ ?_;rotate_left
           ·
            intro w';go_simp;with_reducible rfl
           rotate_left
           ·
            simp only [Act.put, sA, sB, sC, i64_w, i32_w];rfl
           refine pure_ (i := 4) (N := some 20) (v := ?_) (a' := ?_) #[true, true, true, false, true, false, false, false, false, false] rfl rfl (any_of HT_.out (by kernel_rfl)) (fun _ _ _ h => h) (Or.inl ⟨by rfl, ?_⟩) ?_ ?_;rotate_left
           ·
            intro w';go_simp;with_reducible rfl
           rotate_left
           ·
            simp only [Act.put, sA, sB, sC, i64_w, i32_w];rfl
           refine pure_ (i := 5) (N := some 21) (v := ?_) (a' := ?_) #[true, true, true, false, true, true, false, false, false, false] rfl rfl (any_of HT_.out (by kernel_rfl)) (fun _ _ _ h => h) (Or.inl ⟨by rfl, ?_⟩) ?_ ?_;rotate_left
           ·
            intro w';go_simp;with_reducible rfl
           rotate_left
           ·
            simp only [Act.put, sA, sB, sC, i64_w, i32_w];rfl
           refine pure_ (i := 6) (N := some 22) (v := ?_) (a' := ?_) #[true, true, true, false, true, true, true, false, false, false] rfl rfl (any_of HT_.out (by kernel_rfl)) (fun _ _ _ h => h) (Or.inl ⟨by rfl, ?_⟩) ?_ ?_;rotate_left
           ·
            intro w';go_simp;with_reducible rfl
           rotate_left
           ·
            simp only [Act.put, sA, sB, sC, i64_w, i32_w];rfl
           refine take_ (i := 3) (N := some 19) (v := ?_) (a' := ?_) #[true, true, true, true, true, true, true, false, false, false] rfl rfl (take_ofW HT_.out HW_.out (by kernel_rfl)) (fun _ _ _ h => h) (Or.inl ⟨by rfl, ?_⟩) hHeld ?_ ?_;rotate_left
           ·
            rintro w' ⟨s0, s1, s2, s3⟩
            go_simp;with_reducible rfl
           rotate_left
           ·
            simp only [Act.put, sA, sB, sC, i64_w, i32_w];rfl
           refine take_ (i := 7) (N := some 23) (v := ?_) (a' := ?_) #[true, true, true, true, true, true, true, true, false, false] rfl rfl (take_ofW HT_.out HW_.out (by kernel_rfl)) (fun _ _ _ h => h) (Or.inl ⟨by rfl, ?_⟩) hHeld ?_ ?_;rotate_left
           ·
            rintro w' ⟨s0, s1, s2, s3⟩
            go_simp;with_reducible rfl
           rotate_left
           ·
            simp only [Act.put, sA, sB, sC, i64_w, i32_w];rfl
           refine one_ (i := 8) (N := some 24) #[true, true, true, true, true, true, true, true, true, false] rfl rfl (one_of HT_.out (by kernel_rfl)) (by decide) (fun K hK => ?_);refine goes_ Try.func46 (by kernel_rfl) rfl #[.slice A330_1 ((rd_T89 x0_1 0).f1).length c330_1, .slice A331_1 ((rd_T89 x1_1 0).f1).length c331_1] (by rfl) rfl rfl (by (try simp only [mA, mB, mC]); first | done | rfl) ?_
           with_reducible refine (impl_compare.calls kj4 _ _ ((rd_T89 x0_1 0).f1) _ _ ((rd_T89 x1_1 0).f1) t332 _ ?side1 ?side2 ?side3 ?side4 A13.out).mono ?_
           (case side1 => exact Kd.cm ((by repeat (first | (with_reducible exact HR330_1.out) | (with_reducible refine Kd.C_alloc ?_ _) | (with_reducible refine Kd.C_drewN ?_ _) | (with_reducible refine Kd.C_drew ?_) | exact HR330_1.out))));(case side2 => exact HC330_1.out);(case side3 => exact Kd.cm ((by repeat (first | (with_reducible exact HR331_1.out) | (with_reducible refine Kd.C_alloc ?_ _) | (with_reducible refine Kd.C_drewN ?_ _) | (with_reducible refine Kd.C_drew ?_) | exact HR331_1.out))));(case side4 => exact HC331_1.out)
           rintro e w20 ⟨rfl, hb⟩
           have HS0_ := (hb.cell (World.block_lt_of_cell? _ _ (hHeld.1))).trans (hHeld.1);have HS1_ := (hb.cell (World.block_lt_of_cell? _ _ (hHeld.2.1))).trans (hHeld.2.1);have HS2_ := (hb.cell (World.block_lt_of_cell? _ _ (hHeld.2.2.1))).trans (hHeld.2.2.1);have HS3_ := (hb.cell (World.block_lt_of_cell? _ _ (hHeld.2.2.2))).trans (hHeld.2.2.2);refine ⟨_, rfl, ?_⟩;replace HO_0 := am (Kd.V_below (Kd.vm HO_0.out) hb);replace HO_1 := am (Kd.V_below (Kd.vm HO_1.out) hb);replace HO_5 := am (Kd.N_below (Kd.nm HO_5.out) hb);replace HL330_1 := am (Kd.V_below (Kd.vm HL330_1.out) hb);replace HL331_1 := am (Kd.V_below (Kd.vm HL331_1.out) hb);replace HR330_1 := am (Kd.C_below (by repeat (first | (with_reducible exact HR330_1.out) | (with_reducible refine Kd.C_alloc ?_ _) | (with_reducible refine Kd.C_drewN ?_ _) | (with_reducible refine Kd.C_drew ?_) | exact HR330_1.out)) hb);replace HR331_1 := am (Kd.C_below (by repeat (first | (with_reducible exact HR331_1.out) | (with_reducible refine Kd.C_alloc ?_ _) | (with_reducible refine Kd.C_drewN ?_ _) | (with_reducible refine Kd.C_drew ?_) | exact HR331_1.out)) hb);replace HB := am (below_step (bm HB.out) hb);(try clear hb);refine hK.out _ _ ⟨HS0_, HS1_, HS2_, HS3_⟩ (fun hHeld => ?_);clear hK K;refine norm_ (a' := ?_) ?_ ?_;rotate_left
           ·
            show Act.put _ (some 24) _ = _
            simp only [Act.put, sA, sB, sC, i64_w, i32_w];rfl
           refine pure_ (i := 9) (N := some 6) (v := ?_) (a' := ?_) #[true, true, true, true, true, true, true, true, true, true] rfl rfl (any_of HT_.out (by kernel_rfl)) (fun _ _ _ h => h) (Or.inl ⟨by rfl, ?_⟩) ?_ ?_;rotate_left
           ·
            intro w';go_simp;with_reducible rfl
           rotate_left
           ·
            simp only [Act.put, sA, sB, sC, i64_w, i32_w];rfl
           refine done_ (done_of HT_.out (by kernel_rfl)) ?_;have p333 : 0 ≤ (0 : Int) := (by omega);have q333 : 0 < (x0_1.length : Int) := of_decide_eq_true (by assumption);obtain ⟨ad333, A333_1, c333_1, e333, hx333_0, hx333_1, hl333_1, hi333_1⟩ := at_T89 (Kd.V_reads' HO_0.out).2.2 0 p333 q333;(try clear hx330_0);(try clear hx330_1);(try clear hx330_2);(try clear hx330_3);(try clear HS0_);(try clear HS1_);(try clear HS2_);(try clear HS3_);(try clear HS4_);(try clear HS5_);(try clear HS6_);(try clear HS7_);(try clear HS8_);(try clear HS9_);(try clear hHeld);obtain rfl : ad330 = ad333 := (by injection e333);obtain ⟨ce333, hce333, hMe333, hcc333⟩ := Kd.V_get HO_0.out z89 0 p333 (by first | exact q333 | exact of_decide_eq_true (by assumption) | (have e_ := (Kd.V_reads' HO_0.out).1; omega));obtain ⟨ua333_1, uc333_1, rfl, ul333_1, ge333_1⟩ := k89_openF hMe333;have hv333_1 := hcc333 1 _ rfl;rw [add_field _ _ 1 (by omega)] at hv333_1;replace hv333_1 := Option.some.inj (hv333_1.symm.trans hx333_1)
           injection hv333_1 with hva_ hvn_ hvc_
           rw [hva_] at ge333_1;rw [hvc_] at ul333_1;have HL333_1 := am (show Kd.V k89 89 _ w.heap.size _ _ ((rd_T89 x0_1 0).f1) from Kd.V_mk ul333_1 ge333_1);clear hva_ hvn_ hvc_ ge333_1 ul333_1;clear hcc333 hce333;have qi333 : (0 < x0_1.length) = True := eq_true (by omega);(try rw [show ((0 : Int)).toNat = 0 from rfl] at hx333_0);(try rw [show 0 * 2 = 0 from rfl] at hx333_0);(try rw [Addr.add_zero'] at hx333_0);(try rw [show ((0 : Int)).toNat = 0 from rfl] at hx333_1);(try rw [show 0 * 2 = 0 from rfl] at hx333_1);(try rw [Addr.add_zero'] at hx333_1);have HR333_1 := am hi333_1;have HC333_1 := am hl333_1;clear hi333_1 hl333_1;replace p333 := eq_true p333;replace q333 := eq_true q333;(try go_wp2_with (first | ((with_reducible refine gate_builtin (b := .append) (xs := #[.tmp 49, .tmp 53]) rfl ?_); (try (refine gate_guard (by rfl) ?_; dsimp only)); at_builtin; refine Kd.N_append k89 (w0 := w) w.heap.size rfl (.tmp 49) (.tmp 53) 63 89 (.agg #[(.int .i64 0), (.slice none 0 0)]) 32 rfl Try.underlying63 info89 rfl (by decide) (by omega) u5 x5_1 (⟨(rd_T89 x0_1 0).f0, (rd_T89 x0_1 0).f1⟩ : S89) [.int .i64 ((rd_T89 x0_1 0).f0), .slice A333_1 ((rd_T89 x0_1 0).f1).length c333_1] (fun k_ => ((P0_ k_ ∨ P1_ k_) ∨ w.heap.size ≤ k_)) (fun k_ => ((fun k_ => ((P0_ k_ ∨ P1_ k_) ∨ w.heap.size ≤ k_))) k_ ∧ some k_ ≠ (u5 : Value).ownBlock) rfl rfl ?aP (fun _ hk => hk) ?aF ?aO ?aB ?aS ?aL ?_; (case aP => exact (k89_mkF _ _ (⟨(rd_T89 x0_1 0).f0, (rd_T89 x0_1 0).f1⟩ : S89) (Kd.V_reads' (Kd.V_mono (ok' := (fun k_ => ((fun k_ => ((P0_ k_ ∨ P1_ k_) ∨ w.heap.size ≤ k_))) k_ ∧ some k_ ≠ (u5 : Value).ownBlock)) (HL333_1.out) (fun k_ hk => ⟨hk.1, hk.2⟩))).2.1 (Kd.V_F (Kd.V_mono (ok' := (fun k_ => ((fun k_ => ((P0_ k_ ∨ P1_ k_) ∨ w.heap.size ≤ k_))) k_ ∧ some k_ ≠ (u5 : Value).ownBlock)) (HL333_1.out) (fun k_ hk => ⟨hk.1, hk.2⟩))))); (case aB => exact (bm HB.out)); (case aF => exact (fun k_ hk => (.inr (Nat.le_trans (below_size (bm HB.out)) hk)))); (case aO => exact (Kd.nm HO_5.out)); (case aS => exact (below_size (bm HB.out))); (case aL => have := LMc15.out; omega); intro v335 w21 ho hb hg hat; rw [← hy334.out] at ho; replace HO_0 := am (Kd.V_afterv (ok := (fun k_ => ((P0_ k_ ∨ P1_ k_) ∨ w.heap.size ≤ k_))) (Kd.vm HO_0.out) hg hat);replace HO_1 := am (Kd.V_afterv (ok := (fun k_ => ((P0_ k_ ∨ P1_ k_) ∨ w.heap.size ≤ k_))) (Kd.vm HO_1.out) hg hat);replace HL330_1 := am (Kd.V_afterv (ok := (fun k_ => ((P0_ k_ ∨ P1_ k_) ∨ w.heap.size ≤ k_))) (Kd.vm HL330_1.out) hg hat);replace HL331_1 := am (Kd.V_afterv (ok := (fun k_ => ((P0_ k_ ∨ P1_ k_) ∨ w.heap.size ≤ k_))) (Kd.vm HL331_1.out) hg hat);replace HL333_1 := am (Kd.V_afterv (ok := (fun k_ => ((P0_ k_ ∨ P1_ k_) ∨ w.heap.size ≤ k_))) (Kd.vm HL333_1.out) hg hat);replace HB := am (hb);have HO336 := am (ho);clear HO_5; clear ho hb hg hat; have q22 : (1 : Int) ≤ ((x0_1.length : Int) : Int) := of_decide_eq_true (by assumption); obtain ⟨i022, hi022, _, hsz22, _⟩ := info_parts info89; have hroom22 : x0_1.length ≤ co18 := (Kd.V_reads' HO_0.out).2.1; have hC22 : Kd.F k89 _ _ (some ad330) x0_1.length x0_1 := (Kd.V_at (base := w.heap.size) HO_0.out).2.2; have hcut22 := cut_from (P := Try.prog) 63 89 .i64 Try.underlying63 hi022 2 hsz22 (some ad330) x0_1.length co18 1 (by omega) q22; have hr22 := Kd.F_cut (m := (1 : Int).toNat) (c := co18) hC22 (by omega) hroom22; obtain ⟨A22, hA22⟩ : ∃ A_, A_ = (if co18 = (1 : Int).toNat then (some ad330) else ((some ad330) : Option Addr).map (·.add ((1 : Int).toNat * 2))) := ⟨_, rfl⟩; obtain ⟨c22, hc22⟩ : ∃ c_, c_ = co18 - (1 : Int).toNat := ⟨_, rfl⟩; have hy22 : y337.length = x0_1.length - (1 : Int).toNat := (by rw [hy337.out, List.length_drop] <;> omega); rw [show (x0_1).drop (1 : Int).toNat = y337 from hy337.out.symm] at hr22; replace hr22 : Kd.F k89 _ _ A22 y337.length y337 := (by rw [hA22]; exact hr22); rw [← hy22, ← hA22, ← hc22] at hcut22; have HO341 := am (show Kd.V k89 89 _ w.heap.size _ (.slice A22 y337.length c22) y337 from Kd.V_mk (by rw [hy22, hc22]; exact Nat.sub_le_sub_right hroom22 _) hr22); have HC341 := am (show y337.length ≤ c22 from by rw [hy22, hc22]; exact Nat.sub_le_sub_right hroom22 _); clear hr22 hC22 hroom22 hi022 hsz22 hc22; have KY22 := am hy22; have KA22 := am hA22; clear hy22 hA22; replace q22 := eq_true q22)))
           go_roundg kj4
           case measure => have := HK1.out; have := HJ4.out; omega
           case rel => exact ⟨(y337), (x1_1), (y334), H', ⟨by have := HK1.out; have := HJ4.out; omega⟩, ⟨Kd.vm HO341.out⟩, ⟨Kd.vm HO_1.out⟩, ⟨Kd.nm HO336.out⟩, ⟨bm HB.out⟩⟩
          ·
           rw [if_neg c16] at H;exact absurd H (by simp)
         ·
          rw [if_neg c15] at H;exact absurd H (by simp)
        ·
         rw [if_neg c14] at H;have c14b0 : decide (0 < t332) = false := decide_eq_false c14;clear c14;by_cases c23 : t332 < 0
         ·
          rw [if_pos c23] at H;have c23b0 : decide (t332 < 0) = true := decide_eq_true c23;clear c23;by_cases c24 : x5_1.length < 4398046511104
          ·
           rw [if_pos c24] at H;have LMc24 := am c24;clear c24
           obtain ⟨y343, hy343⟩ : ∃ y_ : List (S89), y_ = (x5_1 ++ [(⟨(rd_T89 x1_1 0).f0, (rd_T89 x1_1 0).f1⟩ : S89)]) := ⟨_, rfl⟩
           replace H : (if 1 ≤ (x1_1.length : Int) then (impl_natural.l0 kj4 x0_1 (x1_1.drop 1) y343) else (none)) = some r := by first | (rw [hy343]; with_reducible exact H) | (have H2_ := oB H; rw [hy343]; with_reducible exact H2_) | (have H2_ := oB H; with_reducible exact H2_) | with_reducible exact H | (rw [hy343]; exact H) | exact H
           replace hy343 := am hy343;by_cases c25 : 1 ≤ (x1_1.length : Int)
           ·
            rw [if_pos c25] at H;have c25b0 := eq_true c25;have c25b1 : decide (1 ≤ (x1_1.length : Int)) = true := decide_eq_true c25;clear c25
            obtain ⟨y346, hy346⟩ : ∃ y_ : List (S89), y_ = (x1_1.drop 1) := ⟨_, rfl⟩
            replace H : (impl_natural.l0 kj4 x0_1 y346 y343) = some r := by first | (rw [hy346]; with_reducible exact H) | (have H2_ := oB H; rw [hy346]; with_reducible exact H2_) | (have H2_ := oB H; with_reducible exact H2_) | with_reducible exact H | (rw [hy346]; exact H) | exact H
            replace hy346 := am hy346;have H' := am H;clear H;(try go_wp2);replace HO_0 := am (Kd.V_drew HO_0.out);replace HO_1 := am (Kd.V_drew HO_1.out);replace HO_5 := am (Kd.N_drew HO_5.out);replace HB := am (below_drew1 HB.out);obtain ⟨Ao27, co27, eo27⟩ := Kd.V_slice HO_0.out
            (first | subst eo27 | (injection eo27 with f1_ f2_ f3_; have f4_ := f1_.symm; have f5_ := f3_.symm; clear f1_ f2_ f3_; subst f4_; subst f5_))
            have p330 : 0 ≤ (0 : Int) := (by omega);have q330 : 0 < (x0_1.length : Int) := of_decide_eq_true (by assumption);obtain ⟨ad330, A330_1, c330_1, e330, hx330_0, hx330_1, hl330_1, hi330_1⟩ := at_T89 (Kd.V_reads' HO_0.out).2.2 0 p330 q330;(try clear hx333_0);(try clear hx333_1);(try clear hx333_2);(try clear hx333_3);(try clear HS4_);(try clear HS5_);(try clear HS6_);(try clear HS7_);(try clear HS8_);(try clear HS9_);(try clear hHeld);cases e330
            obtain ⟨ce330, hce330, hMe330, hcc330⟩ := Kd.V_get HO_0.out z89 0 p330 (by first | exact q330 | exact of_decide_eq_true (by assumption) | (have e_ := (Kd.V_reads' HO_0.out).1; omega));obtain ⟨ua330_1, uc330_1, rfl, ul330_1, ge330_1⟩ := k89_openF hMe330;have hv330_1 := hcc330 1 _ rfl;rw [add_field _ _ 1 (by omega)] at hv330_1;replace hv330_1 := Option.some.inj (hv330_1.symm.trans hx330_1)
            injection hv330_1 with hva_ hvn_ hvc_
            rw [hva_] at ge330_1;rw [hvc_] at ul330_1;have HL330_1 := am (show Kd.V k89 89 _ w.heap.size _ _ ((rd_T89 x0_1 0).f1) from Kd.V_mk ul330_1 ge330_1);clear hva_ hvn_ hvc_ ge330_1 ul330_1;clear hcc330 hce330;have qi330 : (0 < x0_1.length) = True := eq_true (by omega);(try rw [show ((0 : Int)).toNat = 0 from rfl] at hx330_0);(try rw [show 0 * 2 = 0 from rfl] at hx330_0);(try rw [Addr.add_zero'] at hx330_0);(try rw [show ((0 : Int)).toNat = 0 from rfl] at hx330_1);(try rw [show 0 * 2 = 0 from rfl] at hx330_1);(try rw [Addr.add_zero'] at hx330_1);have HR330_1 := am hi330_1;have HC330_1 := am hl330_1;clear hi330_1 hl330_1;replace p330 := eq_true p330;replace q330 := eq_true q330;obtain ⟨Ao28, co28, eo28⟩ := Kd.V_slice HO_1.out
            (first | subst eo28 | (injection eo28 with f1_ f2_ f3_; have f4_ := f1_.symm; have f5_ := f3_.symm; clear f1_ f2_ f3_; subst f4_; subst f5_))
            have p331 : 0 ≤ (0 : Int) := (by omega);have q331 : 0 < (x1_1.length : Int) := of_decide_eq_true (by assumption);obtain ⟨ad331, A331_1, c331_1, e331, hx331_0, hx331_1, hl331_1, hi331_1⟩ := at_T89 (Kd.V_reads' HO_1.out).2.2 0 p331 q331;cases e331
            obtain ⟨ce331, hce331, hMe331, hcc331⟩ := Kd.V_get HO_1.out z89 0 p331 (by first | exact q331 | exact of_decide_eq_true (by assumption) | (have e_ := (Kd.V_reads' HO_1.out).1; omega));obtain ⟨ua331_1, uc331_1, rfl, ul331_1, ge331_1⟩ := k89_openF hMe331;have hv331_1 := hcc331 1 _ rfl;rw [add_field _ _ 1 (by omega)] at hv331_1;replace hv331_1 := Option.some.inj (hv331_1.symm.trans hx331_1)
            injection hv331_1 with hva_ hvn_ hvc_
            rw [hva_] at ge331_1;rw [hvc_] at ul331_1;have HL331_1 := am (show Kd.V k89 89 _ w.heap.size _ _ ((rd_T89 x1_1 0).f1) from Kd.V_mk ul331_1 ge331_1);clear hva_ hvn_ hvc_ ge331_1 ul331_1;clear hcc331 hce331;have qi331 : (0 < x1_1.length) = True := eq_true (by omega);(try rw [show ((0 : Int)).toNat = 0 from rfl] at hx331_0);(try rw [show 0 * 2 = 0 from rfl] at hx331_0);(try rw [Addr.add_zero'] at hx331_0);(try rw [show ((0 : Int)).toNat = 0 from rfl] at hx331_1);(try rw [show 0 * 2 = 0 from rfl] at hx331_1);(try rw [Addr.add_zero'] at hx331_1);have HR331_1 := am hi331_1;have HC331_1 := am hl331_1;clear hi331_1 hl331_1;replace p331 := eq_true p331;replace q331 := eq_true q331;refine start_ (n := 10) (S := fun w' => w'.cell? ad330 = some (.int .i64 ((rd_T89 x0_1 0).f0)) ∧ w'.cell? ⟨ad330.block, ad330.off + 1, none⟩ = some (.slice A330_1 ((rd_T89 x0_1 0).f1).length c330_1) ∧ w'.cell? ad331 = some (.int .i64 ((rd_T89 x1_1 0).f0)) ∧ w'.cell? ⟨ad331.block, ad331.off + 1, none⟩ = some (.slice A331_1 ((rd_T89 x1_1 0).f1).length c331_1)) (ds := []) #[false, false, false, false, false, false, false, false, false, false] (by kernel_rfl) rfl rfl ⟨hx330_0, hx330_1, hx331_0, hx331_1⟩ (fun hHeld => ?_); refine with_tabW impl_natural.tab3 impl_natural.bits3 (fun HT_ HW_ => ?_);generalize wc.drew = w26 at HO_0 HO_1 HO_5 HB HL330_1 HL331_1 HR330_1 HR331_1 hx330_0 hx330_1 hx331_0 hx331_1 hHeld ⊢;refine pure_ (i := 0) (N := some 16) (v := ?_) (a' := ?_) #[true, false, false, false, false, false, false, false, false, false] rfl rfl (any_of HT_.out (by kernel_rfl)) (fun _ _ _ h => h) (Or.inl ⟨by rfl, ?_⟩) ?_ ?_;rotate_left
            ·
             intro w';go_simp;with_reducible rfl
            rotate_left
            ·
             simp only [Act.put, sA, sB, sC, i64_w, i32_w];rfl
            refine pure_ (i := 1) (N := some 17) (v := ?_) (a' := ?_) #[true, true, false, false, false, false, false, false, false, false] rfl rfl (any_of HT_.out (by kernel_rfl)) (fun _ _ _ h => h) (Or.inl ⟨by rfl, ?_⟩) ?_ ?_;rotate_left
            ·
             intro w';go_simp;with_reducible rfl
            rotate_left
            ·
             simp only [Act.put, sA, sB, sC, i64_w, i32_w];rfl
            refine pure_ (i := 2) (N := some 18) (v := ?_) (a' := ?_) #[true, true, true, false, false, false, false, false, false, false] rfl rfl (any_of HT_.out (by kernel_rfl)) (fun _ _ _ h => h) (Or.inl ⟨by rfl, ?_⟩) ?_ ?_;rotate_left
            ·
             intro w';go_simp;with_reducible rfl
            rotate_left
            ·
             simp only [Act.put, sA, sB, sC, i64_w, i32_w];rfl
            refine pure_ (i := 4) (N := some 20) (v := ?_) (a' := ?_) #[true, true, true, false, true, false, false, false, false, false] rfl rfl (any_of HT_.out (by kernel_rfl)) (fun _ _ _ h => h) (Or.inl ⟨by rfl, ?_⟩) ?_ ?_;rotate_left
            ·
             intro w';go_simp;with_reducible rfl
            rotate_left
            ·
             simp only [Act.put, sA, sB, sC, i64_w, i32_w];rfl
            refine pure_ (i := 5) (N := some 21) (v := ?_) (a' := ?_) #[true, true, true, false, true, true, false, false, false, false] rfl rfl (any_of HT_.out (by kernel_rfl)) (fun _ _ _ h => h) (Or.inl ⟨by rfl, ?_⟩) ?_ ?_;rotate_left
            ·
             intro w';go_simp;with_reducible rfl
            rotate_left
            ·
             simp only [Act.put, sA, sB, sC, i64_w, i32_w];rfl
            refine pure_ (i := 6) (N := some 22) (v := ?_) (a' := ?_) #[true, true, true, false, true, true, true, false, false, false] rfl rfl (any_of HT_.out (by kernel_rfl)) (fun _ _ _ h => h) (Or.inl ⟨by rfl, ?_⟩) ?_ ?_;rotate_left
            ·
             intro w';go_simp;with_reducible rfl
            rotate_left
            ·
             simp only [Act.put, sA, sB, sC, i64_w, i32_w];rfl
            refine take_ (i := 3) (N := some 19) (v := ?_) (a' := ?_) #[true, true, true, true, true, true, true, false, false, false] rfl rfl (take_ofW HT_.out HW_.out (by kernel_rfl)) (fun _ _ _ h => h) (Or.inl ⟨by rfl, ?_⟩) hHeld ?_ ?_;rotate_left
            ·
             rintro w' ⟨s0, s1, s2, s3⟩
             go_simp;with_reducible rfl
            rotate_left
            ·
             simp only [Act.put, sA, sB, sC, i64_w, i32_w];rfl
            refine take_ (i := 7) (N := some 23) (v := ?_) (a' := ?_) #[true, true, true, true, true, true, true, true, false, false] rfl rfl (take_ofW HT_.out HW_.out (by kernel_rfl)) (fun _ _ _ h => h) (Or.inl ⟨by rfl, ?_⟩) hHeld ?_ ?_;rotate_left
            ·
             rintro w' ⟨s0, s1, s2, s3⟩
             go_simp;with_reducible rfl
            rotate_left
            ·
             simp only [Act.put, sA, sB, sC, i64_w, i32_w];rfl
            refine one_ (i := 8) (N := some 24) #[true, true, true, true, true, true, true, true, true, false] rfl rfl (one_of HT_.out (by kernel_rfl)) (by decide) (fun K hK => ?_);refine goes_ Try.func46 (by kernel_rfl) rfl #[.slice A330_1 ((rd_T89 x0_1 0).f1).length c330_1, .slice A331_1 ((rd_T89 x1_1 0).f1).length c331_1] (by rfl) rfl rfl (by (try simp only [mA, mB, mC]); first | done | rfl) ?_
            with_reducible refine (impl_compare.calls kj4 _ _ ((rd_T89 x0_1 0).f1) _ _ ((rd_T89 x1_1 0).f1) t332 _ ?side1 ?side2 ?side3 ?side4 A13.out).mono ?_
            (case side1 => exact Kd.cm ((by repeat (first | (with_reducible exact HR330_1.out) | (with_reducible refine Kd.C_alloc ?_ _) | (with_reducible refine Kd.C_drewN ?_ _) | (with_reducible refine Kd.C_drew ?_) | exact HR330_1.out))));(case side2 => exact HC330_1.out);(case side3 => exact Kd.cm ((by repeat (first | (with_reducible exact HR331_1.out) | (with_reducible refine Kd.C_alloc ?_ _) | (with_reducible refine Kd.C_drewN ?_ _) | (with_reducible refine Kd.C_drew ?_) | exact HR331_1.out))));(case side4 => exact HC331_1.out)
            rintro e w29 ⟨rfl, hb⟩
            have HS0_ := (hb.cell (World.block_lt_of_cell? _ _ (hHeld.1))).trans (hHeld.1);have HS1_ := (hb.cell (World.block_lt_of_cell? _ _ (hHeld.2.1))).trans (hHeld.2.1);have HS2_ := (hb.cell (World.block_lt_of_cell? _ _ (hHeld.2.2.1))).trans (hHeld.2.2.1);have HS3_ := (hb.cell (World.block_lt_of_cell? _ _ (hHeld.2.2.2))).trans (hHeld.2.2.2);refine ⟨_, rfl, ?_⟩;replace HO_0 := am (Kd.V_below (Kd.vm HO_0.out) hb);replace HO_1 := am (Kd.V_below (Kd.vm HO_1.out) hb);replace HO_5 := am (Kd.N_below (Kd.nm HO_5.out) hb);replace HL330_1 := am (Kd.V_below (Kd.vm HL330_1.out) hb);replace HL331_1 := am (Kd.V_below (Kd.vm HL331_1.out) hb);replace HR330_1 := am (Kd.C_below (by repeat (first | (with_reducible exact HR330_1.out) | (with_reducible refine Kd.C_alloc ?_ _) | (with_reducible refine Kd.C_drewN ?_ _) | (with_reducible refine Kd.C_drew ?_) | exact HR330_1.out)) hb);replace HR331_1 := am (Kd.C_below (by repeat (first | (with_reducible exact HR331_1.out) | (with_reducible refine Kd.C_alloc ?_ _) | (with_reducible refine Kd.C_drewN ?_ _) | (with_reducible refine Kd.C_drew ?_) | exact HR331_1.out)) hb);replace HB := am (below_step (bm HB.out) hb);(try clear hb);refine hK.out _ _ ⟨HS0_, HS1_, HS2_, HS3_⟩ (fun hHeld => ?_);clear hK K;refine norm_ (a' := ?_) ?_ ?_;rotate_left
            ·
             show Act.put _ (some 24) _ = _
             simp only [Act.put, sA, sB, sC, i64_w, i32_w];rfl
            refine pure_ (i := 9) (N := some 6) (v := ?_) (a' := ?_) #[true, true, true, true, true, true, true, true, true, true] rfl rfl (any_of HT_.out (by kernel_rfl)) (fun _ _ _ h => h) (Or.inl ⟨by rfl, ?_⟩) ?_ ?_;rotate_left
            ·
             intro w';go_simp;with_reducible rfl
            rotate_left
            ·
             simp only [Act.put, sA, sB, sC, i64_w, i32_w];rfl
            refine done_ (done_of HT_.out (by kernel_rfl)) ?_;have p342 : 0 ≤ (0 : Int) := (by omega);have q342 : 0 < (x1_1.length : Int) := of_decide_eq_true (by assumption);obtain ⟨ad342, A342_1, c342_1, e342, hx342_0, hx342_1, hl342_1, hi342_1⟩ := at_T89 (Kd.V_reads' HO_1.out).2.2 0 p342 q342;(try clear hx331_0);(try clear hx331_1);(try clear hx331_2);(try clear hx331_3);(try clear hx331_0);(try clear hx331_1);(try clear hx331_2);(try clear hx331_3);(try clear HS0_);(try clear HS1_);(try clear HS2_);(try clear HS3_);(try clear HS4_);(try clear HS5_);(try clear HS6_);(try clear HS7_);(try clear HS8_);(try clear HS9_);(try clear hHeld);obtain rfl : ad331 = ad342 := (by injection e342);obtain ⟨ce342, hce342, hMe342, hcc342⟩ := Kd.V_get HO_1.out z89 0 p342 (by first | exact q342 | exact of_decide_eq_true (by assumption) | (have e_ := (Kd.V_reads' HO_1.out).1; omega));obtain ⟨ua342_1, uc342_1, rfl, ul342_1, ge342_1⟩ := k89_openF hMe342;have hv342_1 := hcc342 1 _ rfl;rw [add_field _ _ 1 (by omega)] at hv342_1;replace hv342_1 := Option.some.inj (hv342_1.symm.trans hx342_1)
            injection hv342_1 with hva_ hvn_ hvc_
            rw [hva_] at ge342_1;rw [hvc_] at ul342_1;have HL342_1 := am (show Kd.V k89 89 _ w.heap.size _ _ ((rd_T89 x1_1 0).f1) from Kd.V_mk ul342_1 ge342_1);clear hva_ hvn_ hvc_ ge342_1 ul342_1;clear hcc342 hce342;have qi342 : (0 < x1_1.length) = True := eq_true (by omega);(try rw [show ((0 : Int)).toNat = 0 from rfl] at hx342_0);(try rw [show 0 * 2 = 0 from rfl] at hx342_0);(try rw [Addr.add_zero'] at hx342_0);(try rw [show ((0 : Int)).toNat = 0 from rfl] at hx342_1);(try rw [show 0 * 2 = 0 from rfl] at hx342_1);(try rw [Addr.add_zero'] at hx342_1);have HR342_1 := am hi342_1;have HC342_1 := am hl342_1;clear hi342_1 hl342_1;replace p342 := eq_true p342;replace q342 := eq_true q342;(try go_wp2_with (first | ((with_reducible refine gate_builtin (b := .append) (xs := #[.tmp 60, .tmp 64]) rfl ?_); (try (refine gate_guard (by rfl) ?_; dsimp only)); at_builtin; refine Kd.N_append k89 (w0 := w) w.heap.size rfl (.tmp 60) (.tmp 64) 63 89 (.agg #[(.int .i64 0), (.slice none 0 0)]) 32 rfl Try.underlying63 info89 rfl (by decide) (by omega) u5 x5_1 (⟨(rd_T89 x1_1 0).f0, (rd_T89 x1_1 0).f1⟩ : S89) [.int .i64 ((rd_T89 x1_1 0).f0), .slice A342_1 ((rd_T89 x1_1 0).f1).length c342_1] (fun k_ => ((P0_ k_ ∨ P1_ k_) ∨ w.heap.size ≤ k_)) (fun k_ => ((fun k_ => ((P0_ k_ ∨ P1_ k_) ∨ w.heap.size ≤ k_))) k_ ∧ some k_ ≠ (u5 : Value).ownBlock) rfl rfl ?aP (fun _ hk => hk) ?aF ?aO ?aB ?aS ?aL ?_; (case aP => exact (k89_mkF _ _ (⟨(rd_T89 x1_1 0).f0, (rd_T89 x1_1 0).f1⟩ : S89) (Kd.V_reads' (Kd.V_mono (ok' := (fun k_ => ((fun k_ => ((P0_ k_ ∨ P1_ k_) ∨ w.heap.size ≤ k_))) k_ ∧ some k_ ≠ (u5 : Value).ownBlock)) (HL342_1.out) (fun k_ hk => ⟨hk.1, hk.2⟩))).2.1 (Kd.V_F (Kd.V_mono (ok' := (fun k_ => ((fun k_ => ((P0_ k_ ∨ P1_ k_) ∨ w.heap.size ≤ k_))) k_ ∧ some k_ ≠ (u5 : Value).ownBlock)) (HL342_1.out) (fun k_ hk => ⟨hk.1, hk.2⟩))))); (case aB => exact (bm HB.out)); (case aF => exact (fun k_ hk => (.inr (Nat.le_trans (below_size (bm HB.out)) hk)))); (case aO => exact (Kd.nm HO_5.out)); (case aS => exact (below_size (bm HB.out))); (case aL => have := LMc24.out; omega); intro v344 w30 ho hb hg hat; rw [← hy343.out] at ho; replace HO_0 := am (Kd.V_afterv (ok := (fun k_ => ((P0_ k_ ∨ P1_ k_) ∨ w.heap.size ≤ k_))) (Kd.vm HO_0.out) hg hat);replace HO_1 := am (Kd.V_afterv (ok := (fun k_ => ((P0_ k_ ∨ P1_ k_) ∨ w.heap.size ≤ k_))) (Kd.vm HO_1.out) hg hat);replace HL330_1 := am (Kd.V_afterv (ok := (fun k_ => ((P0_ k_ ∨ P1_ k_) ∨ w.heap.size ≤ k_))) (Kd.vm HL330_1.out) hg hat);replace HL331_1 := am (Kd.V_afterv (ok := (fun k_ => ((P0_ k_ ∨ P1_ k_) ∨ w.heap.size ≤ k_))) (Kd.vm HL331_1.out) hg hat);replace HL342_1 := am (Kd.V_afterv (ok := (fun k_ => ((P0_ k_ ∨ P1_ k_) ∨ w.heap.size ≤ k_))) (Kd.vm HL342_1.out) hg hat);replace HB := am (hb);have HO345 := am (ho);clear HO_5; clear ho hb hg hat; have q31 : (1 : Int) ≤ ((x1_1.length : Int) : Int) := of_decide_eq_true (by assumption); obtain ⟨i031, hi031, _, hsz31, _⟩ := info_parts info89; have hroom31 : x1_1.length ≤ co28 := (Kd.V_reads' HO_1.out).2.1; have hC31 : Kd.F k89 _ _ (some ad331) x1_1.length x1_1 := (Kd.V_at (base := w.heap.size) HO_1.out).2.2; have hcut31 := cut_from (P := Try.prog) 63 89 .i64 Try.underlying63 hi031 2 hsz31 (some ad331) x1_1.length co28 1 (by omega) q31; have hr31 := Kd.F_cut (m := (1 : Int).toNat) (c := co28) hC31 (by omega) hroom31; obtain ⟨A31, hA31⟩ : ∃ A_, A_ = (if co28 = (1 : Int).toNat then (some ad331) else ((some ad331) : Option Addr).map (·.add ((1 : Int).toNat * 2))) := ⟨_, rfl⟩; obtain ⟨c31, hc31⟩ : ∃ c_, c_ = co28 - (1 : Int).toNat := ⟨_, rfl⟩; have hy31 : y346.length = x1_1.length - (1 : Int).toNat := (by rw [hy346.out, List.length_drop] <;> omega); rw [show (x1_1).drop (1 : Int).toNat = y346 from hy346.out.symm] at hr31; replace hr31 : Kd.F k89 _ _ A31 y346.length y346 := (by rw [hA31]; exact hr31); rw [← hy31, ← hA31, ← hc31] at hcut31; have HO350 := am (show Kd.V k89 89 _ w.heap.size _ (.slice A31 y346.length c31) y346 from Kd.V_mk (by rw [hy31, hc31]; exact Nat.sub_le_sub_right hroom31 _) hr31); have HC350 := am (show y346.length ≤ c31 from by rw [hy31, hc31]; exact Nat.sub_le_sub_right hroom31 _); clear hr31 hC31 hroom31 hi031 hsz31 hc31; have KY31 := am hy31; have KA31 := am hA31; clear hy31 hA31; replace q31 := eq_true q31)))
            go_roundg kj4
            case measure => have := HK1.out; have := HJ4.out; omega
            case rel => exact ⟨(x0_1), (y346), (y343), H', ⟨by have := HK1.out; have := HJ4.out; omega⟩, ⟨Kd.vm HO_0.out⟩, ⟨Kd.vm HO350.out⟩, ⟨Kd.nm HO345.out⟩, ⟨bm HB.out⟩⟩
           ·
            rw [if_neg c25] at H;exact absurd H (by simp)
          ·
           rw [if_neg c24] at H;exact absurd H (by simp)
         ·
          rw [if_neg c23] at H;have c23b0 : decide (t332 < 0) = false := decide_eq_false c23;clear c23;by_cases c32 : x5_1.length < 4398046511104
          ·
           rw [if_pos c32] at H;have LMc32 := am c32;clear c32
           obtain ⟨y354, hy354⟩ : ∃ y_ : List (S89), y_ = (x5_1 ++ [(⟨wrap64 (((rd_T89 x0_1 0).f0) + ((rd_T89 x1_1 0).f0)), (rd_T89 x0_1 0).f1⟩ : S89)]) := ⟨_, rfl⟩
           replace H : (if 1 ≤ (x0_1.length : Int) then (if 1 ≤ (x1_1.length : Int) then (impl_natural.l0 kj4 (x0_1.drop 1) (x1_1.drop 1) y354) else (none)) else (none)) = some r := by first | (rw [hy354]; with_reducible exact H) | (have H2_ := oB H; rw [hy354]; with_reducible exact H2_) | (have H2_ := oB H; with_reducible exact H2_) | with_reducible exact H | (rw [hy354]; exact H) | exact H
           replace hy354 := am hy354;by_cases c33 : 1 ≤ (x0_1.length : Int)
           ·
            rw [if_pos c33] at H;have c33b0 := eq_true c33;have c33b1 : decide (1 ≤ (x0_1.length : Int)) = true := decide_eq_true c33;clear c33
            obtain ⟨y357, hy357⟩ : ∃ y_ : List (S89), y_ = (x0_1.drop 1) := ⟨_, rfl⟩
            replace H : (if 1 ≤ (x1_1.length : Int) then (impl_natural.l0 kj4 y357 (x1_1.drop 1) y354) else (none)) = some r := by first | (rw [hy357]; with_reducible exact H) | (have H2_ := oB H; rw [hy357]; with_reducible exact H2_) | (have H2_ := oB H; with_reducible exact H2_) | with_reducible exact H | (rw [hy357]; exact H) | exact H
            replace hy357 := am hy357;by_cases c34 : 1 ≤ (x1_1.length : Int)
            ·
             rw [if_pos c34] at H;have c34b0 := eq_true c34;have c34b1 : decide (1 ≤ (x1_1.length : Int)) = true := decide_eq_true c34;clear c34
             obtain ⟨y362, hy362⟩ : ∃ y_ : List (S89), y_ = (x1_1.drop 1) := ⟨_, rfl⟩
             replace H : (impl_natural.l0 kj4 y357 y362 y354) = some r := by first | (rw [hy362]; with_reducible exact H) | (have H2_ := oB H; rw [hy362]; with_reducible exact H2_) | (have H2_ := oB H; with_reducible exact H2_) | with_reducible exact H | (rw [hy362]; exact H) | exact H
             replace hy362 := am hy362;have H' := am H;clear H;(try go_wp2);replace HO_0 := am (Kd.V_drew HO_0.out);replace HO_1 := am (Kd.V_drew HO_1.out);replace HO_5 := am (Kd.N_drew HO_5.out);replace HB := am (below_drew1 HB.out);obtain ⟨Ao36, co36, eo36⟩ := Kd.V_slice HO_0.out
             (first | subst eo36 | (injection eo36 with f1_ f2_ f3_; have f4_ := f1_.symm; have f5_ := f3_.symm; clear f1_ f2_ f3_; subst f4_; subst f5_))
             have p330 : 0 ≤ (0 : Int) := (by omega);have q330 : 0 < (x0_1.length : Int) := of_decide_eq_true (by assumption);obtain ⟨ad330, A330_1, c330_1, e330, hx330_0, hx330_1, hl330_1, hi330_1⟩ := at_T89 (Kd.V_reads' HO_0.out).2.2 0 p330 q330;(try clear hx333_0);(try clear hx333_1);(try clear hx333_2);(try clear hx333_3);(try clear HS4_);(try clear HS5_);(try clear HS6_);(try clear HS7_);(try clear HS8_);(try clear HS9_);(try clear hHeld);cases e330
             obtain ⟨ce330, hce330, hMe330, hcc330⟩ := Kd.V_get HO_0.out z89 0 p330 (by first | exact q330 | exact of_decide_eq_true (by assumption) | (have e_ := (Kd.V_reads' HO_0.out).1; omega));obtain ⟨ua330_1, uc330_1, rfl, ul330_1, ge330_1⟩ := k89_openF hMe330;have hv330_1 := hcc330 1 _ rfl;rw [add_field _ _ 1 (by omega)] at hv330_1;replace hv330_1 := Option.some.inj (hv330_1.symm.trans hx330_1)
             injection hv330_1 with hva_ hvn_ hvc_
             rw [hva_] at ge330_1;rw [hvc_] at ul330_1;have HL330_1 := am (show Kd.V k89 89 _ w.heap.size _ _ ((rd_T89 x0_1 0).f1) from Kd.V_mk ul330_1 ge330_1);clear hva_ hvn_ hvc_ ge330_1 ul330_1;clear hcc330 hce330;have qi330 : (0 < x0_1.length) = True := eq_true (by omega);(try rw [show ((0 : Int)).toNat = 0 from rfl] at hx330_0);(try rw [show 0 * 2 = 0 from rfl] at hx330_0);(try rw [Addr.add_zero'] at hx330_0);(try rw [show ((0 : Int)).toNat = 0 from rfl] at hx330_1);(try rw [show 0 * 2 = 0 from rfl] at hx330_1);(try rw [Addr.add_zero'] at hx330_1);have HR330_1 := am hi330_1;have HC330_1 := am hl330_1;clear hi330_1 hl330_1;replace p330 := eq_true p330;replace q330 := eq_true q330;obtain ⟨Ao37, co37, eo37⟩ := Kd.V_slice HO_1.out
             (first | subst eo37 | (injection eo37 with f1_ f2_ f3_; have f4_ := f1_.symm; have f5_ := f3_.symm; clear f1_ f2_ f3_; subst f4_; subst f5_))
             have p331 : 0 ≤ (0 : Int) := (by omega);have q331 : 0 < (x1_1.length : Int) := of_decide_eq_true (by assumption);obtain ⟨ad331, A331_1, c331_1, e331, hx331_0, hx331_1, hl331_1, hi331_1⟩ := at_T89 (Kd.V_reads' HO_1.out).2.2 0 p331 q331;(try clear hx342_0);(try clear hx342_1);(try clear hx342_2);(try clear hx342_3);(try clear HS4_);(try clear HS5_);(try clear HS6_);(try clear HS7_);(try clear HS8_);(try clear HS9_);cases e331
             obtain ⟨ce331, hce331, hMe331, hcc331⟩ := Kd.V_get HO_1.out z89 0 p331 (by first | exact q331 | exact of_decide_eq_true (by assumption) | (have e_ := (Kd.V_reads' HO_1.out).1; omega));obtain ⟨ua331_1, uc331_1, rfl, ul331_1, ge331_1⟩ := k89_openF hMe331;have hv331_1 := hcc331 1 _ rfl;rw [add_field _ _ 1 (by omega)] at hv331_1;replace hv331_1 := Option.some.inj (hv331_1.symm.trans hx331_1)
             injection hv331_1 with hva_ hvn_ hvc_
             rw [hva_] at ge331_1;rw [hvc_] at ul331_1;have HL331_1 := am (show Kd.V k89 89 _ w.heap.size _ _ ((rd_T89 x1_1 0).f1) from Kd.V_mk ul331_1 ge331_1);clear hva_ hvn_ hvc_ ge331_1 ul331_1;clear hcc331 hce331;have qi331 : (0 < x1_1.length) = True := eq_true (by omega);(try rw [show ((0 : Int)).toNat = 0 from rfl] at hx331_0);(try rw [show 0 * 2 = 0 from rfl] at hx331_0);(try rw [Addr.add_zero'] at hx331_0);(try rw [show ((0 : Int)).toNat = 0 from rfl] at hx331_1);(try rw [show 0 * 2 = 0 from rfl] at hx331_1);(try rw [Addr.add_zero'] at hx331_1);have HR331_1 := am hi331_1;have HC331_1 := am hl331_1;clear hi331_1 hl331_1;replace p331 := eq_true p331;replace q331 := eq_true q331;refine start_ (n := 10) (S := fun w' => w'.cell? ad330 = some (.int .i64 ((rd_T89 x0_1 0).f0)) ∧ w'.cell? ⟨ad330.block, ad330.off + 1, none⟩ = some (.slice A330_1 ((rd_T89 x0_1 0).f1).length c330_1) ∧ w'.cell? ad331 = some (.int .i64 ((rd_T89 x1_1 0).f0)) ∧ w'.cell? ⟨ad331.block, ad331.off + 1, none⟩ = some (.slice A331_1 ((rd_T89 x1_1 0).f1).length c331_1)) (ds := []) #[false, false, false, false, false, false, false, false, false, false] (by kernel_rfl) rfl rfl ⟨hx330_0, hx330_1, hx331_0, hx331_1⟩ (fun hHeld => ?_); refine with_tabW impl_natural.tab3 impl_natural.bits3 (fun HT_ HW_ => ?_);generalize wc.drew = w35 at HO_0 HO_1 HO_5 HB HL330_1 HL331_1 HR330_1 HR331_1 hx330_0 hx330_1 hx331_0 hx331_1 hHeld ⊢;refine pure_ (i := 0) (N := some 16) (v := ?_) (a' := ?_) #[true, false, false, false, false, false, false, false, false, false] rfl rfl (any_of HT_.out (by kernel_rfl)) (fun _ _ _ h => h) (Or.inl ⟨by rfl, ?_⟩) ?_ ?_;rotate_left
             ·
              intro w';go_simp;with_reducible rfl
             rotate_left
             ·
              simp only [Act.put, sA, sB, sC, i64_w, i32_w];rfl
             refine pure_ (i := 1) (N := some 17) (v := ?_) (a' := ?_) #[true, true, false, false, false, false, false, false, false, false] rfl rfl (any_of HT_.out (by kernel_rfl)) (fun _ _ _ h => h) (Or.inl ⟨by rfl, ?_⟩) ?_ ?_;rotate_left
             ·
              intro w';go_simp;with_reducible rfl
             rotate_left
             ·
              simp only [Act.put, sA, sB, sC, i64_w, i32_w];rfl
             refine pure_ (i := 2) (N := some 18) (v := ?_) (a' := ?_) #[true, true, true, false, false, false, false, false, false, false] rfl rfl (any_of HT_.out (by kernel_rfl)) (fun _ _ _ h => h) (Or.inl ⟨by rfl, ?_⟩) ?_ ?_;rotate_left
             ·
              intro w';go_simp;with_reducible rfl
             rotate_left
             ·
              simp only [Act.put, sA, sB, sC, i64_w, i32_w];rfl
             refine pure_ (i := 4) (N := some 20) (v := ?_) (a' := ?_) #[true, true, true, false, true, false, false, false, false, false] rfl rfl (any_of HT_.out (by kernel_rfl)) (fun _ _ _ h => h) (Or.inl ⟨by rfl, ?_⟩) ?_ ?_;rotate_left
             ·
              intro w';go_simp;with_reducible rfl
             rotate_left
             ·
              simp only [Act.put, sA, sB, sC, i64_w, i32_w];rfl
             refine pure_ (i := 5) (N := some 21) (v := ?_) (a' := ?_) #[true, true, true, false, true, true, false, false, false, false] rfl rfl (any_of HT_.out (by kernel_rfl)) (fun _ _ _ h => h) (Or.inl ⟨by rfl, ?_⟩) ?_ ?_;rotate_left
             ·
              intro w';go_simp;with_reducible rfl
             rotate_left
             ·
              simp only [Act.put, sA, sB, sC, i64_w, i32_w];rfl
             refine pure_ (i := 6) (N := some 22) (v := ?_) (a' := ?_) #[true, true, true, false, true, true, true, false, false, false] rfl rfl (any_of HT_.out (by kernel_rfl)) (fun _ _ _ h => h) (Or.inl ⟨by rfl, ?_⟩) ?_ ?_;rotate_left
             ·
              intro w';go_simp;with_reducible rfl
             rotate_left
             ·
              simp only [Act.put, sA, sB, sC, i64_w, i32_w];rfl
             refine take_ (i := 3) (N := some 19) (v := ?_) (a' := ?_) #[true, true, true, true, true, true, true, false, false, false] rfl rfl (take_ofW HT_.out HW_.out (by kernel_rfl)) (fun _ _ _ h => h) (Or.inl ⟨by rfl, ?_⟩) hHeld ?_ ?_;rotate_left
             ·
              rintro w' ⟨s0, s1, s2, s3⟩
              go_simp;with_reducible rfl
             rotate_left
             ·
              simp only [Act.put, sA, sB, sC, i64_w, i32_w];rfl
             refine take_ (i := 7) (N := some 23) (v := ?_) (a' := ?_) #[true, true, true, true, true, true, true, true, false, false] rfl rfl (take_ofW HT_.out HW_.out (by kernel_rfl)) (fun _ _ _ h => h) (Or.inl ⟨by rfl, ?_⟩) hHeld ?_ ?_;rotate_left
             ·
              rintro w' ⟨s0, s1, s2, s3⟩
              go_simp;with_reducible rfl
             rotate_left
             ·
              simp only [Act.put, sA, sB, sC, i64_w, i32_w];rfl
             refine one_ (i := 8) (N := some 24) #[true, true, true, true, true, true, true, true, true, false] rfl rfl (one_of HT_.out (by kernel_rfl)) (by decide) (fun K hK => ?_);refine goes_ Try.func46 (by kernel_rfl) rfl #[.slice A330_1 ((rd_T89 x0_1 0).f1).length c330_1, .slice A331_1 ((rd_T89 x1_1 0).f1).length c331_1] (by rfl) rfl rfl (by (try simp only [mA, mB, mC]); first | done | rfl) ?_
             with_reducible refine (impl_compare.calls kj4 _ _ ((rd_T89 x0_1 0).f1) _ _ ((rd_T89 x1_1 0).f1) t332 _ ?side1 ?side2 ?side3 ?side4 A13.out).mono ?_
             (case side1 => exact Kd.cm ((by repeat (first | (with_reducible exact HR330_1.out) | (with_reducible refine Kd.C_alloc ?_ _) | (with_reducible refine Kd.C_drewN ?_ _) | (with_reducible refine Kd.C_drew ?_) | exact HR330_1.out))));(case side2 => exact HC330_1.out);(case side3 => exact Kd.cm ((by repeat (first | (with_reducible exact HR331_1.out) | (with_reducible refine Kd.C_alloc ?_ _) | (with_reducible refine Kd.C_drewN ?_ _) | (with_reducible refine Kd.C_drew ?_) | exact HR331_1.out))));(case side4 => exact HC331_1.out)
             rintro e w38 ⟨rfl, hb⟩
             have HS0_ := (hb.cell (World.block_lt_of_cell? _ _ (hHeld.1))).trans (hHeld.1);have HS1_ := (hb.cell (World.block_lt_of_cell? _ _ (hHeld.2.1))).trans (hHeld.2.1);have HS2_ := (hb.cell (World.block_lt_of_cell? _ _ (hHeld.2.2.1))).trans (hHeld.2.2.1);have HS3_ := (hb.cell (World.block_lt_of_cell? _ _ (hHeld.2.2.2))).trans (hHeld.2.2.2);refine ⟨_, rfl, ?_⟩;replace HO_0 := am (Kd.V_below (Kd.vm HO_0.out) hb);replace HO_1 := am (Kd.V_below (Kd.vm HO_1.out) hb);replace HO_5 := am (Kd.N_below (Kd.nm HO_5.out) hb);replace HL330_1 := am (Kd.V_below (Kd.vm HL330_1.out) hb);replace HL331_1 := am (Kd.V_below (Kd.vm HL331_1.out) hb);replace HR330_1 := am (Kd.C_below (by repeat (first | (with_reducible exact HR330_1.out) | (with_reducible refine Kd.C_alloc ?_ _) | (with_reducible refine Kd.C_drewN ?_ _) | (with_reducible refine Kd.C_drew ?_) | exact HR330_1.out)) hb);replace HR331_1 := am (Kd.C_below (by repeat (first | (with_reducible exact HR331_1.out) | (with_reducible refine Kd.C_alloc ?_ _) | (with_reducible refine Kd.C_drewN ?_ _) | (with_reducible refine Kd.C_drew ?_) | exact HR331_1.out)) hb);replace HB := am (below_step (bm HB.out) hb);(try clear hb);refine hK.out _ _ ⟨HS0_, HS1_, HS2_, HS3_⟩ (fun hHeld => ?_);clear hK K;refine norm_ (a' := ?_) ?_ ?_;rotate_left
             ·
              show Act.put _ (some 24) _ = _
              simp only [Act.put, sA, sB, sC, i64_w, i32_w];rfl
             refine pure_ (i := 9) (N := some 6) (v := ?_) (a' := ?_) #[true, true, true, true, true, true, true, true, true, true] rfl rfl (any_of HT_.out (by kernel_rfl)) (fun _ _ _ h => h) (Or.inl ⟨by rfl, ?_⟩) ?_ ?_;rotate_left
             ·
              intro w';go_simp;with_reducible rfl
             rotate_left
             ·
              simp only [Act.put, sA, sB, sC, i64_w, i32_w];rfl
             refine done_ (done_of HT_.out (by kernel_rfl)) ?_;(try go_wp2);replace HO_0 := am (Kd.V_drew HO_0.out);replace HO_1 := am (Kd.V_drew HO_1.out);replace HO_5 := am (Kd.N_drew HO_5.out);replace HL330_1 := am (Kd.V_drew HL330_1.out);replace HL331_1 := am (Kd.V_drew HL331_1.out);replace HR330_1 := am (Kd.C_drew HR330_1.out);replace HR331_1 := am (Kd.C_drew HR331_1.out);replace HB := am (below_drew1 HB.out);have p351 : 0 ≤ (0 : Int) := (by omega);have q351 : 0 < (x0_1.length : Int) := of_decide_eq_true (by assumption);obtain ⟨ad351, A351_1, c351_1, e351, hx351_0, hx351_1, hl351_1, hi351_1⟩ := at_T89 (Kd.V_reads' HO_0.out).2.2 0 p351 q351;(try clear hx330_0);(try clear hx330_1);(try clear hx330_2);(try clear hx330_3);(try clear hx333_0);(try clear hx333_1);(try clear hx333_2);(try clear hx333_3);(try clear hx330_0);(try clear hx330_1);(try clear hx330_2);(try clear hx330_3);(try clear hx330_0);(try clear hx330_1);(try clear hx330_2);(try clear hx330_3);(try clear HS0_);(try clear HS1_);(try clear HS2_);(try clear HS3_);(try clear HS4_);(try clear HS5_);(try clear HS6_);(try clear HS7_);(try clear HS8_);(try clear HS9_);(try clear hHeld);obtain rfl : ad330 = ad351 := (by injection e351);obtain ⟨ce351, hce351, hMe351, hcc351⟩ := Kd.V_get HO_0.out z89 0 p351 (by first | exact q351 | exact of_decide_eq_true (by assumption) | (have e_ := (Kd.V_reads' HO_0.out).1; omega));obtain ⟨ua351_1, uc351_1, rfl, ul351_1, ge351_1⟩ := k89_openF hMe351;have hv351_1 := hcc351 1 _ rfl;rw [add_field _ _ 1 (by omega)] at hv351_1;replace hv351_1 := Option.some.inj (hv351_1.symm.trans hx351_1)
             injection hv351_1 with hva_ hvn_ hvc_
             rw [hva_] at ge351_1;rw [hvc_] at ul351_1;have HL351_1 := am (show Kd.V k89 89 _ w.heap.size _ _ ((rd_T89 x0_1 0).f1) from Kd.V_mk ul351_1 ge351_1);clear hva_ hvn_ hvc_ ge351_1 ul351_1;clear hcc351 hce351;have qi351 : (0 < x0_1.length) = True := eq_true (by omega);(try rw [show ((0 : Int)).toNat = 0 from rfl] at hx351_0);(try rw [show 0 * 2 = 0 from rfl] at hx351_0);(try rw [Addr.add_zero'] at hx351_0);(try rw [show ((0 : Int)).toNat = 0 from rfl] at hx351_1);(try rw [show 0 * 2 = 0 from rfl] at hx351_1);(try rw [Addr.add_zero'] at hx351_1);have HR351_1 := am hi351_1;have HC351_1 := am hl351_1;clear hi351_1 hl351_1;replace p351 := eq_true p351;replace q351 := eq_true q351;have p352 : 0 ≤ (0 : Int) := (by omega);have q352 : 0 < (x1_1.length : Int) := of_decide_eq_true (by assumption);obtain ⟨ad352, A352_1, c352_1, e352, hx352_0, hx352_1, hl352_1, hi352_1⟩ := at_T89 (Kd.V_reads' HO_1.out).2.2 0 p352 q352;(try clear hx331_0);(try clear hx331_1);(try clear hx331_2);(try clear hx331_3);(try clear hx331_0);(try clear hx331_1);(try clear hx331_2);(try clear hx331_3);(try clear hx342_0);(try clear hx342_1);(try clear hx342_2);(try clear hx342_3);(try clear hx331_0);(try clear hx331_1);(try clear hx331_2);(try clear hx331_3);(try clear HS0_);(try clear HS1_);(try clear HS2_);(try clear HS3_);(try clear HS4_);(try clear HS5_);(try clear HS6_);(try clear HS7_);(try clear HS8_);(try clear HS9_);(try clear hHeld);obtain rfl : ad331 = ad352 := (by injection e352);obtain ⟨ce352, hce352, hMe352, hcc352⟩ := Kd.V_get HO_1.out z89 0 p352 (by first | exact q352 | exact of_decide_eq_true (by assumption) | (have e_ := (Kd.V_reads' HO_1.out).1; omega));obtain ⟨ua352_1, uc352_1, rfl, ul352_1, ge352_1⟩ := k89_openF hMe352;have hv352_1 := hcc352 1 _ rfl;rw [add_field _ _ 1 (by omega)] at hv352_1;replace hv352_1 := Option.some.inj (hv352_1.symm.trans hx352_1)
             injection hv352_1 with hva_ hvn_ hvc_
             rw [hva_] at ge352_1;rw [hvc_] at ul352_1;have HL352_1 := am (show Kd.V k89 89 _ w.heap.size _ _ ((rd_T89 x1_1 0).f1) from Kd.V_mk ul352_1 ge352_1);clear hva_ hvn_ hvc_ ge352_1 ul352_1;clear hcc352 hce352;have qi352 : (0 < x1_1.length) = True := eq_true (by omega);(try rw [show ((0 : Int)).toNat = 0 from rfl] at hx352_0);(try rw [show 0 * 2 = 0 from rfl] at hx352_0);(try rw [Addr.add_zero'] at hx352_0);(try rw [show ((0 : Int)).toNat = 0 from rfl] at hx352_1);(try rw [show 0 * 2 = 0 from rfl] at hx352_1);(try rw [Addr.add_zero'] at hx352_1);have HR352_1 := am hi352_1;have HC352_1 := am hl352_1;clear hi352_1 hl352_1;replace p352 := eq_true p352;replace q352 := eq_true q352;have p353 : 0 ≤ (0 : Int) := (by omega);have q353 : 0 < (x0_1.length : Int) := of_decide_eq_true (by assumption);obtain ⟨ad353, A353_1, c353_1, e353, hx353_0, hx353_1, hl353_1, hi353_1⟩ := at_T89 (Kd.V_reads' HO_0.out).2.2 0 p353 q353;(try clear hx330_0);(try clear hx330_1);(try clear hx330_2);(try clear hx330_3);(try clear hx333_0);(try clear hx333_1);(try clear hx333_2);(try clear hx333_3);(try clear hx330_0);(try clear hx330_1);(try clear hx330_2);(try clear hx330_3);(try clear hx330_0);(try clear hx330_1);(try clear hx330_2);(try clear hx330_3);(try clear HS0_);(try clear HS1_);(try clear HS2_);(try clear HS3_);(try clear HS4_);(try clear HS5_);(try clear HS6_);(try clear HS7_);(try clear HS8_);(try clear HS9_);obtain rfl : ad330 = ad353 := (by injection e353);obtain ⟨ce353, hce353, hMe353, hcc353⟩ := Kd.V_get HO_0.out z89 0 p353 (by first | exact q353 | exact of_decide_eq_true (by assumption) | (have e_ := (Kd.V_reads' HO_0.out).1; omega));obtain ⟨ua353_1, uc353_1, rfl, ul353_1, ge353_1⟩ := k89_openF hMe353;have hv353_1 := hcc353 1 _ rfl;rw [add_field _ _ 1 (by omega)] at hv353_1;replace hv353_1 := Option.some.inj (hv353_1.symm.trans hx353_1)
             injection hv353_1 with hva_ hvn_ hvc_
             rw [hva_] at ge353_1;rw [hvc_] at ul353_1;have HL353_1 := am (show Kd.V k89 89 _ w.heap.size _ _ ((rd_T89 x0_1 0).f1) from Kd.V_mk ul353_1 ge353_1);clear hva_ hvn_ hvc_ ge353_1 ul353_1;clear hcc353 hce353;have qi353 : (0 < x0_1.length) = True := eq_true (by omega);(try rw [show ((0 : Int)).toNat = 0 from rfl] at hx353_0);(try rw [show 0 * 2 = 0 from rfl] at hx353_0);(try rw [Addr.add_zero'] at hx353_0);(try rw [show ((0 : Int)).toNat = 0 from rfl] at hx353_1);(try rw [show 0 * 2 = 0 from rfl] at hx353_1);(try rw [Addr.add_zero'] at hx353_1);have HR353_1 := am hi353_1;have HC353_1 := am hl353_1;clear hi353_1 hl353_1;replace p353 := eq_true p353;replace q353 := eq_true q353;have ea_ := Option.some.inj (hx351_1.symm.trans hx353_1)
             injection ea_ with ea_ en_ ec_
             subst ea_;subst ec_;clear en_;refine start_ (n := 18) (S := fun w' => w'.cell? ad330 = some (.int .i64 ((rd_T89 x0_1 0).f0)) ∧ w'.cell? ⟨ad330.block, ad330.off + 1, none⟩ = some (.slice A351_1 ((rd_T89 x0_1 0).f1).length c351_1) ∧ w'.cell? ad331 = some (.int .i64 ((rd_T89 x1_1 0).f0)) ∧ w'.cell? ⟨ad331.block, ad331.off + 1, none⟩ = some (.slice A352_1 ((rd_T89 x1_1 0).f1).length c352_1) ∧ w'.cell? ad330 = some (.int .i64 ((rd_T89 x0_1 0).f0)) ∧ w'.cell? ⟨ad330.block, ad330.off + 1, none⟩ = some (.slice A351_1 ((rd_T89 x0_1 0).f1).length c351_1)) (ds := [15, 16]) #[false, false, false, false, false, false, false, false, false, false, false, false, false, false, false, false, false, false] (by kernel_rfl) rfl rfl ⟨hx351_0, hx351_1, hx352_0, hx352_1, hx353_0, hx353_1⟩ (fun hHeld => ?_); refine with_tabW impl_natural.tab4 impl_natural.bits4 (fun HT_ HW_ => ?_);generalize w38.drew = w39 at HO_0 HO_1 HO_5 HL330_1 HL331_1 HR330_1 HR331_1 HB HL351_1 HL352_1 HL353_1 HR351_1 HR352_1 HR353_1 hx351_0 hx351_1 hx352_0 hx352_1 hx353_0 hx353_1 hHeld ⊢;refine pure_ (i := 0) (N := some 25) (v := ?_) (a' := ?_) #[true, false, false, false, false, false, false, false, false, false, false, false, false, false, false, false, false, false] rfl rfl (any_of HT_.out (by kernel_rfl)) (fun _ _ _ h => h) (Or.inl ⟨by rfl, ?_⟩) ?_ ?_;rotate_left
             ·
              intro w';go_simp;with_reducible rfl
             rotate_left
             ·
              simp only [Act.put, sA, sB, sC, i64_w, i32_w];rfl
             refine pure_ (i := 1) (N := some 26) (v := ?_) (a' := ?_) #[true, true, false, false, false, false, false, false, false, false, false, false, false, false, false, false, false, false] rfl rfl (any_of HT_.out (by kernel_rfl)) (fun _ _ _ h => h) (Or.inl ⟨by rfl, ?_⟩) ?_ ?_;rotate_left
             ·
              intro w';go_simp;with_reducible rfl
             rotate_left
             ·
              simp only [Act.put, sA, sB, sC, i64_w, i32_w];rfl
             refine pure_ (i := 2) (N := some 27) (v := ?_) (a' := ?_) #[true, true, true, false, false, false, false, false, false, false, false, false, false, false, false, false, false, false] rfl rfl (any_of HT_.out (by kernel_rfl)) (fun _ _ _ h => h) (Or.inl ⟨by rfl, ?_⟩) ?_ ?_;rotate_left
             ·
              intro w';go_simp;with_reducible rfl
             rotate_left
             ·
              simp only [Act.put, sA, sB, sC, i64_w, i32_w];rfl
             refine pure_ (i := 3) (N := some 28) (v := ?_) (a' := ?_) #[true, true, true, true, false, false, false, false, false, false, false, false, false, false, false, false, false, false] rfl rfl (any_of HT_.out (by kernel_rfl)) (fun _ _ _ h => h) (Or.inl ⟨by rfl, ?_⟩) ?_ ?_;rotate_left
             ·
              intro w';go_simp;with_reducible rfl
             rotate_left
             ·
              simp only [Act.put, sA, sB, sC, i64_w, i32_w];rfl
             refine pure_ (i := 5) (N := some 30) (v := ?_) (a' := ?_) #[true, true, true, true, false, true, false, false, false, false, false, false, false, false, false, false, false, false] rfl rfl (any_of HT_.out (by kernel_rfl)) (fun _ _ _ h => h) (Or.inl ⟨by rfl, ?_⟩) ?_ ?_;rotate_left
             ·
              intro w';go_simp;with_reducible rfl
             rotate_left
             ·
              simp only [Act.put, sA, sB, sC, i64_w, i32_w];rfl
             refine pure_ (i := 6) (N := some 31) (v := ?_) (a' := ?_) #[true, true, true, true, false, true, true, false, false, false, false, false, false, false, false, false, false, false] rfl rfl (any_of HT_.out (by kernel_rfl)) (fun _ _ _ h => h) (Or.inl ⟨by rfl, ?_⟩) ?_ ?_;rotate_left
             ·
              intro w';go_simp;with_reducible rfl
             rotate_left
             ·
              simp only [Act.put, sA, sB, sC, i64_w, i32_w];rfl
             refine pure_ (i := 7) (N := some 32) (v := ?_) (a' := ?_) #[true, true, true, true, false, true, true, true, false, false, false, false, false, false, false, false, false, false] rfl rfl (any_of HT_.out (by kernel_rfl)) (fun _ _ _ h => h) (Or.inl ⟨by rfl, ?_⟩) ?_ ?_;rotate_left
             ·
              intro w';go_simp;with_reducible rfl
             rotate_left
             ·
              simp only [Act.put, sA, sB, sC, i64_w, i32_w];rfl
             refine pure_ (i := 10) (N := some 35) (v := ?_) (a' := ?_) #[true, true, true, true, false, true, true, true, false, false, true, false, false, false, false, false, false, false] rfl rfl (any_of HT_.out (by kernel_rfl)) (fun _ _ _ h => h) (Or.inl ⟨by rfl, ?_⟩) ?_ ?_;rotate_left
             ·
              intro w';go_simp;with_reducible rfl
             rotate_left
             ·
              simp only [Act.put, sA, sB, sC, i64_w, i32_w];rfl
             refine pure_ (i := 11) (N := some 36) (v := ?_) (a' := ?_) #[true, true, true, true, false, true, true, true, false, false, true, true, false, false, false, false, false, false] rfl rfl (any_of HT_.out (by kernel_rfl)) (fun _ _ _ h => h) (Or.inl ⟨by rfl, ?_⟩) ?_ ?_;rotate_left
             ·
              intro w';go_simp;with_reducible rfl
             rotate_left
             ·
              simp only [Act.put, sA, sB, sC, i64_w, i32_w];rfl
             refine pure_ (i := 12) (N := some 37) (v := ?_) (a' := ?_) #[true, true, true, true, false, true, true, true, false, false, true, true, true, false, false, false, false, false] rfl rfl (any_of HT_.out (by kernel_rfl)) (fun _ _ _ h => h) (Or.inl ⟨by rfl, ?_⟩) ?_ ?_;rotate_left
             ·
              intro w';go_simp;with_reducible rfl
             rotate_left
             ·
              simp only [Act.put, sA, sB, sC, i64_w, i32_w];rfl
             refine take_ (i := 4) (N := some 29) (v := ?_) (a' := ?_) #[true, true, true, true, true, true, true, true, false, false, true, true, true, false, false, false, false, false] rfl rfl (take_ofW HT_.out HW_.out (by kernel_rfl)) (fun _ _ _ h => h) (Or.inl ⟨by rfl, ?_⟩) hHeld ?_ ?_;rotate_left
             ·
              rintro w' ⟨s0, s1, s2, s3, s4, s5⟩
              go_simp;with_reducible rfl
             rotate_left
             ·
              simp only [Act.put, sA, sB, sC, i64_w, i32_w];rfl
             refine take_ (i := 8) (N := some 33) (v := ?_) (a' := ?_) #[true, true, true, true, true, true, true, true, true, false, true, true, true, false, false, false, false, false] rfl rfl (take_ofW HT_.out HW_.out (by kernel_rfl)) (fun _ _ _ h => h) (Or.inl ⟨by rfl, ?_⟩) hHeld ?_ ?_;rotate_left
             ·
              rintro w' ⟨s0, s1, s2, s3, s4, s5⟩
              go_simp;with_reducible rfl
             rotate_left
             ·
              simp only [Act.put, sA, sB, sC, i64_w, i32_w];rfl
             refine pure_ (i := 9) (N := some 34) (v := ?_) (a' := ?_) #[true, true, true, true, true, true, true, true, true, true, true, true, true, false, false, false, false, false] rfl rfl (any_of HT_.out (by kernel_rfl)) (fun _ _ _ h => h) (Or.inl ⟨by rfl, ?_⟩) ?_ ?_;rotate_left
             ·
              intro w';go_simp;with_reducible rfl
             rotate_left
             ·
              simp only [Act.put, sA, sB, sC, i64_w, i32_w];rfl
             refine take_ (i := 13) (N := some 38) (v := ?_) (a' := ?_) #[true, true, true, true, true, true, true, true, true, true, true, true, true, true, false, false, false, false] rfl rfl (take_ofW HT_.out HW_.out (by kernel_rfl)) (fun _ _ _ h => h) (Or.inl ⟨by rfl, ?_⟩) hHeld ?_ ?_;rotate_left
             ·
              rintro w' ⟨s0, s1, s2, s3, s4, s5⟩
              go_simp;with_reducible rfl
             rotate_left
             ·
              simp only [Act.put, sA, sB, sC, i64_w, i32_w];rfl
             refine pure_ (i := 14) (N := some 39) (v := ?_) (a' := ?_) #[true, true, true, true, true, true, true, true, true, true, true, true, true, true, true, false, false, false] rfl rfl (any_of HT_.out (by kernel_rfl)) (fun _ _ _ h => h) (Or.inl ⟨by rfl, ?_⟩) ?_ ?_;rotate_left
             ·
              intro w';go_simp;with_reducible rfl
             rotate_left
             ·
              simp only [Act.put, sA, sB, sC, i64_w, i32_w];rfl
             refine last_ (i := 15) (N := some 40) #[true, true, true, true, true, true, true, true, true, true, true, true, true, true, true, true, false, false] rfl rfl (one_of HT_.out (by kernel_rfl)) (by decide) (fun K hK => ?_);refine value_ (w1 := ?_) (v := ?_) (by rfl) rfl ?_ ?_;rotate_left 2
             ·
              go_simp
              constructor
              ·
               rfl
              ·
               rfl
             refine hK.out _ _ ?_;clear hK K;refine norm_ (a' := ?_) ?_ ?_;rotate_left
             ·
              show Act.put _ (some 40) _ = _
              simp only [Act.put, sA, sB, sC, i64_w, i32_w];rfl
             refine last_ (i := 16) (N := some 41) #[true, true, true, true, true, true, true, true, true, true, true, true, true, true, true, true, true, false] rfl rfl (one_of HT_.out (by kernel_rfl)) (by decide) (fun K hK => ?_);refine Kd.N_append_step k89 (w0 := w) w.heap.size (by rfl) (.tmp 25) (.tmp 40) 63 89 (.agg #[(.int .i64 0), (.slice none 0 0)]) 32 rfl Try.underlying63 info89 rfl (by decide) (by omega) u5 x5_1 (⟨wrap64 (((rd_T89 x0_1 0).f0) + ((rd_T89 x1_1 0).f0)), (rd_T89 x0_1 0).f1⟩ : S89) [.int .i64 (wrap64 (((rd_T89 x0_1 0).f0) + ((rd_T89 x1_1 0).f0))), .slice A351_1 ((rd_T89 x0_1 0).f1).length c351_1] (fun k_ => ((P0_ k_ ∨ P1_ k_) ∨ w.heap.size ≤ k_)) (fun k_ => ((fun k_ => ((P0_ k_ ∨ P1_ k_) ∨ w.heap.size ≤ k_))) k_ ∧ some k_ ≠ (u5 : Value).ownBlock) rfl rfl ?aP (fun _ hk => hk) ?aF ?aO ?aB ?aS ?aL ?_
             (case aP => exact (k89_mkF _ _ (⟨wrap64 (((rd_T89 x0_1 0).f0) + ((rd_T89 x1_1 0).f0)), (rd_T89 x0_1 0).f1⟩ : S89) (Kd.V_reads' (Kd.V_mono (ok' := (fun k_ => ((fun k_ => ((P0_ k_ ∨ P1_ k_) ∨ w.heap.size ≤ k_))) k_ ∧ some k_ ≠ (u5 : Value).ownBlock)) (HL353_1.out) (fun k_ hk => ⟨hk.1, hk.2⟩))).2.1 (Kd.V_F (Kd.V_mono (ok' := (fun k_ => ((fun k_ => ((P0_ k_ ∨ P1_ k_) ∨ w.heap.size ≤ k_))) k_ ∧ some k_ ≠ (u5 : Value).ownBlock)) (HL353_1.out) (fun k_ hk => ⟨hk.1, hk.2⟩)))))
             (case aB => exact (bm HB.out))
             (case aF => exact (fun k_ hk => (.inr (Nat.le_trans (below_size (bm HB.out)) hk))))
             (case aO => exact (Kd.nm HO_5.out))
             (case aS => exact (below_size (bm HB.out)))
             (case aL => have := LMc32.out; omega)
             intro v355 w40 ho hb hg hat;rw [← hy354.out] at ho;replace HO_0 := am (Kd.V_afterv (ok := (fun k_ => ((P0_ k_ ∨ P1_ k_) ∨ w.heap.size ≤ k_))) (Kd.vm HO_0.out) hg hat);replace HO_1 := am (Kd.V_afterv (ok := (fun k_ => ((P0_ k_ ∨ P1_ k_) ∨ w.heap.size ≤ k_))) (Kd.vm HO_1.out) hg hat);replace HL330_1 := am (Kd.V_afterv (ok := (fun k_ => ((P0_ k_ ∨ P1_ k_) ∨ w.heap.size ≤ k_))) (Kd.vm HL330_1.out) hg hat);replace HL331_1 := am (Kd.V_afterv (ok := (fun k_ => ((P0_ k_ ∨ P1_ k_) ∨ w.heap.size ≤ k_))) (Kd.vm HL331_1.out) hg hat);replace HL351_1 := am (Kd.V_afterv (ok := (fun k_ => ((P0_ k_ ∨ P1_ k_) ∨ w.heap.size ≤ k_))) (Kd.vm HL351_1.out) hg hat);replace HL352_1 := am (Kd.V_afterv (ok := (fun k_ => ((P0_ k_ ∨ P1_ k_) ∨ w.heap.size ≤ k_))) (Kd.vm HL352_1.out) hg hat);replace HL353_1 := am (Kd.V_afterv (ok := (fun k_ => ((P0_ k_ ∨ P1_ k_) ∨ w.heap.size ≤ k_))) (Kd.vm HL353_1.out) hg hat);replace HB := am (hb);have HO356 := am (ho);clear HO_5;clear ho hb hg hat;refine hK.out _ _ ?_;clear hK K;refine norm_ (a' := ?_) ?_ ?_;rotate_left
             ·
              show Act.put _ (some 41) _ = _
              simp only [Act.put, sA, sB, sC, i64_w, i32_w];rfl
             refine pure_ (i := 17) (N := some 5) (v := ?_) (a' := ?_) #[true, true, true, true, true, true, true, true, true, true, true, true, true, true, true, true, true, true] rfl rfl (any_of HT_.out (by kernel_rfl)) (fun _ _ _ h => h) (Or.inl ⟨by rfl, ?_⟩) ?_ ?_;rotate_left
             ·
              intro w';go_simp;with_reducible rfl
             rotate_left
             ·
              simp only [Act.put, sA, sB, sC, i64_w, i32_w];rfl
             refine done_ (done_of HT_.out (by kernel_rfl)) ?_;(try go_wp2);replace HO_0 := am (Kd.V_drew HO_0.out);replace HO_1 := am (Kd.V_drew HO_1.out);replace HL330_1 := am (Kd.V_drew HL330_1.out);replace HL331_1 := am (Kd.V_drew HL331_1.out);replace HL351_1 := am (Kd.V_drew HL351_1.out);replace HL352_1 := am (Kd.V_drew HL352_1.out);replace HL353_1 := am (Kd.V_drew HL353_1.out);replace HO356 := am (Kd.N_drew HO356.out);replace HB := am (below_drew1 HB.out);have q42 : (1 : Int) ≤ ((x0_1.length : Int) : Int) := of_decide_eq_true (by assumption);obtain ⟨i042, hi042, _, hsz42, _⟩ := info_parts info89;have hroom42 : x0_1.length ≤ co36 := (Kd.V_reads' HO_0.out).2.1;have hC42 : Kd.F k89 _ _ (some ad330) x0_1.length x0_1 := (Kd.V_at (base := w.heap.size) HO_0.out).2.2;have hcut42 := cut_from (P := Try.prog) 63 89 .i64 Try.underlying63 hi042 2 hsz42 (some ad330) x0_1.length co36 1 (by omega) q42;have hr42 := Kd.F_cut (m := (1 : Int).toNat) (c := co36) hC42 (by omega) hroom42
             obtain ⟨A42, hA42⟩ : ∃ A_, A_ = (if co36 = (1 : Int).toNat then (some ad330) else ((some ad330) : Option Addr).map (·.add ((1 : Int).toNat * 2))) := ⟨_, rfl⟩
             obtain ⟨c42, hc42⟩ : ∃ c_, c_ = co36 - (1 : Int).toNat := ⟨_, rfl⟩
             have hy42 : y357.length = x0_1.length - (1 : Int).toNat := (by rw [hy357.out, List.length_drop] <;> omega);rw [show (x0_1).drop (1 : Int).toNat = y357 from hy357.out.symm] at hr42;replace hr42 : Kd.F k89 _ _ A42 y357.length y357 := (by rw [hA42]; exact hr42);rw [← hy42, ← hA42, ← hc42] at hcut42;have HO361 := am (show Kd.V k89 89 _ w.heap.size _ (.slice A42 y357.length c42) y357 from Kd.V_mk (by rw [hy42, hc42]; exact Nat.sub_le_sub_right hroom42 _) hr42);have HC361 := am (show y357.length ≤ c42 from by rw [hy42, hc42]; exact Nat.sub_le_sub_right hroom42 _);clear hr42 hC42 hroom42 hi042 hsz42 hc42;have KY42 := am hy42;have KA42 := am hA42;clear hy42 hA42;replace q42 := eq_true q42;have q43 : (1 : Int) ≤ ((x1_1.length : Int) : Int) := of_decide_eq_true (by assumption);obtain ⟨i043, hi043, _, hsz43, _⟩ := info_parts info89;have hroom43 : x1_1.length ≤ co37 := (Kd.V_reads' HO_1.out).2.1;have hC43 : Kd.F k89 _ _ (some ad331) x1_1.length x1_1 := (Kd.V_at (base := w.heap.size) HO_1.out).2.2;have hcut43 := cut_from (P := Try.prog) 63 89 .i64 Try.underlying63 hi043 2 hsz43 (some ad331) x1_1.length co37 1 (by omega) q43;have hr43 := Kd.F_cut (m := (1 : Int).toNat) (c := co37) hC43 (by omega) hroom43
             obtain ⟨A43, hA43⟩ : ∃ A_, A_ = (if co37 = (1 : Int).toNat then (some ad331) else ((some ad331) : Option Addr).map (·.add ((1 : Int).toNat * 2))) := ⟨_, rfl⟩
             obtain ⟨c43, hc43⟩ : ∃ c_, c_ = co37 - (1 : Int).toNat := ⟨_, rfl⟩
             have hy43 : y362.length = x1_1.length - (1 : Int).toNat := (by rw [hy362.out, List.length_drop] <;> omega);rw [show (x1_1).drop (1 : Int).toNat = y362 from hy362.out.symm] at hr43;replace hr43 : Kd.F k89 _ _ A43 y362.length y362 := (by rw [hA43]; exact hr43);rw [← hy43, ← hA43, ← hc43] at hcut43;have HO366 := am (show Kd.V k89 89 _ w.heap.size _ (.slice A43 y362.length c43) y362 from Kd.V_mk (by rw [hy43, hc43]; exact Nat.sub_le_sub_right hroom43 _) hr43);have HC366 := am (show y362.length ≤ c43 from by rw [hy43, hc43]; exact Nat.sub_le_sub_right hroom43 _);clear hr43 hC43 hroom43 hi043 hsz43 hc43;have KY43 := am hy43;have KA43 := am hA43;clear hy43 hA43;replace q43 := eq_true q43;refine start_ (n := 6) (S := fun w' => True) (ds := []) #[false, false, false, false, false, false] (by kernel_rfl) rfl rfl trivial (fun hHeld => ?_);generalize w40.drew = w41 at HO_0 HO_1 HL330_1 HL331_1 HL351_1 HL352_1 HL353_1 HO356 HB HO361 HO366 hHeld ⊢;refine pure_ (i := 0) (N := some 42) (v := ?_) (a' := ?_) #[true, false, false, false, false, false] rfl rfl (by kernel_rfl) (fun _ _ _ h => h) (Or.inl ⟨by rfl, ?_⟩) ?_ ?_;rotate_left
             ·
              intro w';go_simp;with_reducible rfl
             rotate_left
             ·
              simp only [Act.put, sA, sB, sC, i64_w, i32_w];rfl
             refine pure_ (i := 1) (N := some 43) (v := ?_) (a' := ?_) #[true, true, false, false, false, false] rfl rfl (by kernel_rfl) (fun _ _ _ h => h) (Or.inl ⟨by rfl, ?_⟩) ?_ ?_;rotate_left
             ·
              intro w';go_simp;with_reducible rfl
             rotate_left
             ·
              simp only [Act.put, sA, sB, sC, i64_w, i32_w];rfl
             refine pure_ (i := 2) (N := some 44) (v := ?_) (a' := ?_) #[true, true, true, false, false, false] rfl rfl (by kernel_rfl) (fun _ _ _ h => h) (Or.inl ⟨by rfl, ?_⟩) ?_ ?_;rotate_left
             ·
              intro w';go_simp;with_reducible rfl
             rotate_left
             ·
              simp only [Act.put, sA, sB, sC, i64_w, i32_w];rfl
             refine pure_ (i := 3) (N := some 45) (v := ?_) (a' := ?_) #[true, true, true, true, false, false] rfl rfl (by kernel_rfl) (fun _ _ _ h => h) (Or.inl ⟨by rfl, ?_⟩) ?_ ?_;rotate_left
             ·
              intro w';go_simp;with_reducible rfl
             rotate_left
             ·
              simp only [Act.put, sA, sB, sC, i64_w, i32_w];rfl
             refine pure_ (i := 4) (N := some 0) (v := ?_) (a' := ?_) #[true, true, true, true, true, false] rfl rfl (by kernel_rfl) (fun _ _ _ h => h) (Or.inl ⟨by rfl, ?_⟩) ?_ ?_;rotate_left
             ·
              intro w';go_simp;with_reducible rfl
             rotate_left
             ·
              simp only [Act.put, sA, sB, sC, i64_w, i32_w];rfl
             refine pure_ (i := 5) (N := some 1) (v := ?_) (a' := ?_) #[true, true, true, true, true, true] rfl rfl (by kernel_rfl) (fun _ _ _ h => h) (Or.inl ⟨by rfl, ?_⟩) ?_ ?_;rotate_left
             ·
              intro w';go_simp;with_reducible rfl
             rotate_left
             ·
              simp only [Act.put, sA, sB, sC, i64_w, i32_w];rfl
             refine done_ (by kernel_rfl) ?_;(try go_wp2)
             go_roundg kj4
             case measure => have := HK1.out; have := HJ4.out; omega
             case rel => exact ⟨(y357), (y362), (y354), H', ⟨by have := HK1.out; have := HJ4.out; omega⟩, ⟨by (with_reducible repeat (first | apply Kd.V_alloc | apply Kd.V_drewN | apply Kd.V_drew)); first | exact HO361.out | (rw [hy357.out.trans hy337.out.symm]; exact HO341.out)⟩, ⟨by (with_reducible repeat (first | apply Kd.V_alloc | apply Kd.V_drewN | apply Kd.V_drew)); first | exact HO366.out | (rw [hy362.out.trans hy346.out.symm]; exact HO350.out)⟩, ⟨Kd.nm HO356.out⟩, ⟨bm HB.out⟩⟩
            ·
             rw [if_neg c34] at H;exact absurd H (by simp)
           ·
            rw [if_neg c33] at H;exact absurd H (by simp)
          ·
           rw [if_neg c32] at H;exact absurd H (by simp)
       ·
        rw [if_neg c12] at H;exact absurd H (by simp)
      ·
       rw [if_neg c11] at H;exact absurd H (by simp)
     ·
      replace c10 := Bool.eq_false_iff.mpr c10;subst c10
      have H1 : (if x5_1.length + x0_1.length < 4398046511104 then ((some (x5_1 ++ x0_1 : List (S89))).bind fun y324 => (if y324.length + x1_1.length < 4398046511104 then (some (y324 ++ x1_1)) else (none))) else (none)) = some r := by rw [if_neg (show ¬ (false = true) by decide)] at H; exact H
      clear H;have H := H1;clear H1;by_cases c44 : x5_1.length + x0_1.length < 4398046511104
      ·
       rw [if_pos c44] at H;have LMc44 := am c44;clear c44
       obtain ⟨y324, hy324⟩ : ∃ y_ : List (S89), y_ = (x5_1 ++ x0_1) := ⟨_, rfl⟩
       replace H : (if y324.length + x1_1.length < 4398046511104 then (some (y324 ++ x1_1)) else (none)) = some r := by first | (rw [hy324]; with_reducible exact H) | (have H2_ := oB H; rw [hy324]; with_reducible exact H2_) | (have H2_ := oB H; with_reducible exact H2_) | with_reducible exact H | (rw [hy324]; exact H) | exact H
       replace hy324 := am hy324;by_cases c45 : y324.length + x1_1.length < 4398046511104
       ·
        rw [if_pos c45] at H;have LMc45 := am c45;clear c45
        obtain ⟨y327, hy327⟩ : ∃ y_ : List (S89), y_ = (y324 ++ x1_1) := ⟨_, rfl⟩
        replace H : (some y327) = some r := by first | (rw [hy327]; with_reducible exact H) | (have H2_ := oB H; rw [hy327]; with_reducible exact H2_) | (have H2_ := oB H; with_reducible exact H2_) | with_reducible exact H | (rw [hy327]; exact H) | exact H
        replace hy327 := am hy327;obtain rfl := Option.some.inj H;obtain ⟨Ao47, co47, eo47⟩ := Kd.V_slice HO_0.out;subst eo47;go_wp2_with (first | ((with_reducible refine gate_builtin (b := .append) (xs := #[.tmp 68, .tmp 69]) rfl ?_); (try (refine gate_guard (by rfl) ?_; dsimp only)); at_builtin; refine Kd.N_append_rows k89 (w0 := w) w.heap.size rfl (.tmp 68) (.tmp 69) 63 89 (.agg #[(.int .i64 0), (.slice none 0 0)]) 32 rfl Try.underlying63 info89 rfl (by decide) (by omega) u5 x5_1 x0_1 _ _ _ (fun k_ => ((P0_ k_ ∨ P1_ k_) ∨ w.heap.size ≤ k_)) (fun k_ => ((fun k_ => ((P0_ k_ ∨ P1_ k_) ∨ w.heap.size ≤ k_))) k_ ∧ some k_ ≠ (u5 : Value).ownBlock) rfl rfl ?aO ?aR (fun _ hk => hk) ?aF ?aB ?aS ?aL ?_; (case aR => exact (by skip; exact Kd.V_F (Kd.V_mono (ok' := (fun k_ => ((fun k_ => ((P0_ k_ ∨ P1_ k_) ∨ w.heap.size ≤ k_))) k_ ∧ some k_ ≠ (u5 : Value).ownBlock)) (HO_0.out) (fun k_ hk => ⟨hk.1, hk.2⟩)))); (case aB => exact (bm HB.out)); (case aF => exact (fun k_ hk => (.inr (Nat.le_trans (below_size (bm HB.out)) hk)))); (case aO => exact (Kd.nm HO_5.out)); (case aS => exact (below_size (bm HB.out))); (case aL => have := LMc44.out; omega); intro v325 w46 ho hb hg hat; rw [← hy324.out] at ho; replace HO_0 := am (Kd.V_afterv (ok := (fun k_ => ((P0_ k_ ∨ P1_ k_) ∨ w.heap.size ≤ k_))) (Kd.vm HO_0.out) hg hat);replace HO_1 := am (Kd.V_afterv (ok := (fun k_ => ((P0_ k_ ∨ P1_ k_) ∨ w.heap.size ≤ k_))) (Kd.vm HO_1.out) hg hat);replace HB := am (hb);have HO326 := am (ho);clear HO_5; clear ho hb hg hat; obtain ⟨Ao49, co49, eo49⟩ := Kd.V_slice HO_1.out; subst eo49) | ((with_reducible refine gate_builtin (b := .append) (xs := #[.tmp 70, .tmp 71]) rfl ?_); (try (refine gate_guard (by rfl) ?_; dsimp only)); at_builtin; refine Kd.N_append_rows k89 (w0 := w) w.heap.size rfl (.tmp 70) (.tmp 71) 63 89 (.agg #[(.int .i64 0), (.slice none 0 0)]) 32 rfl Try.underlying63 info89 rfl (by decide) (by omega) v325 y324 x1_1 _ _ _ (fun k_ => ((P0_ k_ ∨ P1_ k_) ∨ w.heap.size ≤ k_)) (fun k_ => ((fun k_ => ((P0_ k_ ∨ P1_ k_) ∨ w.heap.size ≤ k_))) k_ ∧ some k_ ≠ (v325 : Value).ownBlock) rfl rfl ?aO ?aR (fun _ hk => hk) ?aF ?aB ?aS ?aL ?_; (case aR => exact (by skip; exact Kd.V_F (Kd.V_mono (ok' := (fun k_ => ((fun k_ => ((P0_ k_ ∨ P1_ k_) ∨ w.heap.size ≤ k_))) k_ ∧ some k_ ≠ (v325 : Value).ownBlock)) (HO_1.out) (fun k_ hk => ⟨hk.1, hk.2⟩)))); (case aB => exact (bm HB.out)); (case aF => exact (fun k_ hk => (.inr (Nat.le_trans (below_size (bm HB.out)) hk)))); (case aO => exact (Kd.nm HO326.out)); (case aS => exact (below_size (bm HB.out))); (case aL => have := LMc45.out; omega); intro v328 w48 ho hb hg hat; rw [← hy327.out] at ho; replace HO_0 := am (Kd.V_afterv (ok := (fun k_ => ((P0_ k_ ∨ P1_ k_) ∨ w.heap.size ≤ k_))) (Kd.vm HO_0.out) hg hat);replace HO_1 := am (Kd.V_afterv (ok := (fun k_ => ((P0_ k_ ∨ P1_ k_) ∨ w.heap.size ≤ k_))) (Kd.vm HO_1.out) hg hat);replace HB := am (hb);have HO329 := am (ho);clear HO326; clear ho hb hg hat));go_ret;exact ⟨_, by first | rfl | (simp [errW_none, errW_some] <;> rfl) | (simp [*, errW_none, errW_some] <;> rfl), Kd.nm HO329.out, bm HB.out⟩
       ·
        rw [if_neg c45] at H;exact absurd H (by simp)
      ·
       rw [if_neg c44] at H;exact absurd H (by simp)

end Go.Proofs.Ytmidgjmlgjjobaa.Ig

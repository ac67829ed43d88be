-- half
-- Written by a program of this session's (wip/mp) out of the translation, over the kit's print with changes.
import Derived.Test.YtomidfnhbnhhmaaKax0
import Derived.Test.YtomidfnhbnhhmaaKax2
import Derived.Test.YtomidfnhbnhhmaaKax7
import Derived.Test.YtomidfnhbnhhmaaKax8
namespace Go.Proofs.Ytomidfnhbnhhmaa.Ka
open Go.RowKit Go.Proofs.YtomidfnhbnhhmaaW.PrintWords Go.Proofs.YtomidfnhbnhhmaaW.PrintLast Go.Proofs.YtomidfnhbnhhmaaW.PrintMore
attribute [local go_sem] max2_int min2_int max_two min_two max_three min_three max_four min_four   -- for this text's walks alone
set_option linter.unusedVariables false
set_option linter.unusedSimpArgs false

/-! ### spec_OrdMost: function 39 -/
mutual
def spec_OrdMost.l0 : Nat → List Int → List (List Int) → Int → Int → Option (Int)
 | 0, _, _, _, _ => none
 | k + 1, x3, x4, x5, x6 => if x6 < (x3.length : Int) then (if 0 ≤ x6 then (if x6 < (x4.length : Int) then ((spec_OrdMost.f k (rd_L3 x4 x6)).bind fun t429 => (spec_OrdMost.l0 k x3 x4 (mx x5 (mx (rd x3 x6) t429)) (wrap64 (x6 + 1)))) else (none)) else (none)) else (some x5)
def spec_OrdMost.f : Nat → List Int → Option (Int)
 | 0, _ => none
 | k + 1, l0 => (spec_OrdValid.f k l0).bind fun t420 => (if t420 = true then ((spec_l1Terms.f k l0).bind fun bt421 => (spec_OrdMost.l0 k bt421.1 bt421.2 0 0)) else (some (-1)))
end
theorem spec_OrdMost.mono_l : ∀ k, (∀ y0, LeO (spec_OrdMost.f k y0) (spec_OrdMost.f (k + 1) y0)) ∧ (∀ y0 y1 y2 y3, LeO (spec_OrdMost.l0 k y0 y1 y2 y3) (spec_OrdMost.l0 (k + 1) y0 y1 y2 y3))
 | 0 => ⟨fun _ r h => by simp [spec_OrdMost.f] at h, fun _ _ _ _ r h => by simp [spec_OrdMost.l0] at h⟩
 | k + 1 => by
  obtain ⟨ih0, ih1⟩ := spec_OrdMost.mono_l k;refine ⟨?_, ?_⟩
  all_goals (intros; first | unfold spec_OrdMost.f | unfold spec_OrdMost.l0)
  all_goals repeat' first | (with_reducible exact ih0 _) | (with_reducible exact ih1 _ _ _ _) | (with_reducible exact spec_OrdValid.mono _ _) | (with_reducible exact spec_l1Terms.mono _ _) | (with_reducible exact LeO.refl _) | (with_reducible exact LeO.none _) | (with_reducible refine LeO.ite ?_ ?_) | (with_reducible refine LeO.bind ?_ (fun _ => ?_))
theorem spec_OrdMost.mono : ∀ a0 k, LeO (spec_OrdMost.f k a0) (spec_OrdMost.f (k + 1) a0) := by
 intro a0 k;obtain ⟨ih0, ih1⟩ := spec_OrdMost.mono_l k;exact ih0 a0
def spec_OrdMost.T8 : Bool × List (List Nat × List Nat) := (true, [([], []), ([], []), ([], []), ([1, 2], [1, 2]), ([3], [3]), ([], []), ([], []), ([5, 6], [5, 6]), ([7], [7]), ([8], [8]), ([4, 9], [4, 9]), ([0, 10], [0, 10]), ([11, 9, 0, 1, 2, 3, 4, 5, 6, 7, 8, 9, 10, 11], [0, 11])])
def spec_OrdMost.B8 : List Nat := [0, 0, 0, 6, 14, 0, 0, 96, 224, 480, 1022, 2047, 4095]
theorem spec_OrdMost.tab8 : rtab .any (opsOf Try.f39 8) = spec_OrdMost.T8 := by kernel_rfl
theorem spec_OrdMost.bits8 : waitsOk spec_OrdMost.T8.2 spec_OrdMost.B8 = true := by kernel_rfl
set_option maxHeartbeats 8000000 in
set_option maxRecDepth 100000 in
theorem spec_OrdMost.calls (k : Nat) : ∀ (A0 : Option Addr) (c0 : Nat) (l0 : List Int) (r : Int) (w : World) (hr0 : Kd.C (Kd.int .i64) w A0 l0.length l0) (hc0 : l0.length ≤ c0) (h : spec_OrdMost.f k l0 = some r),
  Calls Try.prog 39 #[.slice A0 l0.length c0] w fun e w' => e = .returned (.int .i64 r) ∧ Below w.heap.size w w' := by
 induction k using Nat.strongRecOn with
 | _ k ih =>
 intro A0 c0 l0 r w hr0 hc0 h
 cases k with
 | zero => exact absurd h (by simp [spec_OrdMost.f])
 | succ k =>
 simp only [spec_OrdMost.f] at h;have HR0 := am hr0;have HC0 := am hc0;clear hr0 hc0;have HB := am (Below.refl w.heap.size w);have H : ((spec_OrdValid.f k l0).bind fun t420 => (if t420 = true then ((spec_l1Terms.f k l0).bind fun bt421 => (spec_OrdMost.l0 k bt421.1 bt421.2 0 0)) else (some (-1)))) = some r := h;clear h;replace H := oE H;obtain ⟨t420, A2, H⟩ := H;replace H : (if t420 = true then ((spec_l1Terms.f k l0).bind fun bt421 => (spec_OrdMost.l0 k bt421.1 bt421.2 0 0)) else (some (-1))) = some r := H;replace A2 := am A2;by_cases c3 : t420 = true
 ·
  subst c3
  have H1 : ((spec_l1Terms.f k l0).bind fun bt421 => (spec_OrdMost.l0 k bt421.1 bt421.2 0 0)) = some r := by rw [if_pos rfl] at H; exact H
  clear H;have H := H1;clear H1;replace H := oE H;obtain ⟨⟨t421, t424⟩, A4, H⟩ := H;replace H : (spec_OrdMost.l0 k t421 t424 0 0) = some r := H;replace A4 := am A4;have H' := am H;clear H;go_enter Try.func39, Try.ntmps39;go_wp2_with (first | ((with_reducible refine gate_callee (f := 37) rfl ?_); refine goesL_ (some 8) rfl rfl Try.func37 (by kernel_rfl) rfl #[.slice A0 l0.length c0] rfl (by (try simp only [mA, mB, mC]); first | done | rfl) ?_; (with_reducible refine (spec_OrdValid.calls k _ _ l0 true _ ?side1 ?side2 A2.out).mono ?_); (case side1 => exact Kd.cm HR0.out); (case side2 => exact HC0.out); rintro e w5 ⟨rfl, hb⟩; refine ⟨_, rfl, ?_⟩; replace HB := am (below_step (bm HB.out) hb); (try clear hb)) | ((with_reducible refine gate_callee (f := 58) rfl ?_); refine goesL_ (some 12) rfl rfl Try.func58 (by kernel_rfl) rfl #[.slice A0 l0.length c0] rfl (by (try simp only [mA, mB, mC]); first | done | rfl) ?_; (with_reducible refine (spec_l1Terms.calls k (fun k_ => k_ < w.heap.size) _ _ l0 t421 t424 _ ?side1 A4.out).mono ?_); (case side1 => exact Kd.V_mk HC0.out (Kd.F_below (Kd.C_F (Kd.heap_int .i64) HR0.out) (bm HB.out))); rintro e w6 ⟨v422, v425, rfl, ho0, ho1, hb⟩; refine ⟨_, rfl, ?_⟩; have HO423 := am (Kd.R_lower (Kd.R_mono (ok' := fun k_ => True) ho0 (fun _ hk_ => trivial)) (below_size (bm HB.out)));have HO426 := am (Kd.N_lower (Kd.N_mono (ok' := fun k_ => some k_ ≠ (v422 : Value).ownBlock) ho1 (fun k_ hk_ => hk_.2)) (below_size (bm HB.out)));replace HB := am (below_step (bm HB.out) hb); (try clear hb); (try clear ho0); (try clear ho1)))
  go_loopg [5, 6] k (fun kq v5 v6 w' => ∃ (x5_1 : Int) (x6_1 : Int), v5 = .int .i64 x5_1 ∧ v6 = .int .i64 x6_1 ∧ Aside0 (spec_OrdMost.l0 kq t421 t424 x5_1 x6_1 = some r) ∧ Aside0 (kq ≤ k) ∧ Aside0 (Kd.R (Kd.int .i64) 3 w' w.heap.size (fun _ => True) v422 t421) ∧ Aside0 (Kd.N (Kd.slice 3 (Kd.int .i64)) 25 w' w.heap.size (fun k_ => some k_ ≠ (v422 : Value).ownBlock) v425 t424) ∧ Aside0 (Below w.heap.size w w'))
  case atStart => exact ⟨(0), (0), (by first | rfl | (simp; done) | (simp [*]; done)), (by first | rfl | (simp; done) | (simp [*]; done)), H', ⟨Nat.le_refl _⟩, ⟨Kd.rm HO423.out⟩, ⟨Kd.nm HO426.out⟩, ⟨bm HB.out⟩⟩
  case round =>
   clear H';(try clear p2);(try clear c3);(try clear c5);(try clear HO_3);(try clear HO_4);(try clear HB);obtain ⟨x5_1, x6_1, rfl, rfl, HA, HK1, HO_3, HO_4, HB⟩ := hrel
   cases gk with
   | zero => exact absurd HA.out (by simp [spec_OrdMost.l0])
   | succ k1 =>
    have H := HA.out;clear HA;simp only [spec_OrdMost.l0] at H;by_cases c7 : x6_1 < (t421.length : Int)
    ·
     rw [if_pos c7] at H;have c7b0 : decide (x6_1 < (t421.length : Int)) = true := decide_eq_true c7;clear c7;by_cases c8 : 0 ≤ x6_1
     ·
      rw [if_pos c8] at H;have c8b0 : decide (0 ≤ x6_1) = true := decide_eq_true c8;clear c8;by_cases c9 : x6_1 < (t424.length : Int)
      ·
       rw [if_pos c9] at H;have c9b0 : decide (x6_1 < (t424.length : Int)) = true := decide_eq_true c9;clear c9;replace H := oE H;obtain ⟨t429, A10, H⟩ := H;replace H : (spec_OrdMost.l0 k1 t421 t424 (mx x5_1 (mx (rd t421 x6_1) t429)) (wrap64 (x6_1 + 1))) = some r := H;replace A10 := am A10
       obtain ⟨ji11, hji11⟩ : ∃ j_ : Int, (mx (rd t421 x6_1) t429) = j_ := ⟨_, rfl⟩
       replace H : (spec_OrdMost.l0 k1 t421 t424 (mx x5_1 (ji11)) (wrap64 (x6_1 + 1))) = some r := by first | (rw [hji11] at H; exact H) | (simp only [hji11] at H ⊢; exact H)
       (try rw [hji11] at A10);have hji11_ : (if (rd t421 x6_1) < t429 then t429 else (rd t421 x6_1)) = ji11 := hji11
       obtain ⟨ji12, hji12⟩ : ∃ j_ : Int, (mx x5_1 (ji11)) = j_ := ⟨_, rfl⟩
       replace H : (spec_OrdMost.l0 k1 t421 t424 ji12 (wrap64 (x6_1 + 1))) = some r := by first | (rw [hji12] at H; exact H) | (simp only [hji12] at H ⊢; exact H)
       (try rw [hji12] at A10);have hji12_ : (if x5_1 < (ji11) then (ji11) else x5_1) = ji12 := hji12;have H' := am H;clear H;obtain ⟨Ao13, co13, eo13⟩ := Kd.R_slice HO_3.out;subst eo13;(try go_wp2);replace HO_3 := am (Kd.R_drew HO_3.out);replace HO_4 := am (Kd.N_drew HO_4.out);replace HB := am (below_drew1 HB.out);have p427 : 0 ≤ (x6_1 : Int) := of_decide_eq_true (by assumption);have q427 : x6_1 < (t421.length : Int) := of_decide_eq_true (by assumption);obtain ⟨ad427, e427, hx427_0⟩ := Kd.at_int (Kd.R_reads' HO_3.out).2.2 x6_1 p427 q427;cases e427
       replace p427 := eq_true p427;replace q427 := eq_true q427;obtain ⟨Ao15, co15, eo15⟩ := Kd.N_slice HO_4.out
       (first | subst eo15 | (injection eo15 with f1_ f2_ f3_; have f4_ := f1_.symm; have f5_ := f3_.symm; clear f1_ f2_ f3_; subst f4_; subst f5_))
       have p428 : 0 ≤ (x6_1 : Int) := of_decide_eq_true (by assumption);have q428 : x6_1 < (t424.length : Int) := of_decide_eq_true (by assumption);obtain ⟨ad428, A428_0, c428_0, e428, hx428_0, hl428_0, hi428_0⟩ := at_L3 (Kd.N_reads' HO_4.out).2.2 x6_1 p428 q428;cases e428
       obtain ⟨ce428, hce428, hMe428, hcc428⟩ := Kd.N_get HO_4.out [] x6_1 p428 (by first | exact q428 | exact of_decide_eq_true (by assumption) | (have e_ := (Kd.N_reads' HO_4.out).1; omega));obtain ⟨ua428_0, uc428_0, rfl, ul428_0, ge428_0⟩ := Kd.FK_slice_open hMe428;have hv428_0 := hcc428 0 _ rfl;rw [Nat.add_zero, show ((Kd.slice 3 (Kd.int .i64))).sz = 1 from rfl, Nat.mul_one] at hv428_0;replace hv428_0 := Option.some.inj (hv428_0.symm.trans hx428_0)
       injection hv428_0 with hva_ hvn_ hvc_
       rw [hva_] at ge428_0;rw [hvc_] at ul428_0;have HL428_0 := am (show Kd.V (Kd.int .i64) 3 _ w.heap.size _ _ (rd_L3 t424 x6_1) from Kd.V_mk ul428_0 ge428_0);clear hva_ hvn_ hvc_ ge428_0 ul428_0;clear hcc428 hce428;have HR428_0 := am hi428_0;have HC428_0 := am hl428_0;clear hi428_0 hl428_0;replace p428 := eq_true p428;replace q428 := eq_true q428;refine start_ (n := 13) (S := fun w' => w'.cell? (ad427.add (x6_1).toNat) = some (.int .i64 (rd t421 x6_1)) ∧ w'.cell? (ad428.add (x6_1).toNat) = some (.slice A428_0 (rd_L3 t424 x6_1).length c428_0)) (ds := []) #[false, false, false, false, false, false, false, false, false, false, false, false, false] (by kernel_rfl) rfl rfl ⟨hx427_0, hx428_0⟩ (fun hHeld => ?_); refine with_tabW spec_OrdMost.tab8 spec_OrdMost.bits8 (fun HT_ HW_ => ?_);generalize wr.drew = w14 at HO_3 HO_4 HB HL428_0 HR428_0 hx427_0 hx428_0 hHeld ⊢;refine pure_ (i := 0) (N := some 21) (v := ?_) (a' := ?_) #[true, false, false, false, false, false, false, false, false, false, false, false, false] rfl rfl (any_of HT_.out (by kernel_rfl)) (fun _ _ _ h => h) (Or.inl ⟨by rfl, ?_⟩) ?_ ?_;rotate_left
       ·
        intro w';go_simp;with_reducible rfl
       rotate_left
       ·
        simp only [Act.put, sA, sB, sC, i64_w, i32_w];rfl
       refine pure_ (i := 1) (N := some 22) (v := ?_) (a' := ?_) #[true, true, false, false, false, false, false, false, false, false, false, false, false] rfl rfl (any_of HT_.out (by kernel_rfl)) (fun _ _ _ h => h) (Or.inl ⟨by rfl, ?_⟩) ?_ ?_;rotate_left
       ·
        intro w';go_simp;with_reducible rfl
       rotate_left
       ·
        simp only [Act.put, sA, sB, sC, i64_w, i32_w];rfl
       refine pure_ (i := 2) (N := some 23) (v := ?_) (a' := ?_) #[true, true, true, false, false, false, false, false, false, false, false, false, false] rfl rfl (any_of HT_.out (by kernel_rfl)) (fun _ _ _ h => h) (Or.inl ⟨by rfl, ?_⟩) ?_ ?_;rotate_left
       ·
        intro w';go_simp;with_reducible rfl
       rotate_left
       ·
        simp only [Act.put, sA, sB, sC, i64_w, i32_w];rfl
       refine pure_ (i := 3) (N := some 24) (v := ?_) (a' := ?_) #[true, true, true, true, false, false, false, false, false, false, false, false, false] rfl rfl (any_of HT_.out (by kernel_rfl)) (fun _ _ _ h => h) (Or.inl ⟨by rfl, ?_⟩) ?_ ?_;rotate_left
       ·
        intro w';go_simp;with_reducible rfl
       rotate_left
       ·
        simp only [Act.put, sA, sB, sC, i64_w, i32_w];rfl
       refine pure_ (i := 5) (N := some 26) (v := ?_) (a' := ?_) #[true, true, true, true, false, true, false, false, false, false, false, false, false] rfl rfl (any_of HT_.out (by kernel_rfl)) (fun _ _ _ h => h) (Or.inl ⟨by rfl, ?_⟩) ?_ ?_;rotate_left
       ·
        intro w';go_simp;with_reducible rfl
       rotate_left
       ·
        simp only [Act.put, sA, sB, sC, i64_w, i32_w];rfl
       refine pure_ (i := 6) (N := some 27) (v := ?_) (a' := ?_) #[true, true, true, true, false, true, true, false, false, false, false, false, false] rfl rfl (any_of HT_.out (by kernel_rfl)) (fun _ _ _ h => h) (Or.inl ⟨by rfl, ?_⟩) ?_ ?_;rotate_left
       ·
        intro w';go_simp;with_reducible rfl
       rotate_left
       ·
        simp only [Act.put, sA, sB, sC, i64_w, i32_w];rfl
       refine pure_ (i := 7) (N := some 28) (v := ?_) (a' := ?_) #[true, true, true, true, false, true, true, true, false, false, false, false, false] rfl rfl (any_of HT_.out (by kernel_rfl)) (fun _ _ _ h => h) (Or.inl ⟨by rfl, ?_⟩) ?_ ?_;rotate_left
       ·
        intro w';go_simp;with_reducible rfl
       rotate_left
       ·
        simp only [Act.put, sA, sB, sC, i64_w, i32_w];rfl
       refine take_ (i := 4) (N := some 25) (v := ?_) (a' := ?_) #[true, true, true, true, true, true, true, true, false, false, false, false, false] rfl rfl (take_ofW HT_.out HW_.out (by kernel_rfl)) (fun _ _ _ h => h) (Or.inl ⟨by rfl, ?_⟩) hHeld ?_ ?_;rotate_left
       ·
        rintro w' ⟨s0, s1⟩
        go_simp;with_reducible rfl
       rotate_left
       ·
        simp only [Act.put, sA, sB, sC, i64_w, i32_w];rfl
       refine take_ (i := 8) (N := some 29) (v := ?_) (a' := ?_) #[true, true, true, true, true, true, true, true, true, false, false, false, false] rfl rfl (take_ofW HT_.out HW_.out (by kernel_rfl)) (fun _ _ _ h => h) (Or.inl ⟨by rfl, ?_⟩) hHeld ?_ ?_;rotate_left
       ·
        rintro w' ⟨s0, s1⟩
        go_simp;with_reducible rfl
       rotate_left
       ·
        simp only [Act.put, sA, sB, sC, i64_w, i32_w];rfl
       refine one_ (i := 9) (N := some 30) #[true, true, true, true, true, true, true, true, true, true, false, false, false] rfl rfl (one_of HT_.out (by kernel_rfl)) (by decide) (fun K hK => ?_);refine goes_ Try.func39 (by kernel_rfl) rfl #[.slice A428_0 (rd_L3 t424 x6_1).length c428_0] (by rfl) rfl rfl (by (try simp only [mA, mB, mC]); first | done | rfl) ?_
       with_reducible refine (ih k1 (by have := HK1.out; omega) _ _ (rd_L3 t424 x6_1) t429 _ ?side1 ?side2 A10.out).mono ?_
       (case side1 => exact Kd.cm ((by repeat (first | (with_reducible exact HR428_0.out) | (with_reducible refine Kd.C_alloc ?_ _) | (with_reducible refine Kd.C_drewN ?_ _) | (with_reducible refine Kd.C_drew ?_) | exact HR428_0.out))));(case side2 => exact HC428_0.out)
       rintro e w16 ⟨rfl, hb⟩
       have HS0_ := (hb.cell (World.block_lt_of_cell? _ _ (hHeld.1))).trans (hHeld.1);have HS1_ := (hb.cell (World.block_lt_of_cell? _ _ (hHeld.2))).trans (hHeld.2);refine ⟨_, rfl, ?_⟩;replace HO_3 := am (Kd.R_below (Kd.rm HO_3.out) hb);replace HO_4 := am (Kd.N_below (Kd.nm HO_4.out) hb);replace HL428_0 := am (Kd.V_below (Kd.vm HL428_0.out) hb);replace HR428_0 := am (Kd.C_below (by repeat (first | (with_reducible exact HR428_0.out) | (with_reducible refine Kd.C_alloc ?_ _) | (with_reducible refine Kd.C_drewN ?_ _) | (with_reducible refine Kd.C_drew ?_) | exact HR428_0.out)) hb);replace HB := am (below_step (bm HB.out) hb);(try clear hb);refine hK.out _ _ ⟨HS0_, HS1_⟩ (fun hHeld => ?_);clear hK K;refine norm_ (a' := ?_) ?_ ?_;rotate_left
       ·
        show Act.put _ (some 30) _ = _
        simp only [Act.put, sA, sB, sC, i64_w, i32_w];rfl
       refine pure_ (i := 10) (N := some 31) (v := ?_) (a' := ?_) #[true, true, true, true, true, true, true, true, true, true, true, false, false] rfl rfl (any_of HT_.out (by kernel_rfl)) (fun _ _ _ h => h) (Or.inl ⟨by rfl, ?_⟩) ?_ ?_;rotate_left
       ·
        intro w';go_simp;with_reducible rfl
       rotate_left
       ·
        simp only [Act.put, sA, sB, sC, i64_w, i32_w];rfl
       refine pure_ (i := 11) (N := some 32) (v := ?_) (a' := ?_) #[true, true, true, true, true, true, true, true, true, true, true, true, false] rfl rfl (any_of HT_.out (by kernel_rfl)) (fun _ _ _ h => h) (Or.inl ⟨by rfl, ?_⟩) ?_ ?_;rotate_left
       ·
        intro w';go_simp;with_reducible rfl
       rotate_left
       ·
        simp only [Act.put, sA, sB, sC, i64_w, i32_w];rfl
       refine pure_ (i := 12) (N := some 5) (v := ?_) (a' := ?_) #[true, true, true, true, true, true, true, true, true, true, true, true, true] rfl rfl (any_of HT_.out (by kernel_rfl)) (fun _ _ _ h => h) (Or.inl ⟨by rfl, ?_⟩) ?_ ?_;rotate_left
       ·
        intro w';go_simp;with_reducible rfl
       rotate_left
       ·
        simp only [Act.put, sA, sB, sC, i64_w, i32_w];rfl
       refine done_ (done_of HT_.out (by kernel_rfl)) ?_;(try go_wp2)
       go_roundg k1
       case measure => have := HK1.out; omega
       case rel => exact ⟨(ji12), (wrap64 (x6_1 + 1)), (by first | rfl | (simp; done) | (simp only [← hji12] <;> (first | rfl | simp)) | (simp [*]; done)), (by first | rfl | (simp; done) | (simp [*]; done)), H', ⟨by have := HK1.out; omega⟩, ⟨Kd.rm HO_3.out⟩, ⟨Kd.nm HO_4.out⟩, ⟨bm HB.out⟩⟩
      ·
       rw [if_neg c9] at H;exact absurd H (by simp)
     ·
      rw [if_neg c8] at H;exact absurd H (by simp)
    ·
     rw [if_neg c7] at H;have c7b0 : decide (x6_1 < (t421.length : Int)) = false := decide_eq_false c7;clear c7;obtain rfl := Option.some.inj H;obtain ⟨Ao17, co17, eo17⟩ := Kd.R_slice HO_3.out;subst eo17;go_wp2;go_ret;exact ⟨by first | rfl | (simp [errW_none, errW_some] <;> rfl) | (simp [*, errW_none, errW_some] <;> rfl), bm HB.out⟩
 ·
  replace c3 := Bool.eq_false_iff.mpr c3;subst c3
  have H1 : (some (-1)) = some r := by rw [if_neg (show ¬ (false = true) by decide)] at H; exact H
  clear H;have H := H1;clear H1;obtain rfl := Option.some.inj H;go_enter Try.func39, Try.ntmps39;go_wp2_with (first | ((with_reducible refine gate_callee (f := 37) rfl ?_); refine goesL_ (some 8) rfl rfl Try.func37 (by kernel_rfl) rfl #[.slice A0 l0.length c0] rfl (by (try simp only [mA, mB, mC]); first | done | rfl) ?_; (with_reducible refine (spec_OrdValid.calls k _ _ l0 false _ ?side1 ?side2 A2.out).mono ?_); (case side1 => exact Kd.cm HR0.out); (case side2 => exact HC0.out); rintro e w18 ⟨rfl, hb⟩; refine ⟨_, rfl, ?_⟩; replace HB := am (below_step (bm HB.out) hb); (try clear hb)));go_ret;exact ⟨by first | rfl | (simp [errW_none, errW_some] <;> rfl) | (simp [*, errW_none, errW_some] <;> rfl), bm HB.out⟩

/-! ### spec_BaseOk: function 15 -/
def spec_BaseOk.f (k : Nat) (l0 : List Int) (a1 : Int) : Option (Bool) := (spec_OrdValid.f k l0).bind fun t430 => (if t430 = true then ((spec_l1In.f a1 2 90).bind fun t431 => (if t431 = true then ((spec_OrdMost.f k l0).bind fun t432 => (some (decide (t432 < a1)))) else (some false))) else (some false))
theorem spec_BaseOk.mono : ∀ a0 a1 k, LeO (spec_BaseOk.f k a0 a1) (spec_BaseOk.f (k + 1) a0 a1) := by
 intro a0 a1 k;unfold spec_BaseOk.f
 repeat' first | (with_reducible exact spec_OrdMost.mono _ _) | (with_reducible exact spec_OrdValid.mono _ _) | (with_reducible exact LeO.refl _) | (with_reducible exact LeO.none _) | (with_reducible refine LeO.ite ?_ ?_) | (with_reducible refine LeO.bind ?_ (fun _ => ?_))
set_option maxHeartbeats 8000000 in
set_option maxRecDepth 100000 in
theorem spec_BaseOk.calls (k : Nat) (A0 : Option Addr) (c0 : Nat) (l0 : List Int) (a1 : Int) (r : Bool) (w : World) (hr0 : Kd.C (Kd.int .i64) w A0 l0.length l0) (hc0 : l0.length ≤ c0) (h : spec_BaseOk.f k l0 a1 = some r) :
  Calls Try.prog 15 #[.slice A0 l0.length c0, .int .i64 a1] w fun e w' => e = .returned (.bool r) ∧ Below w.heap.size w w' := by
 have HR0 := am hr0;have HC0 := am hc0;clear hr0 hc0;have HB := am (Below.refl w.heap.size w);have H : ((spec_OrdValid.f k l0).bind fun t430 => (if t430 = true then ((spec_l1In.f a1 2 90).bind fun t431 => (if t431 = true then ((spec_OrdMost.f k l0).bind fun t432 => (some (decide (t432 < a1)))) else (some false))) else (some false))) = some r := h;clear h;replace H := oE H;obtain ⟨t430, A3, H⟩ := H;replace H : (if t430 = true then ((spec_l1In.f a1 2 90).bind fun t431 => (if t431 = true then ((spec_OrdMost.f k l0).bind fun t432 => (some (decide (t432 < a1)))) else (some false))) else (some false)) = some r := H;replace A3 := am A3;by_cases c4 : t430 = true
 ·
  subst c4
  have H1 : ((spec_l1In.f a1 2 90).bind fun t431 => (if t431 = true then ((spec_OrdMost.f k l0).bind fun t432 => (some (decide (t432 < a1)))) else (some false))) = some r := by rw [if_pos rfl] at H; exact H
  clear H;have H := H1;clear H1;replace H := oE H;obtain ⟨t431, A5, H⟩ := H;replace H : (if t431 = true then ((spec_OrdMost.f k l0).bind fun t432 => (some (decide (t432 < a1)))) else (some false)) = some r := H;replace A5 := am A5;by_cases c6 : t431 = true
  ·
   subst c6
   have H1 : ((spec_OrdMost.f k l0).bind fun t432 => (some (decide (t432 < a1)))) = some r := by rw [if_pos rfl] at H; exact H
   clear H;have H := H1;clear H1;replace H := oE H;obtain ⟨t432, A7, H⟩ := H;replace H : (some (decide (t432 < a1))) = some r := H;replace A7 := am A7;obtain rfl := Option.some.inj H;go_enter Try.func15, Try.ntmps15;go_wp2_with (first | ((with_reducible refine gate_callee (f := 37) rfl ?_); refine goesL_ (some 6) rfl rfl Try.func37 (by kernel_rfl) rfl #[.slice A0 l0.length c0] rfl (by (try simp only [mA, mB, mC]); first | done | rfl) ?_; (with_reducible refine (spec_OrdValid.calls k _ _ l0 true _ ?side1 ?side2 A3.out).mono ?_); (case side1 => exact Kd.cm HR0.out); (case side2 => exact HC0.out); rintro e w8 ⟨rfl, hb⟩; refine ⟨_, rfl, ?_⟩; replace HB := am (below_step (bm HB.out) hb); (try clear hb)) | (go_at_call 38; (with_reducible refine (spec_l1In.calls a1 2 90 true _ A5.out).mono ?_); rintro e w' ⟨rfl, ⟨nd, rfl⟩⟩) | (go_at_call 39; (with_reducible refine (spec_OrdMost.calls k _ _ l0 t432 _ ?side1 ?side2 A7.out).mono ?_); (case side1 => exact (Kd.C_below HR0.out (bm HB.out))); (case side2 => exact HC0.out); rintro e w9 ⟨rfl, hb⟩; replace HB := am (below_step (bm HB.out) hb); (try clear hb)));go_ret;exact ⟨by first | rfl | (simp [errW_none, errW_some] <;> rfl) | (simp [*, errW_none, errW_some] <;> rfl), bm HB.out⟩
  ·
   replace c6 := Bool.eq_false_iff.mpr c6;subst c6
   have H1 : (some false) = some r := by rw [if_neg (show ¬ (false = true) by decide)] at H; exact H
   clear H;have H := H1;clear H1;obtain rfl := Option.some.inj H;go_enter Try.func15, Try.ntmps15;go_wp2_with (first | ((with_reducible refine gate_callee (f := 37) rfl ?_); refine goesL_ (some 6) rfl rfl Try.func37 (by kernel_rfl) rfl #[.slice A0 l0.length c0] rfl (by (try simp only [mA, mB, mC]); first | done | rfl) ?_; (with_reducible refine (spec_OrdValid.calls k _ _ l0 true _ ?side1 ?side2 A3.out).mono ?_); (case side1 => exact Kd.cm HR0.out); (case side2 => exact HC0.out); rintro e w10 ⟨rfl, hb⟩; refine ⟨_, rfl, ?_⟩; replace HB := am (below_step (bm HB.out) hb); (try clear hb)) | (go_at_call 38; (with_reducible refine (spec_l1In.calls a1 2 90 false _ A5.out).mono ?_); rintro e w' ⟨rfl, ⟨nd, rfl⟩⟩));go_ret;exact ⟨by first | rfl | (simp [errW_none, errW_some] <;> rfl) | (simp [*, errW_none, errW_some] <;> rfl), bm HB.out⟩
 ·
  replace c4 := Bool.eq_false_iff.mpr c4;subst c4
  have H1 : (some false) = some r := by rw [if_neg (show ¬ (false = true) by decide)] at H; exact H
  clear H;have H := H1;clear H1;obtain rfl := Option.some.inj H;go_enter Try.func15, Try.ntmps15;go_wp2_with (first | ((with_reducible refine gate_callee (f := 37) rfl ?_); refine goesL_ (some 6) rfl rfl Try.func37 (by kernel_rfl) rfl #[.slice A0 l0.length c0] rfl (by (try simp only [mA, mB, mC]); first | done | rfl) ?_; (with_reducible refine (spec_OrdValid.calls k _ _ l0 false _ ?side1 ?side2 A3.out).mono ?_); (case side1 => exact Kd.cm HR0.out); (case side2 => exact HC0.out); rintro e w11 ⟨rfl, hb⟩; refine ⟨_, rfl, ?_⟩; replace HB := am (below_step (bm HB.out) hb); (try clear hb)));go_ret;exact ⟨by first | rfl | (simp [errW_none, errW_some] <;> rfl) | (simp [*, errW_none, errW_some] <;> rfl), bm HB.out⟩

/-! ### impl_slow: function 40 -/
mutual
def impl_slow.l0 : Nat → Int → Int → List (S67) → Int → Int → Option (Int)
 | 0, _, _, _, _, _ => none
 | k + 1, x1, x5, x10, x11, x12 => if x12 < x11 then (if 0 ≤ x12 then (if x12 < (x10.length : Int) then ((impl_slow.f k ((rd_T67 x10 x12).f1) x1).bind fun t435 => (if t435 < 0 then (some (-1)) else (if x1 > 1 then (impl_slow.l1 k x1 x5 ((rd_T67 x10 x12).f0) x10 x11 x12 t435 0) else (if (wrap64 (x5 + ((rd_T67 x10 x12).f0))) > 1000000000 then (some (-1)) else (impl_slow.l0 k x1 (wrap64 (x5 + ((rd_T67 x10 x12).f0))) x10 x11 (wrap64 (x12 + 1))))))) else (none)) else (none)) else (some x5)
def impl_slow.l1 : Nat → Int → Int → Int → List (S67) → Int → Int → Int → Int → Option (Int)
 | 0, _, _, _, _, _, _, _, _ => none
 | k + 1, x1, x5, x9, x10, x11, x12, x26, x27 => if x27 < x26 then (if (wrap64 (x9 * x1)) > 1000000000 then (some (-1)) else (impl_slow.l1 k x1 x5 (wrap64 (x9 * x1)) x10 x11 x12 x26 (wrap64 (x27 + 1)))) else (if (wrap64 (x5 + x9)) > 1000000000 then (some (-1)) else (impl_slow.l0 k x1 (wrap64 (x5 + x9)) x10 x11 (wrap64 (x12 + 1))))
def impl_slow.f : Nat → List (S67) → Int → Option (Int)
 | 0, _, _ => none
 | k + 1, l0, a1 => impl_slow.l0 k a1 0 l0 (l0.length : Int) 0
end
theorem impl_slow.mono_l : ∀ k, (∀ y0 y1, LeO (impl_slow.f k y0 y1) (impl_slow.f (k + 1) y0 y1)) ∧ (∀ y0 y1 y2 y3 y4, LeO (impl_slow.l0 k y0 y1 y2 y3 y4) (impl_slow.l0 (k + 1) y0 y1 y2 y3 y4)) ∧ (∀ y0 y1 y2 y3 y4 y5 y6 y7, LeO (impl_slow.l1 k y0 y1 y2 y3 y4 y5 y6 y7) (impl_slow.l1 (k + 1) y0 y1 y2 y3 y4 y5 y6 y7))
 | 0 => ⟨fun _ _ r h => by simp [impl_slow.f] at h, fun _ _ _ _ _ r h => by simp [impl_slow.l0] at h, fun _ _ _ _ _ _ _ _ r h => by simp [impl_slow.l1] at h⟩
 | k + 1 => by
  obtain ⟨ih0, ih1, ih2⟩ := impl_slow.mono_l k;refine ⟨?_, ?_, ?_⟩
  all_goals (intros; first | unfold impl_slow.f | unfold impl_slow.l0 | unfold impl_slow.l1)
  all_goals repeat' first | (with_reducible exact ih0 _ _) | (with_reducible exact ih1 _ _ _ _ _) | (with_reducible exact ih2 _ _ _ _ _ _ _ _) | (with_reducible exact LeO.refl _) | (with_reducible exact LeO.none _) | (with_reducible refine LeO.ite ?_ ?_) | (with_reducible refine LeO.bind ?_ (fun _ => ?_))
theorem impl_slow.mono : ∀ a0 a1 k, LeO (impl_slow.f k a0 a1) (impl_slow.f (k + 1) a0 a1) := by
 intro a0 a1 k;obtain ⟨ih0, ih1, ih2⟩ := impl_slow.mono_l k;exact ih0 a0 a1
set_option maxHeartbeats 8000000 in
set_option maxRecDepth 100000 in
theorem impl_slow.calls (k : Nat) : ∀ (A0 : Option Addr) (c0 : Nat) (l0 : List (S67)) (a1 : Int) (r : Int) (w : World) (hr0 : Kd.C k67 w A0 l0.length l0) (hc0 : l0.length ≤ c0) (h : impl_slow.f k l0 a1 = some r),
  Calls Try.prog 40 #[.slice A0 l0.length c0, .int .i64 a1] w fun e w' => e = .returned (.int .i64 r) ∧ Below w.heap.size w w' := by
 induction k using Nat.strongRecOn with
 | _ k ih =>
 intro A0 c0 l0 a1 r w hr0 hc0 h
 cases k with
 | zero => exact absurd h (by simp [impl_slow.f])
 | succ k =>
 simp only [impl_slow.f] at h;have hu67 := Try.underlying67;have HR0 := am hr0;have HC0 := am hc0;clear hr0 hc0;have HB := am (Below.refl w.heap.size w);have H : (impl_slow.l0 k a1 0 l0 (l0.length : Int) 0) = some r := h;clear h;have H' := am H;clear H;go_enter Try.func40, Try.ntmps40;go_wp2
 go_loopg [5, 12] k (fun kq v5 v12 w' => ∃ (x5_1 : Int) (x12_1 : Int), v5 = .int .i64 x5_1 ∧ v12 = .int .i64 x12_1 ∧ Aside0 (impl_slow.l0 kq a1 x5_1 l0 (l0.length : Int) x12_1 = some r) ∧ Aside0 (kq ≤ k) ∧ Aside0 (Below w.heap.size w w'))
 case atStart => exact ⟨(0), (0), (by first | rfl | (simp; done) | (simp [*]; done)), (by first | rfl | (simp; done) | (simp [*]; done)), H', ⟨Nat.le_refl _⟩, ⟨bm HB.out⟩⟩
 case round =>
  clear H';(try clear p2);obtain ⟨x5_1, x12_1, rfl, rfl, HA, HK1, HB⟩ := hrel
  cases gk with
  | zero => exact absurd HA.out (by simp [impl_slow.l0])
  | succ k1 =>
   have H := HA.out;clear HA;simp only [impl_slow.l0] at H;by_cases c3 : x12_1 < (l0.length : Int)
   ·
    rw [if_pos c3] at H;have c3b0 : decide (x12_1 < (l0.length : Int)) = true := decide_eq_true c3;clear c3;by_cases c4 : 0 ≤ x12_1
    ·
     rw [if_pos c4] at H;have c4b0 : decide (0 ≤ x12_1) = true := decide_eq_true c4;clear c4;by_cases c5 : x12_1 < (l0.length : Int)
     ·
      rw [if_pos c5] at H;have c5b0 : decide (x12_1 < (l0.length : Int)) = true := decide_eq_true c5;clear c5;replace H := oE H;obtain ⟨t435, A6, H⟩ := H;replace H : (if t435 < 0 then (some (-1)) else (if a1 > 1 then (impl_slow.l1 k1 a1 x5_1 ((rd_T67 l0 x12_1).f0) l0 (l0.length : Int) x12_1 t435 0) else (if (wrap64 (x5_1 + ((rd_T67 l0 x12_1).f0))) > 1000000000 then (some (-1)) else (impl_slow.l0 k1 a1 (wrap64 (x5_1 + ((rd_T67 l0 x12_1).f0))) l0 (l0.length : Int) (wrap64 (x12_1 + 1)))))) = some r := H;replace A6 := am A6;by_cases c7 : t435 < 0
      ·
       rw [if_pos c7] at H;have c7b0 : decide (t435 < 0) = true := decide_eq_true c7;clear c7;obtain rfl := Option.some.inj H;have p433 : 0 ≤ (x12_1 : Int) := of_decide_eq_true (by assumption);have q433 : x12_1 < (l0.length : Int) := of_decide_eq_true (by assumption);obtain ⟨ad433, A433_1, c433_1, e433, hx433_0, hx433_1, hl433_1, hi433_1⟩ := at_T67 HR0.out x12_1 p433 q433;cases e433
       replace hx433_0 := (HB.out.cell (World.block_lt_of_cell? w _ hx433_0)).trans hx433_0;replace hx433_1 := (HB.out.cell (World.block_lt_of_cell? w _ hx433_1)).trans hx433_1;have HR433_1 := am hi433_1;have HC433_1 := am hl433_1;clear hi433_1 hl433_1;replace p433 := eq_true p433;replace q433 := eq_true q433;go_wp2_with (first | ((with_reducible refine gate_dst (N := 7) rfl ?_); refine box_event ?hg (N := 7) ?hd (cs := #[.int .i64 0, .slice none 0 0]) (t := 67) ?hr ?_; (case hd => rfl); (case hg => rfl); (case hr => first | (go_simp; done) | (go_simp; rfl)); intro gb434 hg w8 hbox hb; have BK434 := am (hbox);have GW434 := am ((by rw [hg]; exact (below_size (bm HB.out)) : w.heap.size ≤ gb434));have GE434 := am ((by rw [hg]; exact (below_size (bm HB.out)) : w.heap.size ≤ gb434));replace HB := am (below_step (bm HB.out) hb); clear hb hbox hg; have hcz9_0 : w8.cell? ⟨gb434, 0, none⟩ = some (.int .i64 0) := (blk_cell BK434.out 0).trans rfl; have hcz9_1 : w8.cell? ⟨gb434, 1, none⟩ = some (.slice none 0 0) := (blk_cell BK434.out 1).trans rfl; have hfz9_0 := blk_frozen BK434.out 0; have hfz9_1 := blk_frozen BK434.out 1) | ((with_reducible refine gate_callee (f := 40) rfl ?_); refine goesL_ (some 19) rfl rfl Try.func40 (by kernel_rfl) rfl #[.slice A433_1 ((rd_T67 l0 x12_1).f1).length c433_1, .int .i64 a1] rfl (by (try simp only [mA, mB, mC]); first | done | rfl) ?_; (with_reducible refine (ih k1 (by have := HK1.out; omega) _ _ ((rd_T67 l0 x12_1).f1) a1 t435 _ ?side1 ?side2 A6.out).mono ?_); (case side1 => exact Kd.C_below HR433_1.out (by repeat (first | (with_reducible first | exact HB.out | apply below_alloc | apply pw_below_drewN | apply below_drew1 | refine below_set ?_ GE434.out) | exact HB.out))); (case side2 => exact HC433_1.out); rintro e w10 ⟨rfl, hb⟩; refine ⟨_, rfl, ?_⟩; replace BK434 := am (blk_below (g := gb434) (o := .cells #[.int .i64 ((rd_T67 l0 x12_1).f0), .slice A433_1 ((rd_T67 l0 x12_1).f1).length c433_1] 67 (0, 0)) (by (with_reducible repeat (first | refine blk_drewN ?_ _ | refine blk_drew ?_ | refine blk_alloc ?_ _)); refine blk_put (cs := #[.int .i64 ((rd_T67 l0 x12_1).f0), .slice none 0 0]) ?_ 1 _ rfl; (with_reducible repeat (first | refine blk_drewN ?_ _ | refine blk_drew ?_ | refine blk_alloc ?_ _)); refine blk_put (cs := #[.int .i64 0, .slice none 0 0]) ?_ 0 _ rfl; (with_reducible repeat (first | refine blk_drewN ?_ _ | refine blk_drew ?_ | refine blk_alloc ?_ _)); exact BK434.out) hb);replace HB := am (below_step (by repeat (first | (with_reducible first | exact HB.out | apply below_alloc | apply pw_below_drewN | apply below_drew1 | refine below_set ?_ GE434.out) | exact HB.out)) hb); (try clear hb)));go_ret;exact ⟨by first | rfl | (simp [errW_none, errW_some] <;> rfl) | (simp [*, errW_none, errW_some] <;> rfl), by repeat (first | (with_reducible first | exact HB.out | apply below_alloc | apply pw_below_drewN | apply below_drew1 | refine below_set ?_ GE434.out) | exact HB.out)⟩
      ·
       rw [if_neg c7] at H;have c7b0 : decide (t435 < 0) = false := decide_eq_false c7;clear c7;by_cases c11 : a1 > 1
       ·
        rw [if_pos c11] at H;have c11b0 : decide (1 < a1) = true := decide_eq_true c11;clear c11;have H' := am H;clear H;have p433 : 0 ≤ (x12_1 : Int) := of_decide_eq_true (by assumption);have q433 : x12_1 < (l0.length : Int) := of_decide_eq_true (by assumption);obtain ⟨ad433, A433_1, c433_1, e433, hx433_0, hx433_1, hl433_1, hi433_1⟩ := at_T67 HR0.out x12_1 p433 q433;cases e433
        replace hx433_0 := (HB.out.cell (World.block_lt_of_cell? w _ hx433_0)).trans hx433_0;replace hx433_1 := (HB.out.cell (World.block_lt_of_cell? w _ hx433_1)).trans hx433_1;have HR433_1 := am hi433_1;have HC433_1 := am hl433_1;clear hi433_1 hl433_1;replace p433 := eq_true p433;replace q433 := eq_true q433;go_wp2_with (first | ((with_reducible refine gate_dst (N := 7) rfl ?_); refine box_event ?hg (N := 7) ?hd (cs := #[.int .i64 0, .slice none 0 0]) (t := 67) ?hr ?_; (case hd => rfl); (case hg => rfl); (case hr => first | (go_simp; done) | (go_simp; rfl)); intro gb434 hg w12 hbox hb; have BK434 := am (hbox);have GW434 := am ((by rw [hg]; exact (below_size (bm HB.out)) : w.heap.size ≤ gb434));have GE434 := am ((by rw [hg]; exact (below_size (bm HB.out)) : w.heap.size ≤ gb434));replace HB := am (below_step (bm HB.out) hb); clear hb hbox hg; have hcz13_0 : w12.cell? ⟨gb434, 0, none⟩ = some (.int .i64 0) := (blk_cell BK434.out 0).trans rfl; have hcz13_1 : w12.cell? ⟨gb434, 1, none⟩ = some (.slice none 0 0) := (blk_cell BK434.out 1).trans rfl; have hfz13_0 := blk_frozen BK434.out 0; have hfz13_1 := blk_frozen BK434.out 1) | ((with_reducible refine gate_callee (f := 40) rfl ?_); refine goesL_ (some 19) rfl rfl Try.func40 (by kernel_rfl) rfl #[.slice A433_1 ((rd_T67 l0 x12_1).f1).length c433_1, .int .i64 a1] rfl (by (try simp only [mA, mB, mC]); first | done | rfl) ?_; (with_reducible refine (ih k1 (by have := HK1.out; omega) _ _ ((rd_T67 l0 x12_1).f1) a1 t435 _ ?side1 ?side2 A6.out).mono ?_); (case side1 => exact Kd.C_below HR433_1.out (by repeat (first | (with_reducible first | exact HB.out | apply below_alloc | apply pw_below_drewN | apply below_drew1 | refine below_set ?_ GE434.out) | exact HB.out))); (case side2 => exact HC433_1.out); rintro e w14 ⟨rfl, hb⟩; refine ⟨_, rfl, ?_⟩; replace BK434 := am (blk_below (g := gb434) (o := .cells #[.int .i64 ((rd_T67 l0 x12_1).f0), .slice A433_1 ((rd_T67 l0 x12_1).f1).length c433_1] 67 (0, 0)) (by (with_reducible repeat (first | refine blk_drewN ?_ _ | refine blk_drew ?_ | refine blk_alloc ?_ _)); refine blk_put (cs := #[.int .i64 ((rd_T67 l0 x12_1).f0), .slice none 0 0]) ?_ 1 _ rfl; (with_reducible repeat (first | refine blk_drewN ?_ _ | refine blk_drew ?_ | refine blk_alloc ?_ _)); refine blk_put (cs := #[.int .i64 0, .slice none 0 0]) ?_ 0 _ rfl; (with_reducible repeat (first | refine blk_drewN ?_ _ | refine blk_drew ?_ | refine blk_alloc ?_ _)); exact BK434.out) hb);replace HB := am (below_step (by repeat (first | (with_reducible first | exact HB.out | apply below_alloc | apply pw_below_drewN | apply below_drew1 | refine below_set ?_ GE434.out) | exact HB.out)) hb); (try clear hb); have hcz15_0 : w14.cell? ⟨gb434, 0, none⟩ = some (.int .i64 ((rd_T67 l0 x12_1).f0)) := (blk_cell BK434.out 0).trans rfl; have hcz15_1 : w14.cell? ⟨gb434, 1, none⟩ = some (.slice A433_1 ((rd_T67 l0 x12_1).f1).length c433_1) := (blk_cell BK434.out 1).trans rfl; have hfz15_0 := blk_frozen BK434.out 0; have hfz15_1 := blk_frozen BK434.out 1))
        go_loopg [9, 27] k1 (fun kq v9 v27 w' => ∃ (x9_2 : Int) (x27_2 : Int), v9 = .int .i64 x9_2 ∧ v27 = .int .i64 x27_2 ∧ Aside0 (impl_slow.l1 kq a1 x5_1 x9_2 l0 (l0.length : Int) x12_1 t435 x27_2 = some r) ∧ Aside0 (kq ≤ k1) ∧ Aside0 (w'.heap[gb434]? = some (.cells #[.int .i64 ((rd_T67 l0 x12_1).f0), (.slice A433_1 ((rd_T67 l0 x12_1).f1).length c433_1)] 67 (0, 0))) ∧ Aside0 (Below w.heap.size w w'))
        case atStart => exact ⟨((rd_T67 l0 x12_1).f0), (0), (by first | rfl | (simp; done) | (simp [*]; done)), (by first | rfl | (simp; done) | (simp [*]; done)), H', ⟨Nat.le_refl _⟩, ⟨by (with_reducible repeat (first | refine blk_drewN ?_ _ | refine blk_drew ?_ | refine blk_alloc ?_ _)); exact BK434.out⟩, ⟨by repeat (first | (with_reducible first | exact HB.out | apply below_alloc | apply pw_below_drewN | apply below_drew1 | refine below_set ?_ GE434.out) | exact HB.out)⟩⟩
        case round =>
         clear H';(try clear c1);(try clear p2);(try clear c3);(try clear c3b0);(try clear c4);(try clear c4b0);(try clear p4);(try clear q4);(try clear hx4);(try clear c5);(try clear c5b0);(try clear p6);(try clear c7);(try clear c7b0);(try clear c11);(try clear c11b0);(try clear hcz13_0);(try clear hcz13_1);(try clear hcz15_0);(try clear hcz15_1);(try clear hcz9_0);(try clear hcz9_1);(try clear hfz13_0);(try clear hfz13_1);(try clear hfz15_0);(try clear hfz15_1);(try clear hfz9_0);(try clear hfz9_1);(try clear hx433_0);(try clear hx433_1);(try clear p2);(try clear p433);(try clear q433);obtain ⟨x9_2, x27_2, rfl, rfl, HA, HK2, BK434, HB⟩ := hrel
         cases gk with
         | zero => exact absurd HA.out (by simp [impl_slow.l1])
         | succ k2 =>
          have H := HA.out;clear HA;simp only [impl_slow.l1] at H;by_cases c16 : x27_2 < t435
          ·
           rw [if_pos c16] at H;have c16b0 : decide (x27_2 < t435) = true := decide_eq_true c16;clear c16;by_cases c17 : (wrap64 (x9_2 * a1)) > 1000000000
           ·
            rw [if_pos c17] at H;have c17b0 : decide (1000000000 < (wrap64 (x9_2 * a1))) = true := decide_eq_true c17;clear c17;obtain rfl := Option.some.inj H;go_wp2;go_ret;exact ⟨by first | rfl | (simp [errW_none, errW_some] <;> rfl) | (simp [*, errW_none, errW_some] <;> rfl), by repeat (first | (with_reducible first | exact HB.out | apply below_alloc | apply pw_below_drewN | apply below_drew1 | refine below_set ?_ GE434.out) | exact HB.out)⟩
           ·
            rw [if_neg c17] at H;have c17b0 : decide (1000000000 < (wrap64 (x9_2 * a1))) = false := decide_eq_false c17;clear c17;have H' := am H;clear H;go_wp2
            go_roundg k2
            case measure => have := HK1.out; have := HK2.out; omega
            case rel => exact ⟨(wrap64 (x9_2 * a1)), (wrap64 (x27_2 + 1)), (by first | rfl | (simp; done) | (simp [*]; done)), (by first | rfl | (simp; done) | (simp [*]; done)), H', ⟨by have := HK1.out; have := HK2.out; omega⟩, ⟨by (with_reducible repeat (first | refine blk_drewN ?_ _ | refine blk_drew ?_ | refine blk_alloc ?_ _)); exact BK434.out⟩, ⟨by repeat (first | (with_reducible first | exact HB.out | apply below_alloc | apply pw_below_drewN | apply below_drew1 | refine below_set ?_ GE434.out) | exact HB.out)⟩⟩
          ·
           rw [if_neg c16] at H;have c16b0 : decide (x27_2 < t435) = false := decide_eq_false c16;clear c16;by_cases c18 : (wrap64 (x5_1 + x9_2)) > 1000000000
           ·
            rw [if_pos c18] at H;have c18b0 : decide (1000000000 < (wrap64 (x5_1 + x9_2))) = true := decide_eq_true c18;clear c18;obtain rfl := Option.some.inj H;go_wp2;go_ret;exact ⟨by first | rfl | (simp [errW_none, errW_some] <;> rfl) | (simp [*, errW_none, errW_some] <;> rfl), by repeat (first | (with_reducible first | exact HB.out | apply below_alloc | apply pw_below_drewN | apply below_drew1 | refine below_set ?_ GE434.out) | exact HB.out)⟩
           ·
            rw [if_neg c18] at H;have c18b0 : decide (1000000000 < (wrap64 (x5_1 + x9_2))) = false := decide_eq_false c18;clear c18;have H' := am H;clear H;go_wp2
            go_roundg k2
            case measure => have := HK1.out; have := HK2.out; omega
            case rel => exact ⟨(wrap64 (x5_1 + x9_2)), (wrap64 (x12_1 + 1)), (by first | rfl | (simp; done) | (simp [*]; done)), (by first | rfl | (simp; done) | (simp [*]; done)), H', ⟨by have := HK1.out; have := HK2.out; omega⟩, ⟨by repeat (first | (with_reducible first | exact HB.out | apply below_alloc | apply pw_below_drewN | apply below_drew1 | refine below_set ?_ GE434.out) | exact HB.out)⟩⟩
       ·
        rw [if_neg c11] at H;have c11b0 : decide (1 < a1) = false := decide_eq_false c11;clear c11;by_cases c19 : (wrap64 (x5_1 + ((rd_T67 l0 x12_1).f0))) > 1000000000
        ·
         rw [if_pos c19] at H;have c19b0 : decide (1000000000 < (wrap64 (x5_1 + ((rd_T67 l0 x12_1).f0)))) = true := decide_eq_true c19;clear c19;obtain rfl := Option.some.inj H;have p433 : 0 ≤ (x12_1 : Int) := of_decide_eq_true (by assumption);have q433 : x12_1 < (l0.length : Int) := of_decide_eq_true (by assumption);obtain ⟨ad433, A433_1, c433_1, e433, hx433_0, hx433_1, hl433_1, hi433_1⟩ := at_T67 HR0.out x12_1 p433 q433;cases e433
         replace hx433_0 := (HB.out.cell (World.block_lt_of_cell? w _ hx433_0)).trans hx433_0;replace hx433_1 := (HB.out.cell (World.block_lt_of_cell? w _ hx433_1)).trans hx433_1;have HR433_1 := am hi433_1;have HC433_1 := am hl433_1;clear hi433_1 hl433_1;replace p433 := eq_true p433;replace q433 := eq_true q433;go_wp2_with (first | ((with_reducible refine gate_dst (N := 7) rfl ?_); refine box_event ?hg (N := 7) ?hd (cs := #[.int .i64 0, .slice none 0 0]) (t := 67) ?hr ?_; (case hd => rfl); (case hg => rfl); (case hr => first | (go_simp; done) | (go_simp; rfl)); intro gb434 hg w20 hbox hb; have BK434 := am (hbox);have GW434 := am ((by rw [hg]; exact (below_size (bm HB.out)) : w.heap.size ≤ gb434));have GE434 := am ((by rw [hg]; exact (below_size (bm HB.out)) : w.heap.size ≤ gb434));replace HB := am (below_step (bm HB.out) hb); clear hb hbox hg; have hcz21_0 : w20.cell? ⟨gb434, 0, none⟩ = some (.int .i64 0) := (blk_cell BK434.out 0).trans rfl; have hcz21_1 : w20.cell? ⟨gb434, 1, none⟩ = some (.slice none 0 0) := (blk_cell BK434.out 1).trans rfl; have hfz21_0 := blk_frozen BK434.out 0; have hfz21_1 := blk_frozen BK434.out 1) | ((with_reducible refine gate_callee (f := 40) rfl ?_); refine goesL_ (some 19) rfl rfl Try.func40 (by kernel_rfl) rfl #[.slice A433_1 ((rd_T67 l0 x12_1).f1).length c433_1, .int .i64 a1] rfl (by (try simp only [mA, mB, mC]); first | done | rfl) ?_; (with_reducible refine (ih k1 (by have := HK1.out; omega) _ _ ((rd_T67 l0 x12_1).f1) a1 t435 _ ?side1 ?side2 A6.out).mono ?_); (case side1 => exact Kd.C_below HR433_1.out (by repeat (first | (with_reducible first | exact HB.out | apply below_alloc | apply pw_below_drewN | apply below_drew1 | refine below_set ?_ GE434.out) | exact HB.out))); (case side2 => exact HC433_1.out); rintro e w22 ⟨rfl, hb⟩; refine ⟨_, rfl, ?_⟩; replace BK434 := am (blk_below (g := gb434) (o := .cells #[.int .i64 ((rd_T67 l0 x12_1).f0), .slice A433_1 ((rd_T67 l0 x12_1).f1).length c433_1] 67 (0, 0)) (by (with_reducible repeat (first | refine blk_drewN ?_ _ | refine blk_drew ?_ | refine blk_alloc ?_ _)); refine blk_put (cs := #[.int .i64 ((rd_T67 l0 x12_1).f0), .slice none 0 0]) ?_ 1 _ rfl; (with_reducible repeat (first | refine blk_drewN ?_ _ | refine blk_drew ?_ | refine blk_alloc ?_ _)); refine blk_put (cs := #[.int .i64 0, .slice none 0 0]) ?_ 0 _ rfl; (with_reducible repeat (first | refine blk_drewN ?_ _ | refine blk_drew ?_ | refine blk_alloc ?_ _)); exact BK434.out) hb);replace HB := am (below_step (by repeat (first | (with_reducible first | exact HB.out | apply below_alloc | apply pw_below_drewN | apply below_drew1 | refine below_set ?_ GE434.out) | exact HB.out)) hb); (try clear hb); have hcz23_0 : w22.cell? ⟨gb434, 0, none⟩ = some (.int .i64 ((rd_T67 l0 x12_1).f0)) := (blk_cell BK434.out 0).trans rfl; have hcz23_1 : w22.cell? ⟨gb434, 1, none⟩ = some (.slice A433_1 ((rd_T67 l0 x12_1).f1).length c433_1) := (blk_cell BK434.out 1).trans rfl; have hfz23_0 := blk_frozen BK434.out 0; have hfz23_1 := blk_frozen BK434.out 1));go_ret;exact ⟨by first | rfl | (simp [errW_none, errW_some] <;> rfl) | (simp [*, errW_none, errW_some] <;> rfl), by repeat (first | (with_reducible first | exact HB.out | apply below_alloc | apply pw_below_drewN | apply below_drew1 | refine below_set ?_ GE434.out) | exact HB.out)⟩
        ·
         rw [if_neg c19] at H;have c19b0 : decide (1000000000 < (wrap64 (x5_1 + ((rd_T67 l0 x12_1).f0)))) = false := decide_eq_false c19;clear c19;have H' := am H;clear H;have p433 : 0 ≤ (x12_1 : Int) := of_decide_eq_true (by assumption);have q433 : x12_1 < (l0.length : Int) := of_decide_eq_true (by assumption);obtain ⟨ad433, A433_1, c433_1, e433, hx433_0, hx433_1, hl433_1, hi433_1⟩ := at_T67 HR0.out x12_1 p433 q433;cases e433
         replace hx433_0 := (HB.out.cell (World.block_lt_of_cell? w _ hx433_0)).trans hx433_0;replace hx433_1 := (HB.out.cell (World.block_lt_of_cell? w _ hx433_1)).trans hx433_1;have HR433_1 := am hi433_1;have HC433_1 := am hl433_1;clear hi433_1 hl433_1;replace p433 := eq_true p433;replace q433 := eq_true q433;go_wp2_with (first | ((with_reducible refine gate_dst (N := 7) rfl ?_); refine box_event ?hg (N := 7) ?hd (cs := #[.int .i64 0, .slice none 0 0]) (t := 67) ?hr ?_; (case hd => rfl); (case hg => rfl); (case hr => first | (go_simp; done) | (go_simp; rfl)); intro gb434 hg w24 hbox hb; have BK434 := am (hbox);have GW434 := am ((by rw [hg]; exact (below_size (bm HB.out)) : w.heap.size ≤ gb434));have GE434 := am ((by rw [hg]; exact (below_size (bm HB.out)) : w.heap.size ≤ gb434));replace HB := am (below_step (bm HB.out) hb); clear hb hbox hg; have hcz25_0 : w24.cell? ⟨gb434, 0, none⟩ = some (.int .i64 0) := (blk_cell BK434.out 0).trans rfl; have hcz25_1 : w24.cell? ⟨gb434, 1, none⟩ = some (.slice none 0 0) := (blk_cell BK434.out 1).trans rfl; have hfz25_0 := blk_frozen BK434.out 0; have hfz25_1 := blk_frozen BK434.out 1) | ((with_reducible refine gate_callee (f := 40) rfl ?_); refine goesL_ (some 19) rfl rfl Try.func40 (by kernel_rfl) rfl #[.slice A433_1 ((rd_T67 l0 x12_1).f1).length c433_1, .int .i64 a1] rfl (by (try simp only [mA, mB, mC]); first | done | rfl) ?_; (with_reducible refine (ih k1 (by have := HK1.out; omega) _ _ ((rd_T67 l0 x12_1).f1) a1 t435 _ ?side1 ?side2 A6.out).mono ?_); (case side1 => exact Kd.C_below HR433_1.out (by repeat (first | (with_reducible first | exact HB.out | apply below_alloc | apply pw_below_drewN | apply below_drew1 | refine below_set ?_ GE434.out) | exact HB.out))); (case side2 => exact HC433_1.out); rintro e w26 ⟨rfl, hb⟩; refine ⟨_, rfl, ?_⟩; replace BK434 := am (blk_below (g := gb434) (o := .cells #[.int .i64 ((rd_T67 l0 x12_1).f0), .slice A433_1 ((rd_T67 l0 x12_1).f1).length c433_1] 67 (0, 0)) (by (with_reducible repeat (first | refine blk_drewN ?_ _ | refine blk_drew ?_ | refine blk_alloc ?_ _)); refine blk_put (cs := #[.int .i64 ((rd_T67 l0 x12_1).f0), .slice none 0 0]) ?_ 1 _ rfl; (with_reducible repeat (first | refine blk_drewN ?_ _ | refine blk_drew ?_ | refine blk_alloc ?_ _)); refine blk_put (cs := #[.int .i64 0, .slice none 0 0]) ?_ 0 _ rfl; (with_reducible repeat (first | refine blk_drewN ?_ _ | refine blk_drew ?_ | refine blk_alloc ?_ _)); exact BK434.out) hb);replace HB := am (below_step (by repeat (first | (with_reducible first | exact HB.out | apply below_alloc | apply pw_below_drewN | apply below_drew1 | refine below_set ?_ GE434.out) | exact HB.out)) hb); (try clear hb); have hcz27_0 : w26.cell? ⟨gb434, 0, none⟩ = some (.int .i64 ((rd_T67 l0 x12_1).f0)) := (blk_cell BK434.out 0).trans rfl; have hcz27_1 : w26.cell? ⟨gb434, 1, none⟩ = some (.slice A433_1 ((rd_T67 l0 x12_1).f1).length c433_1) := (blk_cell BK434.out 1).trans rfl; have hfz27_0 := blk_frozen BK434.out 0; have hfz27_1 := blk_frozen BK434.out 1))
         go_roundg k1
         case measure => have := HK1.out; omega
         case rel => exact ⟨(wrap64 (x5_1 + ((rd_T67 l0 x12_1).f0))), (wrap64 (x12_1 + 1)), (by first | rfl | (simp; done) | (simp [*]; done)), (by first | rfl | (simp; done) | (simp [*]; done)), H', ⟨by have := HK1.out; omega⟩, ⟨by repeat (first | (with_reducible first | exact HB.out | apply below_alloc | apply pw_below_drewN | apply below_drew1 | refine below_set ?_ GE434.out) | exact HB.out)⟩⟩
     ·
      rw [if_neg c5] at H;exact absurd H (by simp)
    ·
     rw [if_neg c4] at H;exact absurd H (by simp)
   ·
    rw [if_neg c3] at H;have c3b0 : decide (x12_1 < (l0.length : Int)) = false := decide_eq_false c3;clear c3;obtain rfl := Option.some.inj H;go_wp2;go_ret;exact ⟨by first | rfl | (simp [errW_none, errW_some] <;> rfl) | (simp [*, errW_none, errW_some] <;> rfl), bm HB.out⟩

/-! ### impl_SlowValue: function 16 -/
def impl_SlowValue.f (k : Nat) (l0 : List Int) (a1 : Int) : Option (Int) := (impl_ordOf.f k l0).bind fun bt436 => (if bt436.2 = true then (if a1 < 1 then (some (-1)) else (if a1 > 99 then (some (-1)) else ((impl_slow.f k bt436.1 a1).bind fun t440 => (some t440)))) else (some (-1)))
theorem impl_SlowValue.mono : ∀ a0 a1 k, LeO (impl_SlowValue.f k a0 a1) (impl_SlowValue.f (k + 1) a0 a1) := by
 intro a0 a1 k;unfold impl_SlowValue.f
 repeat' first | (with_reducible exact impl_ordOf.mono _ _) | (with_reducible exact impl_slow.mono _ _ _) | (with_reducible exact LeO.refl _) | (with_reducible exact LeO.none _) | (with_reducible refine LeO.ite ?_ ?_) | (with_reducible refine LeO.bind ?_ (fun _ => ?_))
set_option maxHeartbeats 8000000 in
set_option maxRecDepth 100000 in
theorem impl_SlowValue.calls (k : Nat) (A0 : Option Addr) (c0 : Nat) (l0 : List Int) (a1 : Int) (r : Int) (w : World) (hr0 : Kd.C (Kd.int .i64) w A0 l0.length l0) (hc0 : l0.length ≤ c0) (h : impl_SlowValue.f k l0 a1 = some r) :
  Calls Try.prog 16 #[.slice A0 l0.length c0, .int .i64 a1] w fun e w' => e = .returned (.int .i64 r) ∧ Below w.heap.size w w' := by
 have HR0 := am hr0;have HC0 := am hc0;clear hr0 hc0;have HB := am (Below.refl w.heap.size w);have H : ((impl_ordOf.f k l0).bind fun bt436 => (if bt436.2 = true then (if a1 < 1 then (some (-1)) else (if a1 > 99 then (some (-1)) else ((impl_slow.f k bt436.1 a1).bind fun t440 => (some t440)))) else (some (-1)))) = some r := h;clear h;replace H := oE H;obtain ⟨⟨t436, t437⟩, A3, H⟩ := H;replace H : (if t437 = true then (if a1 < 1 then (some (-1)) else (if a1 > 99 then (some (-1)) else ((impl_slow.f k t436 a1).bind fun t440 => (some t440)))) else (some (-1))) = some r := H;replace A3 := am A3;by_cases c4 : t437 = true
 ·
  subst c4
  have H1 : (if a1 < 1 then (some (-1)) else (if a1 > 99 then (some (-1)) else ((impl_slow.f k t436 a1).bind fun t440 => (some t440)))) = some r := by rw [if_pos rfl] at H; exact H
  clear H;have H := H1;clear H1;by_cases c5 : a1 < 1
  ·
   rw [if_pos c5] at H;have c5b0 : decide (a1 < 1) = true := decide_eq_true c5;clear c5;obtain rfl := Option.some.inj H;go_enter Try.func16, Try.ntmps16;go_wp2_with (first | ((with_reducible refine gate_callee (f := 35) rfl ?_); refine goesL_ (some 9) rfl rfl Try.func35 (by kernel_rfl) rfl #[.slice A0 l0.length c0] rfl (by (try simp only [mA, mB, mC]); first | done | rfl) ?_; (with_reducible refine (impl_ordOf.calls k _ _ l0 t436 true _ ?side1 ?side2 A3.out).mono ?_); (case side1 => exact Kd.cm HR0.out); (case side2 => exact HC0.out); rintro e w6 ⟨v438, rfl, ho0, hb⟩; refine ⟨_, rfl, ?_⟩; have HO439 := am (Kd.R_lower ho0 (below_size (bm HB.out)));replace HB := am (below_step (bm HB.out) hb); (try clear hb); (try clear ho0)));go_ret;exact ⟨by first | rfl | (simp [errW_none, errW_some] <;> rfl) | (simp [*, errW_none, errW_some] <;> rfl), bm HB.out⟩
  ·
   rw [if_neg c5] at H;have c5b0 : decide (a1 < 1) = false := decide_eq_false c5;clear c5;by_cases c7 : a1 > 99
   ·
    rw [if_pos c7] at H;have c7b0 : decide (99 < a1) = true := decide_eq_true c7;clear c7;obtain rfl := Option.some.inj H;go_enter Try.func16, Try.ntmps16;go_wp2_with (first | ((with_reducible refine gate_callee (f := 35) rfl ?_); refine goesL_ (some 9) rfl rfl Try.func35 (by kernel_rfl) rfl #[.slice A0 l0.length c0] rfl (by (try simp only [mA, mB, mC]); first | done | rfl) ?_; (with_reducible refine (impl_ordOf.calls k _ _ l0 t436 true _ ?side1 ?side2 A3.out).mono ?_); (case side1 => exact Kd.cm HR0.out); (case side2 => exact HC0.out); rintro e w8 ⟨v438, rfl, ho0, hb⟩; refine ⟨_, rfl, ?_⟩; have HO439 := am (Kd.R_lower ho0 (below_size (bm HB.out)));replace HB := am (below_step (bm HB.out) hb); (try clear hb); (try clear ho0)));go_ret;exact ⟨by first | rfl | (simp [errW_none, errW_some] <;> rfl) | (simp [*, errW_none, errW_some] <;> rfl), bm HB.out⟩
   ·
    rw [if_neg c7] at H;have c7b0 : decide (99 < a1) = false := decide_eq_false c7;clear c7;replace H := oE H;obtain ⟨t440, A9, H⟩ := H;replace H : (some t440) = some r := H;replace A9 := am A9;obtain rfl := Option.some.inj H;go_enter Try.func16, Try.ntmps16;go_wp2_with (first | ((with_reducible refine gate_callee (f := 35) rfl ?_); refine goesL_ (some 9) rfl rfl Try.func35 (by kernel_rfl) rfl #[.slice A0 l0.length c0] rfl (by (try simp only [mA, mB, mC]); first | done | rfl) ?_; (with_reducible refine (impl_ordOf.calls k _ _ l0 t436 true _ ?side1 ?side2 A3.out).mono ?_); (case side1 => exact Kd.cm HR0.out); (case side2 => exact HC0.out); rintro e w10 ⟨v438, rfl, ho0, hb⟩; refine ⟨_, rfl, ?_⟩; have HO439 := am (Kd.R_lower ho0 (below_size (bm HB.out)));replace HB := am (below_step (bm HB.out) hb); (try clear hb); (try clear ho0); obtain ⟨Ao11, co11, eo11⟩ := Kd.R_slice HO439.out; subst eo11) | ((with_reducible refine gate_callee (f := 40) rfl ?_); refine goesL_ (some 24) rfl rfl Try.func40 (by kernel_rfl) rfl #[.slice Ao11 t436.length co11, .int .i64 a1] rfl (by (try simp only [mA, mB, mC]); first | done | rfl) ?_; (with_reducible refine (impl_slow.calls k _ _ t436 a1 t440 _ ?side1 ?side2 A9.out).mono ?_); (case side1 => exact Kd.cm ((Kd.R_reads' HO439.out).2.2)); (case side2 => exact (Kd.R_reads' HO439.out).2.1); rintro e w12 ⟨rfl, hb⟩; refine ⟨_, rfl, ?_⟩; replace HO439 := am (Kd.R_below (Kd.rm HO439.out) hb);replace HB := am (below_step (bm HB.out) hb); (try clear hb)));go_ret;exact ⟨by first | rfl | (simp [errW_none, errW_some] <;> rfl) | (simp [*, errW_none, errW_some] <;> rfl), bm HB.out⟩
 ·
  replace c4 := Bool.eq_false_iff.mpr c4;subst c4
  have H1 : (some (-1)) = some r := by rw [if_neg (show ¬ (false = true) by decide)] at H; exact H
  clear H;have H := H1;clear H1;obtain rfl := Option.some.inj H;go_enter Try.func16, Try.ntmps16;go_wp2_with (first | ((with_reducible refine gate_callee (f := 35) rfl ?_); refine goesL_ (some 9) rfl rfl Try.func35 (by kernel_rfl) rfl #[.slice A0 l0.length c0] rfl (by (try simp only [mA, mB, mC]); first | done | rfl) ?_; (with_reducible refine (impl_ordOf.calls k _ _ l0 t436 false _ ?side1 ?side2 A3.out).mono ?_); (case side1 => exact Kd.cm HR0.out); (case side2 => exact HC0.out); rintro e w13 ⟨v438, rfl, ho0, hb⟩; refine ⟨_, rfl, ?_⟩; have HO439 := am (Kd.R_lower ho0 (below_size (bm HB.out)));replace HB := am (below_step (bm HB.out) hb); (try clear hb); (try clear ho0)));go_ret;exact ⟨by first | rfl | (simp [errW_none, errW_some] <;> rfl) | (simp [*, errW_none, errW_some] <;> rfl), bm HB.out⟩

end Go.Proofs.Ytomidfnhbnhhmaa.Ka

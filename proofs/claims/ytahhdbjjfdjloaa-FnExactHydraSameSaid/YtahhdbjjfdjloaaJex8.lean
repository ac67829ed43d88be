-- half
-- Written by a program of this session's (wip/mp) out of the translation, over the kit's print with changes.
import Derived.Test.YtahhdbjjfdjloaaJex0
import Derived.Test.YtahhdbjjfdjloaaJex7
namespace Go.Proofs.Ytahhdbjjfdjloaa.Je
open Go.RowKit Go.Proofs.YtahhdbjjfdjloaaW.PrintWords Go.Proofs.YtahhdbjjfdjloaaW.PrintLast Go.Proofs.YtahhdbjjfdjloaaW.PrintMore
attribute [local go_sem] max2_int min2_int max_two min_two max_three min_three max_four min_four   -- for this text's walks alone
set_option linter.unusedVariables false
set_option linter.unusedSimpArgs false

/-! ### spec_l1Compare: function 87 -/
mutual
def spec_l1Compare.l0 : Nat → List Int → List (List Int) → List Int → List (List Int) → Int → Option (Int)
 | 0, _, _, _, _, _ => none
 | k + 1, x5, x6, x7, x8, x9 => if x9 < (x5.length : Int) then (spec_l1Compare.j1 k x5 x6 x7 x8 x9 (decide (x9 < (x7.length : Int)))) else (spec_l1Compare.j1 k x5 x6 x7 x8 x9 false)
def spec_l1Compare.j1 : Nat → List Int → List (List Int) → List Int → List (List Int) → Int → Bool → Option (Int)
 | 0, _, _, _, _, _, _ => none
 | k + 1, x5, x6, x7, x8, x9, x30 => if x30 = true then (if 0 ≤ x9 then (if x9 < (x6.length : Int) then (if x9 < (x8.length : Int) then ((spec_l1Compare.f k (rd_L3 x6 x9) (rd_L3 x8 x9)).bind fun t313 => (if t313 = 0 then (if x9 < (x5.length : Int) then (if x9 < (x7.length : Int) then (if (rd x5 x9) = (rd x7 x9) then (spec_l1Compare.l0 k x5 x6 x7 x8 (wrap64 (x9 + 1))) else (if (rd x5 x9) < (rd x7 x9) then (some (-1)) else (some 1))) else (none)) else (none)) else (some t313))) else (none)) else (none)) else (none)) else (if (x5.length : Int) < (x7.length : Int) then (some (-1)) else (if (x5.length : Int) > (x7.length : Int) then (some 1) else (some 0)))
def spec_l1Compare.f : Nat → List Int → List Int → Option (Int)
 | 0, _, _ => none
 | k + 1, l0, l1 => (spec_l1Terms.f k l0).bind fun bt299 => ((spec_l1Terms.f k l1).bind fun bt305 => (spec_l1Compare.l0 k bt299.1 bt299.2 bt305.1 bt305.2 0))
end
theorem spec_l1Compare.mono_l : ∀ k, (∀ y0 y1, LeO (spec_l1Compare.f k y0 y1) (spec_l1Compare.f (k + 1) y0 y1)) ∧ (∀ y0 y1 y2 y3 y4, LeO (spec_l1Compare.l0 k y0 y1 y2 y3 y4) (spec_l1Compare.l0 (k + 1) y0 y1 y2 y3 y4)) ∧ (∀ y0 y1 y2 y3 y4 y5, LeO (spec_l1Compare.j1 k y0 y1 y2 y3 y4 y5) (spec_l1Compare.j1 (k + 1) y0 y1 y2 y3 y4 y5))
 | 0 => ⟨fun _ _ r h => by simp [spec_l1Compare.f] at h, fun _ _ _ _ _ r h => by simp [spec_l1Compare.l0] at h, fun _ _ _ _ _ _ r h => by simp [spec_l1Compare.j1] at h⟩
 | k + 1 => by
  obtain ⟨ih0, ih1, ih2⟩ := spec_l1Compare.mono_l k;refine ⟨?_, ?_, ?_⟩
  all_goals (intros; first | unfold spec_l1Compare.f | unfold spec_l1Compare.l0 | unfold spec_l1Compare.j1)
  all_goals repeat' first | (with_reducible exact ih0 _ _) | (with_reducible exact ih1 _ _ _ _ _) | (with_reducible exact ih2 _ _ _ _ _ _) | (with_reducible exact spec_l1Terms.mono _ _) | (with_reducible exact LeO.refl _) | (with_reducible exact LeO.none _) | (with_reducible refine LeO.ite ?_ ?_) | (with_reducible refine LeO.bind ?_ (fun _ => ?_))
theorem spec_l1Compare.mono : ∀ a0 a1 k, LeO (spec_l1Compare.f k a0 a1) (spec_l1Compare.f (k + 1) a0 a1) := by
 intro a0 a1 k;obtain ⟨ih0, ih1, ih2⟩ := spec_l1Compare.mono_l k;exact ih0 a0 a1
def spec_l1Compare.T6 : Bool × List (List Nat × List Nat) := (true, [([], []), ([], []), ([0, 1], [0, 1]), ([2], [2]), ([], []), ([], []), ([4, 5], [4, 5]), ([6], [6]), ([3, 7], [3, 7]), ([8, 8, 0, 1, 2, 3, 4, 5, 6, 7, 8], [8])])
def spec_l1Compare.B6 : List Nat := [0, 0, 3, 7, 0, 0, 48, 112, 255, 511]
theorem spec_l1Compare.tab6 : rtab .any (opsOf Try.f87 6) = spec_l1Compare.T6 := by kernel_rfl
theorem spec_l1Compare.bits6 : waitsOk spec_l1Compare.T6.2 spec_l1Compare.B6 = true := by kernel_rfl
def spec_l1Compare.T9 : Bool × List (List Nat × List Nat) := (true, [([], []), ([], []), ([0, 1], [0, 1]), ([2], [2]), ([], []), ([], []), ([4, 5], [4, 5]), ([6], [6]), ([3, 7], [3, 7])])
def spec_l1Compare.B9 : List Nat := [0, 0, 3, 7, 0, 0, 48, 112, 255]
theorem spec_l1Compare.tab9 : rtab .any (opsOf Try.f87 9) = spec_l1Compare.T9 := by kernel_rfl
theorem spec_l1Compare.bits9 : waitsOk spec_l1Compare.T9.2 spec_l1Compare.B9 = true := by kernel_rfl
def spec_l1Compare.T10 : Bool × List (List Nat × List Nat) := (true, [([], []), ([], []), ([0, 1], [0, 1]), ([2], [2]), ([], []), ([], []), ([4, 5], [4, 5]), ([6], [6]), ([3, 7], [3, 7])])
def spec_l1Compare.B10 : List Nat := [0, 0, 3, 7, 0, 0, 48, 112, 255]
theorem spec_l1Compare.tab10 : rtab .any (opsOf Try.f87 10) = spec_l1Compare.T10 := by kernel_rfl
theorem spec_l1Compare.bits10 : waitsOk spec_l1Compare.T10.2 spec_l1Compare.B10 = true := by kernel_rfl
set_option maxHeartbeats 8000000 in
set_option maxRecDepth 100000 in
theorem spec_l1Compare.calls (k : Nat) : ∀ (A0 : Option Addr) (c0 : Nat) (l0 : List Int) (A1 : Option Addr) (c1 : Nat) (l1 : List Int) (r : Int) (w : World) (hr0 : Kd.C (Kd.int .i64) w A0 l0.length l0) (hc0 : l0.length ≤ c0) (hr1 : Kd.C (Kd.int .i64) w A1 l1.length l1) (hc1 : l1.length ≤ c1) (h : spec_l1Compare.f k l0 l1 = some r),
  Calls Try.prog 87 #[.slice A0 l0.length c0, .slice A1 l1.length c1] w fun e w' => e = .returned (.int .i64 r) ∧ Below w.heap.size w w' := by
 induction k using Nat.strongRecOn with
 | _ k ih =>
 intro A0 c0 l0 A1 c1 l1 r w hr0 hc0 hr1 hc1 h
 cases k with
 | zero => exact absurd h (by simp [spec_l1Compare.f])
 | succ k =>
 simp only [spec_l1Compare.f] at h;have HR0 := am hr0;have HC0 := am hc0;clear hr0 hc0;have HR1 := am hr1;have HC1 := am hc1;clear hr1 hc1;have HB := am (Below.refl w.heap.size w);have H : ((spec_l1Terms.f k l0).bind fun bt299 => ((spec_l1Terms.f k l1).bind fun bt305 => (spec_l1Compare.l0 k bt299.1 bt299.2 bt305.1 bt305.2 0))) = some r := h;clear h;replace H := oE H;obtain ⟨⟨t299, t302⟩, A3, H⟩ := H;replace H : ((spec_l1Terms.f k l1).bind fun bt305 => (spec_l1Compare.l0 k t299 t302 bt305.1 bt305.2 0)) = some r := H;replace A3 := am A3;replace H := oE H;obtain ⟨⟨t305, t308⟩, A4, H⟩ := H;replace H : (spec_l1Compare.l0 k t299 t302 t305 t308 0) = some r := H;replace A4 := am A4;have H' := am H;clear H;go_enter Try.func87, Try.ntmps87;go_wp2_with (first | ((with_reducible refine gate_callee (f := 64) rfl ?_); refine goesL_ (some 13) rfl rfl Try.func64 (by kernel_rfl) rfl #[.slice A0 l0.length c0] rfl (by (try simp only [mA, mB, mC]); first | done | rfl) ?_; (with_reducible refine (spec_l1Terms.calls k (fun k_ => k_ < w.heap.size) _ _ l0 t299 t302 _ ?side1 A3.out).mono ?_); (case side1 => exact Kd.V_mk HC0.out (Kd.F_below (Kd.C_F (Kd.heap_int .i64) HR0.out) (bm HB.out))); rintro e w5 ⟨v300, v303, rfl, ho0, ho1, hb⟩; refine ⟨_, rfl, ?_⟩; have HO301 := am (Kd.R_lower (Kd.R_mono (ok' := fun k_ => True) ho0 (fun _ hk_ => trivial)) (below_size (bm HB.out)));have HO304 := am (Kd.N_lower (Kd.N_mono (ok' := fun k_ => some k_ ≠ (v300 : Value).ownBlock) ho1 (fun k_ hk_ => hk_.2)) (below_size (bm HB.out)));replace HB := am (below_step (bm HB.out) hb); (try clear hb); (try clear ho0); (try clear ho1)) | ((with_reducible refine gate_callee (f := 64) rfl ?_); refine goesL_ (some 18) rfl rfl Try.func64 (by kernel_rfl) rfl #[.slice A1 l1.length c1] rfl (by (try simp only [mA, mB, mC]); first | done | rfl) ?_; (with_reducible refine (spec_l1Terms.calls k (fun k_ => k_ < w.heap.size) _ _ l1 t305 t308 _ ?side1 A4.out).mono ?_); (case side1 => exact Kd.V_mk HC1.out (Kd.F_below (Kd.C_F (Kd.heap_int .i64) HR1.out) (bm HB.out))); rintro e w6 ⟨v306, v309, rfl, ho0, ho1, hb⟩; refine ⟨_, rfl, ?_⟩; have HO307 := am (Kd.R_lower (Kd.R_new' (Kd.R_mono (ok' := fun k_ => True) ho0 (fun _ hk_ => trivial)) (Kd.R_lt (Kd.rm HO301.out))) (below_size (bm HB.out)));have HO310 := am (Kd.N_lower (Kd.N_mono (ok' := fun k_ => some k_ ≠ (v306 : Value).ownBlock ∧ some k_ ≠ (v300 : Value).ownBlock ∧ some k_ ≠ (v303 : Value).ownBlock) ho1 (fun k_ hk_ => ⟨hk_.2, Or.elim hk_.1 (fun hs_ => fun e_ => Nat.not_le.2 hs_ (Kd.R_base HO301.out k_ e_.symm)) (fun hn_ => (Kd.fresh' (Kd.R_lt (Kd.rm HO301.out)) k_ hn_)), Or.elim hk_.1 (fun hs_ => fun e_ => Nat.not_le.2 hs_ (Kd.N_base HO304.out k_ e_.symm)) (fun hn_ => (Kd.fresh' (Kd.N_lt (Kd.nm HO304.out)) k_ hn_))⟩)) (below_size (bm HB.out)));replace HO301 := am (Kd.R_elder' (Kd.rm HO301.out) (Kd.R_base ho0) hb);replace HO304 := am (Kd.N_mono (Kd.N_told (Kd.N_told (Kd.N_old (Kd.nm HO304.out) hb) (Kd.R_base ho0)) (Kd.N_base ho1)) (fun _ h_ => h_.1));replace HB := am (below_step (bm HB.out) hb); (try clear hb); (try clear ho0); (try clear ho1)))
 go_loopg [9] k (fun kq v9 w' => ∃ (x9_1 : Int), v9 = .int .i64 x9_1 ∧ Aside0 (spec_l1Compare.l0 kq t299 t302 t305 t308 x9_1 = some r) ∧ Aside0 (kq ≤ k) ∧ Aside0 (Kd.R (Kd.int .i64) 3 w' w.heap.size (fun k_ => some k_ ≠ (v306 : Value).ownBlock) v300 t299) ∧ Aside0 (Kd.N (Kd.slice 3 (Kd.int .i64)) 22 w' w.heap.size (fun k_ => some k_ ≠ (v300 : Value).ownBlock ∧ some k_ ≠ (v306 : Value).ownBlock ∧ some k_ ≠ (v309 : Value).ownBlock) v303 t302) ∧ Aside0 (Kd.R (Kd.int .i64) 3 w' w.heap.size (fun k_ => some k_ ≠ (v300 : Value).ownBlock) v306 t305) ∧ Aside0 (Kd.N (Kd.slice 3 (Kd.int .i64)) 22 w' w.heap.size (fun k_ => some k_ ≠ (v300 : Value).ownBlock ∧ some k_ ≠ (v303 : Value).ownBlock ∧ some k_ ≠ (v306 : Value).ownBlock) v309 t308) ∧ Aside0 (Below w.heap.size w w'))
 case atStart => exact ⟨(0), (by first | rfl | (simp; done) | (simp [*]; done)), H', ⟨Nat.le_refl _⟩, ⟨Kd.rm (Kd.R_mono HO301.out (fun _ hk => hk.2))⟩, ⟨Kd.nm (Kd.N_mono HO304.out (fun _ hk => ⟨hk.1.1, ⟨hk.1.2, hk.2⟩⟩))⟩, ⟨Kd.rm (Kd.R_mono HO307.out (fun _ hk => hk.2))⟩, ⟨Kd.nm (Kd.N_mono HO310.out (fun _ hk => ⟨hk.2.1, ⟨hk.2.2, hk.1⟩⟩))⟩, ⟨bm HB.out⟩⟩
 case round =>
  clear H';(try clear c1);(try clear p2);(try clear c6);(try clear HO_5);(try clear HO_6);(try clear HO_7);(try clear HO_8);(try clear HB);obtain ⟨x9_1, rfl, HA, HK1, HO_5, HO_6, HO_7, HO_8, HB⟩ := hrel
  cases gk with
  | zero => exact absurd HA.out (by simp [spec_l1Compare.l0])
  | succ k1 =>
   have H := HA.out;clear HA;simp only [spec_l1Compare.l0] at H;have HC7 := am H;clear H
   go_upto_region 4 with (fail)
   go_cut [30] (fun v30 wc => ∃ (kq : Nat) (x30_6 : Bool), v30 = .bool x30_6 ∧ Aside0 (spec_l1Compare.j1 kq t299 t302 t305 t308 x9_1 x30_6 = some r) ∧ Aside0 (kq ≤ k1) ∧ Aside0 (Kd.R (Kd.int .i64) 3 wc w.heap.size (fun k_ => some k_ ≠ (v306 : Value).ownBlock) v300 t299) ∧ Aside0 (Kd.N (Kd.slice 3 (Kd.int .i64)) 22 wc w.heap.size (fun k_ => some k_ ≠ (v300 : Value).ownBlock ∧ some k_ ≠ (v306 : Value).ownBlock ∧ some k_ ≠ (v309 : Value).ownBlock) v303 t302) ∧ Aside0 (Kd.R (Kd.int .i64) 3 wc w.heap.size (fun k_ => some k_ ≠ (v300 : Value).ownBlock) v306 t305) ∧ Aside0 (Kd.N (Kd.slice 3 (Kd.int .i64)) 22 wc w.heap.size (fun k_ => some k_ ≠ (v300 : Value).ownBlock ∧ some k_ ≠ (v303 : Value).ownBlock ∧ some k_ ≠ (v306 : Value).ownBlock) v309 t308) ∧ Aside0 (Below w.heap.size w wc))
   case first =>
    have H := HC7.out;clear HC7;by_cases c8 : x9_1 < (t299.length : Int)
    ·
     rw [if_pos c8] at H;have c8b0 : decide (x9_1 < (t299.length : Int)) = true := decide_eq_true c8;clear c8
     (first | rw [c8b0] | (simp only [i64_w, i32_w]; rw [c8b0]) | skip)
     have H' := am H;clear H;obtain ⟨Ao9, co9, eo9⟩ := Kd.R_slice HO_5.out;subst eo9;obtain ⟨Ao10, co10, eo10⟩ := Kd.R_slice HO_7.out;subst eo10;go_wp2;go_meet
     case rel => exact ⟨_, (decide (x9_1 < (t305.length : Int))), (by first | rfl | (simp; done) | (simp [*]; done)), H', ⟨by have := HK1.out; first | omega | exact Nat.le_refl _⟩, ⟨Kd.rm HO_5.out⟩, ⟨Kd.nm HO_6.out⟩, ⟨Kd.rm HO_7.out⟩, ⟨Kd.nm HO_8.out⟩, ⟨bm HB.out⟩⟩
    ·
     rw [if_neg c8] at H;have c8b0 : decide (x9_1 < (t299.length : Int)) = false := decide_eq_false c8;clear c8
     (first | rw [c8b0] | (simp only [i64_w, i32_w]; rw [c8b0]) | skip)
     have H' := am H;clear H;obtain ⟨Ao11, co11, eo11⟩ := Kd.R_slice HO_5.out;subst eo11;go_wp2;go_meet
     case rel => exact ⟨_, (false), (by first | rfl | (simp; done) | (simp [*]; done)), H', ⟨by have := HK1.out; first | omega | exact Nat.le_refl _⟩, ⟨Kd.rm HO_5.out⟩, ⟨Kd.nm HO_6.out⟩, ⟨Kd.rm HO_7.out⟩, ⟨Kd.nm HO_8.out⟩, ⟨bm HB.out⟩⟩
   case rest =>
    clear HC7;(try clear c1);(try clear p2);(try clear c6);(try clear c8);(try clear c8b0);(try clear p2);obtain ⟨kq, x30_6, rfl, HA, HJ6, HO_5, HO_6, HO_7, HO_8, HB⟩ := hcut
    cases kq with
    | zero => exact absurd HA.out (by simp [spec_l1Compare.j1])
    | succ kj6 =>
     have H := HA.out;clear HA;simp only [spec_l1Compare.j1] at H;by_cases c12 : x30_6 = true
     ·
      subst c12
      have H1 : (if 0 ≤ x9_1 then (if x9_1 < (t302.length : Int) then (if x9_1 < (t308.length : Int) then ((spec_l1Compare.f kj6 (rd_L3 t302 x9_1) (rd_L3 t308 x9_1)).bind fun t313 => (if t313 = 0 then (if x9_1 < (t299.length : Int) then (if x9_1 < (t305.length : Int) then (if (rd t299 x9_1) = (rd t305 x9_1) then (spec_l1Compare.l0 kj6 t299 t302 t305 t308 (wrap64 (x9_1 + 1))) else (if (rd t299 x9_1) < (rd t305 x9_1) then (some (-1)) else (some 1))) else (none)) else (none)) else (some t313))) else (none)) else (none)) else (none)) = some r := by rw [if_pos rfl] at H; exact H
      clear H;have H := H1;clear H1;by_cases c13 : 0 ≤ x9_1
      ·
       rw [if_pos c13] at H;have c13b0 : decide (0 ≤ x9_1) = true := decide_eq_true c13;clear c13;by_cases c14 : x9_1 < (t302.length : Int)
       ·
        rw [if_pos c14] at H;have c14b0 : decide (x9_1 < (t302.length : Int)) = true := decide_eq_true c14;clear c14;by_cases c15 : x9_1 < (t308.length : Int)
        ·
         rw [if_pos c15] at H;have c15b0 : decide (x9_1 < (t308.length : Int)) = true := decide_eq_true c15;clear c15;replace H := oE H;obtain ⟨t313, A16, H⟩ := H;replace H : (if t313 = 0 then (if x9_1 < (t299.length : Int) then (if x9_1 < (t305.length : Int) then (if (rd t299 x9_1) = (rd t305 x9_1) then (spec_l1Compare.l0 kj6 t299 t302 t305 t308 (wrap64 (x9_1 + 1))) else (if (rd t299 x9_1) < (rd t305 x9_1) then (some (-1)) else (some 1))) else (none)) else (none)) else (some t313)) = some r := H;replace A16 := am A16;by_cases c17 : t313 = 0
         ·
          rw [if_pos c17] at H;have c17b0 : (t313 == 0) = true := beq_iff_eq.mpr c17;have c17b1 : (t313 != 0) = false := bne_eq_false_iff_eq.mpr c17;clear c17;by_cases c18 : x9_1 < (t299.length : Int)
          ·
           rw [if_pos c18] at H;have c18b0 : decide (x9_1 < (t299.length : Int)) = true := decide_eq_true c18;clear c18;by_cases c19 : x9_1 < (t305.length : Int)
           ·
            rw [if_pos c19] at H;have c19b0 : decide (x9_1 < (t305.length : Int)) = true := decide_eq_true c19;clear c19;by_cases c20 : (rd t299 x9_1) = (rd t305 x9_1)
            ·
             rw [if_pos c20] at H;have c20b0 : ((rd t299 x9_1) == (rd t305 x9_1)) = true := beq_iff_eq.mpr c20;have c20b1 : ((rd t299 x9_1) != (rd t305 x9_1)) = false := bne_eq_false_iff_eq.mpr c20;clear c20;have H' := am H;clear H;(try go_wp2);replace HO_5 := am (Kd.R_drew HO_5.out);replace HO_6 := am (Kd.N_drew HO_6.out);replace HO_7 := am (Kd.R_drew HO_7.out);replace HO_8 := am (Kd.N_drew HO_8.out);replace HB := am (below_drew1 HB.out);obtain ⟨Ao22, co22, eo22⟩ := Kd.N_slice HO_6.out
             (first | subst eo22 | (injection eo22 with f1_ f2_ f3_; have f4_ := f1_.symm; have f5_ := f3_.symm; clear f1_ f2_ f3_; subst f4_; subst f5_))
             have p311 : 0 ≤ (x9_1 : Int) := of_decide_eq_true (by assumption);have q311 : x9_1 < (t302.length : Int) := of_decide_eq_true (by assumption);obtain ⟨ad311, A311_0, c311_0, e311, hx311_0, hl311_0, hi311_0⟩ := at_L3 (Kd.N_reads' HO_6.out).2.2 x9_1 p311 q311;cases e311
             obtain ⟨ce311, hce311, hMe311, hcc311⟩ := Kd.N_get HO_6.out [] x9_1 p311 (by first | exact q311 | exact of_decide_eq_true (by assumption) | (have e_ := (Kd.N_reads' HO_6.out).1; omega));obtain ⟨ua311_0, uc311_0, rfl, ul311_0, ge311_0⟩ := Kd.FK_slice_open hMe311;have hv311_0 := hcc311 0 _ rfl;rw [Nat.add_zero, show ((Kd.slice 3 (Kd.int .i64))).sz = 1 from rfl, Nat.mul_one] at hv311_0;replace hv311_0 := Option.some.inj (hv311_0.symm.trans hx311_0)
             injection hv311_0 with hva_ hvn_ hvc_
             rw [hva_] at ge311_0;rw [hvc_] at ul311_0;have HL311_0 := am (show Kd.V (Kd.int .i64) 3 _ w.heap.size _ _ (rd_L3 t302 x9_1) from Kd.V_mk ul311_0 ge311_0);clear hva_ hvn_ hvc_ ge311_0 ul311_0;clear hcc311 hce311;have HR311_0 := am hi311_0;have HC311_0 := am hl311_0;clear hi311_0 hl311_0;replace p311 := eq_true p311;replace q311 := eq_true q311;obtain ⟨Ao23, co23, eo23⟩ := Kd.N_slice HO_8.out
             (first | subst eo23 | (injection eo23 with f1_ f2_ f3_; have f4_ := f1_.symm; have f5_ := f3_.symm; clear f1_ f2_ f3_; subst f4_; subst f5_))
             have p312 : 0 ≤ (x9_1 : Int) := of_decide_eq_true (by assumption);have q312 : x9_1 < (t308.length : Int) := of_decide_eq_true (by assumption);obtain ⟨ad312, A312_0, c312_0, e312, hx312_0, hl312_0, hi312_0⟩ := at_L3 (Kd.N_reads' HO_8.out).2.2 x9_1 p312 q312;cases e312
             obtain ⟨ce312, hce312, hMe312, hcc312⟩ := Kd.N_get HO_8.out [] x9_1 p312 (by first | exact q312 | exact of_decide_eq_true (by assumption) | (have e_ := (Kd.N_reads' HO_8.out).1; omega));obtain ⟨ua312_0, uc312_0, rfl, ul312_0, ge312_0⟩ := Kd.FK_slice_open hMe312;have hv312_0 := hcc312 0 _ rfl;rw [Nat.add_zero, show ((Kd.slice 3 (Kd.int .i64))).sz = 1 from rfl, Nat.mul_one] at hv312_0;replace hv312_0 := Option.some.inj (hv312_0.symm.trans hx312_0)
             injection hv312_0 with hva_ hvn_ hvc_
             rw [hva_] at ge312_0;rw [hvc_] at ul312_0;have HL312_0 := am (show Kd.V (Kd.int .i64) 3 _ w.heap.size _ _ (rd_L3 t308 x9_1) from Kd.V_mk ul312_0 ge312_0);clear hva_ hvn_ hvc_ ge312_0 ul312_0;clear hcc312 hce312;have HR312_0 := am hi312_0;have HC312_0 := am hl312_0;clear hi312_0 hl312_0;replace p312 := eq_true p312;replace q312 := eq_true q312;refine start_ (n := 10) (S := fun w' => w'.cell? (ad311.add (x9_1).toNat) = some (.slice A311_0 (rd_L3 t302 x9_1).length c311_0) ∧ w'.cell? (ad312.add (x9_1).toNat) = some (.slice A312_0 (rd_L3 t308 x9_1).length c312_0)) (ds := []) #[false, false, false, false, false, false, false, false, false, false] (by kernel_rfl) rfl rfl ⟨hx311_0, hx312_0⟩ (fun hHeld => ?_); refine with_tabW spec_l1Compare.tab6 spec_l1Compare.bits6 (fun HT_ HW_ => ?_);generalize wc.drew = w21 at HO_5 HO_6 HO_7 HO_8 HB HL311_0 HL312_0 HR311_0 HR312_0 hx311_0 hx312_0 hHeld ⊢;refine pure_ (i := 0) (N := some 33) (v := ?_) (a' := ?_) #[true, false, false, false, false, false, false, false, false, false] rfl rfl (any_of HT_.out (by kernel_rfl)) (fun _ _ _ h => h) (Or.inl ⟨by rfl, ?_⟩) ?_ ?_;rotate_left
             ·
              intro w';go_simp;with_reducible rfl
             rotate_left
             ·
              simp only [Act.put, sA, sB, sC, i64_w, i32_w];rfl
             refine pure_ (i := 1) (N := some 34) (v := ?_) (a' := ?_) #[true, true, false, false, false, false, false, false, false, false] rfl rfl (any_of HT_.out (by kernel_rfl)) (fun _ _ _ h => h) (Or.inl ⟨by rfl, ?_⟩) ?_ ?_;rotate_left
             ·
              intro w';go_simp;with_reducible rfl
             rotate_left
             ·
              simp only [Act.put, sA, sB, sC, i64_w, i32_w];rfl
             refine pure_ (i := 2) (N := some 35) (v := ?_) (a' := ?_) #[true, true, true, false, false, false, false, false, false, false] rfl rfl (any_of HT_.out (by kernel_rfl)) (fun _ _ _ h => h) (Or.inl ⟨by rfl, ?_⟩) ?_ ?_;rotate_left
             ·
              intro w';go_simp;with_reducible rfl
             rotate_left
             ·
              simp only [Act.put, sA, sB, sC, i64_w, i32_w];rfl
             refine pure_ (i := 4) (N := some 37) (v := ?_) (a' := ?_) #[true, true, true, false, true, false, false, false, false, false] rfl rfl (any_of HT_.out (by kernel_rfl)) (fun _ _ _ h => h) (Or.inl ⟨by rfl, ?_⟩) ?_ ?_;rotate_left
             ·
              intro w';go_simp;with_reducible rfl
             rotate_left
             ·
              simp only [Act.put, sA, sB, sC, i64_w, i32_w];rfl
             refine pure_ (i := 5) (N := some 38) (v := ?_) (a' := ?_) #[true, true, true, false, true, true, false, false, false, false] rfl rfl (any_of HT_.out (by kernel_rfl)) (fun _ _ _ h => h) (Or.inl ⟨by rfl, ?_⟩) ?_ ?_;rotate_left
             ·
              intro w';go_simp;with_reducible rfl
             rotate_left
             ·
              simp only [Act.put, sA, sB, sC, i64_w, i32_w];rfl
             refine pure_ (i := 6) (N := some 39) (v := ?_) (a' := ?_) #[true, true, true, false, true, true, true, false, false, false] rfl rfl (any_of HT_.out (by kernel_rfl)) (fun _ _ _ h => h) (Or.inl ⟨by rfl, ?_⟩) ?_ ?_;rotate_left
             ·
              intro w';go_simp;with_reducible rfl
             rotate_left
             ·
              simp only [Act.put, sA, sB, sC, i64_w, i32_w];rfl
             refine take_ (i := 3) (N := some 36) (v := ?_) (a' := ?_) #[true, true, true, true, true, true, true, false, false, false] rfl rfl (take_ofW HT_.out HW_.out (by kernel_rfl)) (fun _ _ _ h => h) (Or.inl ⟨by rfl, ?_⟩) hHeld ?_ ?_;rotate_left
             ·
              rintro w' ⟨s0, s1⟩
              go_simp;with_reducible rfl
             rotate_left
             ·
              simp only [Act.put, sA, sB, sC, i64_w, i32_w];rfl
             refine take_ (i := 7) (N := some 40) (v := ?_) (a' := ?_) #[true, true, true, true, true, true, true, true, false, false] rfl rfl (take_ofW HT_.out HW_.out (by kernel_rfl)) (fun _ _ _ h => h) (Or.inl ⟨by rfl, ?_⟩) hHeld ?_ ?_;rotate_left
             ·
              rintro w' ⟨s0, s1⟩
              go_simp;with_reducible rfl
             rotate_left
             ·
              simp only [Act.put, sA, sB, sC, i64_w, i32_w];rfl
             refine one_ (i := 8) (N := some 41) #[true, true, true, true, true, true, true, true, true, false] rfl rfl (one_of HT_.out (by kernel_rfl)) (by decide) (fun K hK => ?_);refine goes_ Try.func87 (by kernel_rfl) rfl #[.slice A311_0 (rd_L3 t302 x9_1).length c311_0, .slice A312_0 (rd_L3 t308 x9_1).length c312_0] (by rfl) rfl rfl (by (try simp only [mA, mB, mC]); first | done | rfl) ?_
             with_reducible refine (ih kj6 (by have := HK1.out; have := HJ6.out; omega) _ _ (rd_L3 t302 x9_1) _ _ (rd_L3 t308 x9_1) t313 _ ?side1 ?side2 ?side3 ?side4 A16.out).mono ?_
             (case side1 => exact Kd.cm ((by repeat (first | (with_reducible exact HR311_0.out) | (with_reducible refine Kd.C_alloc ?_ _) | (with_reducible refine Kd.C_drewN ?_ _) | (with_reducible refine Kd.C_drew ?_) | exact HR311_0.out))));(case side2 => exact HC311_0.out);(case side3 => exact Kd.cm ((by repeat (first | (with_reducible exact HR312_0.out) | (with_reducible refine Kd.C_alloc ?_ _) | (with_reducible refine Kd.C_drewN ?_ _) | (with_reducible refine Kd.C_drew ?_) | exact HR312_0.out))));(case side4 => exact HC312_0.out)
             rintro e w24 ⟨rfl, hb⟩
             have HS0_ := (hb.cell (World.block_lt_of_cell? _ _ (hHeld.1))).trans (hHeld.1);have HS1_ := (hb.cell (World.block_lt_of_cell? _ _ (hHeld.2))).trans (hHeld.2);refine ⟨_, rfl, ?_⟩;replace HO_5 := am (Kd.R_below (Kd.rm HO_5.out) hb);replace HO_6 := am (Kd.N_below (Kd.nm HO_6.out) hb);replace HO_7 := am (Kd.R_below (Kd.rm HO_7.out) hb);replace HO_8 := am (Kd.N_below (Kd.nm HO_8.out) hb);replace HL311_0 := am (Kd.V_below (Kd.vm HL311_0.out) hb);replace HL312_0 := am (Kd.V_below (Kd.vm HL312_0.out) hb);replace HR311_0 := am (Kd.C_below (by repeat (first | (with_reducible exact HR311_0.out) | (with_reducible refine Kd.C_alloc ?_ _) | (with_reducible refine Kd.C_drewN ?_ _) | (with_reducible refine Kd.C_drew ?_) | exact HR311_0.out)) hb);replace HR312_0 := am (Kd.C_below (by repeat (first | (with_reducible exact HR312_0.out) | (with_reducible refine Kd.C_alloc ?_ _) | (with_reducible refine Kd.C_drewN ?_ _) | (with_reducible refine Kd.C_drew ?_) | exact HR312_0.out)) hb);replace HB := am (below_step (bm HB.out) hb);(try clear hb);refine hK.out _ _ ⟨HS0_, HS1_⟩ (fun hHeld => ?_);clear hK K;refine norm_ (a' := ?_) ?_ ?_;rotate_left
             ·
              show Act.put _ (some 41) _ = _
              simp only [Act.put, sA, sB, sC, i64_w, i32_w];rfl
             refine pure_ (i := 9) (N := some 10) (v := ?_) (a' := ?_) #[true, true, true, true, true, true, true, true, true, true] rfl rfl (any_of HT_.out (by kernel_rfl)) (fun _ _ _ h => h) (Or.inl ⟨by rfl, ?_⟩) ?_ ?_;rotate_left
             ·
              intro w';go_simp;with_reducible rfl
             rotate_left
             ·
              simp only [Act.put, sA, sB, sC, i64_w, i32_w];rfl
             refine done_ (done_of HT_.out (by kernel_rfl)) ?_;(try go_wp2);replace HO_5 := am (Kd.R_drew HO_5.out);replace HO_6 := am (Kd.N_drew HO_6.out);replace HO_7 := am (Kd.R_drew HO_7.out);replace HO_8 := am (Kd.N_drew HO_8.out);replace HL311_0 := am (Kd.V_drew HL311_0.out);replace HL312_0 := am (Kd.V_drew HL312_0.out);replace HR311_0 := am (Kd.C_drew HR311_0.out);replace HR312_0 := am (Kd.C_drew HR312_0.out);replace HB := am (below_drew1 HB.out);obtain ⟨Ao26, co26, eo26⟩ := Kd.R_slice HO_5.out
             (first | subst eo26 | (injection eo26 with f1_ f2_ f3_; have f4_ := f1_.symm; have f5_ := f3_.symm; clear f1_ f2_ f3_; subst f4_; subst f5_))
             have p314 : 0 ≤ (x9_1 : Int) := of_decide_eq_true (by assumption);have q314 : x9_1 < (t299.length : Int) := of_decide_eq_true (by assumption);obtain ⟨ad314, e314, hx314_0⟩ := Kd.at_int (Kd.R_reads' HO_5.out).2.2 x9_1 p314 q314;cases e314
             replace p314 := eq_true p314;replace q314 := eq_true q314;obtain ⟨Ao27, co27, eo27⟩ := Kd.R_slice HO_7.out
             (first | subst eo27 | (injection eo27 with f1_ f2_ f3_; have f4_ := f1_.symm; have f5_ := f3_.symm; clear f1_ f2_ f3_; subst f4_; subst f5_))
             have p315 : 0 ≤ (x9_1 : Int) := of_decide_eq_true (by assumption);have q315 : x9_1 < (t305.length : Int) := of_decide_eq_true (by assumption);obtain ⟨ad315, e315, hx315_0⟩ := Kd.at_int (Kd.R_reads' HO_7.out).2.2 x9_1 p315 q315;cases e315
             replace p315 := eq_true p315;replace q315 := eq_true q315;refine start_ (n := 9) (S := fun w' => w'.cell? (ad314.add (x9_1).toNat) = some (.int .i64 (rd t299 x9_1)) ∧ w'.cell? (ad315.add (x9_1).toNat) = some (.int .i64 (rd t305 x9_1))) (ds := []) #[false, false, false, false, false, false, false, false, false] (by kernel_rfl) rfl rfl ⟨hx314_0, hx315_0⟩ (fun hHeld => ?_); refine with_tabW spec_l1Compare.tab9 spec_l1Compare.bits9 (fun HT_ HW_ => ?_);generalize w24.drew = w25 at HO_5 HO_6 HO_7 HO_8 HL311_0 HL312_0 HR311_0 HR312_0 HB hx314_0 hx315_0 hHeld ⊢;refine pure_ (i := 0) (N := some 45) (v := ?_) (a' := ?_) #[true, false, false, false, false, false, false, false, false] rfl rfl (any_of HT_.out (by kernel_rfl)) (fun _ _ _ h => h) (Or.inl ⟨by rfl, ?_⟩) ?_ ?_;rotate_left
             ·
              intro w';go_simp;with_reducible rfl
             rotate_left
             ·
              simp only [Act.put, sA, sB, sC, i64_w, i32_w];rfl
             refine pure_ (i := 1) (N := some 46) (v := ?_) (a' := ?_) #[true, true, false, false, false, false, false, false, false] rfl rfl (any_of HT_.out (by kernel_rfl)) (fun _ _ _ h => h) (Or.inl ⟨by rfl, ?_⟩) ?_ ?_;rotate_left
             ·
              intro w';go_simp;with_reducible rfl
             rotate_left
             ·
              simp only [Act.put, sA, sB, sC, i64_w, i32_w];rfl
             refine pure_ (i := 2) (N := some 47) (v := ?_) (a' := ?_) #[true, true, true, false, false, false, false, false, false] rfl rfl (any_of HT_.out (by kernel_rfl)) (fun _ _ _ h => h) (Or.inl ⟨by rfl, ?_⟩) ?_ ?_;rotate_left
             ·
              intro w';go_simp;with_reducible rfl
             rotate_left
             ·
              simp only [Act.put, sA, sB, sC, i64_w, i32_w];rfl
             refine pure_ (i := 4) (N := some 49) (v := ?_) (a' := ?_) #[true, true, true, false, true, false, false, false, false] rfl rfl (any_of HT_.out (by kernel_rfl)) (fun _ _ _ h => h) (Or.inl ⟨by rfl, ?_⟩) ?_ ?_;rotate_left
             ·
              intro w';go_simp;with_reducible rfl
             rotate_left
             ·
              simp only [Act.put, sA, sB, sC, i64_w, i32_w];rfl
             refine pure_ (i := 5) (N := some 50) (v := ?_) (a' := ?_) #[true, true, true, false, true, true, false, false, false] rfl rfl (any_of HT_.out (by kernel_rfl)) (fun _ _ _ h => h) (Or.inl ⟨by rfl, ?_⟩) ?_ ?_;rotate_left
             ·
              intro w';go_simp;with_reducible rfl
             rotate_left
             ·
              simp only [Act.put, sA, sB, sC, i64_w, i32_w];rfl
             refine pure_ (i := 6) (N := some 51) (v := ?_) (a' := ?_) #[true, true, true, false, true, true, true, false, false] rfl rfl (any_of HT_.out (by kernel_rfl)) (fun _ _ _ h => h) (Or.inl ⟨by rfl, ?_⟩) ?_ ?_;rotate_left
             ·
              intro w';go_simp;with_reducible rfl
             rotate_left
             ·
              simp only [Act.put, sA, sB, sC, i64_w, i32_w];rfl
             refine take_ (i := 3) (N := some 48) (v := ?_) (a' := ?_) #[true, true, true, true, true, true, true, false, false] rfl rfl (take_ofW HT_.out HW_.out (by kernel_rfl)) (fun _ _ _ h => h) (Or.inl ⟨by rfl, ?_⟩) hHeld ?_ ?_;rotate_left
             ·
              rintro w' ⟨s0, s1⟩
              go_simp;with_reducible rfl
             rotate_left
             ·
              simp only [Act.put, sA, sB, sC, i64_w, i32_w];rfl
             refine take_ (i := 7) (N := some 52) (v := ?_) (a' := ?_) #[true, true, true, true, true, true, true, true, false] rfl rfl (take_ofW HT_.out HW_.out (by kernel_rfl)) (fun _ _ _ h => h) (Or.inl ⟨by rfl, ?_⟩) hHeld ?_ ?_;rotate_left
             ·
              rintro w' ⟨s0, s1⟩
              go_simp;with_reducible rfl
             rotate_left
             ·
              simp only [Act.put, sA, sB, sC, i64_w, i32_w];rfl
             refine pure_ (i := 8) (N := some 53) (v := ?_) (a' := ?_) #[true, true, true, true, true, true, true, true, true] rfl rfl (any_of HT_.out (by kernel_rfl)) (fun _ _ _ h => h) (Or.inl ⟨by rfl, ?_⟩) ?_ ?_;rotate_left
             ·
              intro w';go_simp;with_reducible rfl
             rotate_left
             ·
              simp only [Act.put, sA, sB, sC, i64_w, i32_w];rfl
             refine done_ (done_of HT_.out (by kernel_rfl)) ?_;(try go_wp2)
             go_roundg kj6
             case measure => have := HK1.out; have := HJ6.out; omega
             case rel => exact ⟨(wrap64 (x9_1 + 1)), (by first | rfl | (simp; done) | (simp [*]; done)), H', ⟨by have := HK1.out; have := HJ6.out; omega⟩, ⟨Kd.rm HO_5.out⟩, ⟨Kd.nm HO_6.out⟩, ⟨Kd.rm HO_7.out⟩, ⟨Kd.nm HO_8.out⟩, ⟨bm HB.out⟩⟩
            ·
             rw [if_neg c20] at H;have c20b0 : ((rd t299 x9_1) == (rd t305 x9_1)) = false := beq_eq_false_iff_ne.mpr c20;have c20b1 : ((rd t299 x9_1) != (rd t305 x9_1)) = true := bne_iff_ne.mpr c20;by_cases c28 : (rd t299 x9_1) < (rd t305 x9_1)
             ·
              rw [if_pos c28] at H;have c28b0 : decide ((rd t299 x9_1) < (rd t305 x9_1)) = true := decide_eq_true c28;clear c28;obtain rfl := Option.some.inj H;(try go_wp2);replace HO_5 := am (Kd.R_drew HO_5.out);replace HO_6 := am (Kd.N_drew HO_6.out);replace HO_7 := am (Kd.R_drew HO_7.out);replace HO_8 := am (Kd.N_drew HO_8.out);replace HB := am (below_drew1 HB.out);obtain ⟨Ao30, co30, eo30⟩ := Kd.N_slice HO_6.out
              (first | subst eo30 | (injection eo30 with f1_ f2_ f3_; have f4_ := f1_.symm; have f5_ := f3_.symm; clear f1_ f2_ f3_; subst f4_; subst f5_))
              have p311 : 0 ≤ (x9_1 : Int) := of_decide_eq_true (by assumption);have q311 : x9_1 < (t302.length : Int) := of_decide_eq_true (by assumption);obtain ⟨ad311, A311_0, c311_0, e311, hx311_0, hl311_0, hi311_0⟩ := at_L3 (Kd.N_reads' HO_6.out).2.2 x9_1 p311 q311;cases e311
              obtain ⟨ce311, hce311, hMe311, hcc311⟩ := Kd.N_get HO_6.out [] x9_1 p311 (by first | exact q311 | exact of_decide_eq_true (by assumption) | (have e_ := (Kd.N_reads' HO_6.out).1; omega));obtain ⟨ua311_0, uc311_0, rfl, ul311_0, ge311_0⟩ := Kd.FK_slice_open hMe311;have hv311_0 := hcc311 0 _ rfl;rw [Nat.add_zero, show ((Kd.slice 3 (Kd.int .i64))).sz = 1 from rfl, Nat.mul_one] at hv311_0;replace hv311_0 := Option.some.inj (hv311_0.symm.trans hx311_0)
              injection hv311_0 with hva_ hvn_ hvc_
              rw [hva_] at ge311_0;rw [hvc_] at ul311_0;have HL311_0 := am (show Kd.V (Kd.int .i64) 3 _ w.heap.size _ _ (rd_L3 t302 x9_1) from Kd.V_mk ul311_0 ge311_0);clear hva_ hvn_ hvc_ ge311_0 ul311_0;clear hcc311 hce311;have HR311_0 := am hi311_0;have HC311_0 := am hl311_0;clear hi311_0 hl311_0;replace p311 := eq_true p311;replace q311 := eq_true q311;obtain ⟨Ao31, co31, eo31⟩ := Kd.N_slice HO_8.out
              (first | subst eo31 | (injection eo31 with f1_ f2_ f3_; have f4_ := f1_.symm; have f5_ := f3_.symm; clear f1_ f2_ f3_; subst f4_; subst f5_))
              have p312 : 0 ≤ (x9_1 : Int) := of_decide_eq_true (by assumption);have q312 : x9_1 < (t308.length : Int) := of_decide_eq_true (by assumption);obtain ⟨ad312, A312_0, c312_0, e312, hx312_0, hl312_0, hi312_0⟩ := at_L3 (Kd.N_reads' HO_8.out).2.2 x9_1 p312 q312;cases e312
              obtain ⟨ce312, hce312, hMe312, hcc312⟩ := Kd.N_get HO_8.out [] x9_1 p312 (by first | exact q312 | exact of_decide_eq_true (by assumption) | (have e_ := (Kd.N_reads' HO_8.out).1; omega));obtain ⟨ua312_0, uc312_0, rfl, ul312_0, ge312_0⟩ := Kd.FK_slice_open hMe312;have hv312_0 := hcc312 0 _ rfl;rw [Nat.add_zero, show ((Kd.slice 3 (Kd.int .i64))).sz = 1 from rfl, Nat.mul_one] at hv312_0;replace hv312_0 := Option.some.inj (hv312_0.symm.trans hx312_0)
              injection hv312_0 with hva_ hvn_ hvc_
              rw [hva_] at ge312_0;rw [hvc_] at ul312_0;have HL312_0 := am (show Kd.V (Kd.int .i64) 3 _ w.heap.size _ _ (rd_L3 t308 x9_1) from Kd.V_mk ul312_0 ge312_0);clear hva_ hvn_ hvc_ ge312_0 ul312_0;clear hcc312 hce312;have HR312_0 := am hi312_0;have HC312_0 := am hl312_0;clear hi312_0 hl312_0;replace p312 := eq_true p312;replace q312 := eq_true q312;refine start_ (n := 10) (S := fun w' => w'.cell? (ad311.add (x9_1).toNat) = some (.slice A311_0 (rd_L3 t302 x9_1).length c311_0) ∧ w'.cell? (ad312.add (x9_1).toNat) = some (.slice A312_0 (rd_L3 t308 x9_1).length c312_0)) (ds := []) #[false, false, false, false, false, false, false, false, false, false] (by kernel_rfl) rfl rfl ⟨hx311_0, hx312_0⟩ (fun hHeld => ?_); refine with_tabW spec_l1Compare.tab6 spec_l1Compare.bits6 (fun HT_ HW_ => ?_);generalize wc.drew = w29 at HO_5 HO_6 HO_7 HO_8 HB HL311_0 HL312_0 HR311_0 HR312_0 hx311_0 hx312_0 hHeld ⊢;refine pure_ (i := 0) (N := some 33) (v := ?_) (a' := ?_) #[true, false, false, false, false, false, false, false, false, false] rfl rfl (any_of HT_.out (by kernel_rfl)) (fun _ _ _ h => h) (Or.inl ⟨by rfl, ?_⟩) ?_ ?_;rotate_left
              ·
               intro w';go_simp;with_reducible rfl
              rotate_left
              ·
               simp only [Act.put, sA, sB, sC, i64_w, i32_w];rfl
              refine pure_ (i := 1) (N := some 34) (v := ?_) (a' := ?_) #[true, true, false, false, false, false, false, false, false, false] rfl rfl (any_of HT_.out (by kernel_rfl)) (fun _ _ _ h => h) (Or.inl ⟨by rfl, ?_⟩) ?_ ?_;rotate_left
              ·
               intro w';go_simp;with_reducible rfl
              rotate_left
              ·
               simp only [Act.put, sA, sB, sC, i64_w, i32_w];rfl
              refine pure_ (i := 2) (N := some 35) (v := ?_) (a' := ?_) #[true, true, true, false, false, false, false, false, false, false] rfl rfl (any_of HT_.out (by kernel_rfl)) (fun _ _ _ h => h) (Or.inl ⟨by rfl, ?_⟩) ?_ ?_;rotate_left
              ·
               intro w';go_simp;with_reducible rfl
              rotate_left
              ·
               simp only [Act.put, sA, sB, sC, i64_w, i32_w];rfl
              refine pure_ (i := 4) (N := some 37) (v := ?_) (a' := ?_) #[true, true, true, false, true, false, false, false, false, false] rfl rfl (any_of HT_.out (by kernel_rfl)) (fun _ _ _ h => h) (Or.inl ⟨by rfl, ?_⟩) ?_ ?_;rotate_left
              ·
               intro w';go_simp;with_reducible rfl
              rotate_left
              ·
               simp only [Act.put, sA, sB, sC, i64_w, i32_w];rfl
              refine pure_ (i := 5) (N := some 38) (v := ?_) (a' := ?_) #[true, true, true, false, true, true, false, false, false, false] rfl rfl (any_of HT_.out (by kernel_rfl)) (fun _ _ _ h => h) (Or.inl ⟨by rfl, ?_⟩) ?_ ?_;rotate_left
              ·
               intro w';go_simp;with_reducible rfl
              rotate_left
              ·
               simp only [Act.put, sA, sB, sC, i64_w, i32_w];rfl
              refine pure_ (i := 6) (N := some 39) (v := ?_) (a' := ?_) #[true, true, true, false, true, true, true, false, false, false] rfl rfl (any_of HT_.out (by kernel_rfl)) (fun _ _ _ h => h) (Or.inl ⟨by rfl, ?_⟩) ?_ ?_;rotate_left
              ·
               intro w';go_simp;with_reducible rfl
              rotate_left
              ·
               simp only [Act.put, sA, sB, sC, i64_w, i32_w];rfl
              refine take_ (i := 3) (N := some 36) (v := ?_) (a' := ?_) #[true, true, true, true, true, true, true, false, false, false] rfl rfl (take_ofW HT_.out HW_.out (by kernel_rfl)) (fun _ _ _ h => h) (Or.inl ⟨by rfl, ?_⟩) hHeld ?_ ?_;rotate_left
              ·
               rintro w' ⟨s0, s1⟩
               go_simp;with_reducible rfl
              rotate_left
              ·
               simp only [Act.put, sA, sB, sC, i64_w, i32_w];rfl
              refine take_ (i := 7) (N := some 40) (v := ?_) (a' := ?_) #[true, true, true, true, true, true, true, true, false, false] rfl rfl (take_ofW HT_.out HW_.out (by kernel_rfl)) (fun _ _ _ h => h) (Or.inl ⟨by rfl, ?_⟩) hHeld ?_ ?_;rotate_left
              ·
               rintro w' ⟨s0, s1⟩
               go_simp;with_reducible rfl
              rotate_left
              ·
               simp only [Act.put, sA, sB, sC, i64_w, i32_w];rfl
              refine one_ (i := 8) (N := some 41) #[true, true, true, true, true, true, true, true, true, false] rfl rfl (one_of HT_.out (by kernel_rfl)) (by decide) (fun K hK => ?_);refine goes_ Try.func87 (by kernel_rfl) rfl #[.slice A311_0 (rd_L3 t302 x9_1).length c311_0, .slice A312_0 (rd_L3 t308 x9_1).length c312_0] (by rfl) rfl rfl (by (try simp only [mA, mB, mC]); first | done | rfl) ?_
              with_reducible refine (ih kj6 (by have := HK1.out; have := HJ6.out; omega) _ _ (rd_L3 t302 x9_1) _ _ (rd_L3 t308 x9_1) t313 _ ?side1 ?side2 ?side3 ?side4 A16.out).mono ?_
              (case side1 => exact Kd.cm ((by repeat (first | (with_reducible exact HR311_0.out) | (with_reducible refine Kd.C_alloc ?_ _) | (with_reducible refine Kd.C_drewN ?_ _) | (with_reducible refine Kd.C_drew ?_) | exact HR311_0.out))));(case side2 => exact HC311_0.out);(case side3 => exact Kd.cm ((by repeat (first | (with_reducible exact HR312_0.out) | (with_reducible refine Kd.C_alloc ?_ _) | (with_reducible refine Kd.C_drewN ?_ _) | (with_reducible refine Kd.C_drew ?_) | exact HR312_0.out))));(case side4 => exact HC312_0.out)
              rintro e w32 ⟨rfl, hb⟩
              have HS0_ := (hb.cell (World.block_lt_of_cell? _ _ (hHeld.1))).trans (hHeld.1);have HS1_ := (hb.cell (World.block_lt_of_cell? _ _ (hHeld.2))).trans (hHeld.2);refine ⟨_, rfl, ?_⟩;replace HO_5 := am (Kd.R_below (Kd.rm HO_5.out) hb);replace HO_6 := am (Kd.N_below (Kd.nm HO_6.out) hb);replace HO_7 := am (Kd.R_below (Kd.rm HO_7.out) hb);replace HO_8 := am (Kd.N_below (Kd.nm HO_8.out) hb);replace HL311_0 := am (Kd.V_below (Kd.vm HL311_0.out) hb);replace HL312_0 := am (Kd.V_below (Kd.vm HL312_0.out) hb);replace HR311_0 := am (Kd.C_below (by repeat (first | (with_reducible exact HR311_0.out) | (with_reducible refine Kd.C_alloc ?_ _) | (with_reducible refine Kd.C_drewN ?_ _) | (with_reducible refine Kd.C_drew ?_) | exact HR311_0.out)) hb);replace HR312_0 := am (Kd.C_below (by repeat (first | (with_reducible exact HR312_0.out) | (with_reducible refine Kd.C_alloc ?_ _) | (with_reducible refine Kd.C_drewN ?_ _) | (with_reducible refine Kd.C_drew ?_) | exact HR312_0.out)) hb);replace HB := am (below_step (bm HB.out) hb);(try clear hb);refine hK.out _ _ ⟨HS0_, HS1_⟩ (fun hHeld => ?_);clear hK K;refine norm_ (a' := ?_) ?_ ?_;rotate_left
              ·
               show Act.put _ (some 41) _ = _
               simp only [Act.put, sA, sB, sC, i64_w, i32_w];rfl
              refine pure_ (i := 9) (N := some 10) (v := ?_) (a' := ?_) #[true, true, true, true, true, true, true, true, true, true] rfl rfl (any_of HT_.out (by kernel_rfl)) (fun _ _ _ h => h) (Or.inl ⟨by rfl, ?_⟩) ?_ ?_;rotate_left
              ·
               intro w';go_simp;with_reducible rfl
              rotate_left
              ·
               simp only [Act.put, sA, sB, sC, i64_w, i32_w];rfl
              refine done_ (done_of HT_.out (by kernel_rfl)) ?_;(try go_wp2);replace HO_5 := am (Kd.R_drew HO_5.out);replace HO_6 := am (Kd.N_drew HO_6.out);replace HO_7 := am (Kd.R_drew HO_7.out);replace HO_8 := am (Kd.N_drew HO_8.out);replace HL311_0 := am (Kd.V_drew HL311_0.out);replace HL312_0 := am (Kd.V_drew HL312_0.out);replace HR311_0 := am (Kd.C_drew HR311_0.out);replace HR312_0 := am (Kd.C_drew HR312_0.out);replace HB := am (below_drew1 HB.out);obtain ⟨Ao34, co34, eo34⟩ := Kd.R_slice HO_5.out
              (first | subst eo34 | (injection eo34 with f1_ f2_ f3_; have f4_ := f1_.symm; have f5_ := f3_.symm; clear f1_ f2_ f3_; subst f4_; subst f5_))
              have p314 : 0 ≤ (x9_1 : Int) := of_decide_eq_true (by assumption);have q314 : x9_1 < (t299.length : Int) := of_decide_eq_true (by assumption);obtain ⟨ad314, e314, hx314_0⟩ := Kd.at_int (Kd.R_reads' HO_5.out).2.2 x9_1 p314 q314;cases e314
              replace p314 := eq_true p314;replace q314 := eq_true q314;obtain ⟨Ao35, co35, eo35⟩ := Kd.R_slice HO_7.out
              (first | subst eo35 | (injection eo35 with f1_ f2_ f3_; have f4_ := f1_.symm; have f5_ := f3_.symm; clear f1_ f2_ f3_; subst f4_; subst f5_))
              have p315 : 0 ≤ (x9_1 : Int) := of_decide_eq_true (by assumption);have q315 : x9_1 < (t305.length : Int) := of_decide_eq_true (by assumption);obtain ⟨ad315, e315, hx315_0⟩ := Kd.at_int (Kd.R_reads' HO_7.out).2.2 x9_1 p315 q315;cases e315
              replace p315 := eq_true p315;replace q315 := eq_true q315;refine start_ (n := 9) (S := fun w' => w'.cell? (ad314.add (x9_1).toNat) = some (.int .i64 (rd t299 x9_1)) ∧ w'.cell? (ad315.add (x9_1).toNat) = some (.int .i64 (rd t305 x9_1))) (ds := []) #[false, false, false, false, false, false, false, false, false] (by kernel_rfl) rfl rfl ⟨hx314_0, hx315_0⟩ (fun hHeld => ?_); refine with_tabW spec_l1Compare.tab9 spec_l1Compare.bits9 (fun HT_ HW_ => ?_);generalize w32.drew = w33 at HO_5 HO_6 HO_7 HO_8 HL311_0 HL312_0 HR311_0 HR312_0 HB hx314_0 hx315_0 hHeld ⊢;refine pure_ (i := 0) (N := some 45) (v := ?_) (a' := ?_) #[true, false, false, false, false, false, false, false, false] rfl rfl (any_of HT_.out (by kernel_rfl)) (fun _ _ _ h => h) (Or.inl ⟨by rfl, ?_⟩) ?_ ?_;rotate_left
              ·
               intro w';go_simp;with_reducible rfl
              rotate_left
              ·
               simp only [Act.put, sA, sB, sC, i64_w, i32_w];rfl
              refine pure_ (i := 1) (N := some 46) (v := ?_) (a' := ?_) #[true, true, false, false, false, false, false, false, false] rfl rfl (any_of HT_.out (by kernel_rfl)) (fun _ _ _ h => h) (Or.inl ⟨by rfl, ?_⟩) ?_ ?_;rotate_left
              ·
               intro w';go_simp;with_reducible rfl
              rotate_left
              ·
               simp only [Act.put, sA, sB, sC, i64_w, i32_w];rfl
              refine pure_ (i := 2) (N := some 47) (v := ?_) (a' := ?_) #[true, true, true, false, false, false, false, false, false] rfl rfl (any_of HT_.out (by kernel_rfl)) (fun _ _ _ h => h) (Or.inl ⟨by rfl, ?_⟩) ?_ ?_;rotate_left
              ·
               intro w';go_simp;with_reducible rfl
              rotate_left
              ·
               simp only [Act.put, sA, sB, sC, i64_w, i32_w];rfl
              refine pure_ (i := 4) (N := some 49) (v := ?_) (a' := ?_) #[true, true, true, false, true, false, false, false, false] rfl rfl (any_of HT_.out (by kernel_rfl)) (fun _ _ _ h => h) (Or.inl ⟨by rfl, ?_⟩) ?_ ?_;rotate_left
              ·
               intro w';go_simp;with_reducible rfl
              rotate_left
              ·
               simp only [Act.put, sA, sB, sC, i64_w, i32_w];rfl
              refine pure_ (i := 5) (N := some 50) (v := ?_) (a' := ?_) #[true, true, true, false, true, true, false, false, false] rfl rfl (any_of HT_.out (by kernel_rfl)) (fun _ _ _ h => h) (Or.inl ⟨by rfl, ?_⟩) ?_ ?_;rotate_left
              ·
               intro w';go_simp;with_reducible rfl
              rotate_left
              ·
               simp only [Act.put, sA, sB, sC, i64_w, i32_w];rfl
              refine pure_ (i := 6) (N := some 51) (v := ?_) (a' := ?_) #[true, true, true, false, true, true, true, false, false] rfl rfl (any_of HT_.out (by kernel_rfl)) (fun _ _ _ h => h) (Or.inl ⟨by rfl, ?_⟩) ?_ ?_;rotate_left
              ·
               intro w';go_simp;with_reducible rfl
              rotate_left
              ·
               simp only [Act.put, sA, sB, sC, i64_w, i32_w];rfl
              refine take_ (i := 3) (N := some 48) (v := ?_) (a' := ?_) #[true, true, true, true, true, true, true, false, false] rfl rfl (take_ofW HT_.out HW_.out (by kernel_rfl)) (fun _ _ _ h => h) (Or.inl ⟨by rfl, ?_⟩) hHeld ?_ ?_;rotate_left
              ·
               rintro w' ⟨s0, s1⟩
               go_simp;with_reducible rfl
              rotate_left
              ·
               simp only [Act.put, sA, sB, sC, i64_w, i32_w];rfl
              refine take_ (i := 7) (N := some 52) (v := ?_) (a' := ?_) #[true, true, true, true, true, true, true, true, false] rfl rfl (take_ofW HT_.out HW_.out (by kernel_rfl)) (fun _ _ _ h => h) (Or.inl ⟨by rfl, ?_⟩) hHeld ?_ ?_;rotate_left
              ·
               rintro w' ⟨s0, s1⟩
               go_simp;with_reducible rfl
              rotate_left
              ·
               simp only [Act.put, sA, sB, sC, i64_w, i32_w];rfl
              refine pure_ (i := 8) (N := some 53) (v := ?_) (a' := ?_) #[true, true, true, true, true, true, true, true, true] rfl rfl (any_of HT_.out (by kernel_rfl)) (fun _ _ _ h => h) (Or.inl ⟨by rfl, ?_⟩) ?_ ?_;rotate_left
              ·
               intro w';go_simp;with_reducible rfl
              rotate_left
              ·
               simp only [Act.put, sA, sB, sC, i64_w, i32_w];rfl
              refine done_ (done_of HT_.out (by kernel_rfl)) ?_;(try go_wp2);replace HO_5 := am (Kd.R_drew HO_5.out);replace HO_6 := am (Kd.N_drew HO_6.out);replace HO_7 := am (Kd.R_drew HO_7.out);replace HO_8 := am (Kd.N_drew HO_8.out);replace HL311_0 := am (Kd.V_drew HL311_0.out);replace HL312_0 := am (Kd.V_drew HL312_0.out);replace HR311_0 := am (Kd.C_drew HR311_0.out);replace HR312_0 := am (Kd.C_drew HR312_0.out);replace HB := am (below_drew1 HB.out);have p316 : 0 ≤ (x9_1 : Int) := of_decide_eq_true (by assumption);have q316 : x9_1 < (t299.length : Int) := of_decide_eq_true (by assumption);obtain ⟨ad316, e316, hx316_0⟩ := Kd.at_int (Kd.R_reads' HO_5.out).2.2 x9_1 p316 q316;obtain rfl : ad314 = ad316 := (by injection e316);replace p316 := eq_true p316;replace q316 := eq_true q316;have p317 : 0 ≤ (x9_1 : Int) := of_decide_eq_true (by assumption);have q317 : x9_1 < (t305.length : Int) := of_decide_eq_true (by assumption);obtain ⟨ad317, e317, hx317_0⟩ := Kd.at_int (Kd.R_reads' HO_7.out).2.2 x9_1 p317 q317;obtain rfl : ad315 = ad317 := (by injection e317);replace p317 := eq_true p317;replace q317 := eq_true q317;refine start_ (n := 9) (S := fun w' => w'.cell? (ad314.add (x9_1).toNat) = some (.int .i64 (rd t299 x9_1)) ∧ w'.cell? (ad315.add (x9_1).toNat) = some (.int .i64 (rd t305 x9_1))) (ds := []) #[false, false, false, false, false, false, false, false, false] (by kernel_rfl) rfl rfl ⟨hx316_0, hx317_0⟩ (fun hHeld => ?_); refine with_tabW spec_l1Compare.tab10 spec_l1Compare.bits10 (fun HT_ HW_ => ?_);generalize w33.drew = w36 at HO_5 HO_6 HO_7 HO_8 HL311_0 HL312_0 HR311_0 HR312_0 HB hx316_0 hx317_0 hHeld ⊢;refine pure_ (i := 0) (N := some 54) (v := ?_) (a' := ?_) #[true, false, false, false, false, false, false, false, false] rfl rfl (any_of HT_.out (by kernel_rfl)) (fun _ _ _ h => h) (Or.inl ⟨by rfl, ?_⟩) ?_ ?_;rotate_left
              ·
               intro w';go_simp;with_reducible rfl
              rotate_left
              ·
               simp only [Act.put, sA, sB, sC, i64_w, i32_w];rfl
              refine pure_ (i := 1) (N := some 55) (v := ?_) (a' := ?_) #[true, true, false, false, false, false, false, false, false] rfl rfl (any_of HT_.out (by kernel_rfl)) (fun _ _ _ h => h) (Or.inl ⟨by rfl, ?_⟩) ?_ ?_;rotate_left
              ·
               intro w';go_simp;with_reducible rfl
              rotate_left
              ·
               simp only [Act.put, sA, sB, sC, i64_w, i32_w];rfl
              refine pure_ (i := 2) (N := some 56) (v := ?_) (a' := ?_) #[true, true, true, false, false, false, false, false, false] rfl rfl (any_of HT_.out (by kernel_rfl)) (fun _ _ _ h => h) (Or.inl ⟨by rfl, ?_⟩) ?_ ?_;rotate_left
              ·
               intro w';go_simp;with_reducible rfl
              rotate_left
              ·
               simp only [Act.put, sA, sB, sC, i64_w, i32_w];rfl
              refine pure_ (i := 4) (N := some 58) (v := ?_) (a' := ?_) #[true, true, true, false, true, false, false, false, false] rfl rfl (any_of HT_.out (by kernel_rfl)) (fun _ _ _ h => h) (Or.inl ⟨by rfl, ?_⟩) ?_ ?_;rotate_left
              ·
               intro w';go_simp;with_reducible rfl
              rotate_left
              ·
               simp only [Act.put, sA, sB, sC, i64_w, i32_w];rfl
              refine pure_ (i := 5) (N := some 59) (v := ?_) (a' := ?_) #[true, true, true, false, true, true, false, false, false] rfl rfl (any_of HT_.out (by kernel_rfl)) (fun _ _ _ h => h) (Or.inl ⟨by rfl, ?_⟩) ?_ ?_;rotate_left
              ·
               intro w';go_simp;with_reducible rfl
              rotate_left
              ·
               simp only [Act.put, sA, sB, sC, i64_w, i32_w];rfl
              refine pure_ (i := 6) (N := some 60) (v := ?_) (a' := ?_) #[true, true, true, false, true, true, true, false, false] rfl rfl (any_of HT_.out (by kernel_rfl)) (fun _ _ _ h => h) (Or.inl ⟨by rfl, ?_⟩) ?_ ?_;rotate_left
              ·
               intro w';go_simp;with_reducible rfl
              rotate_left
              ·
               simp only [Act.put, sA, sB, sC, i64_w, i32_w];rfl
              refine take_ (i := 3) (N := some 57) (v := ?_) (a' := ?_) #[true, true, true, true, true, true, true, false, false] rfl rfl (take_ofW HT_.out HW_.out (by kernel_rfl)) (fun _ _ _ h => h) (Or.inl ⟨by rfl, ?_⟩) hHeld ?_ ?_;rotate_left
              ·
               rintro w' ⟨s0, s1⟩
               go_simp;with_reducible rfl
              rotate_left
              ·
               simp only [Act.put, sA, sB, sC, i64_w, i32_w];rfl
              refine take_ (i := 7) (N := some 61) (v := ?_) (a' := ?_) #[true, true, true, true, true, true, true, true, false] rfl rfl (take_ofW HT_.out HW_.out (by kernel_rfl)) (fun _ _ _ h => h) (Or.inl ⟨by rfl, ?_⟩) hHeld ?_ ?_;rotate_left
              ·
               rintro w' ⟨s0, s1⟩
               go_simp;with_reducible rfl
              rotate_left
              ·
               simp only [Act.put, sA, sB, sC, i64_w, i32_w];rfl
              refine pure_ (i := 8) (N := some 62) (v := ?_) (a' := ?_) #[true, true, true, true, true, true, true, true, true] rfl rfl (any_of HT_.out (by kernel_rfl)) (fun _ _ _ h => h) (Or.inl ⟨by rfl, ?_⟩) ?_ ?_;rotate_left
              ·
               intro w';go_simp;with_reducible rfl
              rotate_left
              ·
               simp only [Act.put, sA, sB, sC, i64_w, i32_w];rfl
              refine done_ (done_of HT_.out (by kernel_rfl)) ?_;(try go_wp2);go_ret;exact ⟨by first | rfl | (simp [errW_none, errW_some] <;> rfl) | (simp [*, errW_none, errW_some] <;> rfl), bm HB.out⟩
             ·
              rw [if_neg c28] at H;have c28b0 : decide ((rd t299 x9_1) < (rd t305 x9_1)) = false := decide_eq_false c28;clear c28;obtain rfl := Option.some.inj H;(try go_wp2);replace HO_5 := am (Kd.R_drew HO_5.out);replace HO_6 := am (Kd.N_drew HO_6.out);replace HO_7 := am (Kd.R_drew HO_7.out);replace HO_8 := am (Kd.N_drew HO_8.out);replace HB := am (below_drew1 HB.out);obtain ⟨Ao38, co38, eo38⟩ := Kd.N_slice HO_6.out
              (first | subst eo38 | (injection eo38 with f1_ f2_ f3_; have f4_ := f1_.symm; have f5_ := f3_.symm; clear f1_ f2_ f3_; subst f4_; subst f5_))
              have p311 : 0 ≤ (x9_1 : Int) := of_decide_eq_true (by assumption);have q311 : x9_1 < (t302.length : Int) := of_decide_eq_true (by assumption);obtain ⟨ad311, A311_0, c311_0, e311, hx311_0, hl311_0, hi311_0⟩ := at_L3 (Kd.N_reads' HO_6.out).2.2 x9_1 p311 q311;cases e311
              obtain ⟨ce311, hce311, hMe311, hcc311⟩ := Kd.N_get HO_6.out [] x9_1 p311 (by first | exact q311 | exact of_decide_eq_true (by assumption) | (have e_ := (Kd.N_reads' HO_6.out).1; omega));obtain ⟨ua311_0, uc311_0, rfl, ul311_0, ge311_0⟩ := Kd.FK_slice_open hMe311;have hv311_0 := hcc311 0 _ rfl;rw [Nat.add_zero, show ((Kd.slice 3 (Kd.int .i64))).sz = 1 from rfl, Nat.mul_one] at hv311_0;replace hv311_0 := Option.some.inj (hv311_0.symm.trans hx311_0)
              injection hv311_0 with hva_ hvn_ hvc_
              rw [hva_] at ge311_0;rw [hvc_] at ul311_0;have HL311_0 := am (show Kd.V (Kd.int .i64) 3 _ w.heap.size _ _ (rd_L3 t302 x9_1) from Kd.V_mk ul311_0 ge311_0);clear hva_ hvn_ hvc_ ge311_0 ul311_0;clear hcc311 hce311;have HR311_0 := am hi311_0;have HC311_0 := am hl311_0;clear hi311_0 hl311_0;replace p311 := eq_true p311;replace q311 := eq_true q311;obtain ⟨Ao39, co39, eo39⟩ := Kd.N_slice HO_8.out
              (first | subst eo39 | (injection eo39 with f1_ f2_ f3_; have f4_ := f1_.symm; have f5_ := f3_.symm; clear f1_ f2_ f3_; subst f4_; subst f5_))
              have p312 : 0 ≤ (x9_1 : Int) := of_decide_eq_true (by assumption);have q312 : x9_1 < (t308.length : Int) := of_decide_eq_true (by assumption);obtain ⟨ad312, A312_0, c312_0, e312, hx312_0, hl312_0, hi312_0⟩ := at_L3 (Kd.N_reads' HO_8.out).2.2 x9_1 p312 q312;cases e312
              obtain ⟨ce312, hce312, hMe312, hcc312⟩ := Kd.N_get HO_8.out [] x9_1 p312 (by first | exact q312 | exact of_decide_eq_true (by assumption) | (have e_ := (Kd.N_reads' HO_8.out).1; omega));obtain ⟨ua312_0, uc312_0, rfl, ul312_0, ge312_0⟩ := Kd.FK_slice_open hMe312;have hv312_0 := hcc312 0 _ rfl;rw [Nat.add_zero, show ((Kd.slice 3 (Kd.int .i64))).sz = 1 from rfl, Nat.mul_one] at hv312_0;replace hv312_0 := Option.some.inj (hv312_0.symm.trans hx312_0)
              injection hv312_0 with hva_ hvn_ hvc_
              rw [hva_] at ge312_0;rw [hvc_] at ul312_0;have HL312_0 := am (show Kd.V (Kd.int .i64) 3 _ w.heap.size _ _ (rd_L3 t308 x9_1) from Kd.V_mk ul312_0 ge312_0);clear hva_ hvn_ hvc_ ge312_0 ul312_0;clear hcc312 hce312;have HR312_0 := am hi312_0;have HC312_0 := am hl312_0;clear hi312_0 hl312_0;replace p312 := eq_true p312;replace q312 := eq_true q312;refine start_ (n := 10) (S := fun w' => w'.cell? (ad311.add (x9_1).toNat) = some (.slice A311_0 (rd_L3 t302 x9_1).length c311_0) ∧ w'.cell? (ad312.add (x9_1).toNat) = some (.slice A312_0 (rd_L3 t308 x9_1).length c312_0)) (ds := []) #[false, false, false, false, false, false, false, false, false, false] (by kernel_rfl) rfl rfl ⟨hx311_0, hx312_0⟩ (fun hHeld => ?_); refine with_tabW spec_l1Compare.tab6 spec_l1Compare.bits6 (fun HT_ HW_ => ?_);generalize wc.drew = w37 at HO_5 HO_6 HO_7 HO_8 HB HL311_0 HL312_0 HR311_0 HR312_0 hx311_0 hx312_0 hHeld ⊢;refine pure_ (i := 0) (N := some 33) (v := ?_) (a' := ?_) #[true, false, false, false, false, false, false, false, false, false] rfl rfl (any_of HT_.out (by kernel_rfl)) (fun _ _ _ h => h) (Or.inl ⟨by rfl, ?_⟩) ?_ ?_;rotate_left
              ·
               intro w';go_simp;with_reducible rfl
              rotate_left
              ·
               simp only [Act.put, sA, sB, sC, i64_w, i32_w];rfl
              refine pure_ (i := 1) (N := some 34) (v := ?_) (a' := ?_) #[true, true, false, false, false, false, false, false, false, false] rfl rfl (any_of HT_.out (by kernel_rfl)) (fun _ _ _ h => h) (Or.inl ⟨by rfl, ?_⟩) ?_ ?_;rotate_left
              ·
               intro w';go_simp;with_reducible rfl
              rotate_left
              ·
               simp only [Act.put, sA, sB, sC, i64_w, i32_w];rfl
              refine pure_ (i := 2) (N := some 35) (v := ?_) (a' := ?_) #[true, true, true, false, false, false, false, false, false, false] rfl rfl (any_of HT_.out (by kernel_rfl)) (fun _ _ _ h => h) (Or.inl ⟨by rfl, ?_⟩) ?_ ?_;rotate_left
              ·
               intro w';go_simp;with_reducible rfl
              rotate_left
              ·
               simp only [Act.put, sA, sB, sC, i64_w, i32_w];rfl
              refine pure_ (i := 4) (N := some 37) (v := ?_) (a' := ?_) #[true, true, true, false, true, false, false, false, false, false] rfl rfl (any_of HT_.out (by kernel_rfl)) (fun _ _ _ h => h) (Or.inl ⟨by rfl, ?_⟩) ?_ ?_;rotate_left
              ·
               intro w';go_simp;with_reducible rfl
              rotate_left
              ·
               simp only [Act.put, sA, sB, sC, i64_w, i32_w];rfl
              refine pure_ (i := 5) (N := some 38) (v := ?_) (a' := ?_) #[true, true, true, false, true, true, false, false, false, false] rfl rfl (any_of HT_.out (by kernel_rfl)) (fun _ _ _ h => h) (Or.inl ⟨by rfl, ?_⟩) ?_ ?_;rotate_left
              ·
               intro w';go_simp;with_reducible rfl
              rotate_left
              ·
               simp only [Act.put, sA, sB, sC, i64_w, i32_w];rfl
              refine pure_ (i := 6) (N := some 39) (v := ?_) (a' := ?_) #[true, true, true, false, true, true, true, false, false, false] rfl rfl (any_of HT_.out (by kernel_rfl)) (fun _ _ _ h => h) (Or.inl ⟨by rfl, ?_⟩) ?_ ?_;rotate_left
              ·
               intro w';go_simp;with_reducible rfl
              rotate_left
              ·
               simp only [Act.put, sA, sB, sC, i64_w, i32_w];rfl
              refine take_ (i := 3) (N := some 36) (v := ?_) (a' := ?_) #[true, true, true, true, true, true, true, false, false, false] rfl rfl (take_ofW HT_.out HW_.out (by kernel_rfl)) (fun _ _ _ h => h) (Or.inl ⟨by rfl, ?_⟩) hHeld ?_ ?_;rotate_left
              ·
               rintro w' ⟨s0, s1⟩
               go_simp;with_reducible rfl
              rotate_left
              ·
               simp only [Act.put, sA, sB, sC, i64_w, i32_w];rfl
              refine take_ (i := 7) (N := some 40) (v := ?_) (a' := ?_) #[true, true, true, true, true, true, true, true, false, false] rfl rfl (take_ofW HT_.out HW_.out (by kernel_rfl)) (fun _ _ _ h => h) (Or.inl ⟨by rfl, ?_⟩) hHeld ?_ ?_;rotate_left
              ·
               rintro w' ⟨s0, s1⟩
               go_simp;with_reducible rfl
              rotate_left
              ·
               simp only [Act.put, sA, sB, sC, i64_w, i32_w];rfl
              refine one_ (i := 8) (N := some 41) #[true, true, true, true, true, true, true, true, true, false] rfl rfl (one_of HT_.out (by kernel_rfl)) (by decide) (fun K hK => ?_);refine goes_ Try.func87 (by kernel_rfl) rfl #[.slice A311_0 (rd_L3 t302 x9_1).length c311_0, .slice A312_0 (rd_L3 t308 x9_1).length c312_0] (by rfl) rfl rfl (by (try simp only [mA, mB, mC]); first | done | rfl) ?_
              with_reducible refine (ih kj6 (by have := HK1.out; have := HJ6.out; omega) _ _ (rd_L3 t302 x9_1) _ _ (rd_L3 t308 x9_1) t313 _ ?side1 ?side2 ?side3 ?side4 A16.out).mono ?_
              (case side1 => exact Kd.cm ((by repeat (first | (with_reducible exact HR311_0.out) | (with_reducible refine Kd.C_alloc ?_ _) | (with_reducible refine Kd.C_drewN ?_ _) | (with_reducible refine Kd.C_drew ?_) | exact HR311_0.out))));(case side2 => exact HC311_0.out);(case side3 => exact Kd.cm ((by repeat (first | (with_reducible exact HR312_0.out) | (with_reducible refine Kd.C_alloc ?_ _) | (with_reducible refine Kd.C_drewN ?_ _) | (with_reducible refine Kd.C_drew ?_) | exact HR312_0.out))));(case side4 => exact HC312_0.out)
              rintro e w40 ⟨rfl, hb⟩
              have HS0_ := (hb.cell (World.block_lt_of_cell? _ _ (hHeld.1))).trans (hHeld.1);have HS1_ := (hb.cell (World.block_lt_of_cell? _ _ (hHeld.2))).trans (hHeld.2);refine ⟨_, rfl, ?_⟩;replace HO_5 := am (Kd.R_below (Kd.rm HO_5.out) hb);replace HO_6 := am (Kd.N_below (Kd.nm HO_6.out) hb);replace HO_7 := am (Kd.R_below (Kd.rm HO_7.out) hb);replace HO_8 := am (Kd.N_below (Kd.nm HO_8.out) hb);replace HL311_0 := am (Kd.V_below (Kd.vm HL311_0.out) hb);replace HL312_0 := am (Kd.V_below (Kd.vm HL312_0.out) hb);replace HR311_0 := am (Kd.C_below (by repeat (first | (with_reducible exact HR311_0.out) | (with_reducible refine Kd.C_alloc ?_ _) | (with_reducible refine Kd.C_drewN ?_ _) | (with_reducible refine Kd.C_drew ?_) | exact HR311_0.out)) hb);replace HR312_0 := am (Kd.C_below (by repeat (first | (with_reducible exact HR312_0.out) | (with_reducible refine Kd.C_alloc ?_ _) | (with_reducible refine Kd.C_drewN ?_ _) | (with_reducible refine Kd.C_drew ?_) | exact HR312_0.out)) hb);replace HB := am (below_step (bm HB.out) hb);(try clear hb);refine hK.out _ _ ⟨HS0_, HS1_⟩ (fun hHeld => ?_);clear hK K;refine norm_ (a' := ?_) ?_ ?_;rotate_left
              ·
               show Act.put _ (some 41) _ = _
               simp only [Act.put, sA, sB, sC, i64_w, i32_w];rfl
              refine pure_ (i := 9) (N := some 10) (v := ?_) (a' := ?_) #[true, true, true, true, true, true, true, true, true, true] rfl rfl (any_of HT_.out (by kernel_rfl)) (fun _ _ _ h => h) (Or.inl ⟨by rfl, ?_⟩) ?_ ?_;rotate_left
              ·
               intro w';go_simp;with_reducible rfl
              rotate_left
              ·
               simp only [Act.put, sA, sB, sC, i64_w, i32_w];rfl
              refine done_ (done_of HT_.out (by kernel_rfl)) ?_;(try go_wp2);replace HO_5 := am (Kd.R_drew HO_5.out);replace HO_6 := am (Kd.N_drew HO_6.out);replace HO_7 := am (Kd.R_drew HO_7.out);replace HO_8 := am (Kd.N_drew HO_8.out);replace HL311_0 := am (Kd.V_drew HL311_0.out);replace HL312_0 := am (Kd.V_drew HL312_0.out);replace HR311_0 := am (Kd.C_drew HR311_0.out);replace HR312_0 := am (Kd.C_drew HR312_0.out);replace HB := am (below_drew1 HB.out);obtain ⟨Ao42, co42, eo42⟩ := Kd.R_slice HO_5.out
              (first | subst eo42 | (injection eo42 with f1_ f2_ f3_; have f4_ := f1_.symm; have f5_ := f3_.symm; clear f1_ f2_ f3_; subst f4_; subst f5_))
              have p314 : 0 ≤ (x9_1 : Int) := of_decide_eq_true (by assumption);have q314 : x9_1 < (t299.length : Int) := of_decide_eq_true (by assumption);obtain ⟨ad314, e314, hx314_0⟩ := Kd.at_int (Kd.R_reads' HO_5.out).2.2 x9_1 p314 q314;cases e314
              replace p314 := eq_true p314;replace q314 := eq_true q314;obtain ⟨Ao43, co43, eo43⟩ := Kd.R_slice HO_7.out
              (first | subst eo43 | (injection eo43 with f1_ f2_ f3_; have f4_ := f1_.symm; have f5_ := f3_.symm; clear f1_ f2_ f3_; subst f4_; subst f5_))
              have p315 : 0 ≤ (x9_1 : Int) := of_decide_eq_true (by assumption);have q315 : x9_1 < (t305.length : Int) := of_decide_eq_true (by assumption);obtain ⟨ad315, e315, hx315_0⟩ := Kd.at_int (Kd.R_reads' HO_7.out).2.2 x9_1 p315 q315;cases e315
              replace p315 := eq_true p315;replace q315 := eq_true q315;refine start_ (n := 9) (S := fun w' => w'.cell? (ad314.add (x9_1).toNat) = some (.int .i64 (rd t299 x9_1)) ∧ w'.cell? (ad315.add (x9_1).toNat) = some (.int .i64 (rd t305 x9_1))) (ds := []) #[false, false, false, false, false, false, false, false, false] (by kernel_rfl) rfl rfl ⟨hx314_0, hx315_0⟩ (fun hHeld => ?_); refine with_tabW spec_l1Compare.tab9 spec_l1Compare.bits9 (fun HT_ HW_ => ?_);generalize w40.drew = w41 at HO_5 HO_6 HO_7 HO_8 HL311_0 HL312_0 HR311_0 HR312_0 HB hx314_0 hx315_0 hHeld ⊢;refine pure_ (i := 0) (N := some 45) (v := ?_) (a' := ?_) #[true, false, false, false, false, false, false, false, false] rfl rfl (any_of HT_.out (by kernel_rfl)) (fun _ _ _ h => h) (Or.inl ⟨by rfl, ?_⟩) ?_ ?_;rotate_left
              ·
               intro w';go_simp;with_reducible rfl
              rotate_left
              ·
               simp only [Act.put, sA, sB, sC, i64_w, i32_w];rfl
              refine pure_ (i := 1) (N := some 46) (v := ?_) (a' := ?_) #[true, true, false, false, false, false, false, false, false] rfl rfl (any_of HT_.out (by kernel_rfl)) (fun _ _ _ h => h) (Or.inl ⟨by rfl, ?_⟩) ?_ ?_;rotate_left
              ·
               intro w';go_simp;with_reducible rfl
              rotate_left
              ·
               simp only [Act.put, sA, sB, sC, i64_w, i32_w];rfl
              refine pure_ (i := 2) (N := some 47) (v := ?_) (a' := ?_) #[true, true, true, false, false, false, false, false, false] rfl rfl (any_of HT_.out (by kernel_rfl)) (fun _ _ _ h => h) (Or.inl ⟨by rfl, ?_⟩) ?_ ?_;rotate_left
              ·
               intro w';go_simp;with_reducible rfl
              rotate_left
              ·
               simp only [Act.put, sA, sB, sC, i64_w, i32_w];rfl
              refine pure_ (i := 4) (N := some 49) (v := ?_) (a' := ?_) #[true, true, true, false, true, false, false, false, false] rfl rfl (any_of HT_.out (by kernel_rfl)) (fun _ _ _ h => h) (Or.inl ⟨by rfl, ?_⟩) ?_ ?_;rotate_left
              ·
               intro w';go_simp;with_reducible rfl
              rotate_left
              ·
               simp only [Act.put, sA, sB, sC, i64_w, i32_w];rfl
              refine pure_ (i := 5) (N := some 50) (v := ?_) (a' := ?_) #[true, true, true, false, true, true, false, false, false] rfl rfl (any_of HT_.out (by kernel_rfl)) (fun _ _ _ h => h) (Or.inl ⟨by rfl, ?_⟩) ?_ ?_;rotate_left
              ·
               intro w';go_simp;with_reducible rfl
              rotate_left
              ·
               simp only [Act.put, sA, sB, sC, i64_w, i32_w];rfl
              refine pure_ (i := 6) (N := some 51) (v := ?_) (a' := ?_) #[true, true, true, false, true, true, true, false, false] rfl rfl (any_of HT_.out (by kernel_rfl)) (fun _ _ _ h => h) (Or.inl ⟨by rfl, ?_⟩) ?_ ?_;rotate_left
              ·
               intro w';go_simp;with_reducible rfl
              rotate_left
              ·
               simp only [Act.put, sA, sB, sC, i64_w, i32_w];rfl
              refine take_ (i := 3) (N := some 48) (v := ?_) (a' := ?_) #[true, true, true, true, true, true, true, false, false] rfl rfl (take_ofW HT_.out HW_.out (by kernel_rfl)) (fun _ _ _ h => h) (Or.inl ⟨by rfl, ?_⟩) hHeld ?_ ?_;rotate_left
              ·
               rintro w' ⟨s0, s1⟩
               go_simp;with_reducible rfl
              rotate_left
              ·
               simp only [Act.put, sA, sB, sC, i64_w, i32_w];rfl
              refine take_ (i := 7) (N := some 52) (v := ?_) (a' := ?_) #[true, true, true, true, true, true, true, true, false] rfl rfl (take_ofW HT_.out HW_.out (by kernel_rfl)) (fun _ _ _ h => h) (Or.inl ⟨by rfl, ?_⟩) hHeld ?_ ?_;rotate_left
              ·
               rintro w' ⟨s0, s1⟩
               go_simp;with_reducible rfl
              rotate_left
              ·
               simp only [Act.put, sA, sB, sC, i64_w, i32_w];rfl
              refine pure_ (i := 8) (N := some 53) (v := ?_) (a' := ?_) #[true, true, true, true, true, true, true, true, true] rfl rfl (any_of HT_.out (by kernel_rfl)) (fun _ _ _ h => h) (Or.inl ⟨by rfl, ?_⟩) ?_ ?_;rotate_left
              ·
               intro w';go_simp;with_reducible rfl
              rotate_left
              ·
               simp only [Act.put, sA, sB, sC, i64_w, i32_w];rfl
              refine done_ (done_of HT_.out (by kernel_rfl)) ?_;(try go_wp2);replace HO_5 := am (Kd.R_drew HO_5.out);replace HO_6 := am (Kd.N_drew HO_6.out);replace HO_7 := am (Kd.R_drew HO_7.out);replace HO_8 := am (Kd.N_drew HO_8.out);replace HL311_0 := am (Kd.V_drew HL311_0.out);replace HL312_0 := am (Kd.V_drew HL312_0.out);replace HR311_0 := am (Kd.C_drew HR311_0.out);replace HR312_0 := am (Kd.C_drew HR312_0.out);replace HB := am (below_drew1 HB.out);have p316 : 0 ≤ (x9_1 : Int) := of_decide_eq_true (by assumption);have q316 : x9_1 < (t299.length : Int) := of_decide_eq_true (by assumption);obtain ⟨ad316, e316, hx316_0⟩ := Kd.at_int (Kd.R_reads' HO_5.out).2.2 x9_1 p316 q316;obtain rfl : ad314 = ad316 := (by injection e316);replace p316 := eq_true p316;replace q316 := eq_true q316;have p317 : 0 ≤ (x9_1 : Int) := of_decide_eq_true (by assumption);have q317 : x9_1 < (t305.length : Int) := of_decide_eq_true (by assumption);obtain ⟨ad317, e317, hx317_0⟩ := Kd.at_int (Kd.R_reads' HO_7.out).2.2 x9_1 p317 q317;obtain rfl : ad315 = ad317 := (by injection e317);replace p317 := eq_true p317;replace q317 := eq_true q317;refine start_ (n := 9) (S := fun w' => w'.cell? (ad314.add (x9_1).toNat) = some (.int .i64 (rd t299 x9_1)) ∧ w'.cell? (ad315.add (x9_1).toNat) = some (.int .i64 (rd t305 x9_1))) (ds := []) #[false, false, false, false, false, false, false, false, false] (by kernel_rfl) rfl rfl ⟨hx316_0, hx317_0⟩ (fun hHeld => ?_); refine with_tabW spec_l1Compare.tab10 spec_l1Compare.bits10 (fun HT_ HW_ => ?_);generalize w41.drew = w44 at HO_5 HO_6 HO_7 HO_8 HL311_0 HL312_0 HR311_0 HR312_0 HB hx316_0 hx317_0 hHeld ⊢;refine pure_ (i := 0) (N := some 54) (v := ?_) (a' := ?_) #[true, false, false, false, false, false, false, false, false] rfl rfl (any_of HT_.out (by kernel_rfl)) (fun _ _ _ h => h) (Or.inl ⟨by rfl, ?_⟩) ?_ ?_;rotate_left
              ·
               intro w';go_simp;with_reducible rfl
              rotate_left
              ·
               simp only [Act.put, sA, sB, sC, i64_w, i32_w];rfl
              refine pure_ (i := 1) (N := some 55) (v := ?_) (a' := ?_) #[true, true, false, false, false, false, false, false, false] rfl rfl (any_of HT_.out (by kernel_rfl)) (fun _ _ _ h => h) (Or.inl ⟨by rfl, ?_⟩) ?_ ?_;rotate_left
              ·
               intro w';go_simp;with_reducible rfl
              rotate_left
              ·
               simp only [Act.put, sA, sB, sC, i64_w, i32_w];rfl
              refine pure_ (i := 2) (N := some 56) (v := ?_) (a' := ?_) #[true, true, true, false, false, false, false, false, false] rfl rfl (any_of HT_.out (by kernel_rfl)) (fun _ _ _ h => h) (Or.inl ⟨by rfl, ?_⟩) ?_ ?_;rotate_left
              ·
               intro w';go_simp;with_reducible rfl
              rotate_left
              ·
               simp only [Act.put, sA, sB, sC, i64_w, i32_w];rfl
              refine pure_ (i := 4) (N := some 58) (v := ?_) (a' := ?_) #[true, true, true, false, true, false, false, false, false] rfl rfl (any_of HT_.out (by kernel_rfl)) (fun _ _ _ h => h) (Or.inl ⟨by rfl, ?_⟩) ?_ ?_;rotate_left
              ·
               intro w';go_simp;with_reducible rfl
              rotate_left
              ·
               simp only [Act.put, sA, sB, sC, i64_w, i32_w];rfl
              refine pure_ (i := 5) (N := some 59) (v := ?_) (a' := ?_) #[true, true, true, false, true, true, false, false, false] rfl rfl (any_of HT_.out (by kernel_rfl)) (fun _ _ _ h => h) (Or.inl ⟨by rfl, ?_⟩) ?_ ?_;rotate_left
              ·
               intro w';go_simp;with_reducible rfl
              rotate_left
              ·
               simp only [Act.put, sA, sB, sC, i64_w, i32_w];rfl
              refine pure_ (i := 6) (N := some 60) (v := ?_) (a' := ?_) #[true, true, true, false, true, true, true, false, false] rfl rfl (any_of HT_.out (by kernel_rfl)) (fun _ _ _ h => h) (Or.inl ⟨by rfl, ?_⟩) ?_ ?_;rotate_left
              ·
               intro w';go_simp;with_reducible rfl
              rotate_left
              ·
               simp only [Act.put, sA, sB, sC, i64_w, i32_w];rfl
              refine take_ (i := 3) (N := some 57) (v := ?_) (a' := ?_) #[true, true, true, true, true, true, true, false, false] rfl rfl (take_ofW HT_.out HW_.out (by kernel_rfl)) (fun _ _ _ h => h) (Or.inl ⟨by rfl, ?_⟩) hHeld ?_ ?_;rotate_left
              ·
               rintro w' ⟨s0, s1⟩
               go_simp;with_reducible rfl
              rotate_left
              ·
               simp only [Act.put, sA, sB, sC, i64_w, i32_w];rfl
              refine take_ (i := 7) (N := some 61) (v := ?_) (a' := ?_) #[true, true, true, true, true, true, true, true, false] rfl rfl (take_ofW HT_.out HW_.out (by kernel_rfl)) (fun _ _ _ h => h) (Or.inl ⟨by rfl, ?_⟩) hHeld ?_ ?_;rotate_left
              ·
               rintro w' ⟨s0, s1⟩
               go_simp;with_reducible rfl
              rotate_left
              ·
               simp only [Act.put, sA, sB, sC, i64_w, i32_w];rfl
              refine pure_ (i := 8) (N := some 62) (v := ?_) (a' := ?_) #[true, true, true, true, true, true, true, true, true] rfl rfl (any_of HT_.out (by kernel_rfl)) (fun _ _ _ h => h) (Or.inl ⟨by rfl, ?_⟩) ?_ ?_;rotate_left
              ·
               intro w';go_simp;with_reducible rfl
              rotate_left
              ·
               simp only [Act.put, sA, sB, sC, i64_w, i32_w];rfl
              refine done_ (done_of HT_.out (by kernel_rfl)) ?_;(try go_wp2);go_ret;exact ⟨by first | rfl | (simp [errW_none, errW_some] <;> rfl) | (simp [*, errW_none, errW_some] <;> rfl), bm HB.out⟩
           ·
            rw [if_neg c19] at H;exact absurd H (by simp)
          ·
           rw [if_neg c18] at H;exact absurd H (by simp)
         ·
          rw [if_neg c17] at H;have c17b0 : (t313 == 0) = false := beq_eq_false_iff_ne.mpr c17;have c17b1 : (t313 != 0) = true := bne_iff_ne.mpr c17;obtain rfl := Option.some.inj H;(try go_wp2);replace HO_5 := am (Kd.R_drew HO_5.out);replace HO_6 := am (Kd.N_drew HO_6.out);replace HO_7 := am (Kd.R_drew HO_7.out);replace HO_8 := am (Kd.N_drew HO_8.out);replace HB := am (below_drew1 HB.out);obtain ⟨Ao46, co46, eo46⟩ := Kd.N_slice HO_6.out
          (first | subst eo46 | (injection eo46 with f1_ f2_ f3_; have f4_ := f1_.symm; have f5_ := f3_.symm; clear f1_ f2_ f3_; subst f4_; subst f5_))
          have p311 : 0 ≤ (x9_1 : Int) := of_decide_eq_true (by assumption);have q311 : x9_1 < (t302.length : Int) := of_decide_eq_true (by assumption);obtain ⟨ad311, A311_0, c311_0, e311, hx311_0, hl311_0, hi311_0⟩ := at_L3 (Kd.N_reads' HO_6.out).2.2 x9_1 p311 q311;cases e311
          obtain ⟨ce311, hce311, hMe311, hcc311⟩ := Kd.N_get HO_6.out [] x9_1 p311 (by first | exact q311 | exact of_decide_eq_true (by assumption) | (have e_ := (Kd.N_reads' HO_6.out).1; omega));obtain ⟨ua311_0, uc311_0, rfl, ul311_0, ge311_0⟩ := Kd.FK_slice_open hMe311;have hv311_0 := hcc311 0 _ rfl;rw [Nat.add_zero, show ((Kd.slice 3 (Kd.int .i64))).sz = 1 from rfl, Nat.mul_one] at hv311_0;replace hv311_0 := Option.some.inj (hv311_0.symm.trans hx311_0)
          injection hv311_0 with hva_ hvn_ hvc_
          rw [hva_] at ge311_0;rw [hvc_] at ul311_0;have HL311_0 := am (show Kd.V (Kd.int .i64) 3 _ w.heap.size _ _ (rd_L3 t302 x9_1) from Kd.V_mk ul311_0 ge311_0);clear hva_ hvn_ hvc_ ge311_0 ul311_0;clear hcc311 hce311;have HR311_0 := am hi311_0;have HC311_0 := am hl311_0;clear hi311_0 hl311_0;replace p311 := eq_true p311;replace q311 := eq_true q311;obtain ⟨Ao47, co47, eo47⟩ := Kd.N_slice HO_8.out
          (first | subst eo47 | (injection eo47 with f1_ f2_ f3_; have f4_ := f1_.symm; have f5_ := f3_.symm; clear f1_ f2_ f3_; subst f4_; subst f5_))
          have p312 : 0 ≤ (x9_1 : Int) := of_decide_eq_true (by assumption);have q312 : x9_1 < (t308.length : Int) := of_decide_eq_true (by assumption);obtain ⟨ad312, A312_0, c312_0, e312, hx312_0, hl312_0, hi312_0⟩ := at_L3 (Kd.N_reads' HO_8.out).2.2 x9_1 p312 q312;cases e312
          obtain ⟨ce312, hce312, hMe312, hcc312⟩ := Kd.N_get HO_8.out [] x9_1 p312 (by first | exact q312 | exact of_decide_eq_true (by assumption) | (have e_ := (Kd.N_reads' HO_8.out).1; omega));obtain ⟨ua312_0, uc312_0, rfl, ul312_0, ge312_0⟩ := Kd.FK_slice_open hMe312;have hv312_0 := hcc312 0 _ rfl;rw [Nat.add_zero, show ((Kd.slice 3 (Kd.int .i64))).sz = 1 from rfl, Nat.mul_one] at hv312_0;replace hv312_0 := Option.some.inj (hv312_0.symm.trans hx312_0)
          injection hv312_0 with hva_ hvn_ hvc_
          rw [hva_] at ge312_0;rw [hvc_] at ul312_0;have HL312_0 := am (show Kd.V (Kd.int .i64) 3 _ w.heap.size _ _ (rd_L3 t308 x9_1) from Kd.V_mk ul312_0 ge312_0);clear hva_ hvn_ hvc_ ge312_0 ul312_0;clear hcc312 hce312;have HR312_0 := am hi312_0;have HC312_0 := am hl312_0;clear hi312_0 hl312_0;replace p312 := eq_true p312;replace q312 := eq_true q312;refine start_ (n := 10) (S := fun w' => w'.cell? (ad311.add (x9_1).toNat) = some (.slice A311_0 (rd_L3 t302 x9_1).length c311_0) ∧ w'.cell? (ad312.add (x9_1).toNat) = some (.slice A312_0 (rd_L3 t308 x9_1).length c312_0)) (ds := []) #[false, false, false, false, false, false, false, false, false, false] (by kernel_rfl) rfl rfl ⟨hx311_0, hx312_0⟩ (fun hHeld => ?_); refine with_tabW spec_l1Compare.tab6 spec_l1Compare.bits6 (fun HT_ HW_ => ?_);generalize wc.drew = w45 at HO_5 HO_6 HO_7 HO_8 HB HL311_0 HL312_0 HR311_0 HR312_0 hx311_0 hx312_0 hHeld ⊢;refine pure_ (i := 0) (N := some 33) (v := ?_) (a' := ?_) #[true, false, false, false, false, false, false, false, false, false] rfl rfl (any_of HT_.out (by kernel_rfl)) (fun _ _ _ h => h) (Or.inl ⟨by rfl, ?_⟩) ?_ ?_;rotate_left
          ·
           intro w';go_simp;with_reducible rfl
          rotate_left
          ·
           simp only [Act.put, sA, sB, sC, i64_w, i32_w];rfl
          refine pure_ (i := 1) (N := some 34) (v := ?_) (a' := ?_) #[true, true, false, false, false, false, false, false, false, false] rfl rfl (any_of HT_.out (by kernel_rfl)) (fun _ _ _ h => h) (Or.inl ⟨by rfl, ?_⟩) ?_ ?_;rotate_left
          ·
           intro w';go_simp;with_reducible rfl
          rotate_left
          ·
           simp only [Act.put, sA, sB, sC, i64_w, i32_w];rfl
          refine pure_ (i := 2) (N := some 35) (v := ?_) (a' := ?_) #[true, true, true, false, false, false, false, false, false, false] rfl rfl (any_of HT_.out (by kernel_rfl)) (fun _ _ _ h => h) (Or.inl ⟨by rfl, ?_⟩) ?_ ?_;rotate_left
          ·
           intro w';go_simp;with_reducible rfl
          rotate_left
          ·
           simp only [Act.put, sA, sB, sC, i64_w, i32_w];rfl
          refine pure_ (i := 4) (N := some 37) (v := ?_) (a' := ?_) #[true, true, true, false, true, false, false, false, false, false] rfl rfl (any_of HT_.out (by kernel_rfl)) (fun _ _ _ h => h) (Or.inl ⟨by rfl, ?_⟩) ?_ ?_;rotate_left
          ·
           intro w';go_simp;with_reducible rfl
          rotate_left
          ·
           simp only [Act.put, sA, sB, sC, i64_w, i32_w];rfl
          refine pure_ (i := 5) (N := some 38) (v := ?_) (a' := ?_) #[true, true, true, false, true, true, false, false, false, false] rfl rfl (any_of HT_.out (by kernel_rfl)) (fun _ _ _ h => h) (Or.inl ⟨by rfl, ?_⟩) ?_ ?_;rotate_left
          ·
           intro w';go_simp;with_reducible rfl
          rotate_left
          ·
           simp only [Act.put, sA, sB, sC, i64_w, i32_w];rfl
          refine pure_ (i := 6) (N := some 39) (v := ?_) (a' := ?_) #[true, true, true, false, true, true, true, false, false, false] rfl rfl (any_of HT_.out (by kernel_rfl)) (fun _ _ _ h => h) (Or.inl ⟨by rfl, ?_⟩) ?_ ?_;rotate_left
          ·
           intro w';go_simp;with_reducible rfl
          rotate_left
          ·
           simp only [Act.put, sA, sB, sC, i64_w, i32_w];rfl
          refine take_ (i := 3) (N := some 36) (v := ?_) (a' := ?_) #[true, true, true, true, true, true, true, false, false, false] rfl rfl (take_ofW HT_.out HW_.out (by kernel_rfl)) (fun _ _ _ h => h) (Or.inl ⟨by rfl, ?_⟩) hHeld ?_ ?_;rotate_left
          ·
           rintro w' ⟨s0, s1⟩
           go_simp;with_reducible rfl
          rotate_left
          ·
           simp only [Act.put, sA, sB, sC, i64_w, i32_w];rfl
          refine take_ (i := 7) (N := some 40) (v := ?_) (a' := ?_) #[true, true, true, true, true, true, true, true, false, false] rfl rfl (take_ofW HT_.out HW_.out (by kernel_rfl)) (fun _ _ _ h => h) (Or.inl ⟨by rfl, ?_⟩) hHeld ?_ ?_;rotate_left
          ·
           rintro w' ⟨s0, s1⟩
           go_simp;with_reducible rfl
          rotate_left
          ·
           simp only [Act.put, sA, sB, sC, i64_w, i32_w];rfl
          refine one_ (i := 8) (N := some 41) #[true, true, true, true, true, true, true, true, true, false] rfl rfl (one_of HT_.out (by kernel_rfl)) (by decide) (fun K hK => ?_);refine goes_ Try.func87 (by kernel_rfl) rfl #[.slice A311_0 (rd_L3 t302 x9_1).length c311_0, .slice A312_0 (rd_L3 t308 x9_1).length c312_0] (by rfl) rfl rfl (by (try simp only [mA, mB, mC]); first | done | rfl) ?_
          with_reducible refine (ih kj6 (by have := HK1.out; have := HJ6.out; omega) _ _ (rd_L3 t302 x9_1) _ _ (rd_L3 t308 x9_1) t313 _ ?side1 ?side2 ?side3 ?side4 A16.out).mono ?_
          (case side1 => exact Kd.cm ((by repeat (first | (with_reducible exact HR311_0.out) | (with_reducible refine Kd.C_alloc ?_ _) | (with_reducible refine Kd.C_drewN ?_ _) | (with_reducible refine Kd.C_drew ?_) | exact HR311_0.out))));(case side2 => exact HC311_0.out);(case side3 => exact Kd.cm ((by repeat (first | (with_reducible exact HR312_0.out) | (with_reducible refine Kd.C_alloc ?_ _) | (with_reducible refine Kd.C_drewN ?_ _) | (with_reducible refine Kd.C_drew ?_) | exact HR312_0.out))));(case side4 => exact HC312_0.out)
          rintro e w48 ⟨rfl, hb⟩
          have HS0_ := (hb.cell (World.block_lt_of_cell? _ _ (hHeld.1))).trans (hHeld.1);have HS1_ := (hb.cell (World.block_lt_of_cell? _ _ (hHeld.2))).trans (hHeld.2);refine ⟨_, rfl, ?_⟩;replace HO_5 := am (Kd.R_below (Kd.rm HO_5.out) hb);replace HO_6 := am (Kd.N_below (Kd.nm HO_6.out) hb);replace HO_7 := am (Kd.R_below (Kd.rm HO_7.out) hb);replace HO_8 := am (Kd.N_below (Kd.nm HO_8.out) hb);replace HL311_0 := am (Kd.V_below (Kd.vm HL311_0.out) hb);replace HL312_0 := am (Kd.V_below (Kd.vm HL312_0.out) hb);replace HR311_0 := am (Kd.C_below (by repeat (first | (with_reducible exact HR311_0.out) | (with_reducible refine Kd.C_alloc ?_ _) | (with_reducible refine Kd.C_drewN ?_ _) | (with_reducible refine Kd.C_drew ?_) | exact HR311_0.out)) hb);replace HR312_0 := am (Kd.C_below (by repeat (first | (with_reducible exact HR312_0.out) | (with_reducible refine Kd.C_alloc ?_ _) | (with_reducible refine Kd.C_drewN ?_ _) | (with_reducible refine Kd.C_drew ?_) | exact HR312_0.out)) hb);replace HB := am (below_step (bm HB.out) hb);(try clear hb);refine hK.out _ _ ⟨HS0_, HS1_⟩ (fun hHeld => ?_);clear hK K;refine norm_ (a' := ?_) ?_ ?_;rotate_left
          ·
           show Act.put _ (some 41) _ = _
           simp only [Act.put, sA, sB, sC, i64_w, i32_w];rfl
          refine pure_ (i := 9) (N := some 10) (v := ?_) (a' := ?_) #[true, true, true, true, true, true, true, true, true, true] rfl rfl (any_of HT_.out (by kernel_rfl)) (fun _ _ _ h => h) (Or.inl ⟨by rfl, ?_⟩) ?_ ?_;rotate_left
          ·
           intro w';go_simp;with_reducible rfl
          rotate_left
          ·
           simp only [Act.put, sA, sB, sC, i64_w, i32_w];rfl
          refine done_ (done_of HT_.out (by kernel_rfl)) ?_;(try go_wp2);go_ret;exact ⟨by first | rfl | (simp [errW_none, errW_some] <;> rfl) | (simp [*, errW_none, errW_some] <;> rfl), bm HB.out⟩
        ·
         rw [if_neg c15] at H;exact absurd H (by simp)
       ·
        rw [if_neg c14] at H;exact absurd H (by simp)
      ·
       rw [if_neg c13] at H;exact absurd H (by simp)
     ·
      replace c12 := Bool.eq_false_iff.mpr c12;subst c12
      have H1 : (if (t299.length : Int) < (t305.length : Int) then (some (-1)) else (if (t299.length : Int) > (t305.length : Int) then (some 1) else (some 0))) = some r := by rw [if_neg (show ¬ (false = true) by decide)] at H; exact H
      clear H;have H := H1;clear H1;by_cases c49 : (t299.length : Int) < (t305.length : Int)
      ·
       rw [if_pos c49] at H;have c49b0 : decide ((t299.length : Int) < (t305.length : Int)) = true := decide_eq_true c49;have c49b1 : decide (t299.length < t305.length) = true := decide_eq_true (Int.ofNat_lt.mp c49);clear c49;obtain rfl := Option.some.inj H;obtain ⟨Ao50, co50, eo50⟩ := Kd.R_slice HO_5.out;subst eo50;obtain ⟨Ao51, co51, eo51⟩ := Kd.R_slice HO_7.out;subst eo51;go_wp2;go_ret;exact ⟨by first | rfl | (simp [errW_none, errW_some] <;> rfl) | (simp [*, errW_none, errW_some] <;> rfl), bm HB.out⟩
      ·
       rw [if_neg c49] at H;have c49b0 : decide ((t299.length : Int) < (t305.length : Int)) = false := decide_eq_false c49;have c49b1 : decide (t299.length < t305.length) = false := decide_eq_false (fun h => c49 (Int.ofNat_lt.mpr h));clear c49;by_cases c52 : (t299.length : Int) > (t305.length : Int)
       ·
        rw [if_pos c52] at H;have c52b0 : decide ((t305.length : Int) < (t299.length : Int)) = true := decide_eq_true c52;have c52b1 : decide (t305.length < t299.length) = true := decide_eq_true (Int.ofNat_lt.mp c52);clear c52;obtain rfl := Option.some.inj H;obtain ⟨Ao53, co53, eo53⟩ := Kd.R_slice HO_5.out;subst eo53;obtain ⟨Ao54, co54, eo54⟩ := Kd.R_slice HO_7.out;subst eo54;go_wp2;go_ret;exact ⟨by first | rfl | (simp [errW_none, errW_some] <;> rfl) | (simp [*, errW_none, errW_some] <;> rfl), bm HB.out⟩
       ·
        rw [if_neg c52] at H;have c52b0 : decide ((t305.length : Int) < (t299.length : Int)) = false := decide_eq_false c52;have c52b1 : decide (t305.length < t299.length) = false := decide_eq_false (fun h => c52 (Int.ofNat_lt.mpr h));clear c52;obtain rfl := Option.some.inj H;obtain ⟨Ao55, co55, eo55⟩ := Kd.R_slice HO_5.out;subst eo55;obtain ⟨Ao56, co56, eo56⟩ := Kd.R_slice HO_7.out;subst eo56;go_wp2;go_ret;exact ⟨by first | rfl | (simp [errW_none, errW_some] <;> rfl) | (simp [*, errW_none, errW_some] <;> rfl), bm HB.out⟩

end Go.Proofs.Ytahhdbjjfdjloaa.Je

-- half
-- Written by a program of this session's (wip/mp) out of the translation, over the kit's print with changes.
import Derived.Test.YtahhdbjjfdjloaaJax0
import Derived.Test.YtahhdbjjfdjloaaJax2
namespace Go.Proofs.Ytahhdbjjfdjloaa.Ja
open Go.RowKit Go.Proofs.YtahhdbjjfdjloaaW.PrintWords Go.Proofs.YtahhdbjjfdjloaaW.PrintLast Go.Proofs.YtahhdbjjfdjloaaW.PrintMore
attribute [local go_sem] max2_int min2_int max_two min_two max_three min_three max_four min_four   -- for this text's walks alone
set_option linter.unusedVariables false
set_option linter.unusedSimpArgs false

/-! ### spec_l1Compare: function 87 -/
mutual
def spec_l1Compare.l0 : Nat → List Int → List (List Int) → List Int → List (List Int) → Int → Option (Int)
 | 0, _, _, _, _, _ => none
 | k + 1, x5, x6, x7, x8, x9 => if x9 < (x5.length : Int) then (spec_l1Compare.j1 k x5 x6 x7 x8 x9 (decide (x9 < (x7.length : Int)))) else (spec_l1Compare.j1 k x5 x6 x7 x8 x9 false)
def spec_l1Compare.j1 : Nat → List Int → List (List Int) → List Int → List (List Int) → Int → Bool → Option (Int)
 | 0, _, _, _, _, _, _ => none
 | k + 1, x5, x6, x7, x8, x9, x30 => if x30 = true then (if 0 ≤ x9 then (if x9 < (x6.length : Int) then (if x9 < (x8.length : Int) then ((spec_l1Compare.f k (rd_L1 x6 x9) (rd_L1 x8 x9)).bind fun t163 => (if t163 = 0 then (if x9 < (x5.length : Int) then (if x9 < (x7.length : Int) then (if (rd x5 x9) = (rd x7 x9) then (spec_l1Compare.l0 k x5 x6 x7 x8 (wrap64 (x9 + 1))) else (if (rd x5 x9) < (rd x7 x9) then (some (-1)) else (some 1))) else (none)) else (none)) else (some t163))) else (none)) else (none)) else (none)) else (if (x5.length : Int) < (x7.length : Int) then (some (-1)) else (if (x5.length : Int) > (x7.length : Int) then (some 1) else (some 0)))
def spec_l1Compare.f : Nat → List Int → List Int → Option (Int)
 | 0, _, _ => none
 | k + 1, l0, l1 => (spec_l1Terms.f k l0).bind fun bt149 => ((spec_l1Terms.f k l1).bind fun bt155 => (spec_l1Compare.l0 k bt149.1 bt149.2 bt155.1 bt155.2 0))
end
theorem spec_l1Compare.mono_l : ∀ k, (∀ y0 y1, LeO (spec_l1Compare.f k y0 y1) (spec_l1Compare.f (k + 1) y0 y1)) ∧ (∀ y0 y1 y2 y3 y4, LeO (spec_l1Compare.l0 k y0 y1 y2 y3 y4) (spec_l1Compare.l0 (k + 1) y0 y1 y2 y3 y4)) ∧ (∀ y0 y1 y2 y3 y4 y5, LeO (spec_l1Compare.j1 k y0 y1 y2 y3 y4 y5) (spec_l1Compare.j1 (k + 1) y0 y1 y2 y3 y4 y5))
 | 0 => ⟨fun _ _ r h => by simp [spec_l1Compare.f] at h, fun _ _ _ _ _ r h => by simp [spec_l1Compare.l0] at h, fun _ _ _ _ _ _ r h => by simp [spec_l1Compare.j1] at h⟩
 | k + 1 => by
  obtain ⟨ih0, ih1, ih2⟩ := spec_l1Compare.mono_l k;refine ⟨?_, ?_, ?_⟩
  all_goals (intros; first | unfold spec_l1Compare.f | unfold spec_l1Compare.l0 | unfold spec_l1Compare.j1)
  all_goals repeat' first | (with_reducible exact ih0 _ _) | (with_reducible exact ih1 _ _ _ _ _) | (with_reducible exact ih2 _ _ _ _ _ _) | (with_reducible exact spec_l1Terms.mono _ _) | (with_reducible exact LeO.refl _) | (with_reducible exact LeO.none _) | (with_reducible refine LeO.ite ?_ ?_) | (with_reducible refine LeO.bind ?_ (fun _ => ?_))
theorem spec_l1Compare.mono : ∀ a0 a1 k, LeO (spec_l1Compare.f k a0 a1) (spec_l1Compare.f (k + 1) a0 a1) := by
 intro a0 a1 k;obtain ⟨ih0, ih1, ih2⟩ := spec_l1Compare.mono_l k;exact ih0 a0 a1
def spec_l1Compare.T6 : Bool × List (List Nat × List Nat) := (true, [([], []), ([], []), ([0, 1], [0, 1]), ([2], [2]), ([], []), ([], []), ([4, 5], [4, 5]), ([6], [6]), ([3, 7], [3, 7]), ([8, 8, 0, 1, 2, 3, 4, 5, 6, 7, 8], [8])])
def spec_l1Compare.B6 : List Nat := [0, 0, 3, 7, 0, 0, 48, 112, 255, 511]
theorem spec_l1Compare.tab6 : rtab .any (opsOf Try.f87 6) = spec_l1Compare.T6 := by kernel_rfl
theorem spec_l1Compare.bits6 : waitsOk spec_l1Compare.T6.2 spec_l1Compare.B6 = true := by kernel_rfl
def spec_l1Compare.T9 : Bool × List (List Nat × List Nat) := (true, [([], []), ([], []), ([0, 1], [0, 1]), ([2], [2]), ([], []), ([], []), ([4, 5], [4, 5]), ([6], [6]), ([3, 7], [3, 7])])
def spec_l1Compare.B9 : List Nat := [0, 0, 3, 7, 0, 0, 48, 112, 255]
theorem spec_l1Compare.tab9 : rtab .any (opsOf Try.f87 9) = spec_l1Compare.T9 := by kernel_rfl
theorem spec_l1Compare.bits9 : waitsOk spec_l1Compare.T9.2 spec_l1Compare.B9 = true := by kernel_rfl
def spec_l1Compare.T10 : Bool × List (List Nat × List Nat) := (true, [([], []), ([], []), ([0, 1], [0, 1]), ([2], [2]), ([], []), ([], []), ([4, 5], [4, 5]), ([6], [6]), ([3, 7], [3, 7])])
def spec_l1Compare.B10 : List Nat := [0, 0, 3, 7, 0, 0, 48, 112, 255]
theorem spec_l1Compare.tab10 : rtab .any (opsOf Try.f87 10) = spec_l1Compare.T10 := by kernel_rfl
theorem spec_l1Compare.bits10 : waitsOk spec_l1Compare.T10.2 spec_l1Compare.B10 = true := by kernel_rfl
set_option maxHeartbeats 8000000 in
set_option maxRecDepth 100000 in
theorem spec_l1Compare.calls (k : Nat) : ∀ (A0 : Option Addr) (c0 : Nat) (l0 : List Int) (A1 : Option Addr) (c1 : Nat) (l1 : List Int) (r : Int) (w : World) (hr0 : Kd.C (Kd.int .i64) w A0 l0.length l0) (hc0 : l0.length ≤ c0) (hr1 : Kd.C (Kd.int .i64) w A1 l1.length l1) (hc1 : l1.length ≤ c1) (h : spec_l1Compare.f k l0 l1 = some r),
  Calls Try.prog 87 #[.slice A0 l0.length c0, .slice A1 l1.length c1] w fun e w' => e = .returned (.int .i64 r) ∧ Below w.heap.size w w' := by
 induction k using Nat.strongRecOn with
 | _ k ih =>
 intro A0 c0 l0 A1 c1 l1 r w hr0 hc0 hr1 hc1 h
 cases k with
 | zero => exact absurd h (by simp [spec_l1Compare.f])
 | succ k =>
 simp only [spec_l1Compare.f] at h;have HR0 := am hr0;have HC0 := am hc0;clear hr0 hc0;have HR1 := am hr1;have HC1 := am hc1;clear hr1 hc1;have HB := am (Below.refl w.heap.size w);have H : ((spec_l1Terms.f k l0).bind fun bt149 => ((spec_l1Terms.f k l1).bind fun bt155 => (spec_l1Compare.l0 k bt149.1 bt149.2 bt155.1 bt155.2 0))) = some r := h;clear h;replace H := oE H;obtain ⟨⟨t149, t152⟩, A3, H⟩ := H;replace H : ((spec_l1Terms.f k l1).bind fun bt155 => (spec_l1Compare.l0 k t149 t152 bt155.1 bt155.2 0)) = some r := H;replace A3 := am A3;replace H := oE H;obtain ⟨⟨t155, t158⟩, A4, H⟩ := H;replace H : (spec_l1Compare.l0 k t149 t152 t155 t158 0) = some r := H;replace A4 := am A4;have H' := am H;clear H;go_enter Try.func87, Try.ntmps87;go_wp2_with (first | ((with_reducible refine gate_callee (f := 64) rfl ?_); refine goesL_ (some 13) rfl rfl Try.func64 (by kernel_rfl) rfl #[.slice A0 l0.length c0] rfl (by (try simp only [mA, mB, mC]); first | done | rfl) ?_; (with_reducible refine (spec_l1Terms.calls k (fun k_ => k_ < w.heap.size) _ _ l0 t149 t152 _ ?side1 A3.out).mono ?_); (case side1 => exact Kd.V_mk HC0.out (Kd.F_below (Kd.C_F (Kd.heap_int .i64) HR0.out) (bm HB.out))); rintro e w5 ⟨v150, v153, rfl, ho0, ho1, hb⟩; refine ⟨_, rfl, ?_⟩; have HO151 := am (Kd.R_lower (Kd.R_mono (ok' := fun k_ => True) ho0 (fun _ hk_ => trivial)) (below_size (bm HB.out)));have HO154 := am (Kd.N_lower (Kd.N_mono (ok' := fun k_ => some k_ ≠ (v150 : Value).ownBlock) ho1 (fun k_ hk_ => hk_.2)) (below_size (bm HB.out)));replace HB := am (below_step (bm HB.out) hb); (try clear hb); (try clear ho0); (try clear ho1)) | ((with_reducible refine gate_callee (f := 64) rfl ?_); refine goesL_ (some 18) rfl rfl Try.func64 (by kernel_rfl) rfl #[.slice A1 l1.length c1] rfl (by (try simp only [mA, mB, mC]); first | done | rfl) ?_; (with_reducible refine (spec_l1Terms.calls k (fun k_ => k_ < w.heap.size) _ _ l1 t155 t158 _ ?side1 A4.out).mono ?_); (case side1 => exact Kd.V_mk HC1.out (Kd.F_below (Kd.C_F (Kd.heap_int .i64) HR1.out) (bm HB.out))); rintro e w6 ⟨v156, v159, rfl, ho0, ho1, hb⟩; refine ⟨_, rfl, ?_⟩; have HO157 := am (Kd.R_lower (Kd.R_new' (Kd.R_mono (ok' := fun k_ => True) ho0 (fun _ hk_ => trivial)) (Kd.R_lt (Kd.rm HO151.out))) (below_size (bm HB.out)));have HO160 := am (Kd.N_lower (Kd.N_mono (ok' := fun k_ => some k_ ≠ (v156 : Value).ownBlock ∧ some k_ ≠ (v150 : Value).ownBlock ∧ some k_ ≠ (v153 : Value).ownBlock) ho1 (fun k_ hk_ => ⟨hk_.2, Or.elim hk_.1 (fun hs_ => fun e_ => Nat.not_le.2 hs_ (Kd.R_base HO151.out k_ e_.symm)) (fun hn_ => (Kd.fresh' (Kd.R_lt (Kd.rm HO151.out)) k_ hn_)), Or.elim hk_.1 (fun hs_ => fun e_ => Nat.not_le.2 hs_ (Kd.N_base HO154.out k_ e_.symm)) (fun hn_ => (Kd.fresh' (Kd.N_lt (Kd.nm HO154.out)) k_ hn_))⟩)) (below_size (bm HB.out)));replace HO151 := am (Kd.R_elder' (Kd.rm HO151.out) (Kd.R_base ho0) hb);replace HO154 := am (Kd.N_mono (Kd.N_told (Kd.N_told (Kd.N_old (Kd.nm HO154.out) hb) (Kd.R_base ho0)) (Kd.N_base ho1)) (fun _ h_ => h_.1));replace HB := am (below_step (bm HB.out) hb); (try clear hb); (try clear ho0); (try clear ho1)))
 go_loopg [9] k (fun kq v9 w' => ∃ (x9_1 : Int), v9 = .int .i64 x9_1 ∧ Aside0 (spec_l1Compare.l0 kq t149 t152 t155 t158 x9_1 = some r) ∧ Aside0 (kq ≤ k) ∧ Aside0 (Kd.R (Kd.int .i64) 3 w' w.heap.size (fun k_ => some k_ ≠ (v156 : Value).ownBlock) v150 t149) ∧ Aside0 (Kd.N (Kd.slice 3 (Kd.int .i64)) 22 w' w.heap.size (fun k_ => some k_ ≠ (v150 : Value).ownBlock ∧ some k_ ≠ (v156 : Value).ownBlock ∧ some k_ ≠ (v159 : Value).ownBlock) v153 t152) ∧ Aside0 (Kd.R (Kd.int .i64) 3 w' w.heap.size (fun k_ => some k_ ≠ (v150 : Value).ownBlock) v156 t155) ∧ Aside0 (Kd.N (Kd.slice 3 (Kd.int .i64)) 22 w' w.heap.size (fun k_ => some k_ ≠ (v150 : Value).ownBlock ∧ some k_ ≠ (v153 : Value).ownBlock ∧ some k_ ≠ (v156 : Value).ownBlock) v159 t158) ∧ Aside0 (Below w.heap.size w w'))
 case atStart => exact ⟨(0), (by first | rfl | (simp; done) | (simp [*]; done)), H', ⟨Nat.le_refl _⟩, ⟨Kd.rm (Kd.R_mono HO151.out (fun _ hk => hk.2))⟩, ⟨Kd.nm (Kd.N_mono HO154.out (fun _ hk => ⟨hk.1.1, ⟨hk.1.2, hk.2⟩⟩))⟩, ⟨Kd.rm (Kd.R_mono HO157.out (fun _ hk => hk.2))⟩, ⟨Kd.nm (Kd.N_mono HO160.out (fun _ hk => ⟨hk.2.1, ⟨hk.2.2, hk.1⟩⟩))⟩, ⟨bm HB.out⟩⟩
 case round =>
  clear H';(try clear c1);(try clear p2);(try clear c6);(try clear HO_5);(try clear HO_6);(try clear HO_7);(try clear HO_8);(try clear HB);obtain ⟨x9_1, rfl, HA, HK1, HO_5, HO_6, HO_7, HO_8, HB⟩ := hrel
  cases gk with
  | zero => exact absurd HA.out (by simp [spec_l1Compare.l0])
  | succ k1 =>
   have H := HA.out;clear HA;simp only [spec_l1Compare.l0] at H;have HC7 := am H;clear H
   go_upto_region 4 with (fail)
   go_cut [30] (fun v30 wc => ∃ (kq : Nat) (x30_6 : Bool), v30 = .bool x30_6 ∧ Aside0 (spec_l1Compare.j1 kq t149 t152 t155 t158 x9_1 x30_6 = some r) ∧ Aside0 (kq ≤ k1) ∧ Aside0 (Kd.R (Kd.int .i64) 3 wc w.heap.size (fun k_ => some k_ ≠ (v156 : Value).ownBlock) v150 t149) ∧ Aside0 (Kd.N (Kd.slice 3 (Kd.int .i64)) 22 wc w.heap.size (fun k_ => some k_ ≠ (v150 : Value).ownBlock ∧ some k_ ≠ (v156 : Value).ownBlock ∧ some k_ ≠ (v159 : Value).ownBlock) v153 t152) ∧ Aside0 (Kd.R (Kd.int .i64) 3 wc w.heap.size (fun k_ => some k_ ≠ (v150 : Value).ownBlock) v156 t155) ∧ Aside0 (Kd.N (Kd.slice 3 (Kd.int .i64)) 22 wc w.heap.size (fun k_ => some k_ ≠ (v150 : Value).ownBlock ∧ some k_ ≠ (v153 : Value).ownBlock ∧ some k_ ≠ (v156 : Value).ownBlock) v159 t158) ∧ Aside0 (Below w.heap.size w wc))
   case first =>
    have H := HC7.out;clear HC7;by_cases c8 : x9_1 < (t149.length : Int)
    ·
     rw [if_pos c8] at H;have c8b0 : decide (x9_1 < (t149.length : Int)) = true := decide_eq_true c8;clear c8
     (first | rw [c8b0] | (simp only [i64_w, i32_w]; rw [c8b0]) | skip)
     have H' := am H;clear H;obtain ⟨Ao9, co9, eo9⟩ := Kd.R_slice HO_5.out;subst eo9;obtain ⟨Ao10, co10, eo10⟩ := Kd.R_slice HO_7.out;subst eo10;go_wp2;go_meet
     case rel => exact ⟨_, (decide (x9_1 < (t155.length : Int))), (by first | rfl | (simp; done) | (simp [*]; done)), H', ⟨by have := HK1.out; first | omega | exact Nat.le_refl _⟩, ⟨Kd.rm HO_5.out⟩, ⟨Kd.nm HO_6.out⟩, ⟨Kd.rm HO_7.out⟩, ⟨Kd.nm HO_8.out⟩, ⟨bm HB.out⟩⟩
    ·
     rw [if_neg c8] at H;have c8b0 : decide (x9_1 < (t149.length : Int)) = false := decide_eq_false c8;clear c8
     (first | rw [c8b0] | (simp only [i64_w, i32_w]; rw [c8b0]) | skip)
     have H' := am H;clear H;obtain ⟨Ao11, co11, eo11⟩ := Kd.R_slice HO_5.out;subst eo11;go_wp2;go_meet
     case rel => exact ⟨_, (false), (by first | rfl | (simp; done) | (simp [*]; done)), H', ⟨by have := HK1.out; first | omega | exact Nat.le_refl _⟩, ⟨Kd.rm HO_5.out⟩, ⟨Kd.nm HO_6.out⟩, ⟨Kd.rm HO_7.out⟩, ⟨Kd.nm HO_8.out⟩, ⟨bm HB.out⟩⟩
   case rest =>
    clear HC7;(try clear c1);(try clear p2);(try clear c6);(try clear c8);(try clear c8b0);(try clear p2);obtain ⟨kq, x30_6, rfl, HA, HJ6, HO_5, HO_6, HO_7, HO_8, HB⟩ := hcut
    cases kq with
    | zero => exact absurd HA.out (by simp [spec_l1Compare.j1])
    | succ kj6 =>
     have H := HA.out;clear HA;simp only [spec_l1Compare.j1] at H;by_cases c12 : x30_6 = true
     ·
      subst c12
      have H1 : (if 0 ≤ x9_1 then (if x9_1 < (t152.length : Int) then (if x9_1 < (t158.length : Int) then ((spec_l1Compare.f kj6 (rd_L1 t152 x9_1) (rd_L1 t158 x9_1)).bind fun t163 => (if t163 = 0 then (if x9_1 < (t149.length : Int) then (if x9_1 < (t155.length : Int) then (if (rd t149 x9_1) = (rd t155 x9_1) then (spec_l1Compare.l0 kj6 t149 t152 t155 t158 (wrap64 (x9_1 + 1))) else (if (rd t149 x9_1) < (rd t155 x9_1) then (some (-1)) else (some 1))) else (none)) else (none)) else (some t163))) else (none)) else (none)) else (none)) = some r := by rw [if_pos rfl] at H; exact H
      clear H;have H := H1;clear H1;by_cases c13 : 0 ≤ x9_1
      ·
       rw [if_pos c13] at H;have c13b0 : decide (0 ≤ x9_1) = true := decide_eq_true c13;clear c13;by_cases c14 : x9_1 < (t152.length : Int)
       ·
        rw [if_pos c14] at H;have c14b0 : decide (x9_1 < (t152.length : Int)) = true := decide_eq_true c14;clear c14;by_cases c15 : x9_1 < (t158.length : Int)
        ·
         rw [if_pos c15] at H;have c15b0 : decide (x9_1 < (t158.length : Int)) = true := decide_eq_true c15;clear c15;replace H := oE H;obtain ⟨t163, A16, H⟩ := H;replace H : (if t163 = 0 then (if x9_1 < (t149.length : Int) then (if x9_1 < (t155.length : Int) then (if (rd t149 x9_1) = (rd t155 x9_1) then (spec_l1Compare.l0 kj6 t149 t152 t155 t158 (wrap64 (x9_1 + 1))) else (if (rd t149 x9_1) < (rd t155 x9_1) then (some (-1)) else (some 1))) else (none)) else (none)) else (some t163)) = some r := H;replace A16 := am A16;by_cases c17 : t163 = 0
         ·
          rw [if_pos c17] at H;have c17b0 : (t163 == 0) = true := beq_iff_eq.mpr c17;have c17b1 : (t163 != 0) = false := bne_eq_false_iff_eq.mpr c17;clear c17;by_cases c18 : x9_1 < (t149.length : Int)
          ·
           rw [if_pos c18] at H;have c18b0 : decide (x9_1 < (t149.length : Int)) = true := decide_eq_true c18;clear c18;by_cases c19 : x9_1 < (t155.length : Int)
           ·
            rw [if_pos c19] at H;have c19b0 : decide (x9_1 < (t155.length : Int)) = true := decide_eq_true c19;clear c19;by_cases c20 : (rd t149 x9_1) = (rd t155 x9_1)
            ·
             rw [if_pos c20] at H;have c20b0 : ((rd t149 x9_1) == (rd t155 x9_1)) = true := beq_iff_eq.mpr c20;have c20b1 : ((rd t149 x9_1) != (rd t155 x9_1)) = false := bne_eq_false_iff_eq.mpr c20;clear c20;have H' := am H;clear H;(try go_wp2);replace HO_5 := am (Kd.R_drew HO_5.out);replace HO_6 := am (Kd.N_drew HO_6.out);replace HO_7 := am (Kd.R_drew HO_7.out);replace HO_8 := am (Kd.N_drew HO_8.out);replace HB := am (below_drew1 HB.out);obtain ⟨Ao22, co22, eo22⟩ := Kd.N_slice HO_6.out
             (first | subst eo22 | (injection eo22 with f1_ f2_ f3_; have f4_ := f1_.symm; have f5_ := f3_.symm; clear f1_ f2_ f3_; subst f4_; subst f5_))
             have p161 : 0 ≤ (x9_1 : Int) := of_decide_eq_true (by assumption);have q161 : x9_1 < (t152.length : Int) := of_decide_eq_true (by assumption);obtain ⟨ad161, A161_0, c161_0, e161, hx161_0, hl161_0, hi161_0⟩ := at_L1 (Kd.N_reads' HO_6.out).2.2 x9_1 p161 q161;cases e161
             obtain ⟨ce161, hce161, hMe161, hcc161⟩ := Kd.N_get HO_6.out [] x9_1 p161 (by first | exact q161 | exact of_decide_eq_true (by assumption) | (have e_ := (Kd.N_reads' HO_6.out).1; omega));obtain ⟨ua161_0, uc161_0, rfl, ul161_0, ge161_0⟩ := Kd.FK_slice_open hMe161;have hv161_0 := hcc161 0 _ rfl;rw [Nat.add_zero, show ((Kd.slice 3 (Kd.int .i64))).sz = 1 from rfl, Nat.mul_one] at hv161_0;replace hv161_0 := Option.some.inj (hv161_0.symm.trans hx161_0)
             injection hv161_0 with hva_ hvn_ hvc_
             rw [hva_] at ge161_0;rw [hvc_] at ul161_0;have HL161_0 := am (show Kd.V (Kd.int .i64) 3 _ w.heap.size _ _ (rd_L1 t152 x9_1) from Kd.V_mk ul161_0 ge161_0);clear hva_ hvn_ hvc_ ge161_0 ul161_0;clear hcc161 hce161;have HR161_0 := am hi161_0;have HC161_0 := am hl161_0;clear hi161_0 hl161_0;replace p161 := eq_true p161;replace q161 := eq_true q161;obtain ⟨Ao23, co23, eo23⟩ := Kd.N_slice HO_8.out
             (first | subst eo23 | (injection eo23 with f1_ f2_ f3_; have f4_ := f1_.symm; have f5_ := f3_.symm; clear f1_ f2_ f3_; subst f4_; subst f5_))
             have p162 : 0 ≤ (x9_1 : Int) := of_decide_eq_true (by assumption);have q162 : x9_1 < (t158.length : Int) := of_decide_eq_true (by assumption);obtain ⟨ad162, A162_0, c162_0, e162, hx162_0, hl162_0, hi162_0⟩ := at_L1 (Kd.N_reads' HO_8.out).2.2 x9_1 p162 q162;cases e162
             obtain ⟨ce162, hce162, hMe162, hcc162⟩ := Kd.N_get HO_8.out [] x9_1 p162 (by first | exact q162 | exact of_decide_eq_true (by assumption) | (have e_ := (Kd.N_reads' HO_8.out).1; omega));obtain ⟨ua162_0, uc162_0, rfl, ul162_0, ge162_0⟩ := Kd.FK_slice_open hMe162;have hv162_0 := hcc162 0 _ rfl;rw [Nat.add_zero, show ((Kd.slice 3 (Kd.int .i64))).sz = 1 from rfl, Nat.mul_one] at hv162_0;replace hv162_0 := Option.some.inj (hv162_0.symm.trans hx162_0)
             injection hv162_0 with hva_ hvn_ hvc_
             rw [hva_] at ge162_0;rw [hvc_] at ul162_0;have HL162_0 := am (show Kd.V (Kd.int .i64) 3 _ w.heap.size _ _ (rd_L1 t158 x9_1) from Kd.V_mk ul162_0 ge162_0);clear hva_ hvn_ hvc_ ge162_0 ul162_0;clear hcc162 hce162;have HR162_0 := am hi162_0;have HC162_0 := am hl162_0;clear hi162_0 hl162_0;replace p162 := eq_true p162;replace q162 := eq_true q162;refine start_ (n := 10) (S := fun w' => w'.cell? (ad161.add (x9_1).toNat) = some (.slice A161_0 (rd_L1 t152 x9_1).length c161_0) ∧ w'.cell? (ad162.add (x9_1).toNat) = some (.slice A162_0 (rd_L1 t158 x9_1).length c162_0)) (ds := []) #[false, false, false, false, false, false, false, false, false, false] (by kernel_rfl) rfl rfl ⟨hx161_0, hx162_0⟩ (fun hHeld => ?_); refine with_tabW spec_l1Compare.tab6 spec_l1Compare.bits6 (fun HT_ HW_ => ?_);generalize wc.drew = w21 at HO_5 HO_6 HO_7 HO_8 HB HL161_0 HL162_0 HR161_0 HR162_0 hx161_0 hx162_0 hHeld ⊢;refine pure_ (i := 0) (N := some 33) (v := ?_) (a' := ?_) #[true, false, false, false, false, false, false, false, false, false] rfl rfl (any_of HT_.out (by kernel_rfl)) (fun _ _ _ h => h) (Or.inl ⟨by rfl, ?_⟩) ?_ ?_;rotate_left
             ·
              intro w';go_simp;with_reducible rfl
             rotate_left
             ·
              simp only [Act.put, sA, sB, sC, i64_w, i32_w];rfl
             refine pure_ (i := 1) (N := some 34) (v := ?_) (a' := ?_) #[true, true, false, false, false, false, false, false, false, false] rfl rfl (any_of HT_.out (by kernel_rfl)) (fun _ _ _ h => h) (Or.inl ⟨by rfl, ?_⟩) ?_ ?_;rotate_left
             ·
              intro w';go_simp;with_reducible rfl
             rotate_left
             ·
              simp only [Act.put, sA, sB, sC, i64_w, i32_w];rfl
             refine pure_ (i := 2) (N := some 35) (v := ?_) (a' := ?_) #[true, true, true, false, false, false, false, false, false, false] rfl rfl (any_of HT_.out (by kernel_rfl)) (fun _ _ _ h => h) (Or.inl ⟨by rfl, ?_⟩) ?_ ?_;rotate_left
             ·
              intro w';go_simp;with_reducible rfl
             rotate_left
             ·
              simp only [Act.put, sA, sB, sC, i64_w, i32_w];rfl
             refine pure_ (i := 4) (N := some 37) (v := ?_) (a' := ?_) #[true, true, true, false, true, false, false, false, false, false] rfl rfl (any_of HT_.out (by kernel_rfl)) (fun _ _ _ h => h) (Or.inl ⟨by rfl, ?_⟩) ?_ ?_;rotate_left
             ·
              intro w';go_simp;with_reducible rfl
             rotate_left
             ·
              simp only [Act.put, sA, sB, sC, i64_w, i32_w];rfl
             refine pure_ (i := 5) (N := some 38) (v := ?_) (a' := ?_) #[true, true, true, false, true, true, false, false, false, false] rfl rfl (any_of HT_.out (by kernel_rfl)) (fun _ _ _ h => h) (Or.inl ⟨by rfl, ?_⟩) ?_ ?_;rotate_left
             ·
              intro w';go_simp;with_reducible rfl
             rotate_left
             ·
              simp only [Act.put, sA, sB, sC, i64_w, i32_w];rfl
             refine pure_ (i := 6) (N := some 39) (v := ?_) (a' := ?_) #[true, true, true, false, true, true, true, false, false, false] rfl rfl (any_of HT_.out (by kernel_rfl)) (fun _ _ _ h => h) (Or.inl ⟨by rfl, ?_⟩) ?_ ?_;rotate_left
             ·
              intro w';go_simp;with_reducible rfl
             rotate_left
             ·
              simp only [Act.put, sA, sB, sC, i64_w, i32_w];rfl
             refine take_ (i := 3) (N := some 36) (v := ?_) (a' := ?_) #[true, true, true, true, true, true, true, false, false, false] rfl rfl (take_ofW HT_.out HW_.out (by kernel_rfl)) (fun _ _ _ h => h) (Or.inl ⟨by rfl, ?_⟩) hHeld ?_ ?_;rotate_left
             ·
              rintro w' ⟨s0, s1⟩
              go_simp;with_reducible rfl
             rotate_left
             ·
              simp only [Act.put, sA, sB, sC, i64_w, i32_w];rfl
             refine take_ (i := 7) (N := some 40) (v := ?_) (a' := ?_) #[true, true, true, true, true, true, true, true, false, false] rfl rfl (take_ofW HT_.out HW_.out (by kernel_rfl)) (fun _ _ _ h => h) (Or.inl ⟨by rfl, ?_⟩) hHeld ?_ ?_;rotate_left
             ·
              rintro w' ⟨s0, s1⟩
              go_simp;with_reducible rfl
             rotate_left
             ·
              simp only [Act.put, sA, sB, sC, i64_w, i32_w];rfl
             refine one_ (i := 8) (N := some 41) #[true, true, true, true, true, true, true, true, true, false] rfl rfl (one_of HT_.out (by kernel_rfl)) (by decide) (fun K hK => ?_);refine goes_ Try.func87 (by kernel_rfl) rfl #[.slice A161_0 (rd_L1 t152 x9_1).length c161_0, .slice A162_0 (rd_L1 t158 x9_1).length c162_0] (by rfl) rfl rfl (by (try simp only [mA, mB, mC]); first | done | rfl) ?_
             with_reducible refine (ih kj6 (by have := HK1.out; have := HJ6.out; omega) _ _ (rd_L1 t152 x9_1) _ _ (rd_L1 t158 x9_1) t163 _ ?side1 ?side2 ?side3 ?side4 A16.out).mono ?_
             (case side1 => exact Kd.cm ((by repeat (first | (with_reducible exact HR161_0.out) | (with_reducible refine Kd.C_alloc ?_ _) | (with_reducible refine Kd.C_drewN ?_ _) | (with_reducible refine Kd.C_drew ?_) | exact HR161_0.out))));(case side2 => exact HC161_0.out);(case side3 => exact Kd.cm ((by repeat (first | (with_reducible exact HR162_0.out) | (with_reducible refine Kd.C_alloc ?_ _) | (with_reducible refine Kd.C_drewN ?_ _) | (with_reducible refine Kd.C_drew ?_) | exact HR162_0.out))));(case side4 => exact HC162_0.out)
             rintro e w24 ⟨rfl, hb⟩
             have HS0_ := (hb.cell (World.block_lt_of_cell? _ _ (hHeld.1))).trans (hHeld.1);have HS1_ := (hb.cell (World.block_lt_of_cell? _ _ (hHeld.2))).trans (hHeld.2);refine ⟨_, rfl, ?_⟩;replace HO_5 := am (Kd.R_below (Kd.rm HO_5.out) hb);replace HO_6 := am (Kd.N_below (Kd.nm HO_6.out) hb);replace HO_7 := am (Kd.R_below (Kd.rm HO_7.out) hb);replace HO_8 := am (Kd.N_below (Kd.nm HO_8.out) hb);replace HL161_0 := am (Kd.V_below (Kd.vm HL161_0.out) hb);replace HL162_0 := am (Kd.V_below (Kd.vm HL162_0.out) hb);replace HR161_0 := am (Kd.C_below (by repeat (first | (with_reducible exact HR161_0.out) | (with_reducible refine Kd.C_alloc ?_ _) | (with_reducible refine Kd.C_drewN ?_ _) | (with_reducible refine Kd.C_drew ?_) | exact HR161_0.out)) hb);replace HR162_0 := am (Kd.C_below (by repeat (first | (with_reducible exact HR162_0.out) | (with_reducible refine Kd.C_alloc ?_ _) | (with_reducible refine Kd.C_drewN ?_ _) | (with_reducible refine Kd.C_drew ?_) | exact HR162_0.out)) hb);replace HB := am (below_step (bm HB.out) hb);(try clear hb);refine hK.out _ _ ⟨HS0_, HS1_⟩ (fun hHeld => ?_);clear hK K;refine norm_ (a' := ?_) ?_ ?_;rotate_left
             ·
              show Act.put _ (some 41) _ = _
              simp only [Act.put, sA, sB, sC, i64_w, i32_w];rfl
             refine pure_ (i := 9) (N := some 10) (v := ?_) (a' := ?_) #[true, true, true, true, true, true, true, true, true, true] rfl rfl (any_of HT_.out (by kernel_rfl)) (fun _ _ _ h => h) (Or.inl ⟨by rfl, ?_⟩) ?_ ?_;rotate_left
             ·
              intro w';go_simp;with_reducible rfl
             rotate_left
             ·
              simp only [Act.put, sA, sB, sC, i64_w, i32_w];rfl
             refine done_ (done_of HT_.out (by kernel_rfl)) ?_;(try go_wp2);replace HO_5 := am (Kd.R_drew HO_5.out);replace HO_6 := am (Kd.N_drew HO_6.out);replace HO_7 := am (Kd.R_drew HO_7.out);replace HO_8 := am (Kd.N_drew HO_8.out);replace HL161_0 := am (Kd.V_drew HL161_0.out);replace HL162_0 := am (Kd.V_drew HL162_0.out);replace HR161_0 := am (Kd.C_drew HR161_0.out);replace HR162_0 := am (Kd.C_drew HR162_0.out);replace HB := am (below_drew1 HB.out);obtain ⟨Ao26, co26, eo26⟩ := Kd.R_slice HO_5.out
             (first | subst eo26 | (injection eo26 with f1_ f2_ f3_; have f4_ := f1_.symm; have f5_ := f3_.symm; clear f1_ f2_ f3_; subst f4_; subst f5_))
             have p164 : 0 ≤ (x9_1 : Int) := of_decide_eq_true (by assumption);have q164 : x9_1 < (t149.length : Int) := of_decide_eq_true (by assumption);obtain ⟨ad164, e164, hx164_0⟩ := Kd.at_int (Kd.R_reads' HO_5.out).2.2 x9_1 p164 q164;cases e164
             replace p164 := eq_true p164;replace q164 := eq_true q164;obtain ⟨Ao27, co27, eo27⟩ := Kd.R_slice HO_7.out
             (first | subst eo27 | (injection eo27 with f1_ f2_ f3_; have f4_ := f1_.symm; have f5_ := f3_.symm; clear f1_ f2_ f3_; subst f4_; subst f5_))
             have p165 : 0 ≤ (x9_1 : Int) := of_decide_eq_true (by assumption);have q165 : x9_1 < (t155.length : Int) := of_decide_eq_true (by assumption);obtain ⟨ad165, e165, hx165_0⟩ := Kd.at_int (Kd.R_reads' HO_7.out).2.2 x9_1 p165 q165;cases e165
             replace p165 := eq_true p165;replace q165 := eq_true q165;refine start_ (n := 9) (S := fun w' => w'.cell? (ad164.add (x9_1).toNat) = some (.int .i64 (rd t149 x9_1)) ∧ w'.cell? (ad165.add (x9_1).toNat) = some (.int .i64 (rd t155 x9_1))) (ds := []) #[false, false, false, false, false, false, false, false, false] (by kernel_rfl) rfl rfl ⟨hx164_0, hx165_0⟩ (fun hHeld => ?_); refine with_tabW spec_l1Compare.tab9 spec_l1Compare.bits9 (fun HT_ HW_ => ?_);generalize w24.drew = w25 at HO_5 HO_6 HO_7 HO_8 HL161_0 HL162_0 HR161_0 HR162_0 HB hx164_0 hx165_0 hHeld ⊢;refine pure_ (i := 0) (N := some 45) (v := ?_) (a' := ?_) #[true, false, false, false, false, false, false, false, false] rfl rfl (any_of HT_.out (by kernel_rfl)) (fun _ _ _ h => h) (Or.inl ⟨by rfl, ?_⟩) ?_ ?_;rotate_left
             ·
              intro w';go_simp;with_reducible rfl
             rotate_left
             ·
              simp only [Act.put, sA, sB, sC, i64_w, i32_w];rfl
             refine pure_ (i := 1) (N := some 46) (v := ?_) (a' := ?_) #[true, true, false, false, false, false, false, false, false] rfl rfl (any_of HT_.out (by kernel_rfl)) (fun _ _ _ h => h) (Or.inl ⟨by rfl, ?_⟩) ?_ ?_;rotate_left
             ·
              intro w';go_simp;with_reducible rfl
             rotate_left
             ·
              simp only [Act.put, sA, sB, sC, i64_w, i32_w];rfl
             refine pure_ (i := 2) (N := some 47) (v := ?_) (a' := ?_) #[true, true, true, false, false, false, false, false, false] rfl rfl (any_of HT_.out (by kernel_rfl)) (fun _ _ _ h => h) (Or.inl ⟨by rfl, ?_⟩) ?_ ?_;rotate_left
             ·
              intro w';go_simp;with_reducible rfl
             rotate_left
             ·
              simp only [Act.put, sA, sB, sC, i64_w, i32_w];rfl
             refine pure_ (i := 4) (N := some 49) (v := ?_) (a' := ?_) #[true, true, true, false, true, false, false, false, false] rfl rfl (any_of HT_.out (by kernel_rfl)) (fun _ _ _ h => h) (Or.inl ⟨by rfl, ?_⟩) ?_ ?_;rotate_left
             ·
              intro w';go_simp;with_reducible rfl
             rotate_left
             ·
              simp only [Act.put, sA, sB, sC, i64_w, i32_w];rfl
             refine pure_ (i := 5) (N := some 50) (v := ?_) (a' := ?_) #[true, true, true, false, true, true, false, false, false] rfl rfl (any_of HT_.out (by kernel_rfl)) (fun _ _ _ h => h) (Or.inl ⟨by rfl, ?_⟩) ?_ ?_;rotate_left
             ·
              intro w';go_simp;with_reducible rfl
             rotate_left
             ·
              simp only [Act.put, sA, sB, sC, i64_w, i32_w];rfl
             refine pure_ (i := 6) (N := some 51) (v := ?_) (a' := ?_) #[true, true, true, false, true, true, true, false, false] rfl rfl (any_of HT_.out (by kernel_rfl)) (fun _ _ _ h => h) (Or.inl ⟨by rfl, ?_⟩) ?_ ?_;rotate_left
             ·
              intro w';go_simp;with_reducible rfl
             rotate_left
             ·
              simp only [Act.put, sA, sB, sC, i64_w, i32_w];rfl
             refine take_ (i := 3) (N := some 48) (v := ?_) (a' := ?_) #[true, true, true, true, true, true, true, false, false] rfl rfl (take_ofW HT_.out HW_.out (by kernel_rfl)) (fun _ _ _ h => h) (Or.inl ⟨by rfl, ?_⟩) hHeld ?_ ?_;rotate_left
             ·
              rintro w' ⟨s0, s1⟩
              go_simp;with_reducible rfl
             rotate_left
             ·
              simp only [Act.put, sA, sB, sC, i64_w, i32_w];rfl
             refine take_ (i := 7) (N := some 52) (v := ?_) (a' := ?_) #[true, true, true, true, true, true, true, true, false] rfl rfl (take_ofW HT_.out HW_.out (by kernel_rfl)) (fun _ _ _ h => h) (Or.inl ⟨by rfl, ?_⟩) hHeld ?_ ?_;rotate_left
             ·
              rintro w' ⟨s0, s1⟩
              go_simp;with_reducible rfl
             rotate_left
             ·
              simp only [Act.put, sA, sB, sC, i64_w, i32_w];rfl
             refine pure_ (i := 8) (N := some 53) (v := ?_) (a' := ?_) #[true, true, true, true, true, true, true, true, true] rfl rfl (any_of HT_.out (by kernel_rfl)) (fun _ _ _ h => h) (Or.inl ⟨by rfl, ?_⟩) ?_ ?_;rotate_left
             ·
              intro w';go_simp;with_reducible rfl
             rotate_left
             ·
              simp only [Act.put, sA, sB, sC, i64_w, i32_w];rfl
             refine done_ (done_of HT_.out (by kernel_rfl)) ?_;(try go_wp2)
             go_roundg kj6
             case measure => have := HK1.out; have := HJ6.out; omega
             case rel => exact ⟨(wrap64 (x9_1 + 1)), (by first | rfl | (simp; done) | (simp [*]; done)), H', ⟨by have := HK1.out; have := HJ6.out; omega⟩, ⟨Kd.rm HO_5.out⟩, ⟨Kd.nm HO_6.out⟩, ⟨Kd.rm HO_7.out⟩, ⟨Kd.nm HO_8.out⟩, ⟨bm HB.out⟩⟩
            ·
             rw [if_neg c20] at H;have c20b0 : ((rd t149 x9_1) == (rd t155 x9_1)) = false := beq_eq_false_iff_ne.mpr c20;have c20b1 : ((rd t149 x9_1) != (rd t155 x9_1)) = true := bne_iff_ne.mpr c20;by_cases c28 : (rd t149 x9_1) < (rd t155 x9_1)
             ·
              rw [if_pos c28] at H;have c28b0 : decide ((rd t149 x9_1) < (rd t155 x9_1)) = true := decide_eq_true c28;clear c28;obtain rfl := Option.some.inj H;(try go_wp2);replace HO_5 := am (Kd.R_drew HO_5.out);replace HO_6 := am (Kd.N_drew HO_6.out);replace HO_7 := am (Kd.R_drew HO_7.out);replace HO_8 := am (Kd.N_drew HO_8.out);replace HB := am (below_drew1 HB.out);obtain ⟨Ao30, co30, eo30⟩ := Kd.N_slice HO_6.out
              (first | subst eo30 | (injection eo30 with f1_ f2_ f3_; have f4_ := f1_.symm; have f5_ := f3_.symm; clear f1_ f2_ f3_; subst f4_; subst f5_))
              have p161 : 0 ≤ (x9_1 : Int) := of_decide_eq_true (by assumption);have q161 : x9_1 < (t152.length : Int) := of_decide_eq_true (by assumption);obtain ⟨ad161, A161_0, c161_0, e161, hx161_0, hl161_0, hi161_0⟩ := at_L1 (Kd.N_reads' HO_6.out).2.2 x9_1 p161 q161;cases e161
              obtain ⟨ce161, hce161, hMe161, hcc161⟩ := Kd.N_get HO_6.out [] x9_1 p161 (by first | exact q161 | exact of_decide_eq_true (by assumption) | (have e_ := (Kd.N_reads' HO_6.out).1; omega));obtain ⟨ua161_0, uc161_0, rfl, ul161_0, ge161_0⟩ := Kd.FK_slice_open hMe161;have hv161_0 := hcc161 0 _ rfl;rw [Nat.add_zero, show ((Kd.slice 3 (Kd.int .i64))).sz = 1 from rfl, Nat.mul_one] at hv161_0;replace hv161_0 := Option.some.inj (hv161_0.symm.trans hx161_0)
              injection hv161_0 with hva_ hvn_ hvc_
              rw [hva_] at ge161_0;rw [hvc_] at ul161_0;have HL161_0 := am (show Kd.V (Kd.int .i64) 3 _ w.heap.size _ _ (rd_L1 t152 x9_1) from Kd.V_mk ul161_0 ge161_0);clear hva_ hvn_ hvc_ ge161_0 ul161_0;clear hcc161 hce161;have HR161_0 := am hi161_0;have HC161_0 := am hl161_0;clear hi161_0 hl161_0;replace p161 := eq_true p161;replace q161 := eq_true q161;obtain ⟨Ao31, co31, eo31⟩ := Kd.N_slice HO_8.out
              (first | subst eo31 | (injection eo31 with f1_ f2_ f3_; have f4_ := f1_.symm; have f5_ := f3_.symm; clear f1_ f2_ f3_; subst f4_; subst f5_))
              have p162 : 0 ≤ (x9_1 : Int) := of_decide_eq_true (by assumption);have q162 : x9_1 < (t158.length : Int) := of_decide_eq_true (by assumption);obtain ⟨ad162, A162_0, c162_0, e162, hx162_0, hl162_0, hi162_0⟩ := at_L1 (Kd.N_reads' HO_8.out).2.2 x9_1 p162 q162;cases e162
              obtain ⟨ce162, hce162, hMe162, hcc162⟩ := Kd.N_get HO_8.out [] x9_1 p162 (by first | exact q162 | exact of_decide_eq_true (by assumption) | (have e_ := (Kd.N_reads' HO_8.out).1; omega));obtain ⟨ua162_0, uc162_0, rfl, ul162_0, ge162_0⟩ := Kd.FK_slice_open hMe162;have hv162_0 := hcc162 0 _ rfl;rw [Nat.add_zero, show ((Kd.slice 3 (Kd.int .i64))).sz = 1 from rfl, Nat.mul_one] at hv162_0;replace hv162_0 := Option.some.inj (hv162_0.symm.trans hx162_0)
              injection hv162_0 with hva_ hvn_ hvc_
              rw [hva_] at ge162_0;rw [hvc_] at ul162_0;have HL162_0 := am (show Kd.V (Kd.int .i64) 3 _ w.heap.size _ _ (rd_L1 t158 x9_1) from Kd.V_mk ul162_0 ge162_0);clear hva_ hvn_ hvc_ ge162_0 ul162_0;clear hcc162 hce162;have HR162_0 := am hi162_0;have HC162_0 := am hl162_0;clear hi162_0 hl162_0;replace p162 := eq_true p162;replace q162 := eq_true q162;refine start_ (n := 10) (S := fun w' => w'.cell? (ad161.add (x9_1).toNat) = some (.slice A161_0 (rd_L1 t152 x9_1).length c161_0) ∧ w'.cell? (ad162.add (x9_1).toNat) = some (.slice A162_0 (rd_L1 t158 x9_1).length c162_0)) (ds := []) #[false, false, false, false, false, false, false, false, false, false] (by kernel_rfl) rfl rfl ⟨hx161_0, hx162_0⟩ (fun hHeld => ?_); refine with_tabW spec_l1Compare.tab6 spec_l1Compare.bits6 (fun HT_ HW_ => ?_);generalize wc.drew = w29 at HO_5 HO_6 HO_7 HO_8 HB HL161_0 HL162_0 HR161_0 HR162_0 hx161_0 hx162_0 hHeld ⊢;refine pure_ (i := 0) (N := some 33) (v := ?_) (a' := ?_) #[true, false, false, false, false, false, false, false, false, false] rfl rfl (any_of HT_.out (by kernel_rfl)) (fun _ _ _ h => h) (Or.inl ⟨by rfl, ?_⟩) ?_ ?_;rotate_left
              ·
               intro w';go_simp;with_reducible rfl
              rotate_left
              ·
               simp only [Act.put, sA, sB, sC, i64_w, i32_w];rfl
              refine pure_ (i := 1) (N := some 34) (v := ?_) (a' := ?_) #[true, true, false, false, false, false, false, false, false, false] rfl rfl (any_of HT_.out (by kernel_rfl)) (fun _ _ _ h => h) (Or.inl ⟨by rfl, ?_⟩) ?_ ?_;rotate_left
              ·
               intro w';go_simp;with_reducible rfl
              rotate_left
              ·
               simp only [Act.put, sA, sB, sC, i64_w, i32_w];rfl
              refine pure_ (i := 2) (N := some 35) (v := ?_) (a' := ?_) #[true, true, true, false, false, false, false, false, false, false] rfl rfl (any_of HT_.out (by kernel_rfl)) (fun _ _ _ h => h) (Or.inl ⟨by rfl, ?_⟩) ?_ ?_;rotate_left
              ·
               intro w';go_simp;with_reducible rfl
              rotate_left
              ·
               simp only [Act.put, sA, sB, sC, i64_w, i32_w];rfl
              refine pure_ (i := 4) (N := some 37) (v := ?_) (a' := ?_) #[true, true, true, false, true, false, false, false, false, false] rfl rfl (any_of HT_.out (by kernel_rfl)) (fun _ _ _ h => h) (Or.inl ⟨by rfl, ?_⟩) ?_ ?_;rotate_left
              ·
               intro w';go_simp;with_reducible rfl
              rotate_left
              ·
               simp only [Act.put, sA, sB, sC, i64_w, i32_w];rfl
              refine pure_ (i := 5) (N := some 38) (v := ?_) (a' := ?_) #[true, true, true, false, true, true, false, false, false, false] rfl rfl (any_of HT_.out (by kernel_rfl)) (fun _ _ _ h => h) (Or.inl ⟨by rfl, ?_⟩) ?_ ?_;rotate_left
              ·
               intro w';go_simp;with_reducible rfl
              rotate_left
              ·
               simp only [Act.put, sA, sB, sC, i64_w, i32_w];rfl
              refine pure_ (i := 6) (N := some 39) (v := ?_) (a' := ?_) #[true, true, true, false, true, true, true, false, false, false] rfl rfl (any_of HT_.out (by kernel_rfl)) (fun _ _ _ h => h) (Or.inl ⟨by rfl, ?_⟩) ?_ ?_;rotate_left
              ·
               intro w';go_simp;with_reducible rfl
              rotate_left
              ·
               simp only [Act.put, sA, sB, sC, i64_w, i32_w];rfl
              refine take_ (i := 3) (N := some 36) (v := ?_) (a' := ?_) #[true, true, true, true, true, true, true, false, false, false] rfl rfl (take_ofW HT_.out HW_.out (by kernel_rfl)) (fun _ _ _ h => h) (Or.inl ⟨by rfl, ?_⟩) hHeld ?_ ?_;rotate_left
              ·
               rintro w' ⟨s0, s1⟩
               go_simp;with_reducible rfl
              rotate_left
              ·
               simp only [Act.put, sA, sB, sC, i64_w, i32_w];rfl
              refine take_ (i := 7) (N := some 40) (v := ?_) (a' := ?_) #[true, true, true, true, true, true, true, true, false, false] rfl rfl (take_ofW HT_.out HW_.out (by kernel_rfl)) (fun _ _ _ h => h) (Or.inl ⟨by rfl, ?_⟩) hHeld ?_ ?_;rotate_left
              ·
               rintro w' ⟨s0, s1⟩
               go_simp;with_reducible rfl
              rotate_left
              ·
               simp only [Act.put, sA, sB, sC, i64_w, i32_w];rfl
              refine one_ (i := 8) (N := some 41) #[true, true, true, true, true, true, true, true, true, false] rfl rfl (one_of HT_.out (by kernel_rfl)) (by decide) (fun K hK => ?_);refine goes_ Try.func87 (by kernel_rfl) rfl #[.slice A161_0 (rd_L1 t152 x9_1).length c161_0, .slice A162_0 (rd_L1 t158 x9_1).length c162_0] (by rfl) rfl rfl (by (try simp only [mA, mB, mC]); first | done | rfl) ?_
              with_reducible refine (ih kj6 (by have := HK1.out; have := HJ6.out; omega) _ _ (rd_L1 t152 x9_1) _ _ (rd_L1 t158 x9_1) t163 _ ?side1 ?side2 ?side3 ?side4 A16.out).mono ?_
              (case side1 => exact Kd.cm ((by repeat (first | (with_reducible exact HR161_0.out) | (with_reducible refine Kd.C_alloc ?_ _) | (with_reducible refine Kd.C_drewN ?_ _) | (with_reducible refine Kd.C_drew ?_) | exact HR161_0.out))));(case side2 => exact HC161_0.out);(case side3 => exact Kd.cm ((by repeat (first | (with_reducible exact HR162_0.out) | (with_reducible refine Kd.C_alloc ?_ _) | (with_reducible refine Kd.C_drewN ?_ _) | (with_reducible refine Kd.C_drew ?_) | exact HR162_0.out))));(case side4 => exact HC162_0.out)
              rintro e w32 ⟨rfl, hb⟩
              have HS0_ := (hb.cell (World.block_lt_of_cell? _ _ (hHeld.1))).trans (hHeld.1);have HS1_ := (hb.cell (World.block_lt_of_cell? _ _ (hHeld.2))).trans (hHeld.2);refine ⟨_, rfl, ?_⟩;replace HO_5 := am (Kd.R_below (Kd.rm HO_5.out) hb);replace HO_6 := am (Kd.N_below (Kd.nm HO_6.out) hb);replace HO_7 := am (Kd.R_below (Kd.rm HO_7.out) hb);replace HO_8 := am (Kd.N_below (Kd.nm HO_8.out) hb);replace HL161_0 := am (Kd.V_below (Kd.vm HL161_0.out) hb);replace HL162_0 := am (Kd.V_below (Kd.vm HL162_0.out) hb);replace HR161_0 := am (Kd.C_below (by repeat (first | (with_reducible exact HR161_0.out) | (with_reducible refine Kd.C_alloc ?_ _) | (with_reducible refine Kd.C_drewN ?_ _) | (with_reducible refine Kd.C_drew ?_) | exact HR161_0.out)) hb);replace HR162_0 := am (Kd.C_below (by repeat (first | (with_reducible exact HR162_0.out) | (with_reducible refine Kd.C_alloc ?_ _) | (with_reducible refine Kd.C_drewN ?_ _) | (with_reducible refine Kd.C_drew ?_) | exact HR162_0.out)) hb);replace HB := am (below_step (bm HB.out) hb);(try clear hb);refine hK.out _ _ ⟨HS0_, HS1_⟩ (fun hHeld => ?_);clear hK K;refine norm_ (a' := ?_) ?_ ?_;rotate_left
              ·
               show Act.put _ (some 41) _ = _
               simp only [Act.put, sA, sB, sC, i64_w, i32_w];rfl
              refine pure_ (i := 9) (N := some 10) (v := ?_) (a' := ?_) #[true, true, true, true, true, true, true, true, true, true] rfl rfl (any_of HT_.out (by kernel_rfl)) (fun _ _ _ h => h) (Or.inl ⟨by rfl, ?_⟩) ?_ ?_;rotate_left
              ·
               intro w';go_simp;with_reducible rfl
              rotate_left
              ·
               simp only [Act.put, sA, sB, sC, i64_w, i32_w];rfl
              refine done_ (done_of HT_.out (by kernel_rfl)) ?_;(try go_wp2);replace HO_5 := am (Kd.R_drew HO_5.out);replace HO_6 := am (Kd.N_drew HO_6.out);replace HO_7 := am (Kd.R_drew HO_7.out);replace HO_8 := am (Kd.N_drew HO_8.out);replace HL161_0 := am (Kd.V_drew HL161_0.out);replace HL162_0 := am (Kd.V_drew HL162_0.out);replace HR161_0 := am (Kd.C_drew HR161_0.out);replace HR162_0 := am (Kd.C_drew HR162_0.out);replace HB := am (below_drew1 HB.out);obtain ⟨Ao34, co34, eo34⟩ := Kd.R_slice HO_5.out
              (first | subst eo34 | (injection eo34 with f1_ f2_ f3_; have f4_ := f1_.symm; have f5_ := f3_.symm; clear f1_ f2_ f3_; subst f4_; subst f5_))
              have p164 : 0 ≤ (x9_1 : Int) := of_decide_eq_true (by assumption);have q164 : x9_1 < (t149.length : Int) := of_decide_eq_true (by assumption);obtain ⟨ad164, e164, hx164_0⟩ := Kd.at_int (Kd.R_reads' HO_5.out).2.2 x9_1 p164 q164;cases e164
              replace p164 := eq_true p164;replace q164 := eq_true q164;obtain ⟨Ao35, co35, eo35⟩ := Kd.R_slice HO_7.out
              (first | subst eo35 | (injection eo35 with f1_ f2_ f3_; have f4_ := f1_.symm; have f5_ := f3_.symm; clear f1_ f2_ f3_; subst f4_; subst f5_))
              have p165 : 0 ≤ (x9_1 : Int) := of_decide_eq_true (by assumption);have q165 : x9_1 < (t155.length : Int) := of_decide_eq_true (by assumption);obtain ⟨ad165, e165, hx165_0⟩ := Kd.at_int (Kd.R_reads' HO_7.out).2.2 x9_1 p165 q165;cases e165
              replace p165 := eq_true p165;replace q165 := eq_true q165;refine start_ (n := 9) (S := fun w' => w'.cell? (ad164.add (x9_1).toNat) = some (.int .i64 (rd t149 x9_1)) ∧ w'.cell? (ad165.add (x9_1).toNat) = some (.int .i64 (rd t155 x9_1))) (ds := []) #[false, false, false, false, false, false, false, false, false] (by kernel_rfl) rfl rfl ⟨hx164_0, hx165_0⟩ (fun hHeld => ?_); refine with_tabW spec_l1Compare.tab9 spec_l1Compare.bits9 (fun HT_ HW_ => ?_);generalize w32.drew = w33 at HO_5 HO_6 HO_7 HO_8 HL161_0 HL162_0 HR161_0 HR162_0 HB hx164_0 hx165_0 hHeld ⊢;refine pure_ (i := 0) (N := some 45) (v := ?_) (a' := ?_) #[true, false, false, false, false, false, false, false, false] rfl rfl (any_of HT_.out (by kernel_rfl)) (fun _ _ _ h => h) (Or.inl ⟨by rfl, ?_⟩) ?_ ?_;rotate_left
              ·
               intro w';go_simp;with_reducible rfl
              rotate_left
              ·
               simp only [Act.put, sA, sB, sC, i64_w, i32_w];rfl
              refine pure_ (i := 1) (N := some 46) (v := ?_) (a' := ?_) #[true, true, false, false, false, false, false, false, false] rfl rfl (any_of HT_.out (by kernel_rfl)) (fun _ _ _ h => h) (Or.inl ⟨by rfl, ?_⟩) ?_ ?_;rotate_left
              ·
               intro w';go_simp;with_reducible rfl
              rotate_left
              ·
               simp only [Act.put, sA, sB, sC, i64_w, i32_w];rfl
              refine pure_ (i := 2) (N := some 47) (v := ?_) (a' := ?_) #[true, true, true, false, false, false, false, false, false] rfl rfl (any_of HT_.out (by kernel_rfl)) (fun _ _ _ h => h) (Or.inl ⟨by rfl, ?_⟩) ?_ ?_;rotate_left
              ·
               intro w';go_simp;with_reducible rfl
              rotate_left
              ·
               simp only [Act.put, sA, sB, sC, i64_w, i32_w];rfl
              refine pure_ (i := 4) (N := some 49) (v := ?_) (a' := ?_) #[true, true, true, false, true, false, false, false, false] rfl rfl (any_of HT_.out (by kernel_rfl)) (fun _ _ _ h => h) (Or.inl ⟨by rfl, ?_⟩) ?_ ?_;rotate_left
              ·
               intro w';go_simp;with_reducible rfl
              rotate_left
              ·
               simp only [Act.put, sA, sB, sC, i64_w, i32_w];rfl
              refine pure_ (i := 5) (N := some 50) (v := ?_) (a' := ?_) #[true, true, true, false, true, true, false, false, false] rfl rfl (any_of HT_.out (by kernel_rfl)) (fun _ _ _ h => h) (Or.inl ⟨by rfl, ?_⟩) ?_ ?_;rotate_left
              ·
               intro w';go_simp;with_reducible rfl
              rotate_left
              ·
               simp only [Act.put, sA, sB, sC, i64_w, i32_w];rfl
              refine pure_ (i := 6) (N := some 51) (v := ?_) (a' := ?_) #[true, true, true, false, true, true, true, false, false] rfl rfl (any_of HT_.out (by kernel_rfl)) (fun _ _ _ h => h) (Or.inl ⟨by rfl, ?_⟩) ?_ ?_;rotate_left
              ·
               intro w';go_simp;with_reducible rfl
              rotate_left
              ·
               simp only [Act.put, sA, sB, sC, i64_w, i32_w];rfl
              refine take_ (i := 3) (N := some 48) (v := ?_) (a' := ?_) #[true, true, true, true, true, true, true, false, false] rfl rfl (take_ofW HT_.out HW_.out (by kernel_rfl)) (fun _ _ _ h => h) (Or.inl ⟨by rfl, ?_⟩) hHeld ?_ ?_;rotate_left
              ·
               rintro w' ⟨s0, s1⟩
               go_simp;with_reducible rfl
              rotate_left
              ·
               simp only [Act.put, sA, sB, sC, i64_w, i32_w];rfl
              refine take_ (i := 7) (N := some 52) (v := ?_) (a' := ?_) #[true, true, true, true, true, true, true, true, false] rfl rfl (take_ofW HT_.out HW_.out (by kernel_rfl)) (fun _ _ _ h => h) (Or.inl ⟨by rfl, ?_⟩) hHeld ?_ ?_;rotate_left
              ·
               rintro w' ⟨s0, s1⟩
               go_simp;with_reducible rfl
              rotate_left
              ·
               simp only [Act.put, sA, sB, sC, i64_w, i32_w];rfl
              refine pure_ (i := 8) (N := some 53) (v := ?_) (a' := ?_) #[true, true, true, true, true, true, true, true, true] rfl rfl (any_of HT_.out (by kernel_rfl)) (fun _ _ _ h => h) (Or.inl ⟨by rfl, ?_⟩) ?_ ?_;rotate_left
              ·
               intro w';go_simp;with_reducible rfl
              rotate_left
              ·
               simp only [Act.put, sA, sB, sC, i64_w, i32_w];rfl
              refine done_ (done_of HT_.out (by kernel_rfl)) ?_;(try go_wp2);replace HO_5 := am (Kd.R_drew HO_5.out);replace HO_6 := am (Kd.N_drew HO_6.out);replace HO_7 := am (Kd.R_drew HO_7.out);replace HO_8 := am (Kd.N_drew HO_8.out);replace HL161_0 := am (Kd.V_drew HL161_0.out);replace HL162_0 := am (Kd.V_drew HL162_0.out);replace HR161_0 := am (Kd.C_drew HR161_0.out);replace HR162_0 := am (Kd.C_drew HR162_0.out);replace HB := am (below_drew1 HB.out);have p166 : 0 ≤ (x9_1 : Int) := of_decide_eq_true (by assumption);have q166 : x9_1 < (t149.length : Int) := of_decide_eq_true (by assumption);obtain ⟨ad166, e166, hx166_0⟩ := Kd.at_int (Kd.R_reads' HO_5.out).2.2 x9_1 p166 q166;obtain rfl : ad164 = ad166 := (by injection e166);replace p166 := eq_true p166;replace q166 := eq_true q166;have p167 : 0 ≤ (x9_1 : Int) := of_decide_eq_true (by assumption);have q167 : x9_1 < (t155.length : Int) := of_decide_eq_true (by assumption);obtain ⟨ad167, e167, hx167_0⟩ := Kd.at_int (Kd.R_reads' HO_7.out).2.2 x9_1 p167 q167;obtain rfl : ad165 = ad167 := (by injection e167);replace p167 := eq_true p167;replace q167 := eq_true q167;refine start_ (n := 9) (S := fun w' => w'.cell? (ad164.add (x9_1).toNat) = some (.int .i64 (rd t149 x9_1)) ∧ w'.cell? (ad165.add (x9_1).toNat) = some (.int .i64 (rd t155 x9_1))) (ds := []) #[false, false, false, false, false, false, false, false, false] (by kernel_rfl) rfl rfl ⟨hx166_0, hx167_0⟩ (fun hHeld => ?_); refine with_tabW spec_l1Compare.tab10 spec_l1Compare.bits10 (fun HT_ HW_ => ?_);generalize w33.drew = w36 at HO_5 HO_6 HO_7 HO_8 HL161_0 HL162_0 HR161_0 HR162_0 HB hx166_0 hx167_0 hHeld ⊢;refine pure_ (i := 0) (N := some 54) (v := ?_) (a' := ?_) #[true, false, false, false, false, false, false, false, false] rfl rfl (any_of HT_.out (by kernel_rfl)) (fun _ _ _ h => h) (Or.inl ⟨by rfl, ?_⟩) ?_ ?_;rotate_left
              ·
               intro w';go_simp;with_reducible rfl
              rotate_left
              ·
               simp only [Act.put, sA, sB, sC, i64_w, i32_w];rfl
              refine pure_ (i := 1) (N := some 55) (v := ?_) (a' := ?_) #[true, true, false, false, false, false, false, false, false] rfl rfl (any_of HT_.out (by kernel_rfl)) (fun _ _ _ h => h) (Or.inl ⟨by rfl, ?_⟩) ?_ ?_;rotate_left
              ·
               intro w';go_simp;with_reducible rfl
              rotate_left
              ·
               simp only [Act.put, sA, sB, sC, i64_w, i32_w];rfl
              refine pure_ (i := 2) (N := some 56) (v := ?_) (a' := ?_) #[true, true, true, false, false, false, false, false, false] rfl rfl (any_of HT_.out (by kernel_rfl)) (fun _ _ _ h => h) (Or.inl ⟨by rfl, ?_⟩) ?_ ?_;rotate_left
              ·
               intro w';go_simp;with_reducible rfl
              rotate_left
              ·
               simp only [Act.put, sA, sB, sC, i64_w, i32_w];rfl
              refine pure_ (i := 4) (N := some 58) (v := ?_) (a' := ?_) #[true, true, true, false, true, false, false, false, false] rfl rfl (any_of HT_.out (by kernel_rfl)) (fun _ _ _ h => h) (Or.inl ⟨by rfl, ?_⟩) ?_ ?_;rotate_left
              ·
               intro w';go_simp;with_reducible rfl
              rotate_left
              ·
               simp only [Act.put, sA, sB, sC, i64_w, i32_w];rfl
              refine pure_ (i := 5) (N := some 59) (v := ?_) (a' := ?_) #[true, true, true, false, true, true, false, false, false] rfl rfl (any_of HT_.out (by kernel_rfl)) (fun _ _ _ h => h) (Or.inl ⟨by rfl, ?_⟩) ?_ ?_;rotate_left
              ·
               intro w';go_simp;with_reducible rfl
              rotate_left
              ·
               simp only [Act.put, sA, sB, sC, i64_w, i32_w];rfl
              refine pure_ (i := 6) (N := some 60) (v := ?_) (a' := ?_) #[true, true, true, false, true, true, true, false, false] rfl rfl (any_of HT_.out (by kernel_rfl)) (fun _ _ _ h => h) (Or.inl ⟨by rfl, ?_⟩) ?_ ?_;rotate_left
              ·
               intro w';go_simp;with_reducible rfl
              rotate_left
              ·
               simp only [Act.put, sA, sB, sC, i64_w, i32_w];rfl
              refine take_ (i := 3) (N := some 57) (v := ?_) (a' := ?_) #[true, true, true, true, true, true, true, false, false] rfl rfl (take_ofW HT_.out HW_.out (by kernel_rfl)) (fun _ _ _ h => h) (Or.inl ⟨by rfl, ?_⟩) hHeld ?_ ?_;rotate_left
              ·
               rintro w' ⟨s0, s1⟩
               go_simp;with_reducible rfl
              rotate_left
              ·
               simp only [Act.put, sA, sB, sC, i64_w, i32_w];rfl
              refine take_ (i := 7) (N := some 61) (v := ?_) (a' := ?_) #[true, true, true, true, true, true, true, true, false] rfl rfl (take_ofW HT_.out HW_.out (by kernel_rfl)) (fun _ _ _ h => h) (Or.inl ⟨by rfl, ?_⟩) hHeld ?_ ?_;rotate_left
              ·
               rintro w' ⟨s0, s1⟩
               go_simp;with_reducible rfl
              rotate_left
              ·
               simp only [Act.put, sA, sB, sC, i64_w, i32_w];rfl
              refine pure_ (i := 8) (N := some 62) (v := ?_) (a' := ?_) #[true, true, true, true, true, true, true, true, true] rfl rfl (any_of HT_.out (by kernel_rfl)) (fun _ _ _ h => h) (Or.inl ⟨by rfl, ?_⟩) ?_ ?_;rotate_left
              ·
               intro w';go_simp;with_reducible rfl
              rotate_left
              ·
               simp only [Act.put, sA, sB, sC, i64_w, i32_w];rfl
              refine done_ (done_of HT_.out (by kernel_rfl)) ?_;(try go_wp2);go_ret;exact ⟨by first | rfl | (simp [errW_none, errW_some] <;> rfl) | (simp [*, errW_none, errW_some] <;> rfl), bm HB.out⟩
             ·
              rw [if_neg c28] at H;have c28b0 : decide ((rd t149 x9_1) < (rd t155 x9_1)) = false := decide_eq_false c28;clear c28;obtain rfl := Option.some.inj H;(try go_wp2);replace HO_5 := am (Kd.R_drew HO_5.out);replace HO_6 := am (Kd.N_drew HO_6.out);replace HO_7 := am (Kd.R_drew HO_7.out);replace HO_8 := am (Kd.N_drew HO_8.out);replace HB := am (below_drew1 HB.out);obtain ⟨Ao38, co38, eo38⟩ := Kd.N_slice HO_6.out
              (first | subst eo38 | (injection eo38 with f1_ f2_ f3_; have f4_ := f1_.symm; have f5_ := f3_.symm; clear f1_ f2_ f3_; subst f4_; subst f5_))
              have p161 : 0 ≤ (x9_1 : Int) := of_decide_eq_true (by assumption);have q161 : x9_1 < (t152.length : Int) := of_decide_eq_true (by assumption);obtain ⟨ad161, A161_0, c161_0, e161, hx161_0, hl161_0, hi161_0⟩ := at_L1 (Kd.N_reads' HO_6.out).2.2 x9_1 p161 q161;cases e161
              obtain ⟨ce161, hce161, hMe161, hcc161⟩ := Kd.N_get HO_6.out [] x9_1 p161 (by first | exact q161 | exact of_decide_eq_true (by assumption) | (have e_ := (Kd.N_reads' HO_6.out).1; omega));obtain ⟨ua161_0, uc161_0, rfl, ul161_0, ge161_0⟩ := Kd.FK_slice_open hMe161;have hv161_0 := hcc161 0 _ rfl;rw [Nat.add_zero, show ((Kd.slice 3 (Kd.int .i64))).sz = 1 from rfl, Nat.mul_one] at hv161_0;replace hv161_0 := Option.some.inj (hv161_0.symm.trans hx161_0)
              injection hv161_0 with hva_ hvn_ hvc_
              rw [hva_] at ge161_0;rw [hvc_] at ul161_0;have HL161_0 := am (show Kd.V (Kd.int .i64) 3 _ w.heap.size _ _ (rd_L1 t152 x9_1) from Kd.V_mk ul161_0 ge161_0);clear hva_ hvn_ hvc_ ge161_0 ul161_0;clear hcc161 hce161;have HR161_0 := am hi161_0;have HC161_0 := am hl161_0;clear hi161_0 hl161_0;replace p161 := eq_true p161;replace q161 := eq_true q161;obtain ⟨Ao39, co39, eo39⟩ := Kd.N_slice HO_8.out
              (first | subst eo39 | (injection eo39 with f1_ f2_ f3_; have f4_ := f1_.symm; have f5_ := f3_.symm; clear f1_ f2_ f3_; subst f4_; subst f5_))
              have p162 : 0 ≤ (x9_1 : Int) := of_decide_eq_true (by assumption);have q162 : x9_1 < (t158.length : Int) := of_decide_eq_true (by assumption);obtain ⟨ad162, A162_0, c162_0, e162, hx162_0, hl162_0, hi162_0⟩ := at_L1 (Kd.N_reads' HO_8.out).2.2 x9_1 p162 q162;cases e162
              obtain ⟨ce162, hce162, hMe162, hcc162⟩ := Kd.N_get HO_8.out [] x9_1 p162 (by first | exact q162 | exact of_decide_eq_true (by assumption) | (have e_ := (Kd.N_reads' HO_8.out).1; omega));obtain ⟨ua162_0, uc162_0, rfl, ul162_0, ge162_0⟩ := Kd.FK_slice_open hMe162;have hv162_0 := hcc162 0 _ rfl;rw [Nat.add_zero, show ((Kd.slice 3 (Kd.int .i64))).sz = 1 from rfl, Nat.mul_one] at hv162_0;replace hv162_0 := Option.some.inj (hv162_0.symm.trans hx162_0)
              injection hv162_0 with hva_ hvn_ hvc_
              rw [hva_] at ge162_0;rw [hvc_] at ul162_0;have HL162_0 := am (show Kd.V (Kd.int .i64) 3 _ w.heap.size _ _ (rd_L1 t158 x9_1) from Kd.V_mk ul162_0 ge162_0);clear hva_ hvn_ hvc_ ge162_0 ul162_0;clear hcc162 hce162;have HR162_0 := am hi162_0;have HC162_0 := am hl162_0;clear hi162_0 hl162_0;replace p162 := eq_true p162;replace q162 := eq_true q162;refine start_ (n := 10) (S := fun w' => w'.cell? (ad161.add (x9_1).toNat) = some (.slice A161_0 (rd_L1 t152 x9_1).length c161_0) ∧ w'.cell? (ad162.add (x9_1).toNat) = some (.slice A162_0 (rd_L1 t158 x9_1).length c162_0)) (ds := []) #[false, false, false, false, false, false, false, false, false, false] (by kernel_rfl) rfl rfl ⟨hx161_0, hx162_0⟩ (fun hHeld => ?_); refine with_tabW spec_l1Compare.tab6 spec_l1Compare.bits6 (fun HT_ HW_ => ?_);generalize wc.drew = w37 at HO_5 HO_6 HO_7 HO_8 HB HL161_0 HL162_0 HR161_0 HR162_0 hx161_0 hx162_0 hHeld ⊢;refine pure_ (i := 0) (N := some 33) (v := ?_) (a' := ?_) #[true, false, false, false, false, false, false, false, false, false] rfl rfl (any_of HT_.out (by kernel_rfl)) (fun _ _ _ h => h) (Or.inl ⟨by rfl, ?_⟩) ?_ ?_;rotate_left
              ·
               intro w';go_simp;with_reducible rfl
              rotate_left
              ·
               simp only [Act.put, sA, sB, sC, i64_w, i32_w];rfl
              refine pure_ (i := 1) (N := some 34) (v := ?_) (a' := ?_) #[true, true, false, false, false, false, false, false, false, false] rfl rfl (any_of HT_.out (by kernel_rfl)) (fun _ _ _ h => h) (Or.inl ⟨by rfl, ?_⟩) ?_ ?_;rotate_left
              ·
               intro w';go_simp;with_reducible rfl
              rotate_left
              ·
               simp only [Act.put, sA, sB, sC, i64_w, i32_w];rfl
              refine pure_ (i := 2) (N := some 35) (v := ?_) (a' := ?_) #[true, true, true, false, false, false, false, false, false, false] rfl rfl (any_of HT_.out (by kernel_rfl)) (fun _ _ _ h => h) (Or.inl ⟨by rfl, ?_⟩) ?_ ?_;rotate_left
              ·
               intro w';go_simp;with_reducible rfl
              rotate_left
              ·
               simp only [Act.put, sA, sB, sC, i64_w, i32_w];rfl
              refine pure_ (i := 4) (N := some 37) (v := ?_) (a' := ?_) #[true, true, true, false, true, false, false, false, false, false] rfl rfl (any_of HT_.out (by kernel_rfl)) (fun _ _ _ h => h) (Or.inl ⟨by rfl, ?_⟩) ?_ ?_;rotate_left
              ·
               intro w';go_simp;with_reducible rfl
              rotate_left
              ·
               simp only [Act.put, sA, sB, sC, i64_w, i32_w];rfl
              refine pure_ (i := 5) (N := some 38) (v := ?_) (a' := ?_) #[true, true, true, false, true, true, false, false, false, false] rfl rfl (any_of HT_.out (by kernel_rfl)) (fun _ _ _ h => h) (Or.inl ⟨by rfl, ?_⟩) ?_ ?_;rotate_left
              ·
               intro w';go_simp;with_reducible rfl
              rotate_left
              ·
               simp only [Act.put, sA, sB, sC, i64_w, i32_w];rfl
              refine pure_ (i := 6) (N := some 39) (v := ?_) (a' := ?_) #[true, true, true, false, true, true, true, false, false, false] rfl rfl (any_of HT_.out (by kernel_rfl)) (fun _ _ _ h => h) (Or.inl ⟨by rfl, ?_⟩) ?_ ?_;rotate_left
              ·
               intro w';go_simp;with_reducible rfl
              rotate_left
              ·
               simp only [Act.put, sA, sB, sC, i64_w, i32_w];rfl
              refine take_ (i := 3) (N := some 36) (v := ?_) (a' := ?_) #[true, true, true, true, true, true, true, false, false, false] rfl rfl (take_ofW HT_.out HW_.out (by kernel_rfl)) (fun _ _ _ h => h) (Or.inl ⟨by rfl, ?_⟩) hHeld ?_ ?_;rotate_left
              ·
               rintro w' ⟨s0, s1⟩
               go_simp;with_reducible rfl
              rotate_left
              ·
               simp only [Act.put, sA, sB, sC, i64_w, i32_w];rfl
              refine take_ (i := 7) (N := some 40) (v := ?_) (a' := ?_) #[true, true, true, true, true, true, true, true, false, false] rfl rfl (take_ofW HT_.out HW_.out (by kernel_rfl)) (fun _ _ _ h => h) (Or.inl ⟨by rfl, ?_⟩) hHeld ?_ ?_;rotate_left
              ·
               rintro w' ⟨s0, s1⟩
               go_simp;with_reducible rfl
              rotate_left
              ·
               simp only [Act.put, sA, sB, sC, i64_w, i32_w];rfl
              refine one_ (i := 8) (N := some 41) #[true, true, true, true, true, true, true, true, true, false] rfl rfl (one_of HT_.out (by kernel_rfl)) (by decide) (fun K hK => ?_);refine goes_ Try.func87 (by kernel_rfl) rfl #[.slice A161_0 (rd_L1 t152 x9_1).length c161_0, .slice A162_0 (rd_L1 t158 x9_1).length c162_0] (by rfl) rfl rfl (by (try simp only [mA, mB, mC]); first | done | rfl) ?_
              with_reducible refine (ih kj6 (by have := HK1.out; have := HJ6.out; omega) _ _ (rd_L1 t152 x9_1) _ _ (rd_L1 t158 x9_1) t163 _ ?side1 ?side2 ?side3 ?side4 A16.out).mono ?_
              (case side1 => exact Kd.cm ((by repeat (first | (with_reducible exact HR161_0.out) | (with_reducible refine Kd.C_alloc ?_ _) | (with_reducible refine Kd.C_drewN ?_ _) | (with_reducible refine Kd.C_drew ?_) | exact HR161_0.out))));(case side2 => exact HC161_0.out);(case side3 => exact Kd.cm ((by repeat (first | (with_reducible exact HR162_0.out) | (with_reducible refine Kd.C_alloc ?_ _) | (with_reducible refine Kd.C_drewN ?_ _) | (with_reducible refine Kd.C_drew ?_) | exact HR162_0.out))));(case side4 => exact HC162_0.out)
              rintro e w40 ⟨rfl, hb⟩
              have HS0_ := (hb.cell (World.block_lt_of_cell? _ _ (hHeld.1))).trans (hHeld.1);have HS1_ := (hb.cell (World.block_lt_of_cell? _ _ (hHeld.2))).trans (hHeld.2);refine ⟨_, rfl, ?_⟩;replace HO_5 := am (Kd.R_below (Kd.rm HO_5.out) hb);replace HO_6 := am (Kd.N_below (Kd.nm HO_6.out) hb);replace HO_7 := am (Kd.R_below (Kd.rm HO_7.out) hb);replace HO_8 := am (Kd.N_below (Kd.nm HO_8.out) hb);replace HL161_0 := am (Kd.V_below (Kd.vm HL161_0.out) hb);replace HL162_0 := am (Kd.V_below (Kd.vm HL162_0.out) hb);replace HR161_0 := am (Kd.C_below (by repeat (first | (with_reducible exact HR161_0.out) | (with_reducible refine Kd.C_alloc ?_ _) | (with_reducible refine Kd.C_drewN ?_ _) | (with_reducible refine Kd.C_drew ?_) | exact HR161_0.out)) hb);replace HR162_0 := am (Kd.C_below (by repeat (first | (with_reducible exact HR162_0.out) | (with_reducible refine Kd.C_alloc ?_ _) | (with_reducible refine Kd.C_drewN ?_ _) | (with_reducible refine Kd.C_drew ?_) | exact HR162_0.out)) hb);replace HB := am (below_step (bm HB.out) hb);(try clear hb);refine hK.out _ _ ⟨HS0_, HS1_⟩ (fun hHeld => ?_);clear hK K;refine norm_ (a' := ?_) ?_ ?_;rotate_left
              ·
               show Act.put _ (some 41) _ = _
               simp only [Act.put, sA, sB, sC, i64_w, i32_w];rfl
              refine pure_ (i := 9) (N := some 10) (v := ?_) (a' := ?_) #[true, true, true, true, true, true, true, true, true, true] rfl rfl (any_of HT_.out (by kernel_rfl)) (fun _ _ _ h => h) (Or.inl ⟨by rfl, ?_⟩) ?_ ?_;rotate_left
              ·
               intro w';go_simp;with_reducible rfl
              rotate_left
              ·
               simp only [Act.put, sA, sB, sC, i64_w, i32_w];rfl
              refine done_ (done_of HT_.out (by kernel_rfl)) ?_;(try go_wp2);replace HO_5 := am (Kd.R_drew HO_5.out);replace HO_6 := am (Kd.N_drew HO_6.out);replace HO_7 := am (Kd.R_drew HO_7.out);replace HO_8 := am (Kd.N_drew HO_8.out);replace HL161_0 := am (Kd.V_drew HL161_0.out);replace HL162_0 := am (Kd.V_drew HL162_0.out);replace HR161_0 := am (Kd.C_drew HR161_0.out);replace HR162_0 := am (Kd.C_drew HR162_0.out);replace HB := am (below_drew1 HB.out);obtain ⟨Ao42, co42, eo42⟩ := Kd.R_slice HO_5.out
              (first | subst eo42 | (injection eo42 with f1_ f2_ f3_; have f4_ := f1_.symm; have f5_ := f3_.symm; clear f1_ f2_ f3_; subst f4_; subst f5_))
              have p164 : 0 ≤ (x9_1 : Int) := of_decide_eq_true (by assumption);have q164 : x9_1 < (t149.length : Int) := of_decide_eq_true (by assumption);obtain ⟨ad164, e164, hx164_0⟩ := Kd.at_int (Kd.R_reads' HO_5.out).2.2 x9_1 p164 q164;cases e164
              replace p164 := eq_true p164;replace q164 := eq_true q164;obtain ⟨Ao43, co43, eo43⟩ := Kd.R_slice HO_7.out
              (first | subst eo43 | (injection eo43 with f1_ f2_ f3_; have f4_ := f1_.symm; have f5_ := f3_.symm; clear f1_ f2_ f3_; subst f4_; subst f5_))
              have p165 : 0 ≤ (x9_1 : Int) := of_decide_eq_true (by assumption);have q165 : x9_1 < (t155.length : Int) := of_decide_eq_true (by assumption);obtain ⟨ad165, e165, hx165_0⟩ := Kd.at_int (Kd.R_reads' HO_7.out).2.2 x9_1 p165 q165;cases e165
              replace p165 := eq_true p165;replace q165 := eq_true q165;refine start_ (n := 9) (S := fun w' => w'.cell? (ad164.add (x9_1).toNat) = some (.int .i64 (rd t149 x9_1)) ∧ w'.cell? (ad165.add (x9_1).toNat) = some (.int .i64 (rd t155 x9_1))) (ds := []) #[false, false, false, false, false, false, false, false, false] (by kernel_rfl) rfl rfl ⟨hx164_0, hx165_0⟩ (fun hHeld => ?_); refine with_tabW spec_l1Compare.tab9 spec_l1Compare.bits9 (fun HT_ HW_ => ?_);generalize w40.drew = w41 at HO_5 HO_6 HO_7 HO_8 HL161_0 HL162_0 HR161_0 HR162_0 HB hx164_0 hx165_0 hHeld ⊢;refine pure_ (i := 0) (N := some 45) (v := ?_) (a' := ?_) #[true, false, false, false, false, false, false, false, false] rfl rfl (any_of HT_.out (by kernel_rfl)) (fun _ _ _ h => h) (Or.inl ⟨by rfl, ?_⟩) ?_ ?_;rotate_left
              ·
               intro w';go_simp;with_reducible rfl
              rotate_left
              ·
               simp only [Act.put, sA, sB, sC, i64_w, i32_w];rfl
              refine pure_ (i := 1) (N := some 46) (v := ?_) (a' := ?_) #[true, true, false, false, false, false, false, false, false] rfl rfl (any_of HT_.out (by kernel_rfl)) (fun _ _ _ h => h) (Or.inl ⟨by rfl, ?_⟩) ?_ ?_;rotate_left
              ·
               intro w';go_simp;with_reducible rfl
              rotate_left
              ·
               simp only [Act.put, sA, sB, sC, i64_w, i32_w];rfl
              refine pure_ (i := 2) (N := some 47) (v := ?_) (a' := ?_) #[true, true, true, false, false, false, false, false, false] rfl rfl (any_of HT_.out (by kernel_rfl)) (fun _ _ _ h => h) (Or.inl ⟨by rfl, ?_⟩) ?_ ?_;rotate_left
              ·
               intro w';go_simp;with_reducible rfl
              rotate_left
              ·
               simp only [Act.put, sA, sB, sC, i64_w, i32_w];rfl
              refine pure_ (i := 4) (N := some 49) (v := ?_) (a' := ?_) #[true, true, true, false, true, false, false, false, false] rfl rfl (any_of HT_.out (by kernel_rfl)) (fun _ _ _ h => h) (Or.inl ⟨by rfl, ?_⟩) ?_ ?_;rotate_left
              ·
               intro w';go_simp;with_reducible rfl
              rotate_left
              ·
               simp only [Act.put, sA, sB, sC, i64_w, i32_w];rfl
              refine pure_ (i := 5) (N := some 50) (v := ?_) (a' := ?_) #[true, true, true, false, true, true, false, false, false] rfl rfl (any_of HT_.out (by kernel_rfl)) (fun _ _ _ h => h) (Or.inl ⟨by rfl, ?_⟩) ?_ ?_;rotate_left
              ·
               intro w';go_simp;with_reducible rfl
              rotate_left
              ·
               simp only [Act.put, sA, sB, sC, i64_w, i32_w];rfl
              refine pure_ (i := 6) (N := some 51) (v := ?_) (a' := ?_) #[true, true, true, false, true, true, true, false, false] rfl rfl (any_of HT_.out (by kernel_rfl)) (fun _ _ _ h => h) (Or.inl ⟨by rfl, ?_⟩) ?_ ?_;rotate_left
              ·
               intro w';go_simp;with_reducible rfl
              rotate_left
              ·
               simp only [Act.put, sA, sB, sC, i64_w, i32_w];rfl
              refine take_ (i := 3) (N := some 48) (v := ?_) (a' := ?_) #[true, true, true, true, true, true, true, false, false] rfl rfl (take_ofW HT_.out HW_.out (by kernel_rfl)) (fun _ _ _ h => h) (Or.inl ⟨by rfl, ?_⟩) hHeld ?_ ?_;rotate_left
              ·
               rintro w' ⟨s0, s1⟩
               go_simp;with_reducible rfl
              rotate_left
              ·
               simp only [Act.put, sA, sB, sC, i64_w, i32_w];rfl
              refine take_ (i := 7) (N := some 52) (v := ?_) (a' := ?_) #[true, true, true, true, true, true, true, true, false] rfl rfl (take_ofW HT_.out HW_.out (by kernel_rfl)) (fun _ _ _ h => h) (Or.inl ⟨by rfl, ?_⟩) hHeld ?_ ?_;rotate_left
              ·
               rintro w' ⟨s0, s1⟩
               go_simp;with_reducible rfl
              rotate_left
              ·
               simp only [Act.put, sA, sB, sC, i64_w, i32_w];rfl
              refine pure_ (i := 8) (N := some 53) (v := ?_) (a' := ?_) #[true, true, true, true, true, true, true, true, true] rfl rfl (any_of HT_.out (by kernel_rfl)) (fun _ _ _ h => h) (Or.inl ⟨by rfl, ?_⟩) ?_ ?_;rotate_left
              ·
               intro w';go_simp;with_reducible rfl
              rotate_left
              ·
               simp only [Act.put, sA, sB, sC, i64_w, i32_w];rfl
              refine done_ (done_of HT_.out (by kernel_rfl)) ?_;(try go_wp2);replace HO_5 := am (Kd.R_drew HO_5.out);replace HO_6 := am (Kd.N_drew HO_6.out);replace HO_7 := am (Kd.R_drew HO_7.out);replace HO_8 := am (Kd.N_drew HO_8.out);replace HL161_0 := am (Kd.V_drew HL161_0.out);replace HL162_0 := am (Kd.V_drew HL162_0.out);replace HR161_0 := am (Kd.C_drew HR161_0.out);replace HR162_0 := am (Kd.C_drew HR162_0.out);replace HB := am (below_drew1 HB.out);have p166 : 0 ≤ (x9_1 : Int) := of_decide_eq_true (by assumption);have q166 : x9_1 < (t149.length : Int) := of_decide_eq_true (by assumption);obtain ⟨ad166, e166, hx166_0⟩ := Kd.at_int (Kd.R_reads' HO_5.out).2.2 x9_1 p166 q166;obtain rfl : ad164 = ad166 := (by injection e166);replace p166 := eq_true p166;replace q166 := eq_true q166;have p167 : 0 ≤ (x9_1 : Int) := of_decide_eq_true (by assumption);have q167 : x9_1 < (t155.length : Int) := of_decide_eq_true (by assumption);obtain ⟨ad167, e167, hx167_0⟩ := Kd.at_int (Kd.R_reads' HO_7.out).2.2 x9_1 p167 q167;obtain rfl : ad165 = ad167 := (by injection e167);replace p167 := eq_true p167;replace q167 := eq_true q167;refine start_ (n := 9) (S := fun w' => w'.cell? (ad164.add (x9_1).toNat) = some (.int .i64 (rd t149 x9_1)) ∧ w'.cell? (ad165.add (x9_1).toNat) = some (.int .i64 (rd t155 x9_1))) (ds := []) #[false, false, false, false, false, false, false, false, false] (by kernel_rfl) rfl rfl ⟨hx166_0, hx167_0⟩ (fun hHeld => ?_); refine with_tabW spec_l1Compare.tab10 spec_l1Compare.bits10 (fun HT_ HW_ => ?_);generalize w41.drew = w44 at HO_5 HO_6 HO_7 HO_8 HL161_0 HL162_0 HR161_0 HR162_0 HB hx166_0 hx167_0 hHeld ⊢;refine pure_ (i := 0) (N := some 54) (v := ?_) (a' := ?_) #[true, false, false, false, false, false, false, false, false] rfl rfl (any_of HT_.out (by kernel_rfl)) (fun _ _ _ h => h) (Or.inl ⟨by rfl, ?_⟩) ?_ ?_;rotate_left
              ·
               intro w';go_simp;with_reducible rfl
              rotate_left
              ·
               simp only [Act.put, sA, sB, sC, i64_w, i32_w];rfl
              refine pure_ (i := 1) (N := some 55) (v := ?_) (a' := ?_) #[true, true, false, false, false, false, false, false, false] rfl rfl (any_of HT_.out (by kernel_rfl)) (fun _ _ _ h => h) (Or.inl ⟨by rfl, ?_⟩) ?_ ?_;rotate_left
              ·
               intro w';go_simp;with_reducible rfl
              rotate_left
              ·
               simp only [Act.put, sA, sB, sC, i64_w, i32_w];rfl
              refine pure_ (i := 2) (N := some 56) (v := ?_) (a' := ?_) #[true, true, true, false, false, false, false, false, false] rfl rfl (any_of HT_.out (by kernel_rfl)) (fun _ _ _ h => h) (Or.inl ⟨by rfl, ?_⟩) ?_ ?_;rotate_left
              ·
               intro w';go_simp;with_reducible rfl
              rotate_left
              ·
               simp only [Act.put, sA, sB, sC, i64_w, i32_w];rfl
              refine pure_ (i := 4) (N := some 58) (v := ?_) (a' := ?_) #[true, true, true, false, true, false, false, false, false] rfl rfl (any_of HT_.out (by kernel_rfl)) (fun _ _ _ h => h) (Or.inl ⟨by rfl, ?_⟩) ?_ ?_;rotate_left
              ·
               intro w';go_simp;with_reducible rfl
              rotate_left
              ·
               simp only [Act.put, sA, sB, sC, i64_w, i32_w];rfl
              refine pure_ (i := 5) (N := some 59) (v := ?_) (a' := ?_) #[true, true, true, false, true, true, false, false, false] rfl rfl (any_of HT_.out (by kernel_rfl)) (fun _ _ _ h => h) (Or.inl ⟨by rfl, ?_⟩) ?_ ?_;rotate_left
              ·
               intro w';go_simp;with_reducible rfl
              rotate_left
              ·
               simp only [Act.put, sA, sB, sC, i64_w, i32_w];rfl
              refine pure_ (i := 6) (N := some 60) (v := ?_) (a' := ?_) #[true, true, true, false, true, true, true, false, false] rfl rfl (any_of HT_.out (by kernel_rfl)) (fun _ _ _ h => h) (Or.inl ⟨by rfl, ?_⟩) ?_ ?_;rotate_left
              ·
               intro w';go_simp;with_reducible rfl
              rotate_left
              ·
               simp only [Act.put, sA, sB, sC, i64_w, i32_w];rfl
              refine take_ (i := 3) (N := some 57) (v := ?_) (a' := ?_) #[true, true, true, true, true, true, true, false, false] rfl rfl (take_ofW HT_.out HW_.out (by kernel_rfl)) (fun _ _ _ h => h) (Or.inl ⟨by rfl, ?_⟩) hHeld ?_ ?_;rotate_left
              ·
               rintro w' ⟨s0, s1⟩
               go_simp;with_reducible rfl
              rotate_left
              ·
               simp only [Act.put, sA, sB, sC, i64_w, i32_w];rfl
              refine take_ (i := 7) (N := some 61) (v := ?_) (a' := ?_) #[true, true, true, true, true, true, true, true, false] rfl rfl (take_ofW HT_.out HW_.out (by kernel_rfl)) (fun _ _ _ h => h) (Or.inl ⟨by rfl, ?_⟩) hHeld ?_ ?_;rotate_left
              ·
               rintro w' ⟨s0, s1⟩
               go_simp;with_reducible rfl
              rotate_left
              ·
               simp only [Act.put, sA, sB, sC, i64_w, i32_w];rfl
              refine pure_ (i := 8) (N := some 62) (v := ?_) (a' := ?_) #[true, true, true, true, true, true, true, true, true] rfl rfl (any_of HT_.out (by kernel_rfl)) (fun _ _ _ h => h) (Or.inl ⟨by rfl, ?_⟩) ?_ ?_;rotate_left
              ·
               intro w';go_simp;with_reducible rfl
              rotate_left
              ·
               simp only [Act.put, sA, sB, sC, i64_w, i32_w];rfl
              refine done_ (done_of HT_.out (by kernel_rfl)) ?_;(try go_wp2);go_ret;exact ⟨by first | rfl | (simp [errW_none, errW_some] <;> rfl) | (simp [*, errW_none, errW_some] <;> rfl), bm HB.out⟩
           ·
            rw [if_neg c19] at H;exact absurd H (by simp)
          ·
           rw [if_neg c18] at H;exact absurd H (by simp)
         ·
          rw [if_neg c17] at H;have c17b0 : (t163 == 0) = false := beq_eq_false_iff_ne.mpr c17;have c17b1 : (t163 != 0) = true := bne_iff_ne.mpr c17;obtain rfl := Option.some.inj H;(try go_wp2);replace HO_5 := am (Kd.R_drew HO_5.out);replace HO_6 := am (Kd.N_drew HO_6.out);replace HO_7 := am (Kd.R_drew HO_7.out);replace HO_8 := am (Kd.N_drew HO_8.out);replace HB := am (below_drew1 HB.out);obtain ⟨Ao46, co46, eo46⟩ := Kd.N_slice HO_6.out
          (first | subst eo46 | (injection eo46 with f1_ f2_ f3_; have f4_ := f1_.symm; have f5_ := f3_.symm; clear f1_ f2_ f3_; subst f4_; subst f5_))
          have p161 : 0 ≤ (x9_1 : Int) := of_decide_eq_true (by assumption);have q161 : x9_1 < (t152.length : Int) := of_decide_eq_true (by assumption);obtain ⟨ad161, A161_0, c161_0, e161, hx161_0, hl161_0, hi161_0⟩ := at_L1 (Kd.N_reads' HO_6.out).2.2 x9_1 p161 q161;cases e161
          obtain ⟨ce161, hce161, hMe161, hcc161⟩ := Kd.N_get HO_6.out [] x9_1 p161 (by first | exact q161 | exact of_decide_eq_true (by assumption) | (have e_ := (Kd.N_reads' HO_6.out).1; omega));obtain ⟨ua161_0, uc161_0, rfl, ul161_0, ge161_0⟩ := Kd.FK_slice_open hMe161;have hv161_0 := hcc161 0 _ rfl;rw [Nat.add_zero, show ((Kd.slice 3 (Kd.int .i64))).sz = 1 from rfl, Nat.mul_one] at hv161_0;replace hv161_0 := Option.some.inj (hv161_0.symm.trans hx161_0)
          injection hv161_0 with hva_ hvn_ hvc_
          rw [hva_] at ge161_0;rw [hvc_] at ul161_0;have HL161_0 := am (show Kd.V (Kd.int .i64) 3 _ w.heap.size _ _ (rd_L1 t152 x9_1) from Kd.V_mk ul161_0 ge161_0);clear hva_ hvn_ hvc_ ge161_0 ul161_0;clear hcc161 hce161;have HR161_0 := am hi161_0;have HC161_0 := am hl161_0;clear hi161_0 hl161_0;replace p161 := eq_true p161;replace q161 := eq_true q161;obtain ⟨Ao47, co47, eo47⟩ := Kd.N_slice HO_8.out
          (first | subst eo47 | (injection eo47 with f1_ f2_ f3_; have f4_ := f1_.symm; have f5_ := f3_.symm; clear f1_ f2_ f3_; subst f4_; subst f5_))
          have p162 : 0 ≤ (x9_1 : Int) := of_decide_eq_true (by assumption);have q162 : x9_1 < (t158.length : Int) := of_decide_eq_true (by assumption);obtain ⟨ad162, A162_0, c162_0, e162, hx162_0, hl162_0, hi162_0⟩ := at_L1 (Kd.N_reads' HO_8.out).2.2 x9_1 p162 q162;cases e162
          obtain ⟨ce162, hce162, hMe162, hcc162⟩ := Kd.N_get HO_8.out [] x9_1 p162 (by first | exact q162 | exact of_decide_eq_true (by assumption) | (have e_ := (Kd.N_reads' HO_8.out).1; omega));obtain ⟨ua162_0, uc162_0, rfl, ul162_0, ge162_0⟩ := Kd.FK_slice_open hMe162;have hv162_0 := hcc162 0 _ rfl;rw [Nat.add_zero, show ((Kd.slice 3 (Kd.int .i64))).sz = 1 from rfl, Nat.mul_one] at hv162_0;replace hv162_0 := Option.some.inj (hv162_0.symm.trans hx162_0)
          injection hv162_0 with hva_ hvn_ hvc_
          rw [hva_] at ge162_0;rw [hvc_] at ul162_0;have HL162_0 := am (show Kd.V (Kd.int .i64) 3 _ w.heap.size _ _ (rd_L1 t158 x9_1) from Kd.V_mk ul162_0 ge162_0);clear hva_ hvn_ hvc_ ge162_0 ul162_0;clear hcc162 hce162;have HR162_0 := am hi162_0;have HC162_0 := am hl162_0;clear hi162_0 hl162_0;replace p162 := eq_true p162;replace q162 := eq_true q162;refine start_ (n := 10) (S := fun w' => w'.cell? (ad161.add (x9_1).toNat) = some (.slice A161_0 (rd_L1 t152 x9_1).length c161_0) ∧ w'.cell? (ad162.add (x9_1).toNat) = some (.slice A162_0 (rd_L1 t158 x9_1).length c162_0)) (ds := []) #[false, false, false, false, false, false, false, false, false, false] (by kernel_rfl) rfl rfl ⟨hx161_0, hx162_0⟩ (fun hHeld => ?_); refine with_tabW spec_l1Compare.tab6 spec_l1Compare.bits6 (fun HT_ HW_ => ?_);generalize wc.drew = w45 at HO_5 HO_6 HO_7 HO_8 HB HL161_0 HL162_0 HR161_0 HR162_0 hx161_0 hx162_0 hHeld ⊢;refine pure_ (i := 0) (N := some 33) (v := ?_) (a' := ?_) #[true, false, false, false, false, false, false, false, false, false] rfl rfl (any_of HT_.out (by kernel_rfl)) (fun _ _ _ h => h) (Or.inl ⟨by rfl, ?_⟩) ?_ ?_;rotate_left
          ·
           intro w';go_simp;with_reducible rfl
          rotate_left
          ·
           simp only [Act.put, sA, sB, sC, i64_w, i32_w];rfl
          refine pure_ (i := 1) (N := some 34) (v := ?_) (a' := ?_) #[true, true, false, false, false, false, false, false, false, false] rfl rfl (any_of HT_.out (by kernel_rfl)) (fun _ _ _ h => h) (Or.inl ⟨by rfl, ?_⟩) ?_ ?_;rotate_left
          ·
           intro w';go_simp;with_reducible rfl
          rotate_left
          ·
           simp only [Act.put, sA, sB, sC, i64_w, i32_w];rfl
          refine pure_ (i := 2) (N := some 35) (v := ?_) (a' := ?_) #[true, true, true, false, false, false, false, false, false, false] rfl rfl (any_of HT_.out (by kernel_rfl)) (fun _ _ _ h => h) (Or.inl ⟨by rfl, ?_⟩) ?_ ?_;rotate_left
          ·
           intro w';go_simp;with_reducible rfl
          rotate_left
          ·
           simp only [Act.put, sA, sB, sC, i64_w, i32_w];rfl
          refine pure_ (i := 4) (N := some 37) (v := ?_) (a' := ?_) #[true, true, true, false, true, false, false, false, false, false] rfl rfl (any_of HT_.out (by kernel_rfl)) (fun _ _ _ h => h) (Or.inl ⟨by rfl, ?_⟩) ?_ ?_;rotate_left
          ·
           intro w';go_simp;with_reducible rfl
          rotate_left
          ·
           simp only [Act.put, sA, sB, sC, i64_w, i32_w];rfl
          refine pure_ (i := 5) (N := some 38) (v := ?_) (a' := ?_) #[true, true, true, false, true, true, false, false, false, false] rfl rfl (any_of HT_.out (by kernel_rfl)) (fun _ _ _ h => h) (Or.inl ⟨by rfl, ?_⟩) ?_ ?_;rotate_left
          ·
           intro w';go_simp;with_reducible rfl
          rotate_left
          ·
           simp only [Act.put, sA, sB, sC, i64_w, i32_w];rfl
          refine pure_ (i := 6) (N := some 39) (v := ?_) (a' := ?_) #[true, true, true, false, true, true, true, false, false, false] rfl rfl (any_of HT_.out (by kernel_rfl)) (fun _ _ _ h => h) (Or.inl ⟨by rfl, ?_⟩) ?_ ?_;rotate_left
          ·
           intro w';go_simp;with_reducible rfl
          rotate_left
          ·
           simp only [Act.put, sA, sB, sC, i64_w, i32_w];rfl
          refine take_ (i := 3) (N := some 36) (v := ?_) (a' := ?_) #[true, true, true, true, true, true, true, false, false, false] rfl rfl (take_ofW HT_.out HW_.out (by kernel_rfl)) (fun _ _ _ h => h) (Or.inl ⟨by rfl, ?_⟩) hHeld ?_ ?_;rotate_left
          ·
           rintro w' ⟨s0, s1⟩
           go_simp;with_reducible rfl
          rotate_left
          ·
           simp only [Act.put, sA, sB, sC, i64_w, i32_w];rfl
          refine take_ (i := 7) (N := some 40) (v := ?_) (a' := ?_) #[true, true, true, true, true, true, true, true, false, false] rfl rfl (take_ofW HT_.out HW_.out (by kernel_rfl)) (fun _ _ _ h => h) (Or.inl ⟨by rfl, ?_⟩) hHeld ?_ ?_;rotate_left
          ·
           rintro w' ⟨s0, s1⟩
           go_simp;with_reducible rfl
          rotate_left
          ·
           simp only [Act.put, sA, sB, sC, i64_w, i32_w];rfl
          refine one_ (i := 8) (N := some 41) #[true, true, true, true, true, true, true, true, true, false] rfl rfl (one_of HT_.out (by kernel_rfl)) (by decide) (fun K hK => ?_);refine goes_ Try.func87 (by kernel_rfl) rfl #[.slice A161_0 (rd_L1 t152 x9_1).length c161_0, .slice A162_0 (rd_L1 t158 x9_1).length c162_0] (by rfl) rfl rfl (by (try simp only [mA, mB, mC]); first | done | rfl) ?_
          with_reducible refine (ih kj6 (by have := HK1.out; have := HJ6.out; omega) _ _ (rd_L1 t152 x9_1) _ _ (rd_L1 t158 x9_1) t163 _ ?side1 ?side2 ?side3 ?side4 A16.out).mono ?_
          (case side1 => exact Kd.cm ((by repeat (first | (with_reducible exact HR161_0.out) | (with_reducible refine Kd.C_alloc ?_ _) | (with_reducible refine Kd.C_drewN ?_ _) | (with_reducible refine Kd.C_drew ?_) | exact HR161_0.out))));(case side2 => exact HC161_0.out);(case side3 => exact Kd.cm ((by repeat (first | (with_reducible exact HR162_0.out) | (with_reducible refine Kd.C_alloc ?_ _) | (with_reducible refine Kd.C_drewN ?_ _) | (with_reducible refine Kd.C_drew ?_) | exact HR162_0.out))));(case side4 => exact HC162_0.out)
          rintro e w48 ⟨rfl, hb⟩
          have HS0_ := (hb.cell (World.block_lt_of_cell? _ _ (hHeld.1))).trans (hHeld.1);have HS1_ := (hb.cell (World.block_lt_of_cell? _ _ (hHeld.2))).trans (hHeld.2);refine ⟨_, rfl, ?_⟩;replace HO_5 := am (Kd.R_below (Kd.rm HO_5.out) hb);replace HO_6 := am (Kd.N_below (Kd.nm HO_6.out) hb);replace HO_7 := am (Kd.R_below (Kd.rm HO_7.out) hb);replace HO_8 := am (Kd.N_below (Kd.nm HO_8.out) hb);replace HL161_0 := am (Kd.V_below (Kd.vm HL161_0.out) hb);replace HL162_0 := am (Kd.V_below (Kd.vm HL162_0.out) hb);replace HR161_0 := am (Kd.C_below (by repeat (first | (with_reducible exact HR161_0.out) | (with_reducible refine Kd.C_alloc ?_ _) | (with_reducible refine Kd.C_drewN ?_ _) | (with_reducible refine Kd.C_drew ?_) | exact HR161_0.out)) hb);replace HR162_0 := am (Kd.C_below (by repeat (first | (with_reducible exact HR162_0.out) | (with_reducible refine Kd.C_alloc ?_ _) | (with_reducible refine Kd.C_drewN ?_ _) | (with_reducible refine Kd.C_drew ?_) | exact HR162_0.out)) hb);replace HB := am (below_step (bm HB.out) hb);(try clear hb);refine hK.out _ _ ⟨HS0_, HS1_⟩ (fun hHeld => ?_);clear hK K;refine norm_ (a' := ?_) ?_ ?_;rotate_left
          ·
           show Act.put _ (some 41) _ = _
           simp only [Act.put, sA, sB, sC, i64_w, i32_w];rfl
          refine pure_ (i := 9) (N := some 10) (v := ?_) (a' := ?_) #[true, true, true, true, true, true, true, true, true, true] rfl rfl (any_of HT_.out (by kernel_rfl)) (fun _ _ _ h => h) (Or.inl ⟨by rfl, ?_⟩) ?_ ?_;rotate_left
          ·
           intro w';go_simp;with_reducible rfl
          rotate_left
          ·
           simp only [Act.put, sA, sB, sC, i64_w, i32_w];rfl
          refine done_ (done_of HT_.out (by kernel_rfl)) ?_;(try go_wp2);go_ret;exact ⟨by first | rfl | (simp [errW_none, errW_some] <;> rfl) | (simp [*, errW_none, errW_some] <;> rfl), bm HB.out⟩
        ·
         rw [if_neg c15] at H;exact absurd H (by simp)
       ·
        rw [if_neg c14] at H;exact absurd H (by simp)
      ·
       rw [if_neg c13] at H;exact absurd H (by simp)
     ·
      replace c12 := Bool.eq_false_iff.mpr c12;subst c12
      have H1 : (if (t149.length : Int) < (t155.length : Int) then (some (-1)) else (if (t149.length : Int) > (t155.length : Int) then (some 1) else (some 0))) = some r := by rw [if_neg (show ¬ (false = true) by decide)] at H; exact H
      clear H;have H := H1;clear H1;by_cases c49 : (t149.length : Int) < (t155.length : Int)
      ·
       rw [if_pos c49] at H;have c49b0 : decide ((t149.length : Int) < (t155.length : Int)) = true := decide_eq_true c49;have c49b1 : decide (t149.length < t155.length) = true := decide_eq_true (Int.ofNat_lt.mp c49);clear c49;obtain rfl := Option.some.inj H;obtain ⟨Ao50, co50, eo50⟩ := Kd.R_slice HO_5.out;subst eo50;obtain ⟨Ao51, co51, eo51⟩ := Kd.R_slice HO_7.out;subst eo51;go_wp2;go_ret;exact ⟨by first | rfl | (simp [errW_none, errW_some] <;> rfl) | (simp [*, errW_none, errW_some] <;> rfl), bm HB.out⟩
      ·
       rw [if_neg c49] at H;have c49b0 : decide ((t149.length : Int) < (t155.length : Int)) = false := decide_eq_false c49;have c49b1 : decide (t149.length < t155.length) = false := decide_eq_false (fun h => c49 (Int.ofNat_lt.mpr h));clear c49;by_cases c52 : (t149.length : Int) > (t155.length : Int)
       ·
        rw [if_pos c52] at H;have c52b0 : decide ((t155.length : Int) < (t149.length : Int)) = true := decide_eq_true c52;have c52b1 : decide (t155.length < t149.length) = true := decide_eq_true (Int.ofNat_lt.mp c52);clear c52;obtain rfl := Option.some.inj H;obtain ⟨Ao53, co53, eo53⟩ := Kd.R_slice HO_5.out;subst eo53;obtain ⟨Ao54, co54, eo54⟩ := Kd.R_slice HO_7.out;subst eo54;go_wp2;go_ret;exact ⟨by first | rfl | (simp [errW_none, errW_some] <;> rfl) | (simp [*, errW_none, errW_some] <;> rfl), bm HB.out⟩
       ·
        rw [if_neg c52] at H;have c52b0 : decide ((t155.length : Int) < (t149.length : Int)) = false := decide_eq_false c52;have c52b1 : decide (t155.length < t149.length) = false := decide_eq_false (fun h => c52 (Int.ofNat_lt.mpr h));clear c52;obtain rfl := Option.some.inj H;obtain ⟨Ao55, co55, eo55⟩ := Kd.R_slice HO_5.out;subst eo55;obtain ⟨Ao56, co56, eo56⟩ := Kd.R_slice HO_7.out;subst eo56;go_wp2;go_ret;exact ⟨by first | rfl | (simp [errW_none, errW_some] <;> rfl) | (simp [*, errW_none, errW_some] <;> rfl), bm HB.out⟩

end Go.Proofs.Ytahhdbjjfdjloaa.Ja

-- half
-- Written by a program of this session's (wip/mp) out of the translation, over the kit's print with changes.
import Derived.Test.YtahhdbjjfdjloaaJex0
namespace Go.Proofs.Ytahhdbjjfdjloaa.Je
open Go.RowKit Go.Proofs.YtahhdbjjfdjloaaW.PrintWords Go.Proofs.YtahhdbjjfdjloaaW.PrintLast Go.Proofs.YtahhdbjjfdjloaaW.PrintMore
attribute [local go_sem] max2_int min2_int max_two min_two max_three min_three max_four min_four   -- for this text's walks alone
set_option linter.unusedVariables false
set_option linter.unusedSimpArgs false

/-! ### spec_l1Make: function 89 -/
def spec_l1Make.l0 : Nat → List Int → List (List Int) → List Int → Int → Option (List Int)
 | 0, _, _, _, _ => none
 | k + 1, x0, x1, x5, x6 => if x6 < (x0.length : Int) then (if 0 ≤ x6 then (if x5.length < 17592186044416 then ((some (x5 ++ [rd x0 x6] : List Int)).bind fun y322 => (if x6 < (x1.length : Int) then (if y322.length + (rd_L3 x1 x6).length < 17592186044416 then (spec_l1Make.l0 k x0 x1 (y322 ++ (rd_L3 x1 x6)) (wrap64 (x6 + 1))) else (none)) else (none))) else (none)) else (none)) else (some x5)
def spec_l1Make.f (k : Nat) (l0 : List Int) (l1 : List (List Int)) : Option (List Int) := spec_l1Make.l0 k l0 l1 (([(l0.length : Int)] : List Int)) 0
theorem spec_l1Make.mono_l : ∀ k, (∀ y0 y1 y2 y3, LeO (spec_l1Make.l0 k y0 y1 y2 y3) (spec_l1Make.l0 (k + 1) y0 y1 y2 y3))
 | 0 => fun _ _ _ _ r h => by simp [spec_l1Make.l0] at h
 | k + 1 => by
  have ih0 := spec_l1Make.mono_l k
  ·
   intro y0 y1 y2 y3;unfold spec_l1Make.l0
   repeat' first | (with_reducible exact ih0 _ _ _ _) | (with_reducible exact LeO.refl _) | (with_reducible exact LeO.none _) | (with_reducible refine LeO.ite ?_ ?_) | (with_reducible refine LeO.bind ?_ (fun _ => ?_))
theorem spec_l1Make.mono : ∀ a0 a1 k, LeO (spec_l1Make.f k a0 a1) (spec_l1Make.f (k + 1) a0 a1) := by
 intro a0 a1 k;have ih0 := spec_l1Make.mono_l k;unfold spec_l1Make.f
 repeat' first | (with_reducible exact ih0 _ _ _ _) | (with_reducible exact LeO.refl _) | (with_reducible exact LeO.none _) | (with_reducible refine LeO.ite ?_ ?_) | (with_reducible refine LeO.bind ?_ (fun _ => ?_))
def spec_l1Make.T5 : Bool × List (List Nat × List Nat) := (true, [([], []), ([], []), ([], []), ([1, 2], [1, 2]), ([3], [3]), ([4], [4]), ([0, 5], [0, 5]), ([], []), ([], []), ([7, 8], [7, 8]), ([9], [9]), ([6, 10, 6], [6, 10]), ([11, 11, 0, 1, 2, 3, 4, 5, 6, 7, 8, 9, 10, 11], [0, 11])])
def spec_l1Make.B5 : List Nat := [0, 0, 0, 6, 14, 30, 63, 0, 0, 384, 896, 2047, 4095]
theorem spec_l1Make.tab5 : rtab .any (opsOf Try.f89 5) = spec_l1Make.T5 := by kernel_rfl
theorem spec_l1Make.bits5 : waitsOk spec_l1Make.T5.2 spec_l1Make.B5 = true := by kernel_rfl
set_option maxHeartbeats 8000000 in
set_option maxRecDepth 100000 in
theorem spec_l1Make.calls (k : Nat) (A0 : Option Addr) (c0 : Nat) (l0 : List Int) (A1 : Option Addr) (c1 : Nat) (l1 : List (List Int)) (r : List Int) (w : World) (hr0 : Kd.C (Kd.int .i64) w A0 l0.length l0) (hc0 : l0.length ≤ c0) (hr1 : Kd.C (Kd.slice 3 (Kd.int .i64)) w A1 l1.length l1) (hc1 : l1.length ≤ c1) (h : spec_l1Make.f k l0 l1 = some r) :
  Calls Try.prog 89 #[.slice A0 l0.length c0, .slice A1 l1.length c1] w fun e w' => ∃ v0_ : Value, e = .returned (v0_) ∧ Kd.R (Kd.int .i64) 3 w' w.heap.size (fun _ => True) v0_ r ∧ Below w.heap.size w w' := by
 have HR0 := am hr0;have HC0 := am hc0;clear hr0 hc0;have HR1 := am hr1;have HC1 := am hc1;clear hr1 hc1;have HB := am (Below.refl w.heap.size w);have H : (spec_l1Make.l0 k l0 l1 (([(l0.length : Int)] : List Int)) 0) = some r := h;clear h
 obtain ⟨y318, hy318⟩ : ∃ y_ : List Int, y_ = (([(l0.length : Int)] : List Int)) := ⟨_, rfl⟩
 replace H : (spec_l1Make.l0 k l0 l1 y318 0) = some r := by first | (rw [hy318]; with_reducible exact H) | (have H2_ := oB H; rw [hy318]; with_reducible exact H2_) | (have H2_ := oB H; with_reducible exact H2_) | with_reducible exact H | (rw [hy318]; exact H) | exact H
 replace hy318 := am hy318;have H' := am H;clear H;go_enter Try.func89, Try.ntmps89;go_wp2_with (first | ((with_reducible refine gate_dst (N := 9) rfl ?_); refine Kd.R_lit (Kd.int .i64) _ 3 ?hg (N := 9) ?hd (xs := ([(l0.length : Int)] : List Int)) (inner := [.int .i64 (l0.length : Int)]) (ok := fun _ => True) (okp := fun _ => True) ?hr ?hp (fun _ hk => hk) trivial (Below.refl _ _) (Nat.le_refl _) (by simp) ?_; (case hd => rfl); (case hg => rfl); (case hr => first | (go_simp; done) | (go_simp; rfl)); (case hp => exact (Reps.one (show Kd.M (Kd.int .i64) _ _ _ (l0.length : Int) [.int .i64 (l0.length : Int)] from rfl) (Reps.none _ _))); intro v319 w3 ho4 hb hg_ hnew_; clear hg_ hnew_; (first | rw [← hy318.out] at ho4 | (simp only [Int.reduceToNat] at ho4; rw [← hy318.out] at ho4)); have HO320 := am (Kd.R_lower ho4 (below_size (bm HB.out)));replace HB := am (below_step (bm HB.out) hb); clear hb ho4))
 go_loopg [5, 6] k (fun kq v5 v6 w' => ∃ (x5_1 : List Int) (x6_1 : Int), v6 = .int .i64 x6_1 ∧ Aside0 (spec_l1Make.l0 kq l0 l1 x5_1 x6_1 = some r) ∧ Aside0 (kq ≤ k) ∧ Aside0 (Kd.R (Kd.int .i64) 3 w' w.heap.size (fun _ => True) v5 x5_1) ∧ Aside0 (Below w.heap.size w w'))
 case atStart => exact ⟨(y318), (0), (by first | rfl | (simp; done) | (simp [*]; done)), H', ⟨Nat.le_refl _⟩, ⟨Kd.rm HO320.out⟩, ⟨bm HB.out⟩⟩
 case round =>
  clear H';(try clear c1);(try clear p2);(try clear HO_5);(try clear HB);obtain ⟨x5_1, x6_1, rfl, HA, HK1, HO_5, HB⟩ := hrel
  cases gk with
  | zero => exact absurd HA.out (by simp [spec_l1Make.l0])
  | succ k1 =>
   have H := HA.out;clear HA;simp only [spec_l1Make.l0] at H;by_cases c5 : x6_1 < (l0.length : Int)
   ·
    rw [if_pos c5] at H;have c5b0 : decide (x6_1 < (l0.length : Int)) = true := decide_eq_true c5;clear c5;by_cases c6 : 0 ≤ x6_1
    ·
     rw [if_pos c6] at H;have c6b0 : decide (0 ≤ x6_1) = true := decide_eq_true c6;clear c6;by_cases c7 : x5_1.length < 17592186044416
     ·
      rw [if_pos c7] at H;have LMc7 := am c7;clear c7
      obtain ⟨y322, hy322⟩ : ∃ y_ : List Int, y_ = (x5_1 ++ [rd l0 x6_1]) := ⟨_, rfl⟩
      replace H : (if x6_1 < (l1.length : Int) then (if y322.length + (rd_L3 l1 x6_1).length < 17592186044416 then (spec_l1Make.l0 k1 l0 l1 (y322 ++ (rd_L3 l1 x6_1)) (wrap64 (x6_1 + 1))) else (none)) else (none)) = some r := by first | (rw [hy322]; with_reducible exact H) | (have H2_ := oB H; rw [hy322]; with_reducible exact H2_) | (have H2_ := oB H; with_reducible exact H2_) | with_reducible exact H | (rw [hy322]; exact H) | exact H
      replace hy322 := am hy322;by_cases c8 : x6_1 < (l1.length : Int)
      ·
       rw [if_pos c8] at H;have c8b0 : decide (x6_1 < (l1.length : Int)) = true := decide_eq_true c8;clear c8;by_cases c9 : y322.length + (rd_L3 l1 x6_1).length < 17592186044416
       ·
        rw [if_pos c9] at H;have LMc9 := am c9;clear c9
        obtain ⟨y326, hy326⟩ : ∃ y_ : List Int, y_ = (y322 ++ (rd_L3 l1 x6_1)) := ⟨_, rfl⟩
        replace H : (spec_l1Make.l0 k1 l0 l1 y326 (wrap64 (x6_1 + 1))) = some r := by first | (rw [hy326]; with_reducible exact H) | (have H2_ := oB H; rw [hy326]; with_reducible exact H2_) | (have H2_ := oB H; with_reducible exact H2_) | with_reducible exact H | (rw [hy326]; exact H) | exact H
        replace hy326 := am hy326;have H' := am H;clear H;(try go_wp2);replace HO_5 := am (Kd.R_drew HO_5.out);replace HB := am (below_drew1 HB.out);have p321 : 0 ≤ (x6_1 : Int) := of_decide_eq_true (by assumption);have q321 : x6_1 < (l0.length : Int) := of_decide_eq_true (by assumption);obtain ⟨ad321, e321, hx321_0⟩ := Kd.at_int HR0.out x6_1 p321 q321;have hw321_0 := hx321_0;cases e321
        replace hx321_0 := (HB.out.cell (World.block_lt_of_cell? w _ hx321_0)).trans hx321_0;replace p321 := eq_true p321;replace q321 := eq_true q321;have p325 : 0 ≤ (x6_1 : Int) := of_decide_eq_true (by assumption);have q325 : x6_1 < (l1.length : Int) := of_decide_eq_true (by assumption);obtain ⟨ad325, A325_0, c325_0, e325, hx325_0, hl325_0, hi325_0⟩ := at_L3 HR1.out x6_1 p325 q325;have hw325_0 := hx325_0;cases e325
        replace hx325_0 := (HB.out.cell (World.block_lt_of_cell? w _ hx325_0)).trans hx325_0;have HR325_0 := am hi325_0;have HC325_0 := am hl325_0;clear hi325_0 hl325_0;replace p325 := eq_true p325;replace q325 := eq_true q325;refine start_ (n := 13) (S := fun w' => w'.cell? (ad321.add (x6_1).toNat) = some (.int .i64 (rd l0 x6_1)) ∧ w'.cell? (ad325.add (x6_1).toNat) = some (.slice A325_0 (rd_L3 l1 x6_1).length c325_0)) (ds := []) #[false, false, false, false, false, false, false, false, false, false, false, false, false] (by kernel_rfl) rfl rfl ⟨((HB.out.cell (World.block_lt_of_cell? w _ hw321_0)).trans hw321_0), ((HB.out.cell (World.block_lt_of_cell? w _ hw325_0)).trans hw325_0)⟩ (fun hHeld => ?_); refine with_tabW spec_l1Make.tab5 spec_l1Make.bits5 (fun HT_ HW_ => ?_);generalize wr.drew = w10 at HO_5 HB HR325_0 hx321_0 hx325_0 hHeld ⊢;refine pure_ (i := 0) (N := some 16) (v := ?_) (a' := ?_) #[true, false, false, false, false, false, false, false, false, false, false, false, false] rfl rfl (any_of HT_.out (by kernel_rfl)) (fun _ _ _ h => h) (Or.inl ⟨by rfl, ?_⟩) ?_ ?_;rotate_left
        ·
         intro w';go_simp;with_reducible rfl
        rotate_left
        ·
         simp only [Act.put, sA, sB, sC, i64_w, i32_w];rfl
        refine pure_ (i := 1) (N := some 17) (v := ?_) (a' := ?_) #[true, true, false, false, false, false, false, false, false, false, false, false, false] rfl rfl (any_of HT_.out (by kernel_rfl)) (fun _ _ _ h => h) (Or.inl ⟨by rfl, ?_⟩) ?_ ?_;rotate_left
        ·
         intro w';go_simp;with_reducible rfl
        rotate_left
        ·
         simp only [Act.put, sA, sB, sC, i64_w, i32_w];rfl
        refine pure_ (i := 2) (N := some 18) (v := ?_) (a' := ?_) #[true, true, true, false, false, false, false, false, false, false, false, false, false] rfl rfl (any_of HT_.out (by kernel_rfl)) (fun _ _ _ h => h) (Or.inl ⟨by rfl, ?_⟩) ?_ ?_;rotate_left
        ·
         intro w';go_simp;with_reducible rfl
        rotate_left
        ·
         simp only [Act.put, sA, sB, sC, i64_w, i32_w];rfl
        refine pure_ (i := 3) (N := some 19) (v := ?_) (a' := ?_) #[true, true, true, true, false, false, false, false, false, false, false, false, false] rfl rfl (any_of HT_.out (by kernel_rfl)) (fun _ _ _ h => h) (Or.inl ⟨by rfl, ?_⟩) ?_ ?_;rotate_left
        ·
         intro w';go_simp;with_reducible rfl
        rotate_left
        ·
         simp only [Act.put, sA, sB, sC, i64_w, i32_w];rfl
        refine pure_ (i := 7) (N := some 23) (v := ?_) (a' := ?_) #[true, true, true, true, false, false, false, true, false, false, false, false, false] rfl rfl (any_of HT_.out (by kernel_rfl)) (fun _ _ _ h => h) (Or.inl ⟨by rfl, ?_⟩) ?_ ?_;rotate_left
        ·
         intro w';go_simp;with_reducible rfl
        rotate_left
        ·
         simp only [Act.put, sA, sB, sC, i64_w, i32_w];rfl
        refine pure_ (i := 8) (N := some 24) (v := ?_) (a' := ?_) #[true, true, true, true, false, false, false, true, true, false, false, false, false] rfl rfl (any_of HT_.out (by kernel_rfl)) (fun _ _ _ h => h) (Or.inl ⟨by rfl, ?_⟩) ?_ ?_;rotate_left
        ·
         intro w';go_simp;with_reducible rfl
        rotate_left
        ·
         simp only [Act.put, sA, sB, sC, i64_w, i32_w];rfl
        refine pure_ (i := 9) (N := some 25) (v := ?_) (a' := ?_) #[true, true, true, true, false, false, false, true, true, true, false, false, false] rfl rfl (any_of HT_.out (by kernel_rfl)) (fun _ _ _ h => h) (Or.inl ⟨by rfl, ?_⟩) ?_ ?_;rotate_left
        ·
         intro w';go_simp;with_reducible rfl
        rotate_left
        ·
         simp only [Act.put, sA, sB, sC, i64_w, i32_w];rfl
        refine take_ (i := 4) (N := some 20) (v := ?_) (a' := ?_) #[true, true, true, true, true, false, false, true, true, true, false, false, false] rfl rfl (take_ofW HT_.out HW_.out (by kernel_rfl)) (fun _ _ _ h => h) (Or.inl ⟨by rfl, ?_⟩) hHeld ?_ ?_;rotate_left
        ·
         rintro w' ⟨s0, s1⟩
         go_simp;with_reducible rfl
        rotate_left
        ·
         simp only [Act.put, sA, sB, sC, i64_w, i32_w];rfl
        refine take_ (i := 10) (N := some 26) (v := ?_) (a' := ?_) #[true, true, true, true, true, false, false, true, true, true, true, false, false] rfl rfl (take_ofW HT_.out HW_.out (by kernel_rfl)) (fun _ _ _ h => h) (Or.inl ⟨by rfl, ?_⟩) hHeld ?_ ?_;rotate_left
        ·
         rintro w' ⟨s0, s1⟩
         go_simp;with_reducible rfl
        rotate_left
        ·
         simp only [Act.put, sA, sB, sC, i64_w, i32_w];rfl
        refine one_ (i := 5) (N := some 21) #[true, true, true, true, true, true, false, true, true, true, true, false, false] rfl rfl (one_of HT_.out (by kernel_rfl)) (by decide) (fun K hK => ?_);refine value_ (w1 := ?_) (v := ?_) (by rfl) rfl ?_ ?_;rotate_left 2
        ·
         go_simp
         constructor
         ·
          rfl
         ·
          rfl
        refine hK.out _ _ ⟨(World.cell?_alloc_lt _ _ _ (World.block_lt_of_cell? _ _ (((HB.out.cell (World.block_lt_of_cell? w _ hw321_0)).trans hw321_0)))).trans (((HB.out.cell (World.block_lt_of_cell? w _ hw321_0)).trans hw321_0)), (World.cell?_alloc_lt _ _ _ (World.block_lt_of_cell? _ _ (((HB.out.cell (World.block_lt_of_cell? w _ hw325_0)).trans hw325_0)))).trans (((HB.out.cell (World.block_lt_of_cell? w _ hw325_0)).trans hw325_0))⟩ (fun hHeld => ?_);clear hK K;refine norm_ (a' := ?_) ?_ ?_;rotate_left
        ·
         show Act.put _ (some 21) _ = _
         simp only [Act.put, sA, sB, sC, i64_w, i32_w];rfl
        refine one_ (i := 6) (N := some 22) #[true, true, true, true, true, true, true, true, true, true, true, false, false] rfl rfl (one_of HT_.out (by kernel_rfl)) (by decide) (fun K hK => ?_);refine Kd.R_append_step (Kd.int .i64) (w0 := w) w.heap.size (by rfl) (.tmp 16) (.tmp 21) 22 3 (.int .i64 0) 8 rfl Try.underlying22 info3 rfl (by decide) (by omega) u5 x5_1 (rd l0 x6_1) [.int .i64 (rd l0 x6_1)] (fun _ => True) (fun _ => False) rfl rfl ?aP (fun _ hk => hk.elim) ?aF ?aO ?aB ?aS ?aL ?_
        (case aP => exact rfl)
        (case aB => exact (bm HB.out))
        (case aF => exact (fun _ _ => trivial))
        (case aO => exact (Kd.rm HO_5.out))
        (case aS => exact (below_size (bm HB.out)))
        (case aL => have := LMc7.out; omega)
        intro v323 w11 ho hb hg hat;rw [← hy322.out] at ho;replace HB := am (hb);have HO324 := am (ho);clear HO_5;clear ho hb hg hat;refine hK.out _ _ ⟨((HB.out.cell (World.block_lt_of_cell? w _ hw321_0)).trans hw321_0), ((HB.out.cell (World.block_lt_of_cell? w _ hw325_0)).trans hw325_0)⟩ (fun hHeld => ?_);clear hK K;refine norm_ (a' := ?_) ?_ ?_;rotate_left
        ·
         show Act.put _ (some 22) _ = _
         simp only [Act.put, sA, sB, sC, i64_w, i32_w];rfl
        refine one_ (i := 11) (N := some 27) #[true, true, true, true, true, true, true, true, true, true, true, true, false] rfl rfl (one_of HT_.out (by kernel_rfl)) (by decide) (fun K hK => ?_);refine Kd.R_append_rows_step (Kd.int .i64) (w0 := w) w.heap.size (by rfl) (.tmp 22) (.tmp 26) 22 3 (.int .i64 0) 8 rfl Try.underlying22 info3 rfl (by decide) (by omega) v323 y322 (rd_L3 l1 x6_1) _ _ _ (fun _ => True) (fun _ => False) rfl rfl ?aO ?aR (fun _ _ h => h) (fun _ h => h.elim) ?aF ?aB ?aS ?aL ?_
        (case aR => exact Kd.cm ((Kd.C_below HR325_0.out HB.out)))
        (case aB => exact (bm HB.out))
        (case aF => exact (fun _ _ => trivial))
        (case aO => exact (Kd.rm HO324.out))
        (case aS => exact (below_size (bm HB.out)))
        (case aL => have := LMc9.out; omega)
        intro v327 w12 ho hb hg hat;rw [← hy326.out] at ho;replace HB := am (hb);have HO328 := am (ho);clear HO324;clear ho hb hg hat;refine hK.out _ _ ⟨((HB.out.cell (World.block_lt_of_cell? w _ hw321_0)).trans hw321_0), ((HB.out.cell (World.block_lt_of_cell? w _ hw325_0)).trans hw325_0)⟩ (fun hHeld => ?_);clear hK K;refine norm_ (a' := ?_) ?_ ?_;rotate_left
        ·
         show Act.put _ (some 27) _ = _
         simp only [Act.put, sA, sB, sC, i64_w, i32_w];rfl
        refine pure_ (i := 12) (N := some 5) (v := ?_) (a' := ?_) #[true, true, true, true, true, true, true, true, true, true, true, true, true] rfl rfl (any_of HT_.out (by kernel_rfl)) (fun _ _ _ h => h) (Or.inl ⟨by rfl, ?_⟩) ?_ ?_;rotate_left
        ·
         intro w';go_simp;with_reducible rfl
        rotate_left
        ·
         simp only [Act.put, sA, sB, sC, i64_w, i32_w];rfl
        refine done_ (done_of HT_.out (by kernel_rfl)) ?_;(try go_wp2)
        go_roundg k1
        case measure => have := HK1.out; omega
        case rel => exact ⟨(y326), (wrap64 (x6_1 + 1)), (by first | rfl | (simp; done) | (simp [*]; done)), H', ⟨by have := HK1.out; omega⟩, ⟨Kd.rm HO328.out⟩, ⟨bm HB.out⟩⟩
       ·
        rw [if_neg c9] at H;exact absurd H (by simp)
      ·
       rw [if_neg c8] at H;exact absurd H (by simp)
     ·
      rw [if_neg c7] at H;exact absurd H (by simp)
    ·
     rw [if_neg c6] at H;exact absurd H (by simp)
   ·
    rw [if_neg c5] at H;have c5b0 : decide (x6_1 < (l0.length : Int)) = false := decide_eq_false c5;clear c5;obtain rfl := Option.some.inj H;go_wp2;go_ret;exact ⟨_, by first | rfl | (simp [errW_none, errW_some] <;> rfl) | (simp [*, errW_none, errW_some] <;> rfl), Kd.rm HO_5.out, bm HB.out⟩

end Go.Proofs.Ytahhdbjjfdjloaa.Je

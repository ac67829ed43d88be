-- half
-- Written by a program of this session's (wip/mp) out of the translation, over the kit's print with changes.
import Derived.Test.YtomidfnhbnhhmaaKex0
import Derived.Test.YtomidfnhbnhhmaaKex6
namespace Go.Proofs.Ytomidfnhbnhhmaa.Ke
open Go.RowKit Go.Proofs.YtomidfnhbnhhmaaW.PrintWords Go.Proofs.YtomidfnhbnhhmaaW.PrintLast Go.Proofs.YtomidfnhbnhhmaaW.PrintMore
attribute [local go_sem] max2_int min2_int max_two min_two max_three min_three max_four min_four   -- for this text's walks alone
set_option linter.unusedVariables false
set_option linter.unusedSimpArgs false

/-! ### spec_l1Make: function 63 -/
def spec_l1Make.l0 : Nat → List Int → List (List Int) → List Int → Int → Option (List Int)
 | 0, _, _, _, _ => none
 | k + 1, x0, x1, x5, x6 => if x6 < (x0.length : Int) then (if 0 ≤ x6 then (if x5.length < 17592186044416 then ((some (x5 ++ [rd x0 x6] : List Int)).bind fun y248 => (if x6 < (x1.length : Int) then (if y248.length + (rd_L2 x1 x6).length < 17592186044416 then (spec_l1Make.l0 k x0 x1 (y248 ++ (rd_L2 x1 x6)) (wrap64 (x6 + 1))) else (none)) else (none))) else (none)) else (none)) else (some x5)
def spec_l1Make.f (k : Nat) (l0 : List Int) (l1 : List (List Int)) : Option (List Int) := spec_l1Make.l0 k l0 l1 (([(l0.length : Int)] : List Int)) 0
theorem spec_l1Make.mono_l : ∀ k, (∀ y0 y1 y2 y3, LeO (spec_l1Make.l0 k y0 y1 y2 y3) (spec_l1Make.l0 (k + 1) y0 y1 y2 y3))
 | 0 => fun _ _ _ _ r h => by simp [spec_l1Make.l0] at h
 | k + 1 => by
  have ih0 := spec_l1Make.mono_l k
  ·
   intro y0 y1 y2 y3;unfold spec_l1Make.l0
   repeat' first | (with_reducible exact ih0 _ _ _ _) | (with_reducible exact LeO.refl _) | (with_reducible exact LeO.none _) | (with_reducible refine LeO.ite ?_ ?_) | (with_reducible refine LeO.bind ?_ (fun _ => ?_))
theorem spec_l1Make.mono : ∀ a0 a1 k, LeO (spec_l1Make.f k a0 a1) (spec_l1Make.f (k + 1) a0 a1) := by
 intro a0 a1 k;have ih0 := spec_l1Make.mono_l k;unfold spec_l1Make.f
 repeat' first | (with_reducible exact ih0 _ _ _ _) | (with_reducible exact LeO.refl _) | (with_reducible exact LeO.none _) | (with_reducible refine LeO.ite ?_ ?_) | (with_reducible refine LeO.bind ?_ (fun _ => ?_))
def spec_l1Make.T5 : Bool × List (List Nat × List Nat) := (true, [([], []), ([], []), ([], []), ([1, 2], [1, 2]), ([3], [3]), ([4], [4]), ([0, 5], [0, 5]), ([], []), ([], []), ([7, 8], [7, 8]), ([9], [9]), ([6, 10, 6], [6, 10]), ([11, 11, 0, 1, 2, 3, 4, 5, 6, 7, 8, 9, 10, 11], [0, 11])])
def spec_l1Make.B5 : List Nat := [0, 0, 0, 6, 14, 30, 63, 0, 0, 384, 896, 2047, 4095]
theorem spec_l1Make.tab5 : rtab .any (opsOf Try.f63 5) = spec_l1Make.T5 := by kernel_rfl
theorem spec_l1Make.bits5 : waitsOk spec_l1Make.T5.2 spec_l1Make.B5 = true := by kernel_rfl
set_option maxHeartbeats 8000000 in
set_option maxRecDepth 100000 in
theorem spec_l1Make.calls (k : Nat) (A0 : Option Addr) (c0 : Nat) (l0 : List Int) (A1 : Option Addr) (c1 : Nat) (l1 : List (List Int)) (r : List Int) (w : World) (hr0 : Kd.C (Kd.int .i64) w A0 l0.length l0) (hc0 : l0.length ≤ c0) (hr1 : Kd.C (Kd.slice 3 (Kd.int .i64)) w A1 l1.length l1) (hc1 : l1.length ≤ c1) (h : spec_l1Make.f k l0 l1 = some r) :
  Calls Try.prog 63 #[.slice A0 l0.length c0, .slice A1 l1.length c1] w fun e w' => ∃ v0_ : Value, e = .returned (v0_) ∧ Kd.R (Kd.int .i64) 3 w' w.heap.size (fun _ => True) v0_ r ∧ Below w.heap.size w w' := by
 have HR0 := am hr0;have HC0 := am hc0;clear hr0 hc0;have HR1 := am hr1;have HC1 := am hc1;clear hr1 hc1;have HB := am (Below.refl w.heap.size w);have H : (spec_l1Make.l0 k l0 l1 (([(l0.length : Int)] : List Int)) 0) = some r := h;clear h
 obtain ⟨y244, hy244⟩ : ∃ y_ : List Int, y_ = (([(l0.length : Int)] : List Int)) := ⟨_, rfl⟩
 replace H : (spec_l1Make.l0 k l0 l1 y244 0) = some r := by first | (rw [hy244]; with_reducible exact H) | (have H2_ := oB H; rw [hy244]; with_reducible exact H2_) | (have H2_ := oB H; with_reducible exact H2_) | with_reducible exact H | (rw [hy244]; exact H) | exact H
 replace hy244 := am hy244;have H' := am H;clear H;go_enter Try.func63, Try.ntmps63;go_wp2_with (first | ((with_reducible refine gate_dst (N := 9) rfl ?_); refine Kd.R_lit (Kd.int .i64) _ 3 ?hg (N := 9) ?hd (xs := ([(l0.length : Int)] : List Int)) (inner := [.int .i64 (l0.length : Int)]) (ok := fun _ => True) (okp := fun _ => True) ?hr ?hp (fun _ hk => hk) trivial (Below.refl _ _) (Nat.le_refl _) (by simp) ?_; (case hd => rfl); (case hg => rfl); (case hr => first | (go_simp; done) | (go_simp; rfl)); (case hp => exact (Reps.one (show Kd.M (Kd.int .i64) _ _ _ (l0.length : Int) [.int .i64 (l0.length : Int)] from rfl) (Reps.none _ _))); intro v245 w3 ho4 hb hg_ hnew_; clear hg_ hnew_; (first | rw [← hy244.out] at ho4 | (simp only [Int.reduceToNat] at ho4; rw [← hy244.out] at ho4)); have HO246 := am (Kd.R_lower ho4 (below_size (bm HB.out)));replace HB := am (below_step (bm HB.out) hb); clear hb ho4))
 go_loopg [5, 6] k (fun kq v5 v6 w' => ∃ (x5_1 : List Int) (x6_1 : Int), v6 = .int .i64 x6_1 ∧ Aside0 (spec_l1Make.l0 kq l0 l1 x5_1 x6_1 = some r) ∧ Aside0 (kq ≤ k) ∧ Aside0 (Kd.R (Kd.int .i64) 3 w' w.heap.size (fun _ => True) v5 x5_1) ∧ Aside0 (Below w.heap.size w w'))
 case atStart => exact ⟨(y244), (0), (by first | rfl | (simp; done) | (simp [*]; done)), H', ⟨Nat.le_refl _⟩, ⟨Kd.rm HO246.out⟩, ⟨bm HB.out⟩⟩
 case round =>
  clear H';(try clear c1);(try clear p2);(try clear HO_5);(try clear HB);obtain ⟨x5_1, x6_1, rfl, HA, HK1, HO_5, HB⟩ := hrel
  cases gk with
  | zero => exact absurd HA.out (by simp [spec_l1Make.l0])
  | succ k1 =>
   have H := HA.out;clear HA;simp only [spec_l1Make.l0] at H;by_cases c5 : x6_1 < (l0.length : Int)
   ·
    rw [if_pos c5] at H;have c5b0 : decide (x6_1 < (l0.length : Int)) = true := decide_eq_true c5;clear c5;by_cases c6 : 0 ≤ x6_1
    ·
     rw [if_pos c6] at H;have c6b0 : decide (0 ≤ x6_1) = true := decide_eq_true c6;clear c6;by_cases c7 : x5_1.length < 17592186044416
     ·
      rw [if_pos c7] at H;have LMc7 := am c7;clear c7
      obtain ⟨y248, hy248⟩ : ∃ y_ : List Int, y_ = (x5_1 ++ [rd l0 x6_1]) := ⟨_, rfl⟩
      replace H : (if x6_1 < (l1.length : Int) then (if y248.length + (rd_L2 l1 x6_1).length < 17592186044416 then (spec_l1Make.l0 k1 l0 l1 (y248 ++ (rd_L2 l1 x6_1)) (wrap64 (x6_1 + 1))) else (none)) else (none)) = some r := by first | (rw [hy248]; with_reducible exact H) | (have H2_ := oB H; rw [hy248]; with_reducible exact H2_) | (have H2_ := oB H; with_reducible exact H2_) | with_reducible exact H | (rw [hy248]; exact H) | exact H
      replace hy248 := am hy248;by_cases c8 : x6_1 < (l1.length : Int)
      ·
       rw [if_pos c8] at H;have c8b0 : decide (x6_1 < (l1.length : Int)) = true := decide_eq_true c8;clear c8;by_cases c9 : y248.length + (rd_L2 l1 x6_1).length < 17592186044416
       ·
        rw [if_pos c9] at H;have LMc9 := am c9;clear c9
        obtain ⟨y252, hy252⟩ : ∃ y_ : List Int, y_ = (y248 ++ (rd_L2 l1 x6_1)) := ⟨_, rfl⟩
        replace H : (spec_l1Make.l0 k1 l0 l1 y252 (wrap64 (x6_1 + 1))) = some r := by first | (rw [hy252]; with_reducible exact H) | (have H2_ := oB H; rw [hy252]; with_reducible exact H2_) | (have H2_ := oB H; with_reducible exact H2_) | with_reducible exact H | (rw [hy252]; exact H) | exact H
        replace hy252 := am hy252;have H' := am H;clear H;(try go_wp2);replace HO_5 := am (Kd.R_drew HO_5.out);replace HB := am (below_drew1 HB.out);have p247 : 0 ≤ (x6_1 : Int) := of_decide_eq_true (by assumption);have q247 : x6_1 < (l0.length : Int) := of_decide_eq_true (by assumption);obtain ⟨ad247, e247, hx247_0⟩ := Kd.at_int HR0.out x6_1 p247 q247;have hw247_0 := hx247_0;cases e247
        replace hx247_0 := (HB.out.cell (World.block_lt_of_cell? w _ hx247_0)).trans hx247_0;replace p247 := eq_true p247;replace q247 := eq_true q247;have p251 : 0 ≤ (x6_1 : Int) := of_decide_eq_true (by assumption);have q251 : x6_1 < (l1.length : Int) := of_decide_eq_true (by assumption);obtain ⟨ad251, A251_0, c251_0, e251, hx251_0, hl251_0, hi251_0⟩ := at_L2 HR1.out x6_1 p251 q251;have hw251_0 := hx251_0;cases e251
        replace hx251_0 := (HB.out.cell (World.block_lt_of_cell? w _ hx251_0)).trans hx251_0;have HR251_0 := am hi251_0;have HC251_0 := am hl251_0;clear hi251_0 hl251_0;replace p251 := eq_true p251;replace q251 := eq_true q251;refine start_ (n := 13) (S := fun w' => w'.cell? (ad247.add (x6_1).toNat) = some (.int .i64 (rd l0 x6_1)) ∧ w'.cell? (ad251.add (x6_1).toNat) = some (.slice A251_0 (rd_L2 l1 x6_1).length c251_0)) (ds := []) #[false, false, false, false, false, false, false, false, false, false, false, false, false] (by kernel_rfl) rfl rfl ⟨((HB.out.cell (World.block_lt_of_cell? w _ hw247_0)).trans hw247_0), ((HB.out.cell (World.block_lt_of_cell? w _ hw251_0)).trans hw251_0)⟩ (fun hHeld => ?_); refine with_tabW spec_l1Make.tab5 spec_l1Make.bits5 (fun HT_ HW_ => ?_);generalize wr.drew = w10 at HO_5 HB HR251_0 hx247_0 hx251_0 hHeld ⊢;refine pure_ (i := 0) (N := some 16) (v := ?_) (a' := ?_) #[true, false, false, false, false, false, false, false, false, false, false, false, false] rfl rfl (any_of HT_.out (by kernel_rfl)) (fun _ _ _ h => h) (Or.inl ⟨by rfl, ?_⟩) ?_ ?_;rotate_left
        ·
         intro w';go_simp;with_reducible rfl
        rotate_left
        ·
         simp only [Act.put, sA, sB, sC, i64_w, i32_w];rfl
        refine pure_ (i := 1) (N := some 17) (v := ?_) (a' := ?_) #[true, true, false, false, false, false, false, false, false, false, false, false, false] rfl rfl (any_of HT_.out (by kernel_rfl)) (fun _ _ _ h => h) (Or.inl ⟨by rfl, ?_⟩) ?_ ?_;rotate_left
        ·
         intro w';go_simp;with_reducible rfl
        rotate_left
        ·
         simp only [Act.put, sA, sB, sC, i64_w, i32_w];rfl
        refine pure_ (i := 2) (N := some 18) (v := ?_) (a' := ?_) #[true, true, true, false, false, false, false, false, false, false, false, false, false] rfl rfl (any_of HT_.out (by kernel_rfl)) (fun _ _ _ h => h) (Or.inl ⟨by rfl, ?_⟩) ?_ ?_;rotate_left
        ·
         intro w';go_simp;with_reducible rfl
        rotate_left
        ·
         simp only [Act.put, sA, sB, sC, i64_w, i32_w];rfl
        refine pure_ (i := 3) (N := some 19) (v := ?_) (a' := ?_) #[true, true, true, true, false, false, false, false, false, false, false, false, false] rfl rfl (any_of HT_.out (by kernel_rfl)) (fun _ _ _ h => h) (Or.inl ⟨by rfl, ?_⟩) ?_ ?_;rotate_left
        ·
         intro w';go_simp;with_reducible rfl
        rotate_left
        ·
         simp only [Act.put, sA, sB, sC, i64_w, i32_w];rfl
        refine pure_ (i := 7) (N := some 23) (v := ?_) (a' := ?_) #[true, true, true, true, false, false, false, true, false, false, false, false, false] rfl rfl (any_of HT_.out (by kernel_rfl)) (fun _ _ _ h => h) (Or.inl ⟨by rfl, ?_⟩) ?_ ?_;rotate_left
        ·
         intro w';go_simp;with_reducible rfl
        rotate_left
        ·
         simp only [Act.put, sA, sB, sC, i64_w, i32_w];rfl
        refine pure_ (i := 8) (N := some 24) (v := ?_) (a' := ?_) #[true, true, true, true, false, false, false, true, true, false, false, false, false] rfl rfl (any_of HT_.out (by kernel_rfl)) (fun _ _ _ h => h) (Or.inl ⟨by rfl, ?_⟩) ?_ ?_;rotate_left
        ·
         intro w';go_simp;with_reducible rfl
        rotate_left
        ·
         simp only [Act.put, sA, sB, sC, i64_w, i32_w];rfl
        refine pure_ (i := 9) (N := some 25) (v := ?_) (a' := ?_) #[true, true, true, true, false, false, false, true, true, true, false, false, false] rfl rfl (any_of HT_.out (by kernel_rfl)) (fun _ _ _ h => h) (Or.inl ⟨by rfl, ?_⟩) ?_ ?_;rotate_left
        ·
         intro w';go_simp;with_reducible rfl
        rotate_left
        ·
         simp only [Act.put, sA, sB, sC, i64_w, i32_w];rfl
        refine take_ (i := 4) (N := some 20) (v := ?_) (a' := ?_) #[true, true, true, true, true, false, false, true, true, true, false, false, false] rfl rfl (take_ofW HT_.out HW_.out (by kernel_rfl)) (fun _ _ _ h => h) (Or.inl ⟨by rfl, ?_⟩) hHeld ?_ ?_;rotate_left
        ·
         rintro w' ⟨s0, s1⟩
         go_simp;with_reducible rfl
        rotate_left
        ·
         simp only [Act.put, sA, sB, sC, i64_w, i32_w];rfl
        refine take_ (i := 10) (N := some 26) (v := ?_) (a' := ?_) #[true, true, true, true, true, false, false, true, true, true, true, false, false] rfl rfl (take_ofW HT_.out HW_.out (by kernel_rfl)) (fun _ _ _ h => h) (Or.inl ⟨by rfl, ?_⟩) hHeld ?_ ?_;rotate_left
        ·
         rintro w' ⟨s0, s1⟩
         go_simp;with_reducible rfl
        rotate_left
        ·
         simp only [Act.put, sA, sB, sC, i64_w, i32_w];rfl
        refine one_ (i := 5) (N := some 21) #[true, true, true, true, true, true, false, true, true, true, true, false, false] rfl rfl (one_of HT_.out (by kernel_rfl)) (by decide) (fun K hK => ?_);refine value_ (w1 := ?_) (v := ?_) (by rfl) rfl ?_ ?_;rotate_left 2
        ·
         go_simp
         constructor
         ·
          rfl
         ·
          rfl
        refine hK.out _ _ ⟨(World.cell?_alloc_lt _ _ _ (World.block_lt_of_cell? _ _ (((HB.out.cell (World.block_lt_of_cell? w _ hw247_0)).trans hw247_0)))).trans (((HB.out.cell (World.block_lt_of_cell? w _ hw247_0)).trans hw247_0)), (World.cell?_alloc_lt _ _ _ (World.block_lt_of_cell? _ _ (((HB.out.cell (World.block_lt_of_cell? w _ hw251_0)).trans hw251_0)))).trans (((HB.out.cell (World.block_lt_of_cell? w _ hw251_0)).trans hw251_0))⟩ (fun hHeld => ?_);clear hK K;refine norm_ (a' := ?_) ?_ ?_;rotate_left
        ·
         show Act.put _ (some 21) _ = _
         simp only [Act.put, sA, sB, sC, i64_w, i32_w];rfl
        refine one_ (i := 6) (N := some 22) #[true, true, true, true, true, true, true, true, true, true, true, false, false] rfl rfl (one_of HT_.out (by kernel_rfl)) (by decide) (fun K hK => ?_);refine Kd.R_append_step (Kd.int .i64) (w0 := w) w.heap.size (by rfl) (.tmp 16) (.tmp 21) 25 3 (.int .i64 0) 8 rfl Try.underlying25 info3 rfl (by decide) (by omega) u5 x5_1 (rd l0 x6_1) [.int .i64 (rd l0 x6_1)] (fun _ => True) (fun _ => False) rfl rfl ?aP (fun _ hk => hk.elim) ?aF ?aO ?aB ?aS ?aL ?_
        (case aP => exact rfl)
        (case aB => exact (bm HB.out))
        (case aF => exact (fun _ _ => trivial))
        (case aO => exact (Kd.rm HO_5.out))
        (case aS => exact (below_size (bm HB.out)))
        (case aL => have := LMc7.out; omega)
        intro v249 w11 ho hb hg hat;rw [← hy248.out] at ho;replace HB := am (hb);have HO250 := am (ho);clear HO_5;clear ho hb hg hat;refine hK.out _ _ ⟨((HB.out.cell (World.block_lt_of_cell? w _ hw247_0)).trans hw247_0), ((HB.out.cell (World.block_lt_of_cell? w _ hw251_0)).trans hw251_0)⟩ (fun hHeld => ?_);clear hK K;refine norm_ (a' := ?_) ?_ ?_;rotate_left
        ·
         show Act.put _ (some 22) _ = _
         simp only [Act.put, sA, sB, sC, i64_w, i32_w];rfl
        refine one_ (i := 11) (N := some 27) #[true, true, true, true, true, true, true, true, true, true, true, true, false] rfl rfl (one_of HT_.out (by kernel_rfl)) (by decide) (fun K hK => ?_);refine Kd.R_append_rows_step (Kd.int .i64) (w0 := w) w.heap.size (by rfl) (.tmp 22) (.tmp 26) 25 3 (.int .i64 0) 8 rfl Try.underlying25 info3 rfl (by decide) (by omega) v249 y248 (rd_L2 l1 x6_1) _ _ _ (fun _ => True) (fun _ => False) rfl rfl ?aO ?aR (fun _ _ h => h) (fun _ h => h.elim) ?aF ?aB ?aS ?aL ?_
        (case aR => exact Kd.cm ((Kd.C_below HR251_0.out HB.out)))
        (case aB => exact (bm HB.out))
        (case aF => exact (fun _ _ => trivial))
        (case aO => exact (Kd.rm HO250.out))
        (case aS => exact (below_size (bm HB.out)))
        (case aL => have := LMc9.out; omega)
        intro v253 w12 ho hb hg hat;rw [← hy252.out] at ho;replace HB := am (hb);have HO254 := am (ho);clear HO250;clear ho hb hg hat;refine hK.out _ _ ⟨((HB.out.cell (World.block_lt_of_cell? w _ hw247_0)).trans hw247_0), ((HB.out.cell (World.block_lt_of_cell? w _ hw251_0)).trans hw251_0)⟩ (fun hHeld => ?_);clear hK K;refine norm_ (a' := ?_) ?_ ?_;rotate_left
        ·
         show Act.put _ (some 27) _ = _
         simp only [Act.put, sA, sB, sC, i64_w, i32_w];rfl
        refine pure_ (i := 12) (N := some 5) (v := ?_) (a' := ?_) #[true, true, true, true, true, true, true, true, true, true, true, true, true] rfl rfl (any_of HT_.out (by kernel_rfl)) (fun _ _ _ h => h) (Or.inl ⟨by rfl, ?_⟩) ?_ ?_;rotate_left
        ·
         intro w';go_simp;with_reducible rfl
        rotate_left
        ·
         simp only [Act.put, sA, sB, sC, i64_w, i32_w];rfl
        refine done_ (done_of HT_.out (by kernel_rfl)) ?_;(try go_wp2)
        go_roundg k1
        case measure => have := HK1.out; omega
        case rel => exact ⟨(y252), (wrap64 (x6_1 + 1)), (by first | rfl | (simp; done) | (simp [*]; done)), H', ⟨by have := HK1.out; omega⟩, ⟨Kd.rm HO254.out⟩, ⟨bm HB.out⟩⟩
       ·
        rw [if_neg c9] at H;exact absurd H (by simp)
      ·
       rw [if_neg c8] at H;exact absurd H (by simp)
     ·
      rw [if_neg c7] at H;exact absurd H (by simp)
    ·
     rw [if_neg c6] at H;exact absurd H (by simp)
   ·
    rw [if_neg c5] at H;have c5b0 : decide (x6_1 < (l0.length : Int)) = false := decide_eq_false c5;clear c5;obtain rfl := Option.some.inj H;go_wp2;go_ret;exact ⟨_, by first | rfl | (simp [errW_none, errW_some] <;> rfl) | (simp [*, errW_none, errW_some] <;> rfl), Kd.rm HO_5.out, bm HB.out⟩

/-! ### spec_l4Ord: function 47 -/
mutual
def spec_l4Ord.l0 : Nat → Int → Int → List Int → List (List Int) → Option (List Int)
 | 0, _, _, _, _ => none
 | k + 1, x0, x1, x5, x6 => if x0 > 0 then (spec_l4Ord.l1 k x0 x1 x5 x6 1 0) else ((spec_l1Make.f k x5 x6).bind fun t261 => (some t261))
def spec_l4Ord.l1 : Nat → Int → Int → List Int → List (List Int) → Int → Int → Option (List Int)
 | 0, _, _, _, _, _, _ => none
 | k + 1, x0, x1, x5, x6, x7, x8 => if x1 = 0 then (none) else (if x7 ≤ (wrap64 (Int.tdiv x0 x1)) then (spec_l4Ord.l1 k x0 x1 x5 x6 (wrap64 (x7 * x1)) (wrap64 (x8 + 1))) else (if x7 = 0 then (none) else (if x5.length < 17592186044416 then ((spec_l4Ord.f k x8 x1).bind fun t267 => (if x6.length < 5864062014805 then (spec_l4Ord.l0 k (Int.tmod x0 x7) x1 (x5 ++ [wrap64 (Int.tdiv x0 x7)]) (x6 ++ [t267])) else (none))) else (none))))
def spec_l4Ord.f : Nat → Int → Int → Option (List Int)
 | 0, _, _ => none
 | k + 1, a0, a1 => spec_l4Ord.l0 k a0 a1 (([] : List Int)) (([] : List (List Int)))
end
theorem spec_l4Ord.mono_l : ∀ k, (∀ y0 y1, LeO (spec_l4Ord.f k y0 y1) (spec_l4Ord.f (k + 1) y0 y1)) ∧ (∀ y0 y1 y2 y3, LeO (spec_l4Ord.l0 k y0 y1 y2 y3) (spec_l4Ord.l0 (k + 1) y0 y1 y2 y3)) ∧ (∀ y0 y1 y2 y3 y4 y5, LeO (spec_l4Ord.l1 k y0 y1 y2 y3 y4 y5) (spec_l4Ord.l1 (k + 1) y0 y1 y2 y3 y4 y5))
 | 0 => ⟨fun _ _ r h => by simp [spec_l4Ord.f] at h, fun _ _ _ _ r h => by simp [spec_l4Ord.l0] at h, fun _ _ _ _ _ _ r h => by simp [spec_l4Ord.l1] at h⟩
 | k + 1 => by
  obtain ⟨ih0, ih1, ih2⟩ := spec_l4Ord.mono_l k;refine ⟨?_, ?_, ?_⟩
  all_goals (intros; first | unfold spec_l4Ord.f | unfold spec_l4Ord.l0 | unfold spec_l4Ord.l1)
  all_goals repeat' first | (with_reducible exact ih0 _ _) | (with_reducible exact ih1 _ _ _ _) | (with_reducible exact ih2 _ _ _ _ _ _) | (with_reducible exact spec_l1Make.mono _ _ _) | (with_reducible exact LeO.refl _) | (with_reducible exact LeO.none _) | (with_reducible refine LeO.ite ?_ ?_) | (with_reducible refine LeO.bind ?_ (fun _ => ?_))
theorem spec_l4Ord.mono : ∀ a0 a1 k, LeO (spec_l4Ord.f k a0 a1) (spec_l4Ord.f (k + 1) a0 a1) := by
 intro a0 a1 k;obtain ⟨ih0, ih1, ih2⟩ := spec_l4Ord.mono_l k;exact ih0 a0 a1
set_option maxHeartbeats 8000000 in
set_option maxRecDepth 100000 in
theorem spec_l4Ord.calls (k : Nat) : ∀ (a0 : Int) (a1 : Int) (r : List Int) (w : World) (h : spec_l4Ord.f k a0 a1 = some r),
  Calls Try.prog 47 #[.int .i64 a0, .int .i64 a1] w fun e w' => ∃ v0_ : Value, e = .returned (v0_) ∧ Kd.R (Kd.int .i64) 3 w' w.heap.size (fun _ => True) v0_ r ∧ Below w.heap.size w w' := by
 induction k using Nat.strongRecOn with
 | _ k ih =>
 intro a0 a1 r w h
 cases k with
 | zero => exact absurd h (by simp [spec_l4Ord.f])
 | succ k =>
 simp only [spec_l4Ord.f] at h;have HB := am (Below.refl w.heap.size w);have H : (spec_l4Ord.l0 k a0 a1 (([] : List Int)) (([] : List (List Int)))) = some r := h;clear h
 obtain ⟨y255, hy255⟩ : ∃ y_ : List Int, y_ = (([] : List Int)) := ⟨_, rfl⟩
 replace H : (spec_l4Ord.l0 k a0 a1 y255 (([] : List (List Int)))) = some r := by first | (rw [hy255]; with_reducible exact H) | (have H2_ := oB H; rw [hy255]; with_reducible exact H2_) | (have H2_ := oB H; with_reducible exact H2_) | with_reducible exact H | (rw [hy255]; exact H) | exact H
 replace hy255 := am hy255
 obtain ⟨y258, hy258⟩ : ∃ y_ : List (List Int), y_ = (([] : List (List Int))) := ⟨_, rfl⟩
 replace H : (spec_l4Ord.l0 k a0 a1 y255 y258) = some r := by first | (rw [hy258]; with_reducible exact H) | (have H2_ := oB H; rw [hy258]; with_reducible exact H2_) | (have H2_ := oB H; with_reducible exact H2_) | with_reducible exact H | (rw [hy258]; exact H) | exact H
 replace hy258 := am hy258;have H' := am H;clear H;go_enter Try.func47, Try.ntmps47;go_wp2_with (first | ((with_reducible refine gate_dst (N := 9) rfl ?_); refine Kd.R_lit (Kd.int .i64) _ 3 ?hg (N := 9) ?hd (xs := ([] : List Int)) (inner := []) (ok := fun _ => True) (okp := fun _ => True) ?hr ?hp (fun _ hk => hk) trivial (Below.refl _ _) (Nat.le_refl _) (by simp) ?_; (case hd => rfl); (case hg => rfl); (case hr => first | (go_simp; done) | (go_simp; rfl)); (case hp => exact (Reps.none _ _)); intro v256 w3 ho4 hb hg_ hnew_; clear hg_ hnew_; (first | rw [← hy255.out] at ho4 | (simp only [Int.reduceToNat] at ho4; rw [← hy255.out] at ho4)); have HO257 := am (Kd.R_lower ho4 (below_size (bm HB.out)));replace HB := am (below_step (bm HB.out) hb); clear hb ho4) | ((with_reducible refine gate_dst (N := 10) rfl ?_); refine Kd.S_lit (Kd.slice 3 (Kd.int .i64)) _ 25 ?hg (N := 10) ?hd (xs := ([] : List (List Int))) (inner := []) (ok := fun _ => True) (okp := fun _ => True) ?hr ?hp (fun _ hk => hk) trivial (Below.refl _ _) (Nat.le_refl _) (by simp) ?_; (case hd => rfl); (case hg => rfl); (case hr => first | (go_simp; done) | (go_simp; rfl)); (case hp => exact (Reps.none _ _)); intro v259 w5 ho6 hb hg_ hnew_; clear hg_ hnew_; (first | rw [← hy258.out] at ho6 | (simp only [Int.reduceToNat] at ho6; rw [← hy258.out] at ho6)); have HO260 := am (Kd.S_lower (Kd.S_new' ho6 (Kd.R_lt (Kd.rm HO257.out))) (below_size (bm HB.out)));replace HO257 := am (Kd.R_below (Kd.rm HO257.out) hb);replace HB := am (below_step (bm HB.out) hb); clear hb ho6))
 go_loopg [0, 5, 6] k (fun kq v0 v5 v6 w' => ∃ (x0_1 : Int) (x5_1 : List Int) (x6_1 : List (List Int)), v0 = .int .i64 x0_1 ∧ Aside0 (spec_l4Ord.l0 kq x0_1 a1 x5_1 x6_1 = some r) ∧ Aside0 (kq ≤ k) ∧ Aside0 (Kd.R (Kd.int .i64) 3 w' w.heap.size (fun _ => True) v5 x5_1) ∧ Aside0 (Kd.S (Kd.slice 3 (Kd.int .i64)) 25 w' w.heap.size (fun k_ => some k_ ≠ (v5 : Value).ownBlock) v6 x6_1) ∧ Aside0 (Below w.heap.size w w'))
 case atStart => exact ⟨(a0), (y255), (y258), (by first | rfl | (simp; done) | (simp [*]; done)), H', ⟨Nat.le_refl _⟩, ⟨Kd.rm HO257.out⟩, ⟨Kd.S_below (Kd.S_mono HO260.out (fun _ hk => hk.2)) Mv.out⟩, ⟨bm HB.out⟩⟩
 case round =>
  clear H';(try clear p2);(try clear c4);(try clear HO_5);(try clear HO_6);(try clear HB);obtain ⟨x0_1, x5_1, x6_1, rfl, HA, HK1, HO_5, HO_6, HB⟩ := hrel
  cases gk with
  | zero => exact absurd HA.out (by simp [spec_l4Ord.l0])
  | succ k1 =>
   have H := HA.out;clear HA;simp only [spec_l4Ord.l0] at H;by_cases c7 : x0_1 > 0
   ·
    rw [if_pos c7] at H;have c7b0 : decide (0 < x0_1) = true := decide_eq_true c7;clear c7;have H' := am H;clear H;go_wp2
    go_loopg [7, 8] k1 (fun kq v7 v8 w' => ∃ (x7_2 : Int) (x8_2 : Int), v7 = .int .i64 x7_2 ∧ v8 = .int .i64 x8_2 ∧ Aside0 (spec_l4Ord.l1 kq x0_1 a1 x5_1 x6_1 x7_2 x8_2 = some r) ∧ Aside0 (kq ≤ k1) ∧ Aside0 (Kd.R (Kd.int .i64) 3 w' w.heap.size (fun _ => True) u5 x5_1) ∧ Aside0 (Kd.S (Kd.slice 3 (Kd.int .i64)) 25 w' w.heap.size (fun k_ => some k_ ≠ (u5 : Value).ownBlock) u6 x6_1) ∧ Aside0 (Below w.heap.size w w'))
    case atStart => exact ⟨(1), (0), (by first | rfl | (simp; done) | (simp [*]; done)), (by first | rfl | (simp; done) | (simp [*]; done)), H', ⟨Nat.le_refl _⟩, ⟨Kd.rm HO_5.out⟩, ⟨Kd.S_below HO_6.out Mv.out⟩, ⟨bm HB.out⟩⟩
    case round =>
     clear H';(try clear p2);(try clear c4);(try clear c7);(try clear c7b0);(try clear p2);(try clear HO_5);(try clear HO_6);(try clear HB);obtain ⟨x7_2, x8_2, rfl, rfl, HA, HK2, HO_5, HO_6, HB⟩ := hrel
     cases gk with
     | zero => exact absurd HA.out (by simp [spec_l4Ord.l1])
     | succ k2 =>
      have H := HA.out;clear HA;simp only [spec_l4Ord.l1] at H;by_cases c8 : a1 = 0
      ·
       rw [if_pos c8] at H;exact absurd H (by simp)
      ·
       rw [if_neg c8] at H;have c8b0 : (a1 == 0) = false := beq_eq_false_iff_ne.mpr c8;have c8b1 : (a1 != 0) = true := bne_iff_ne.mpr c8;by_cases c9 : x7_2 ≤ (wrap64 (Int.tdiv x0_1 a1))
       ·
        rw [if_pos c9] at H;have c9b0 : decide (x7_2 ≤ (wrap64 (Int.tdiv x0_1 a1))) = true := decide_eq_true c9;clear c9;have H' := am H;clear H;go_wp2
        go_roundg k2
        case measure => have := HK1.out; have := HK2.out; omega
        case rel => exact ⟨(wrap64 (x7_2 * a1)), (wrap64 (x8_2 + 1)), (by first | rfl | (simp; done) | (simp [*]; done)), (by first | rfl | (simp; done) | (simp [*]; done)), H', ⟨by have := HK1.out; have := HK2.out; omega⟩, ⟨Kd.rm HO_5.out⟩, ⟨Kd.S_below HO_6.out Mv.out⟩, ⟨bm HB.out⟩⟩
       ·
        rw [if_neg c9] at H;have c9b0 : decide (x7_2 ≤ (wrap64 (Int.tdiv x0_1 a1))) = false := decide_eq_false c9;clear c9;by_cases c10 : x7_2 = 0
        ·
         rw [if_pos c10] at H;exact absurd H (by simp)
        ·
         rw [if_neg c10] at H;have c10b0 : (x7_2 == 0) = false := beq_eq_false_iff_ne.mpr c10;have c10b1 : (x7_2 != 0) = true := bne_iff_ne.mpr c10;by_cases c11 : x5_1.length < 17592186044416
         ·
          rw [if_pos c11] at H;have LMc11 := am c11;clear c11
          obtain ⟨y264, hy264⟩ : ∃ y_ : List Int, y_ = (x5_1 ++ [wrap64 (Int.tdiv x0_1 x7_2)]) := ⟨_, rfl⟩
          replace H : ((spec_l4Ord.f k2 x8_2 a1).bind fun t267 => (if x6_1.length < 5864062014805 then (spec_l4Ord.l0 k2 (Int.tmod x0_1 x7_2) a1 y264 (x6_1 ++ [t267])) else (none))) = some r := by first | (rw [hy264]; with_reducible exact H) | (have H2_ := oB H; rw [hy264]; with_reducible exact H2_) | (have H2_ := oB H; with_reducible exact H2_) | with_reducible exact H | (rw [hy264]; exact H) | exact H
          replace hy264 := am hy264;replace H := oE H;obtain ⟨t267, A12, H⟩ := H;replace H : (if x6_1.length < 5864062014805 then (spec_l4Ord.l0 k2 (Int.tmod x0_1 x7_2) a1 y264 (x6_1 ++ [t267])) else (none)) = some r := H;replace A12 := am A12;by_cases c13 : x6_1.length < 5864062014805
          ·
           rw [if_pos c13] at H;have LMc13 := am c13;clear c13
           obtain ⟨y270, hy270⟩ : ∃ y_ : List (List Int), y_ = (x6_1 ++ [t267]) := ⟨_, rfl⟩
           replace H : (spec_l4Ord.l0 k2 (Int.tmod x0_1 x7_2) a1 y264 y270) = some r := by first | (rw [hy270]; with_reducible exact H) | (have H2_ := oB H; rw [hy270]; with_reducible exact H2_) | (have H2_ := oB H; with_reducible exact H2_) | with_reducible exact H | (rw [hy270]; exact H) | exact H
           replace hy270 := am hy270;have H' := am H;clear H;go_wp2_with (first | ((with_reducible refine gate_builtin (b := .append) (xs := #[.tmp 23, .tmp 27]) rfl ?_); at_builtin; refine Kd.R_append (Kd.int .i64) (w0 := w) w.heap.size rfl (.tmp 23) (.tmp 27) 25 3 (.int .i64 0) 8 rfl Try.underlying25 info3 rfl (by decide) (by omega) u5 x5_1 (wrap64 (Int.tdiv x0_1 x7_2)) [.int .i64 (wrap64 (Int.tdiv x0_1 x7_2))] (fun _ => True) (fun _ => False) rfl rfl ?aP (fun _ hk => hk.elim) ?aF ?aO ?aB ?aS ?aL ?_; (case aP => exact rfl); (case aB => exact (bm HB.out)); (case aF => exact (fun _ _ => trivial)); (case aO => exact (Kd.rm HO_5.out)); (case aS => exact (below_size (bm HB.out))); (case aL => have := LMc11.out; omega); intro v265 w14 ho hb hg hat; rw [← hy264.out] at ho; replace HO_6 := am (Kd.S_after (ok := (fun _ => True)) (Kd.S_below (Kd.S_mono HO_6.out (fun _ hk => ⟨trivial, hk⟩)) Mv.out) hg hat);replace HB := am (hb);have HO266 := am (ho);clear HO_5; clear ho hb hg hat) | ((with_reducible refine gate_callee (f := 47) rfl ?_); refine goesL_ (some 32) rfl rfl Try.func47 (by kernel_rfl) rfl #[.int .i64 x8_2, .int .i64 a1] rfl (by (try simp only [mA, mB, mC]); first | done | rfl) ?_; (with_reducible refine (ih k2 (by have := HK1.out; have := HK2.out; omega) x8_2 a1 t267 _ A12.out).mono ?_); rintro e w15 ⟨v268, rfl, ho0, hb⟩; refine ⟨_, rfl, ?_⟩; replace HO_6 := am (Kd.S_elder' (Kd.S_below HO_6.out Mv.out) (Kd.R_base ho0) hb);have HO269 := am (Kd.R_lower (Kd.R_new' ho0 (Kd.R_lt (Kd.rm HO266.out))) (below_size (bm HB.out)));replace HO266 := am (Kd.R_elder' (Kd.rm HO266.out) (Kd.R_base ho0) hb);replace HB := am (below_step (bm HB.out) hb); (try clear hb); (try clear hk); (try clear ho0); obtain ⟨Ao17, co17, eo17⟩ := Kd.R_slice HO269.out; subst eo17) | ((with_reducible refine gate_builtin (b := .append) (xs := #[.tmp 29, .tmp 33]) rfl ?_); at_builtin; refine Kd.S_append (Kd.slice 3 (Kd.int .i64)) (w0 := w) w.heap.size rfl (.tmp 29) (.tmp 33) 36 25 (.slice none 0 0) 24 rfl Try.underlying36 info25 rfl (by decide) (by omega) u6 x6_1 t267 [.slice Ao17 t267.length co17] (fun k_ => some k_ ≠ (v265 : Value).ownBlock) (fun k_ => some k_ = (.slice Ao17 t267.length co17 : Value).ownBlock) rfl rfl ?aP (fun k_ hk_ => ((Kd.R_mono (ok' := fun k_ => ((fun k_ => some k_ ≠ (v265 : Value).ownBlock)) k_ ∧ some k_ ≠ (u6 : Value).ownBlock) (Kd.R_apart' (HO269.out) (Kd.S_typed HO_6.out) (by decide)) (fun k_ hk => ⟨hk.1.2, hk.2⟩))).1 k_ hk_.symm) ?aF ?aO ?aB ?aS ?aL ?_; (case aP => exact Kd.M_row (Kd.R_mono (Kd.R_tight rfl (Kd.R_mono (ok' := fun k_ => ((fun k_ => some k_ ≠ (v265 : Value).ownBlock)) k_ ∧ some k_ ≠ (u6 : Value).ownBlock) (Kd.R_apart' (HO269.out) (Kd.S_typed HO_6.out) (by decide)) (fun k_ hk => ⟨hk.1.2, hk.2⟩))) (fun _ h_ => h_))); (case aB => exact (bm HB.out)); (case aF => exact (fun k_ hk => Kd.fresh' (Kd.R_lt (Kd.rm HO266.out)) k_ hk)); (case aO => exact (Kd.S_below (Kd.S_mono HO_6.out (fun k_ hk => ⟨hk.1.2, fun e_ => hk.2 e_⟩)) Mv.out)); (case aS => exact (below_size (bm HB.out))); (case aL => have := LMc13.out; omega); intro v271 w16 ho hb hg hat; rw [← hy270.out] at ho; replace HO266 := am (Kd.R_over' (Kd.rm HO266.out) (Kd.S_typed (Kd.S_below HO_6.out Mv.out)) (by decide) hg);replace HB := am (hb);have HO272 := am (ho);clear HO_6 HO269; clear ho hb hg hat))
           go_roundg k2
           case measure => have := HK1.out; have := HK2.out; omega
           case rel => exact ⟨(Int.tmod x0_1 x7_2), (y264), (y270), (by first | rfl | (simp; done) | (simp [*]; done)), H', ⟨by have := HK1.out; have := HK2.out; omega⟩, ⟨Kd.rm (Kd.R_mono HO266.out (fun _ hk => trivial))⟩, ⟨Kd.S_below HO272.out Mv.out⟩, ⟨bm HB.out⟩⟩
          ·
           rw [if_neg c13] at H;exact absurd H (by simp)
         ·
          rw [if_neg c11] at H;exact absurd H (by simp)
   ·
    rw [if_neg c7] at H;have c7b0 : decide (0 < x0_1) = false := decide_eq_false c7;clear c7;replace H := oE H;obtain ⟨t261, A18, H⟩ := H;replace H : (some t261) = some r := H;replace A18 := am A18;obtain rfl := Option.some.inj H;obtain ⟨Ao19, co19, eo19⟩ := Kd.R_slice HO_5.out;subst eo19;obtain ⟨Ao20, co20, eo20⟩ := Kd.S_slice HO_6.out;subst eo20;go_wp2_with (first | ((with_reducible refine gate_callee (f := 63) rfl ?_); refine goesL_ (some 40) rfl rfl Try.func63 (by kernel_rfl) rfl #[.slice Ao19 x5_1.length co19, .slice Ao20 x6_1.length co20] rfl (by (try simp only [mA, mB, mC]); first | done | rfl) ?_; (with_reducible refine (spec_l1Make.calls k1 _ _ x5_1 _ _ x6_1 t261 _ ?side1 ?side2 ?side3 ?side4 A18.out).mono ?_); (case side1 => exact Kd.cm ((Kd.R_reads' HO_5.out).2.2)); (case side2 => exact (Kd.R_reads' HO_5.out).2.1); (case side3 => exact Kd.cm ((Kd.S_reads' HO_6.out).2.2)); (case side4 => exact (Kd.S_reads' HO_6.out).2.1); rintro e w21 ⟨v262, rfl, ho0, hb⟩; refine ⟨_, rfl, ?_⟩; replace HO_6 := am (Kd.S_elder' (Kd.S_below HO_6.out Mv.out) (Kd.R_base ho0) hb);have HO263 := am (Kd.R_lower (Kd.R_new' ho0 (Kd.R_lt (Kd.rm HO_5.out))) (below_size (bm HB.out)));replace HO_5 := am (Kd.R_elder' (Kd.rm HO_5.out) (Kd.R_base ho0) hb);replace HB := am (below_step (bm HB.out) hb); (try clear hb); (try clear hk); (try clear ho0)));go_ret;exact ⟨_, by first | rfl | (simp [errW_none, errW_some] <;> rfl) | (simp [*, errW_none, errW_some] <;> rfl), Kd.rm (Kd.R_mono HO263.out (fun _ hk => trivial)), bm HB.out⟩

/-! ### spec_OrdInBase: function 46 -/
def spec_OrdInBase.f (k : Nat) (a0 : Int) (a1 : Int) : Option (List Int) := (spec_l1In.f a0 0 1000000000).bind fun t273 => (if t273 = true then ((spec_l1In.f a1 2 90).bind fun t274 => (if t274 = true then ((spec_l4Ord.f k a0 a1).bind fun t275 => (if (t275.length : Int) > 60 then (some (([] : List Int))) else ((spec_l4Ord.f k a0 a1).bind fun t281 => (some t281)))) else (some (([] : List Int))))) else (some (([] : List Int))))
theorem spec_OrdInBase.mono : ∀ a0 a1 k, LeO (spec_OrdInBase.f k a0 a1) (spec_OrdInBase.f (k + 1) a0 a1) := by
 intro a0 a1 k;unfold spec_OrdInBase.f
 repeat' first | (with_reducible exact spec_l4Ord.mono _ _ _) | (with_reducible exact LeO.refl _) | (with_reducible exact LeO.none _) | (with_reducible refine LeO.ite ?_ ?_) | (with_reducible refine LeO.bind ?_ (fun _ => ?_))
set_option maxHeartbeats 8000000 in
set_option maxRecDepth 100000 in
theorem spec_OrdInBase.calls (k : Nat) (a0 : Int) (a1 : Int) (r : List Int) (w : World) (h : spec_OrdInBase.f k a0 a1 = some r) :
  Calls Try.prog 46 #[.int .i64 a0, .int .i64 a1] w fun e w' => ∃ v0_ : Value, e = .returned (v0_) ∧ Kd.R (Kd.int .i64) 3 w' w.heap.size (fun _ => True) v0_ r ∧ Below w.heap.size w w' := by
 have HB := am (Below.refl w.heap.size w);have H : ((spec_l1In.f a0 0 1000000000).bind fun t273 => (if t273 = true then ((spec_l1In.f a1 2 90).bind fun t274 => (if t274 = true then ((spec_l4Ord.f k a0 a1).bind fun t275 => (if (t275.length : Int) > 60 then (some (([] : List Int))) else ((spec_l4Ord.f k a0 a1).bind fun t281 => (some t281)))) else (some (([] : List Int))))) else (some (([] : List Int))))) = some r := h;clear h;replace H := oE H;obtain ⟨t273, A3, H⟩ := H;replace H : (if t273 = true then ((spec_l1In.f a1 2 90).bind fun t274 => (if t274 = true then ((spec_l4Ord.f k a0 a1).bind fun t275 => (if (t275.length : Int) > 60 then (some (([] : List Int))) else ((spec_l4Ord.f k a0 a1).bind fun t281 => (some t281)))) else (some (([] : List Int))))) else (some (([] : List Int)))) = some r := H;replace A3 := am A3;by_cases c4 : t273 = true
 ·
  subst c4
  have H1 : ((spec_l1In.f a1 2 90).bind fun t274 => (if t274 = true then ((spec_l4Ord.f k a0 a1).bind fun t275 => (if (t275.length : Int) > 60 then (some (([] : List Int))) else ((spec_l4Ord.f k a0 a1).bind fun t281 => (some t281)))) else (some (([] : List Int))))) = some r := by rw [if_pos rfl] at H; exact H
  clear H;have H := H1;clear H1;replace H := oE H;obtain ⟨t274, A5, H⟩ := H;replace H : (if t274 = true then ((spec_l4Ord.f k a0 a1).bind fun t275 => (if (t275.length : Int) > 60 then (some (([] : List Int))) else ((spec_l4Ord.f k a0 a1).bind fun t281 => (some t281)))) else (some (([] : List Int)))) = some r := H;replace A5 := am A5;by_cases c6 : t274 = true
  ·
   subst c6
   have H1 : ((spec_l4Ord.f k a0 a1).bind fun t275 => (if (t275.length : Int) > 60 then (some (([] : List Int))) else ((spec_l4Ord.f k a0 a1).bind fun t281 => (some t281)))) = some r := by rw [if_pos rfl] at H; exact H
   clear H;have H := H1;clear H1;replace H := oE H;obtain ⟨t275, A7, H⟩ := H;replace H : (if (t275.length : Int) > 60 then (some (([] : List Int))) else ((spec_l4Ord.f k a0 a1).bind fun t281 => (some t281))) = some r := H;replace A7 := am A7;by_cases c8 : (t275.length : Int) > 60
   ·
    rw [if_pos c8] at H;have c8b0 : decide (60 < (t275.length : Int)) = true := decide_eq_true c8;have c8b1 : decide (60 < t275.length) = true := decide_eq_true (by omega);clear c8
    obtain ⟨y278, hy278⟩ : ∃ y_ : List Int, y_ = (([] : List Int)) := ⟨_, rfl⟩
    replace H : (some y278) = some r := by first | (rw [hy278]; with_reducible exact H) | (have H2_ := oB H; rw [hy278]; with_reducible exact H2_) | (have H2_ := oB H; with_reducible exact H2_) | with_reducible exact H | (rw [hy278]; exact H) | exact H
    replace hy278 := am hy278;obtain rfl := Option.some.inj H;go_enter Try.func46, Try.ntmps46;go_wp2_with (first | ((with_reducible refine gate_callee (f := 38) rfl ?_); refine goesL_ (some 6) rfl rfl Try.func38 (by kernel_rfl) rfl #[.int .i64 a0, .int .i64 0, .int .i64 1000000000] rfl (by (try simp only [mA, mB, mC]); first | done | rfl) ?_; (with_reducible refine (spec_l1In.calls a0 0 1000000000 true _ A3.out).mono ?_); rintro e w' ⟨rfl, ⟨nd, rfl⟩⟩; refine ⟨_, rfl, ?_⟩) | (go_at_call 38; (with_reducible refine (spec_l1In.calls a1 2 90 true _ A5.out).mono ?_); rintro e w' ⟨rfl, ⟨nd, rfl⟩⟩) | (go_at_call 47; (with_reducible refine (spec_l4Ord.calls k a0 a1 t275 _ A7.out).mono ?_); rintro e w9 ⟨v276, rfl, ho0, hb⟩; have HO277 := am (Kd.R_lower ho0 (below_size (bm HB.out)));replace HB := am (below_step (bm HB.out) hb); (try clear hb); (try clear hk); (try clear ho0); obtain ⟨Ao10, co10, eo10⟩ := Kd.R_slice HO277.out; subst eo10) | ((with_reducible refine gate_dst (N := 20) rfl ?_); (try (refine gate_guard (by rfl) ?_; dsimp only)); refine Kd.R_lit (Kd.int .i64) _ 3 ?hg (N := 20) ?hd (xs := ([] : List Int)) (inner := []) (ok := fun _ => True) (okp := fun _ => True) ?hr ?hp (fun _ hk => hk) trivial (Below.refl _ _) (Nat.le_refl _) (by simp) ?_; (case hd => rfl); (case hg => rfl); (case hr => first | (go_simp; done) | (go_simp; rfl)); (case hp => exact (Reps.none _ _)); intro v279 w11 ho12 hb hg_ hnew_; clear hg_ hnew_; (first | rw [← hy278.out] at ho12 | (simp only [Int.reduceToNat] at ho12; rw [← hy278.out] at ho12)); have HO280 := am (Kd.R_lower (Kd.R_new' ho12 (Kd.R_lt (Kd.rm HO277.out))) (below_size (bm HB.out)));replace HO277 := am (Kd.R_elder' (Kd.rm HO277.out) (Kd.R_base ho12) hb);replace HB := am (below_step (bm HB.out) hb); clear hb ho12));go_ret;exact ⟨_, by first | rfl | (simp [errW_none, errW_some] <;> rfl) | (simp [*, errW_none, errW_some] <;> rfl), Kd.rm (Kd.R_mono HO280.out (fun _ hk => trivial)), bm HB.out⟩
   ·
    rw [if_neg c8] at H;have c8b0 : decide (60 < (t275.length : Int)) = false := decide_eq_false c8;have c8b1 : decide (60 < t275.length) = false := decide_eq_false (by omega);clear c8;replace H := oE H;obtain ⟨t281, A13, H⟩ := H;replace H : (some t281) = some r := H;replace A13 := am A13;obtain rfl := Option.some.inj H;go_enter Try.func46, Try.ntmps46;go_wp2_with (first | ((with_reducible refine gate_callee (f := 38) rfl ?_); refine goesL_ (some 6) rfl rfl Try.func38 (by kernel_rfl) rfl #[.int .i64 a0, .int .i64 0, .int .i64 1000000000] rfl (by (try simp only [mA, mB, mC]); first | done | rfl) ?_; (with_reducible refine (spec_l1In.calls a0 0 1000000000 true _ A3.out).mono ?_); rintro e w' ⟨rfl, ⟨nd, rfl⟩⟩; refine ⟨_, rfl, ?_⟩) | (go_at_call 38; (with_reducible refine (spec_l1In.calls a1 2 90 true _ A5.out).mono ?_); rintro e w' ⟨rfl, ⟨nd, rfl⟩⟩) | (go_at_call 47; (with_reducible refine (spec_l4Ord.calls k a0 a1 t275 _ A7.out).mono ?_); rintro e w14 ⟨v276, rfl, ho0, hb⟩; have HO277 := am (Kd.R_lower ho0 (below_size (bm HB.out)));replace HB := am (below_step (bm HB.out) hb); (try clear hb); (try clear hk); (try clear ho0); obtain ⟨Ao15, co15, eo15⟩ := Kd.R_slice HO277.out; subst eo15) | ((with_reducible refine gate_callee (f := 47) rfl ?_); refine goesL_ (some 23) rfl rfl Try.func47 (by kernel_rfl) rfl #[.int .i64 a0, .int .i64 a1] rfl (by (try simp only [mA, mB, mC]); first | done | rfl) ?_; (with_reducible refine (spec_l4Ord.calls k a0 a1 t281 _ A13.out).mono ?_); rintro e w16 ⟨v282, rfl, ho0, hb⟩; refine ⟨_, rfl, ?_⟩; have HO283 := am (Kd.R_lower (Kd.R_new' ho0 (Kd.R_lt (Kd.rm HO277.out))) (below_size (bm HB.out)));replace HO277 := am (Kd.R_elder' (Kd.rm HO277.out) (Kd.R_base ho0) hb);replace HB := am (below_step (bm HB.out) hb); (try clear hb); (try clear hk); (try clear ho0)));go_ret;exact ⟨_, by first | rfl | (simp [errW_none, errW_some] <;> rfl) | (simp [*, errW_none, errW_some] <;> rfl), Kd.rm (Kd.R_mono HO283.out (fun _ hk => trivial)), bm HB.out⟩
  ·
   replace c6 := Bool.eq_false_iff.mpr c6;subst c6
   have H1 : (some (([] : List Int))) = some r := by rw [if_neg (show ¬ (false = true) by decide)] at H; exact H
   clear H;have H := H1;clear H1
   obtain ⟨y284, hy284⟩ : ∃ y_ : List Int, y_ = (([] : List Int)) := ⟨_, rfl⟩
   replace H : (some y284) = some r := by first | (rw [hy284]; with_reducible exact H) | (have H2_ := oB H; rw [hy284]; with_reducible exact H2_) | (have H2_ := oB H; with_reducible exact H2_) | with_reducible exact H | (rw [hy284]; exact H) | exact H
   replace hy284 := am hy284;obtain rfl := Option.some.inj H;go_enter Try.func46, Try.ntmps46;go_wp2_with (first | ((with_reducible refine gate_callee (f := 38) rfl ?_); refine goesL_ (some 6) rfl rfl Try.func38 (by kernel_rfl) rfl #[.int .i64 a0, .int .i64 0, .int .i64 1000000000] rfl (by (try simp only [mA, mB, mC]); first | done | rfl) ?_; (with_reducible refine (spec_l1In.calls a0 0 1000000000 true _ A3.out).mono ?_); rintro e w' ⟨rfl, ⟨nd, rfl⟩⟩; refine ⟨_, rfl, ?_⟩) | (go_at_call 38; (with_reducible refine (spec_l1In.calls a1 2 90 false _ A5.out).mono ?_); rintro e w' ⟨rfl, ⟨nd, rfl⟩⟩) | ((with_reducible refine gate_dst (N := 20) rfl ?_); (try (refine gate_guard (by rfl) ?_; dsimp only)); refine Kd.R_lit (Kd.int .i64) _ 3 ?hg (N := 20) ?hd (xs := ([] : List Int)) (inner := []) (ok := fun _ => True) (okp := fun _ => True) ?hr ?hp (fun _ hk => hk) trivial (Below.refl _ _) (Nat.le_refl _) (by simp) ?_; (case hd => rfl); (case hg => rfl); (case hr => first | (go_simp; done) | (go_simp; rfl)); (case hp => exact (Reps.none _ _)); intro v285 w17 ho18 hb hg_ hnew_; clear hg_ hnew_; (first | rw [← hy284.out] at ho18 | (simp only [Int.reduceToNat] at ho18; rw [← hy284.out] at ho18)); have HO286 := am (Kd.R_lower ho18 (below_size (bm HB.out)));replace HB := am (below_step (bm HB.out) hb); clear hb ho18));go_ret;exact ⟨_, by first | rfl | (simp [errW_none, errW_some] <;> rfl) | (simp [*, errW_none, errW_some] <;> rfl), Kd.rm HO286.out, bm HB.out⟩
 ·
  replace c4 := Bool.eq_false_iff.mpr c4;subst c4
  have H1 : (some (([] : List Int))) = some r := by rw [if_neg (show ¬ (false = true) by decide)] at H; exact H
  clear H;have H := H1;clear H1
  obtain ⟨y287, hy287⟩ : ∃ y_ : List Int, y_ = (([] : List Int)) := ⟨_, rfl⟩
  replace H : (some y287) = some r := by first | (rw [hy287]; with_reducible exact H) | (have H2_ := oB H; rw [hy287]; with_reducible exact H2_) | (have H2_ := oB H; with_reducible exact H2_) | with_reducible exact H | (rw [hy287]; exact H) | exact H
  replace hy287 := am hy287;obtain rfl := Option.some.inj H;go_enter Try.func46, Try.ntmps46;go_wp2_with (first | ((with_reducible refine gate_callee (f := 38) rfl ?_); refine goesL_ (some 6) rfl rfl Try.func38 (by kernel_rfl) rfl #[.int .i64 a0, .int .i64 0, .int .i64 1000000000] rfl (by (try simp only [mA, mB, mC]); first | done | rfl) ?_; (with_reducible refine (spec_l1In.calls a0 0 1000000000 false _ A3.out).mono ?_); rintro e w' ⟨rfl, ⟨nd, rfl⟩⟩; refine ⟨_, rfl, ?_⟩) | ((with_reducible refine gate_dst (N := 20) rfl ?_); (try (refine gate_guard (by rfl) ?_; dsimp only)); refine Kd.R_lit (Kd.int .i64) _ 3 ?hg (N := 20) ?hd (xs := ([] : List Int)) (inner := []) (ok := fun _ => True) (okp := fun _ => True) ?hr ?hp (fun _ hk => hk) trivial (Below.refl _ _) (Nat.le_refl _) (by simp) ?_; (case hd => rfl); (case hg => rfl); (case hr => first | (go_simp; done) | (go_simp; rfl)); (case hp => exact (Reps.none _ _)); intro v288 w19 ho20 hb hg_ hnew_; clear hg_ hnew_; (first | rw [← hy287.out] at ho20 | (simp only [Int.reduceToNat] at ho20; rw [← hy287.out] at ho20)); have HO289 := am (Kd.R_lower ho20 (below_size (bm HB.out)));replace HB := am (below_step (bm HB.out) hb); clear hb ho20));go_ret;exact ⟨_, by first | rfl | (simp [errW_none, errW_some] <;> rfl) | (simp [*, errW_none, errW_some] <;> rfl), Kd.rm HO289.out, bm HB.out⟩

/-! ### spec_l1Span: function 67 -/
mutual
def spec_l1Span.l0 : Nat → List Int → Int → Int → Int → Option (Int)
 | 0, _, _, _, _ => none
 | k + 1, x0, x1, x5, x6 => if x6 < x5 then ((spec_l1Span.f k x0 (wrap64 (x1 + 1))).bind fun t291 => (spec_l1Span.l0 k x0 t291 x5 (wrap64 (x6 + 1)))) else (some x1)
def spec_l1Span.f : Nat → List Int → Int → Option (Int)
 | 0, _, _ => none
 | k + 1, l0, a1 => if 0 ≤ a1 then (if a1 < (l0.length : Int) then (spec_l1Span.l0 k l0 (wrap64 (a1 + 1)) (rd l0 a1) 0) else (none)) else (none)
end
theorem spec_l1Span.mono_l : ∀ k, (∀ y0 y1, LeO (spec_l1Span.f k y0 y1) (spec_l1Span.f (k + 1) y0 y1)) ∧ (∀ y0 y1 y2 y3, LeO (spec_l1Span.l0 k y0 y1 y2 y3) (spec_l1Span.l0 (k + 1) y0 y1 y2 y3))
 | 0 => ⟨fun _ _ r h => by simp [spec_l1Span.f] at h, fun _ _ _ _ r h => by simp [spec_l1Span.l0] at h⟩
 | k + 1 => by
  obtain ⟨ih0, ih1⟩ := spec_l1Span.mono_l k;refine ⟨?_, ?_⟩
  all_goals (intros; first | unfold spec_l1Span.f | unfold spec_l1Span.l0)
  all_goals repeat' first | (with_reducible exact ih0 _ _) | (with_reducible exact ih1 _ _ _ _) | (with_reducible exact LeO.refl _) | (with_reducible exact LeO.none _) | (with_reducible refine LeO.ite ?_ ?_) | (with_reducible refine LeO.bind ?_ (fun _ => ?_))
theorem spec_l1Span.mono : ∀ a0 a1 k, LeO (spec_l1Span.f k a0 a1) (spec_l1Span.f (k + 1) a0 a1) := by
 intro a0 a1 k;obtain ⟨ih0, ih1⟩ := spec_l1Span.mono_l k;exact ih0 a0 a1
set_option maxHeartbeats 8000000 in
set_option maxRecDepth 100000 in
theorem spec_l1Span.calls (k : Nat) : ∀ (A0 : Option Addr) (c0 : Nat) (l0 : List Int) (a1 : Int) (r : Int) (w : World) (hr0 : Kd.C (Kd.int .i64) w A0 l0.length l0) (hc0 : l0.length ≤ c0) (h : spec_l1Span.f k l0 a1 = some r),
  Calls Try.prog 67 #[.slice A0 l0.length c0, .int .i64 a1] w fun e w' => e = .returned (.int .i64 r) ∧ Drawn0 w w' := by
 induction k using Nat.strongRecOn with
 | _ k ih =>
 intro A0 c0 l0 a1 r w hr0 hc0 h
 cases k with
 | zero => exact absurd h (by simp [spec_l1Span.f])
 | succ k =>
 simp only [spec_l1Span.f] at h;have HR0 := am hr0;have HC0 := am hc0;clear hr0 hc0;have H : (if 0 ≤ a1 then (if a1 < (l0.length : Int) then (spec_l1Span.l0 k l0 (wrap64 (a1 + 1)) (rd l0 a1) 0) else (none)) else (none)) = some r := h;clear h;by_cases c3 : 0 ≤ a1
 ·
  rw [if_pos c3] at H;have c3b0 : decide (0 ≤ a1) = true := decide_eq_true c3;clear c3;by_cases c4 : a1 < (l0.length : Int)
  ·
   rw [if_pos c4] at H;have c4b0 : decide (a1 < (l0.length : Int)) = true := decide_eq_true c4;clear c4;have H' := am H;clear H;have p290 : 0 ≤ (a1 : Int) := of_decide_eq_true (by assumption);have q290 : a1 < (l0.length : Int) := of_decide_eq_true (by assumption);obtain ⟨ad290, e290, hx290_0⟩ := Kd.at_int HR0.out a1 p290 q290;cases e290
   replace p290 := eq_true p290;replace q290 := eq_true q290;go_enter Try.func67, Try.ntmps67;go_wp2
   go_loopg [1, 6] k (fun kq v1 v6 w' => ∃ (x1_1 : Int) (x6_1 : Int), v1 = .int .i64 x1_1 ∧ v6 = .int .i64 x6_1 ∧ Aside0 (spec_l1Span.l0 kq l0 x1_1 (rd l0 a1) x6_1 = some r) ∧ Aside0 (kq ≤ k) ∧ Drawn0 w w')
   case atStart => exact ⟨(wrap64 (a1 + 1)), (0), (by first | rfl | (simp; done) | (simp [*]; done)), (by first | rfl | (simp; done) | (simp [*]; done)), H', ⟨Nat.le_refl _⟩, by repeat (first | exact Drawn0.refl _ | apply Drawn0.step)⟩
   case round =>
    clear H';(try clear p2);(try clear q2);(try clear hx2);(try clear c3);(try clear c3b0);(try clear c4);(try clear c4b0);(try clear hx290_0);(try clear p290);(try clear q290);obtain ⟨x1_1, x6_1, rfl, rfl, HA, HK1, ⟨m1, rfl⟩⟩ := hrel
    cases gk with
    | zero => exact absurd HA.out (by simp [spec_l1Span.l0])
    | succ k1 =>
     have H := HA.out;clear HA;simp only [spec_l1Span.l0] at H;by_cases c5 : x6_1 < (rd l0 a1)
     ·
      rw [if_pos c5] at H;have c5b0 : decide (x6_1 < (rd l0 a1)) = true := decide_eq_true c5;clear c5;replace H := oE H;obtain ⟨t291, A6, H⟩ := H;replace H : (spec_l1Span.l0 k1 l0 t291 (rd l0 a1) (wrap64 (x6_1 + 1))) = some r := H;replace A6 := am A6;have H' := am H;clear H;go_wp2_with (first | ((with_reducible refine gate_callee (f := 67) rfl ?_); refine goesL_ (some 21) rfl rfl Try.func67 (by kernel_rfl) rfl #[.slice (some ad290) l0.length c0, .int .i64 (wrap64 (x1_1 + 1))] rfl (by (try simp only [mA, mB, mC]); first | done | rfl) ?_; (with_reducible refine (ih k1 (by have := HK1.out; omega) _ _ l0 (wrap64 (x1_1 + 1)) t291 _ ?side1 ?side2 A6.out).mono ?_); (case side1 => exact Kd.cm HR0.out); (case side2 => exact HC0.out); rintro e w' ⟨rfl, ⟨nd, rfl⟩⟩; refine ⟨_, rfl, ?_⟩))
      go_roundg k1
      case measure => have := HK1.out; omega
      case rel => exact ⟨(t291), (wrap64 (x6_1 + 1)), (by first | rfl | (simp; done) | (simp [*]; done)), (by first | rfl | (simp; done) | (simp [*]; done)), H', ⟨by have := HK1.out; omega⟩, by repeat (first | exact Drawn0.refl _ | apply Drawn0.step)⟩
     ·
      rw [if_neg c5] at H;have c5b0 : decide (x6_1 < (rd l0 a1)) = false := decide_eq_false c5;clear c5;obtain rfl := Option.some.inj H;go_wp2;go_ret;exact ⟨by first | rfl | (simp; done) | (simp [*]; done), by repeat (first | exact Drawn0.refl _ | apply Drawn0.step)⟩
  ·
   rw [if_neg c4] at H;exact absurd H (by simp)
 ·
  rw [if_neg c3] at H;exact absurd H (by simp)

/-! ### spec_l1Terms: function 58 -/
def spec_l1Terms.l0 : Nat → List Int → List Int → List (List Int) → Int → Option (List Int × (List (List Int)))
 | 0, _, _, _, _ => none
 | k + 1, x0, x4, x5, x6 => if x6 < (x0.length : Int) then ((spec_l1Span.f k x0 (wrap64 (x6 + 1))).bind fun t298 => (if 0 ≤ x6 then (if x4.length < 17592186044416 then (if 0 ≤ (wrap64 (x6 + 1)) then (if (wrap64 (x6 + 1)) ≤ t298 then (if t298 ≤ (x0.length : Int) then (if x5.length < 5864062014805 then (spec_l1Terms.l0 k x0 (x4 ++ [rd x0 x6]) (x5 ++ [((x0.take (t298 : Int).toNat).drop ((wrap64 (x6 + 1)) : Int).toNat)]) t298) else (none)) else (none)) else (none)) else (none)) else (none)) else (none))) else (some (x4, x5))
def spec_l1Terms.f (k : Nat) (l0 : List Int) : Option (List Int × (List (List Int))) := spec_l1Terms.l0 k l0 (([] : List Int)) (([] : List (List Int))) 1
theorem spec_l1Terms.mono_l : ∀ k, (∀ y0 y1 y2 y3, LeO (spec_l1Terms.l0 k y0 y1 y2 y3) (spec_l1Terms.l0 (k + 1) y0 y1 y2 y3))
 | 0 => fun _ _ _ _ r h => by simp [spec_l1Terms.l0] at h
 | k + 1 => by
  have ih0 := spec_l1Terms.mono_l k
  ·
   intro y0 y1 y2 y3;unfold spec_l1Terms.l0
   repeat' first | (with_reducible exact ih0 _ _ _ _) | (with_reducible exact spec_l1Span.mono _ _ _) | (with_reducible exact LeO.refl _) | (with_reducible exact LeO.none _) | (with_reducible refine LeO.ite ?_ ?_) | (with_reducible refine LeO.bind ?_ (fun _ => ?_))
theorem spec_l1Terms.mono : ∀ a0 k, LeO (spec_l1Terms.f k a0) (spec_l1Terms.f (k + 1) a0) := by
 intro a0 k;have ih0 := spec_l1Terms.mono_l k;unfold spec_l1Terms.f
 repeat' first | (with_reducible exact ih0 _ _ _ _) | (with_reducible exact spec_l1Span.mono _ _ _) | (with_reducible exact LeO.refl _) | (with_reducible exact LeO.none _) | (with_reducible refine LeO.ite ?_ ?_) | (with_reducible refine LeO.bind ?_ (fun _ => ?_))
set_option maxHeartbeats 8000000 in
set_option maxRecDepth 100000 in
theorem spec_l1Terms.calls (k : Nat) (P0_ : Nat → Prop) (A0 : Option Addr) (c0 : Nat) (l0 : List Int) (r1 : List Int) (r2 : List (List Int)) (w : World) (hs0 : Kd.V (Kd.int .i64) 3 w w.heap.size (fun k_ => P0_ k_) (.slice A0 l0.length c0) l0) (h : spec_l1Terms.f k l0 = some (r1, r2)) :
  Calls Try.prog 58 #[.slice A0 l0.length c0] w fun e w' => ∃ v0_ v1_ : Value, e = .returned (.tuple #[v0_, v1_]) ∧ Kd.R (Kd.int .i64) 3 w' w.heap.size (fun k_ => (w.heap.size ≤ k_)) v0_ r1 ∧ Kd.N (Kd.slice 3 (Kd.int .i64)) 25 w' w.heap.size (fun k_ => (P0_ k_ ∨ w.heap.size ≤ k_) ∧ some k_ ≠ (v0_ : Value).ownBlock) v1_ r2 ∧ Below w.heap.size w w' := by
 have HO0 := am (show Kd.V (Kd.int .i64) 3 w w.heap.size (fun k_ => (P0_ k_ ∨ w.heap.size ≤ k_)) (.slice A0 l0.length c0) l0 from Kd.V_mono hs0 (fun k_ hk => .inl hk));have HB := am (Below.refl w.heap.size w);have H : (spec_l1Terms.l0 k l0 (([] : List Int)) (([] : List (List Int))) 1) = some (r1, r2) := h;clear h
 obtain ⟨y292, hy292⟩ : ∃ y_ : List Int, y_ = (([] : List Int)) := ⟨_, rfl⟩
 replace H : (spec_l1Terms.l0 k l0 y292 (([] : List (List Int))) 1) = some (r1, r2) := by first | (rw [hy292]; with_reducible exact H) | (have H2_ := oB H; rw [hy292]; with_reducible exact H2_) | (have H2_ := oB H; with_reducible exact H2_) | with_reducible exact H | (rw [hy292]; exact H) | exact H
 replace hy292 := am hy292
 obtain ⟨y295, hy295⟩ : ∃ y_ : List (List Int), y_ = (([] : List (List Int))) := ⟨_, rfl⟩
 replace H : (spec_l1Terms.l0 k l0 y292 y295 1) = some (r1, r2) := by first | (rw [hy295]; with_reducible exact H) | (have H2_ := oB H; rw [hy295]; with_reducible exact H2_) | (have H2_ := oB H; with_reducible exact H2_) | with_reducible exact H | (rw [hy295]; exact H) | exact H
 replace hy295 := am hy295;have H' := am H;clear H;go_enter Try.func58, Try.ntmps58;go_wp2_with (first | ((with_reducible refine gate_dst (N := 8) rfl ?_); refine Kd.R_lit (Kd.int .i64) _ 3 ?hg (N := 8) ?hd (xs := ([] : List Int)) (inner := []) (ok := fun _ => True) (okp := fun _ => True) ?hr ?hp (fun _ hk => hk) trivial (Below.refl _ _) (Nat.le_refl _) (by simp) ?_; (case hd => rfl); (case hg => rfl); (case hr => first | (go_simp; done) | (go_simp; rfl)); (case hp => exact (Reps.none _ _)); intro v293 w2 ho3 hb hg_ hnew_; clear hg_ hnew_; (first | rw [← hy292.out] at ho3 | (simp only [Int.reduceToNat] at ho3; rw [← hy292.out] at ho3)); replace HO0 := am (Kd.V_elder' (Kd.vm HO0.out) (Kd.R_base ho3) hb);have HO294 := am (Kd.R_lower (Kd.R_newM (M := fun k_ => (w.heap.size ≤ k_)) ho3 (below_size (bm HB.out)) (fun k_ h_ => h_)) (below_size (bm HB.out)));replace HB := am (below_step (bm HB.out) hb); clear hb ho3) | ((with_reducible refine gate_dst (N := 9) rfl ?_); refine Kd.N_lit (Kd.slice 3 (Kd.int .i64)) _ 25 ?hg (N' := 9) ?hd (xs := ([] : List (List Int))) (inner := []) (ok := (fun k_ => (P0_ k_ ∨ w.heap.size ≤ k_) ∧ some k_ ≠ (v293 : Value).ownBlock)) (okp := (fun k_ => (P0_ k_ ∨ w.heap.size ≤ k_) ∧ some k_ ≠ (v293 : Value).ownBlock)) ?hr ?hp (fun _ hk => hk) ((show ∀ k_, w2.heap.size ≤ k_ → (fun k_ => (P0_ k_ ∨ w.heap.size ≤ k_) ∧ some k_ ≠ (v293 : Value).ownBlock) k_ from fun k_ hk => ⟨(.inr (Nat.le_trans (below_size (bm HB.out)) hk)), Kd.fresh' (Kd.R_lt (Kd.rm HO294.out)) k_ hk⟩) _ (Nat.le_refl _)) (Below.refl _ _) (Nat.le_refl _) (by simp) ?_; (case hd => rfl); (case hg => rfl); (case hr => first | (go_simp; done) | (go_simp; rfl)); (case hp => exact (Reps.none _ _)); intro v296 w4 ho5 hb hg_ hnew_; clear hg_ hnew_; (first | rw [← hy295.out] at ho5 | (simp only [Int.reduceToNat] at ho5; rw [← hy295.out] at ho5)); replace HO0 := am (Kd.V_elder' (Kd.vm HO0.out) (Kd.N_base ho5) hb);replace HO294 := am (Kd.R_below (Kd.rm HO294.out) hb);have HO297 := am (Kd.N_lower ho5 (below_size (bm HB.out)));replace HB := am (below_step (bm HB.out) hb); clear hb ho5))
 go_loopg [4, 5, 6] k (fun kq v4 v5 v6 w' => ∃ (x4_1 : List Int) (x5_1 : List (List Int)) (x6_1 : Int), v6 = .int .i64 x6_1 ∧ Aside0 (spec_l1Terms.l0 kq l0 x4_1 x5_1 x6_1 = some (r1, r2)) ∧ Aside0 (kq ≤ k) ∧ Aside0 (Kd.V (Kd.int .i64) 3 w' w.heap.size (fun k_ => (P0_ k_ ∨ w.heap.size ≤ k_) ∧ some k_ ≠ (v4 : Value).ownBlock ∧ some k_ ≠ (v5 : Value).ownBlock) (.slice A0 l0.length c0) l0) ∧ Aside0 (Kd.R (Kd.int .i64) 3 w' w.heap.size (fun k_ => (w.heap.size ≤ k_)) v4 x4_1) ∧ Aside0 (Kd.N (Kd.slice 3 (Kd.int .i64)) 25 w' w.heap.size (fun k_ => (P0_ k_ ∨ w.heap.size ≤ k_) ∧ some k_ ≠ (v4 : Value).ownBlock) v5 x5_1) ∧ Aside0 (Below w.heap.size w w'))
 case atStart => exact ⟨(y292), (y295), (1), (by first | rfl | (simp; done) | (simp [*]; done)), H', ⟨Nat.le_refl _⟩, ⟨Kd.vm (Kd.V_mono HO0.out (fun _ hk => ⟨hk.1.1, ⟨hk.1.2, hk.2⟩⟩))⟩, ⟨Kd.rm (Kd.R_mono HO294.out (fun _ hk => hk.1))⟩, ⟨Kd.nm HO297.out⟩, ⟨bm HB.out⟩⟩
 case round =>
  clear H';(try clear p2);(try clear c5);(try clear HO_0);(try clear HO_4);(try clear HO_5);(try clear HB);obtain ⟨x4_1, x5_1, x6_1, rfl, HA, HK1, HO_0, HO_4, HO_5, HB⟩ := hrel
  cases gk with
  | zero => exact absurd HA.out (by simp [spec_l1Terms.l0])
  | succ k1 =>
   have H := HA.out;clear HA;simp only [spec_l1Terms.l0] at H;by_cases c6 : x6_1 < (l0.length : Int)
   ·
    rw [if_pos c6] at H;have c6b0 : decide (x6_1 < (l0.length : Int)) = true := decide_eq_true c6;clear c6;replace H := oE H;obtain ⟨t298, A7, H⟩ := H;replace H : (if 0 ≤ x6_1 then (if x4_1.length < 17592186044416 then (if 0 ≤ (wrap64 (x6_1 + 1)) then (if (wrap64 (x6_1 + 1)) ≤ t298 then (if t298 ≤ (l0.length : Int) then (if x5_1.length < 5864062014805 then (spec_l1Terms.l0 k1 l0 (x4_1 ++ [rd l0 x6_1]) (x5_1 ++ [((l0.take (t298 : Int).toNat).drop ((wrap64 (x6_1 + 1)) : Int).toNat)]) t298) else (none)) else (none)) else (none)) else (none)) else (none)) else (none)) = some (r1, r2) := H;replace A7 := am A7;by_cases c8 : 0 ≤ x6_1
    ·
     rw [if_pos c8] at H;have c8b0 : decide (0 ≤ x6_1) = true := decide_eq_true c8;clear c8;by_cases c9 : x4_1.length < 17592186044416
     ·
      rw [if_pos c9] at H;have LMc9 := am c9;clear c9
      obtain ⟨y300, hy300⟩ : ∃ y_ : List Int, y_ = (x4_1 ++ [rd l0 x6_1]) := ⟨_, rfl⟩
      replace H : (if 0 ≤ (wrap64 (x6_1 + 1)) then (if (wrap64 (x6_1 + 1)) ≤ t298 then (if t298 ≤ (l0.length : Int) then (if x5_1.length < 5864062014805 then (spec_l1Terms.l0 k1 l0 y300 (x5_1 ++ [((l0.take (t298 : Int).toNat).drop ((wrap64 (x6_1 + 1)) : Int).toNat)]) t298) else (none)) else (none)) else (none)) else (none)) = some (r1, r2) := by first | (rw [hy300]; with_reducible exact H) | (have H2_ := oB H; rw [hy300]; with_reducible exact H2_) | (have H2_ := oB H; with_reducible exact H2_) | with_reducible exact H | (rw [hy300]; exact H) | exact H
      replace hy300 := am hy300
      obtain ⟨ji10, hji10⟩ : ∃ j_ : Int, (wrap64 (x6_1 + 1)) = j_ := ⟨_, rfl⟩
      replace H : (if 0 ≤ (ji10) then (if (ji10) ≤ t298 then (if t298 ≤ (l0.length : Int) then (if x5_1.length < 5864062014805 then (spec_l1Terms.l0 k1 l0 y300 (x5_1 ++ [((l0.take (t298 : Int).toNat).drop ((ji10) : Int).toNat)]) t298) else (none)) else (none)) else (none)) else (none)) = some (r1, r2) := by first | (rw [hji10] at H; exact H) | (simp only [hji10] at H ⊢; exact H)
      (try rw [hji10] at A7);have hji10w : (IntKind.i64.wrap (x6_1 + 1)) = ji10 := (i64_w _).trans hji10;by_cases c11 : 0 ≤ (ji10)
      ·
       rw [if_pos c11] at H;have c11b0 := eq_true c11;have c11b1 : decide (0 ≤ (ji10)) = true := decide_eq_true c11;clear c11;by_cases c12 : (ji10) ≤ t298
       ·
        rw [if_pos c12] at H;have c12b0 := eq_true c12;have c12b1 : decide ((ji10) ≤ t298) = true := decide_eq_true c12;clear c12;by_cases c13 : t298 ≤ (l0.length : Int)
        ·
         rw [if_pos c13] at H;have c13b0 := eq_true c13;have c13b1 : decide (t298 ≤ (l0.length : Int)) = true := decide_eq_true c13;clear c13
         obtain ⟨y303, hy303⟩ : ∃ y_ : List Int, y_ = ((l0.take (t298 : Int).toNat).drop ((ji10) : Int).toNat) := ⟨_, rfl⟩
         replace H : (if x5_1.length < 5864062014805 then (spec_l1Terms.l0 k1 l0 y300 (x5_1 ++ [y303]) t298) else (none)) = some (r1, r2) := by first | (rw [hy303]; with_reducible exact H) | (have H2_ := oB H; rw [hy303]; with_reducible exact H2_) | (have H2_ := oB H; with_reducible exact H2_) | with_reducible exact H | (rw [hy303]; exact H) | exact H
         replace hy303 := am hy303;by_cases c14 : x5_1.length < 5864062014805
         ·
          rw [if_pos c14] at H;have LMc14 := am c14;clear c14
          obtain ⟨y308, hy308⟩ : ∃ y_ : List (List Int), y_ = (x5_1 ++ [y303]) := ⟨_, rfl⟩
          replace H : (spec_l1Terms.l0 k1 l0 y300 y308 t298) = some (r1, r2) := by first | (rw [hy308]; with_reducible exact H) | (have H2_ := oB H; rw [hy308]; with_reducible exact H2_) | (have H2_ := oB H; with_reducible exact H2_) | with_reducible exact H | (rw [hy308]; exact H) | exact H
          replace hy308 := am hy308;have H' := am H;clear H;go_wp2_with (first | ((with_reducible refine gate_callee (f := 67) rfl ?_); refine goesL_ (some 17) rfl rfl Try.func67 (by kernel_rfl) rfl #[.slice A0 l0.length c0, .int .i64 ji10] rfl (by (try simp only [List.map_toArray, List.map_cons, List.map_nil]); first | done | (simp only [hji10]; rfl) | rfl | (simp only [List.length_drop, List.length_take]; rfl)) ?_; (with_reducible refine (spec_l1Span.calls k1 _ _ l0 ji10 t298 _ ?side1 ?side2 A7.out).mono ?_); (case side1 => exact Kd.cm ((Kd.V_reads' HO_0.out).2.2)); (case side2 => exact (Kd.V_reads' HO_0.out).2.1); rintro e w' ⟨rfl, ⟨nd, rfl⟩⟩; refine ⟨_, rfl, ?_⟩; have p299 : 0 ≤ (x6_1 : Int) := of_decide_eq_true (by assumption); have q299 : x6_1 < (l0.length : Int) := of_decide_eq_true (by assumption); obtain ⟨ad299, e299, hx299_0⟩ := Kd.at_int (Kd.V_reads' HO_0.out).2.2 x6_1 p299 q299; cases e299; replace p299 := eq_true p299; replace q299 := eq_true q299) | ((with_reducible refine gate_builtin (b := .append) (xs := #[.tmp 18, .tmp 23]) rfl ?_); at_builtin; refine Kd.R_append (Kd.int .i64) (w0 := w) w.heap.size rfl (.tmp 18) (.tmp 23) 25 3 (.int .i64 0) 8 rfl Try.underlying25 info3 rfl (by decide) (by omega) u4 x4_1 (rd l0 x6_1) [.int .i64 (rd l0 x6_1)] (fun k_ => (w.heap.size ≤ k_)) (fun _ => False) rfl rfl ?aP (fun _ hk => hk.elim) ?aF ?aO ?aB ?aS ?aL ?_; (case aP => exact rfl); (case aB => exact (bm HB.out)); (case aF => exact (fun k_ hk => (Nat.le_trans (below_size (bm HB.out)) hk))); (case aO => exact (Kd.rm HO_4.out)); (case aS => exact (below_size (bm HB.out))); (case aL => have := LMc9.out; omega); intro v301 w15 ho hb hg hat; rw [← hy300.out] at ho; replace HO_0 := am (Kd.V_afterv (ok := (fun k_ => (P0_ k_ ∨ w.heap.size ≤ k_) ∧ some k_ ≠ (u5 : Value).ownBlock)) (Kd.vm (Kd.V_mono HO_0.out (fun _ hk => ⟨⟨hk.1, hk.2.2⟩, hk.2.1⟩))) hg hat);replace HO_5 := am (Kd.N_afterv (ok := (fun k_ => (P0_ k_ ∨ w.heap.size ≤ k_))) (Kd.nm HO_5.out) hg hat);replace HB := am (hb);have HO302 := am (ho);clear HO_4; clear ho hb hg hat; have q16 : (t298 : Int) ≤ ((l0.length : Int) : Int) := of_decide_eq_true (by assumption); obtain ⟨i016, hi016, _, hsz16, _⟩ := info_parts info3; have hroom16 : l0.length ≤ c0 := (Kd.V_reads' HO_0.out).2.1; have hC16 : Kd.F (Kd.int .i64) _ _ (some ad299) l0.length l0 := (Kd.V_at (base := w.heap.size) HO_0.out).2.2; have ql16 : ((ji10) : Int) ≤ (t298 : Int) := of_decide_eq_true (by assumption); have q016 : (0 : Int) ≤ ((ji10) : Int) := of_decide_eq_true (by assumption); have hcut16 := cut_mid (P := Try.prog) 25 3 .i64 .i64 Try.underlying25 hi016 1 hsz16 (some ad299) l0.length c0 (ji10) t298 q016 ql16 q16 hroom16; have hr16 := Kd.F_mid (lo := ((ji10) : Int).toNat) (hi := (t298 : Int).toNat) (c := c0) hC16 (by omega) (by omega) hroom16; obtain ⟨A16, hA16⟩ : ∃ A1, A1 = (if c0 = ((ji10) : Int).toNat then (some ad299) else ((some ad299) : Option Addr).map (·.add (((ji10) : Int).toNat * 1))) := ⟨_, rfl⟩; obtain ⟨c16, hc16⟩ : ∃ c1, c1 = c0 - ((ji10) : Int).toNat := ⟨_, rfl⟩; have hy16 : y303.length = (t298 : Int).toNat - ((ji10) : Int).toNat := (by rw [hy303.out, List.length_drop, List.length_take] <;> omega); rw [show ((l0).take (t298 : Int).toNat).drop ((ji10) : Int).toNat = y303 from hy303.out.symm] at hr16; replace hr16 : Kd.F (Kd.int .i64) _ _ A16 y303.length y303 := (by rw [hA16]; exact hr16); rw [← hy16, ← hA16, ← hc16] at hcut16; have HO307 := am (show Kd.V (Kd.int .i64) 3 _ w.heap.size _ (.slice A16 y303.length c16) y303 from Kd.V_mk (by rw [hy16, hc16]; exact Nat.sub_le_sub_right (Nat.le_trans (by omega) hroom16) _) hr16); have HC307 := am (show y303.length ≤ c16 from by rw [hy16, hc16]; exact Nat.sub_le_sub_right (Nat.le_trans (by omega) hroom16) _); clear hr16 hC16 hroom16 hi016 hsz16 hc16; have KY16 := am hy16; have KA16 := am hA16; clear hy16 hA16; replace q16 := eq_true q16) | ((with_reducible refine gate_builtin (b := .append) (xs := #[.tmp 25, .tmp 31]) rfl ?_); at_builtin; refine Kd.N_append (Kd.slice 3 (Kd.int .i64)) (w0 := w) w.heap.size rfl (.tmp 25) (.tmp 31) 36 25 (.slice none 0 0) 24 rfl Try.underlying36 info25 rfl (by decide) (by omega) u5 x5_1 y303 [.slice A16 y303.length c16] (fun k_ => (P0_ k_ ∨ w.heap.size ≤ k_) ∧ some k_ ≠ (v301 : Value).ownBlock) (fun k_ => ((fun k_ => (P0_ k_ ∨ w.heap.size ≤ k_) ∧ some k_ ≠ (v301 : Value).ownBlock)) k_ ∧ some k_ ≠ (u5 : Value).ownBlock) rfl rfl ?aP (fun _ hk => hk) ?aF ?aO ?aB ?aS ?aL ?_; (case aP => first | exact (Kd.FK_slice_mk (Kd.V_reads' (Kd.V_mono (ok' := (fun k_ => ((fun k_ => (P0_ k_ ∨ w.heap.size ≤ k_) ∧ some k_ ≠ (v301 : Value).ownBlock)) k_ ∧ some k_ ≠ (u5 : Value).ownBlock)) (HO307.out) (fun k_ hk => ⟨⟨hk.1.1, hk.2⟩, hk.1.2⟩))).2.1 (Kd.V_F (Kd.V_mono (ok' := (fun k_ => ((fun k_ => (P0_ k_ ∨ w.heap.size ≤ k_) ∧ some k_ ≠ (v301 : Value).ownBlock)) k_ ∧ some k_ ≠ (u5 : Value).ownBlock)) (HO307.out) (fun k_ hk => ⟨⟨hk.1.1, hk.2⟩, hk.1.2⟩)))) | exact (Kd.FK_slice_mk (Kd.V_reads' (Kd.V_mono (ok' := (fun k_ => ((fun k_ => (P0_ k_ ∨ w.heap.size ≤ k_) ∧ some k_ ≠ (v301 : Value).ownBlock)) k_ ∧ some k_ ≠ (u5 : Value).ownBlock)) (HO307.out) (fun k_ hk => ⟨⟨hk.1.1, hk.2⟩, hk.1.2⟩))).2.1 (Kd.V_F (Kd.V_mono (ok' := (fun k_ => ((fun k_ => (P0_ k_ ∨ w.heap.size ≤ k_) ∧ some k_ ≠ (v301 : Value).ownBlock)) k_ ∧ some k_ ≠ (u5 : Value).ownBlock)) (Kd.V_drewN HO307.out _) (fun k_ hk => ⟨⟨hk.1.1, hk.2⟩, hk.1.2⟩))))); (case aB => exact (bm HB.out)); (case aF => exact (fun k_ hk => ⟨(.inr (Nat.le_trans (below_size (bm HB.out)) hk)), Kd.fresh' (Kd.R_lt (Kd.rm HO302.out)) k_ hk⟩)); (case aO => exact (Kd.nm HO_5.out)); (case aS => exact (below_size (bm HB.out))); (case aL => have := LMc14.out; omega); intro v309 w17 ho hb hg hat; rw [← hy308.out] at ho; replace HO_0 := am (Kd.V_afterv (ok := (fun k_ => (P0_ k_ ∨ w.heap.size ≤ k_) ∧ some k_ ≠ (v301 : Value).ownBlock)) (Kd.vm (Kd.V_mono HO_0.out (fun _ hk => ⟨⟨hk.1.1, hk.2⟩, hk.1.2⟩))) hg hat);replace HO302 := am (Kd.R_over' (Kd.rm HO302.out) (Kd.N_typed (Kd.nm HO_5.out)) (by decide) hg);replace HO307 := am (Kd.V_afterv (ok := (fun k_ => (P0_ k_ ∨ w.heap.size ≤ k_) ∧ some k_ ≠ (v301 : Value).ownBlock)) (Kd.vm (Kd.V_mono HO307.out (fun _ hk => ⟨⟨hk.1.1, hk.2⟩, hk.1.2⟩))) hg hat);replace HB := am (hb);have HO310 := am (ho);clear HO_5; clear ho hb hg hat))
          go_roundg k1
          case measure => have := HK1.out; omega
          case rel => exact ⟨(y300), (y308), (t298), (by first | rfl | (simp; done) | (simp [*]; done)), H', ⟨by have := HK1.out; omega⟩, ⟨Kd.vm (Kd.V_mono HO_0.out (fun _ hk => ⟨hk.1.1, ⟨hk.1.2, hk.2⟩⟩))⟩, ⟨Kd.rm HO302.out⟩, ⟨Kd.nm HO310.out⟩, ⟨bm HB.out⟩⟩
         ·
          rw [if_neg c14] at H;exact absurd H (by simp)
        ·
         rw [if_neg c13] at H;exact absurd H (by simp)
       ·
        rw [if_neg c12] at H;exact absurd H (by simp)
      ·
       rw [if_neg c11] at H;exact absurd H (by simp)
     ·
      rw [if_neg c9] at H;exact absurd H (by simp)
    ·
     rw [if_neg c8] at H;exact absurd H (by simp)
   ·
    rw [if_neg c6] at H;have c6b0 : decide (x6_1 < (l0.length : Int)) = false := decide_eq_false c6;clear c6;simp only [Option.some.injEq, Prod.mk.injEq] at H;obtain ⟨rfl, rfl⟩ := H;go_wp2;go_ret2;exact ⟨_, _, by first | rfl | (simp [errW_none, errW_some] <;> rfl) | (simp [*, errW_none, errW_some] <;> rfl), Kd.rm HO_4.out, Kd.nm HO_5.out, bm HB.out⟩

end Go.Proofs.Ytomidfnhbnhhmaa.Ke

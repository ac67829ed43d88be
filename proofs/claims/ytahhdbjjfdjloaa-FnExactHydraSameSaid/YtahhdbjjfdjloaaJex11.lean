-- half
-- Written by a program of this session's (wip/mp) out of the translation, over the kit's print with changes.
import Derived.Test.YtahhdbjjfdjloaaJex0
namespace Go.Proofs.Ytahhdbjjfdjloaa.Je
open Go.RowKit Go.Proofs.YtahhdbjjfdjloaaW.PrintWords Go.Proofs.YtahhdbjjfdjloaaW.PrintLast Go.Proofs.YtahhdbjjfdjloaaW.PrintMore
attribute [local go_sem] max2_int min2_int max_two min_two max_three min_three max_four min_four   -- for this text's walks alone
set_option linter.unusedVariables false
set_option linter.unusedSimpArgs false

/-! ### spec_l5Tree: function 62 -/
def spec_l5Tree.l0 : Nat → List (List Int) → List Int → Int → Option (List Int)
 | 0, _, _, _ => none
 | k + 1, x0, x3, x4 => if x4 < (x0.length : Int) then (if 0 ≤ x4 then (if x3.length + (rd_L3 x0 x4).length < 17592186044416 then (spec_l5Tree.l0 k x0 (x3 ++ (rd_L3 x0 x4)) (wrap64 (x4 + 1))) else (none)) else (none)) else (some x3)
def spec_l5Tree.f (k : Nat) (l0 : List (List Int)) : Option (List Int) := spec_l5Tree.l0 k l0 (([(l0.length : Int)] : List Int)) 0
theorem spec_l5Tree.mono_l : ∀ k, (∀ y0 y1 y2, LeO (spec_l5Tree.l0 k y0 y1 y2) (spec_l5Tree.l0 (k + 1) y0 y1 y2))
 | 0 => fun _ _ _ r h => by simp [spec_l5Tree.l0] at h
 | k + 1 => by
  have ih0 := spec_l5Tree.mono_l k
  ·
   intro y0 y1 y2;unfold spec_l5Tree.l0
   repeat' first | (with_reducible exact ih0 _ _ _) | (with_reducible exact LeO.refl _) | (with_reducible exact LeO.none _) | (with_reducible refine LeO.ite ?_ ?_) | (with_reducible refine LeO.bind ?_ (fun _ => ?_))
theorem spec_l5Tree.mono : ∀ a0 k, LeO (spec_l5Tree.f k a0) (spec_l5Tree.f (k + 1) a0) := by
 intro a0 k;have ih0 := spec_l5Tree.mono_l k;unfold spec_l5Tree.f
 repeat' first | (with_reducible exact ih0 _ _ _) | (with_reducible exact LeO.refl _) | (with_reducible exact LeO.none _) | (with_reducible refine LeO.ite ?_ ?_) | (with_reducible refine LeO.bind ?_ (fun _ => ?_))
set_option maxHeartbeats 8000000 in
set_option maxRecDepth 100000 in
theorem spec_l5Tree.calls (k : Nat) (A0 : Option Addr) (c0 : Nat) (l0 : List (List Int)) (r : List Int) (w : World) (hr0 : Kd.C (Kd.slice 3 (Kd.int .i64)) w A0 l0.length l0) (hc0 : l0.length ≤ c0) (h : spec_l5Tree.f k l0 = some r) :
  Calls Try.prog 62 #[.slice A0 l0.length c0] w fun e w' => ∃ v0_ : Value, e = .returned (v0_) ∧ Kd.R (Kd.int .i64) 3 w' w.heap.size (fun _ => True) v0_ r ∧ Below w.heap.size w w' := by
 have HR0 := am hr0;have HC0 := am hc0;clear hr0 hc0;have HB := am (Below.refl w.heap.size w);have H : (spec_l5Tree.l0 k l0 (([(l0.length : Int)] : List Int)) 0) = some r := h;clear h
 obtain ⟨y409, hy409⟩ : ∃ y_ : List Int, y_ = (([(l0.length : Int)] : List Int)) := ⟨_, rfl⟩
 replace H : (spec_l5Tree.l0 k l0 y409 0) = some r := by first | (rw [hy409]; with_reducible exact H) | (have H2_ := oB H; rw [hy409]; with_reducible exact H2_) | (have H2_ := oB H; with_reducible exact H2_) | with_reducible exact H | (rw [hy409]; exact H) | exact H
 replace hy409 := am hy409;have H' := am H;clear H;go_enter Try.func62, Try.ntmps62;go_wp2_with (first | ((with_reducible refine gate_dst (N := 7) rfl ?_); refine Kd.R_lit (Kd.int .i64) _ 3 ?hg (N := 7) ?hd (xs := ([(l0.length : Int)] : List Int)) (inner := [.int .i64 (l0.length : Int)]) (ok := fun _ => True) (okp := fun _ => True) ?hr ?hp (fun _ hk => hk) trivial (Below.refl _ _) (Nat.le_refl _) (by simp) ?_; (case hd => rfl); (case hg => rfl); (case hr => first | (go_simp; done) | (go_simp; rfl)); (case hp => exact (Reps.one (show Kd.M (Kd.int .i64) _ _ _ (l0.length : Int) [.int .i64 (l0.length : Int)] from rfl) (Reps.none _ _))); intro v410 w2 ho3 hb hg_ hnew_; clear hg_ hnew_; (first | rw [← hy409.out] at ho3 | (simp only [Int.reduceToNat] at ho3; rw [← hy409.out] at ho3)); have HO411 := am (Kd.R_lower ho3 (below_size (bm HB.out)));replace HB := am (below_step (bm HB.out) hb); clear hb ho3))
 go_loopg [3, 4] k (fun kq v3 v4 w' => ∃ (x3_1 : List Int) (x4_1 : Int), v4 = .int .i64 x4_1 ∧ Aside0 (spec_l5Tree.l0 kq l0 x3_1 x4_1 = some r) ∧ Aside0 (kq ≤ k) ∧ Aside0 (Kd.R (Kd.int .i64) 3 w' w.heap.size (fun _ => True) v3 x3_1) ∧ Aside0 (Below w.heap.size w w'))
 case atStart => exact ⟨(y409), (0), (by first | rfl | (simp; done) | (simp [*]; done)), H', ⟨Nat.le_refl _⟩, ⟨Kd.rm HO411.out⟩, ⟨bm HB.out⟩⟩
 case round =>
  clear H';(try clear p2);(try clear HO_3);(try clear HB);obtain ⟨x3_1, x4_1, rfl, HA, HK1, HO_3, HB⟩ := hrel
  cases gk with
  | zero => exact absurd HA.out (by simp [spec_l5Tree.l0])
  | succ k1 =>
   have H := HA.out;clear HA;simp only [spec_l5Tree.l0] at H;by_cases c4 : x4_1 < (l0.length : Int)
   ·
    rw [if_pos c4] at H;have c4b0 : decide (x4_1 < (l0.length : Int)) = true := decide_eq_true c4;clear c4;by_cases c5 : 0 ≤ x4_1
    ·
     rw [if_pos c5] at H;have c5b0 : decide (0 ≤ x4_1) = true := decide_eq_true c5;clear c5;by_cases c6 : x3_1.length + (rd_L3 l0 x4_1).length < 17592186044416
     ·
      rw [if_pos c6] at H;have LMc6 := am c6;clear c6
      obtain ⟨y413, hy413⟩ : ∃ y_ : List Int, y_ = (x3_1 ++ (rd_L3 l0 x4_1)) := ⟨_, rfl⟩
      replace H : (spec_l5Tree.l0 k1 l0 y413 (wrap64 (x4_1 + 1))) = some r := by first | (rw [hy413]; with_reducible exact H) | (have H2_ := oB H; rw [hy413]; with_reducible exact H2_) | (have H2_ := oB H; with_reducible exact H2_) | with_reducible exact H | (rw [hy413]; exact H) | exact H
      replace hy413 := am hy413;have H' := am H;clear H;have p412 : 0 ≤ (x4_1 : Int) := of_decide_eq_true (by assumption);have q412 : x4_1 < (l0.length : Int) := of_decide_eq_true (by assumption);obtain ⟨ad412, A412_0, c412_0, e412, hx412_0, hl412_0, hi412_0⟩ := at_L3 HR0.out x4_1 p412 q412;cases e412
      replace hx412_0 := (HB.out.cell (World.block_lt_of_cell? w _ hx412_0)).trans hx412_0;have HR412_0 := am hi412_0;have HC412_0 := am hl412_0;clear hi412_0 hl412_0;replace p412 := eq_true p412;replace q412 := eq_true q412;go_wp2_with (first | ((with_reducible refine gate_builtin (b := .append) (xs := #[.tmp 14, .tmp 18]) rfl ?_); at_builtin; refine Kd.R_append_rows (Kd.int .i64) (w0 := w) w.heap.size rfl (.tmp 14) (.tmp 18) 22 3 (.int .i64 0) 8 rfl Try.underlying22 info3 rfl (by decide) (by omega) u3 x3_1 (rd_L3 l0 x4_1) _ _ _ (fun _ => True) (fun _ => False) rfl rfl ?aO ?aR (fun _ _ h => h) (fun _ h => h.elim) ?aF ?aB ?aS ?aL ?_; (case aR => exact Kd.cm ((Kd.C_below HR412_0.out HB.out))); (case aB => exact (bm HB.out)); (case aF => exact (fun _ _ => trivial)); (case aO => exact (Kd.rm HO_3.out)); (case aS => exact (below_size (bm HB.out))); (case aL => have := LMc6.out; omega); intro v414 w7 ho hb hg hat; rw [← hy413.out] at ho; replace HB := am (hb);have HO415 := am (ho);clear HO_3; clear ho hb hg hat))
      go_roundg k1
      case measure => have := HK1.out; omega
      case rel => exact ⟨(y413), (wrap64 (x4_1 + 1)), (by first | rfl | (simp; done) | (simp [*]; done)), H', ⟨by have := HK1.out; omega⟩, ⟨Kd.rm HO415.out⟩, ⟨bm HB.out⟩⟩
     ·
      rw [if_neg c6] at H;exact absurd H (by simp)
    ·
     rw [if_neg c5] at H;exact absurd H (by simp)
   ·
    rw [if_neg c4] at H;have c4b0 : decide (x4_1 < (l0.length : Int)) = false := decide_eq_false c4;clear c4;obtain rfl := Option.some.inj H;go_wp2;go_ret;exact ⟨_, by first | rfl | (simp [errW_none, errW_some] <;> rfl) | (simp [*, errW_none, errW_some] <;> rfl), Kd.rm HO_3.out, bm HB.out⟩

end Go.Proofs.Ytahhdbjjfdjloaa.Je

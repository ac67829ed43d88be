-- half
-- Written by a program of this session's (wip/mp) out of the translation, over the kit's print with changes.
import Derived.Test.YtahhdbjjfdjloaaJfx0
import Derived.Test.YtahhdbjjfdjloaaJfx6
namespace Go.Proofs.Ytahhdbjjfdjloaa.Jf
open Go.RowKit Go.Proofs.YtahhdbjjfdjloaaW.PrintWords Go.Proofs.YtahhdbjjfdjloaaW.PrintLast Go.Proofs.YtahhdbjjfdjloaaW.PrintMore
attribute [local go_sem] max2_int min2_int max_two min_two max_three min_three max_four min_four   -- for this text's walks alone
set_option linter.unusedVariables false
set_option linter.unusedSimpArgs false

/-! ### impl_hydraSize: function 38 -/
mutual
def impl_hydraSize.l0 : Nat -> Int -> List (S72) -> Int -> Int -> Option (Int)
 | 0, _, _, _, _ => none
 | k + 1, x3, x6, x7, x8 => if x8 < x7 then (if 0 <= x8 then (if x8 < (x6.length : Int) then ((impl_hydraSize.f k ((rd_T72 x6 x8).f1)).bind fun t262 => (impl_hydraSize.l0 k (mn 1000 (wrap64 (x3 + (wrap64 (((rd_T72 x6 x8).f0) * t262))))) x6 x7 (wrap64 (x8 + 1)))) else (none)) else (none)) else (some x3)
def impl_hydraSize.f : Nat -> List (S72) -> Option (Int)
 | 0, _ => none
 | k + 1, l0 => impl_hydraSize.l0 k 1 l0 (l0.length : Int) 0
end
theorem impl_hydraSize.mono_l : ∀ k, (∀ y0, LeO (impl_hydraSize.f k y0) (impl_hydraSize.f (k + 1) y0)) /\ (∀ y0 y1 y2 y3, LeO (impl_hydraSize.l0 k y0 y1 y2 y3) (impl_hydraSize.l0 (k + 1) y0 y1 y2 y3))
 | 0 => ⟨fun _ r h => by simp [impl_hydraSize.f] at h, fun _ _ _ _ r h => by simp [impl_hydraSize.l0] at h⟩
 | k + 1 => by
  obtain ⟨ih0, ih1⟩ := impl_hydraSize.mono_l k;refine ⟨?_, ?_⟩
  all_goals (intros; first | unfold impl_hydraSize.f | unfold impl_hydraSize.l0)
  all_goals repeat' with_reducible first | exact ih0 _ | exact ih1 _ _ _ _ | exact LeO.refl _ | refine LeO.ite ?_ ?_ | refine LeO.bind ?_ (fun _ => ?_)
theorem impl_hydraSize.mono : ∀ a0 k, LeO (impl_hydraSize.f k a0) (impl_hydraSize.f (k + 1) a0) := by
 intro a0 k;obtain ⟨ih0, ih1⟩ := impl_hydraSize.mono_l k;exact ih0 a0
def impl_hydraSize.T5 : Bool × List (List Nat × List Nat) := (true, [([], []), ([], []), ([1], [1]), ([], []), ([3], [3]), ([4], [4]), ([2, 5], [2, 5]), ([0, 6], [0, 6]), ([7], [7]), ([8, 5, 0, 1, 2, 3, 4, 5, 6, 7, 8], [0, 8])])
def impl_hydraSize.B5 : List Nat := [0, 0, 2, 0, 8, 24, 62, 127, 255, 511]
theorem impl_hydraSize.tab5 : rtab .any (opsOf Try.f38 5) = impl_hydraSize.T5 := by kernel_rfl
theorem impl_hydraSize.bits5 : waitsOk impl_hydraSize.T5.2 impl_hydraSize.B5 = true := by kernel_rfl
set_option maxHeartbeats 8000000 in
set_option maxRecDepth 100000 in
theorem impl_hydraSize.calls (k : Nat) : ∀ (A0 : Option Addr) (c0 : Nat) (l0 : List (S72)) (r : Int) (w : World) (hr0 : Kd.C k72 w A0 l0.length l0) (hc0 : l0.length <= c0) (h : impl_hydraSize.f k l0 = some r),
  Calls Try.prog 38 #[.slice A0 l0.length c0] w fun e w' => e = .returned (.int .i64 r) /\ Below w.heap.size w w' := by
 induction k using Nat.strongRecOn with
 | _ k ih =>
 intro A0 c0 l0 r w hr0 hc0 h
 cases k with
 | zero => exact absurd h (by simp [impl_hydraSize.f])
 | succ k =>
 simp only [impl_hydraSize.f] at h;have hu72 := Try.underlying72;have HR0 := am hr0;have HC0 := am hc0;clear hr0 hc0;have HB := am (Below.refl w.heap.size w);have H : (impl_hydraSize.l0 k 1 l0 (l0.length : Int) 0) = some r := h;clear h;have H' := am H;clear H;go_enter Try.func38, Try.ntmps38;go_wp2
 go_loopg [3, 8] k (fun kq v3 v8 w' => ∃ (x3_1 : Int) (x8_1 : Int), v3 = .int .i64 x3_1 /\ v8 = .int .i64 x8_1 /\ Aside0 (impl_hydraSize.l0 kq x3_1 l0 (l0.length : Int) x8_1 = some r) /\ Aside0 (kq <= k) /\ Aside0 (Below w.heap.size w w'))
 case atStart => exact ⟨(1), (0), (by rfl), (by rfl), H', ⟨Nat.le_refl _⟩, ⟨bm HB.out⟩⟩
 case round =>
  clear H';obtain ⟨x3_1, x8_1, rfl, rfl, HA, HK1, HB⟩ := hrel
  cases gk with
  | zero => exact absurd HA.out (by simp [impl_hydraSize.l0])
  | succ k1 =>
   have H := HA.out;clear HA;simp only [impl_hydraSize.l0] at H;by_cases c2 : x8_1 < (l0.length : Int)
   ·
    rw [if_pos c2] at H;have c2b0 : decide (x8_1 < (l0.length : Int)) = true := decide_eq_true c2;clear c2;by_cases c3 : 0 <= x8_1
    ·
     rw [if_pos c3] at H;have c3b0 : decide (0 <= x8_1) = true := decide_eq_true c3;clear c3;by_cases c4 : x8_1 < (l0.length : Int)
     ·
      rw [if_pos c4] at H;have c4b0 : decide (x8_1 < (l0.length : Int)) = true := decide_eq_true c4;clear c4;replace H := oE H;obtain ⟨t262, A5, H⟩ := H;replace H : (impl_hydraSize.l0 k1 (mn 1000 (wrap64 (x3_1 + (wrap64 (((rd_T72 l0 x8_1).f0) * t262))))) l0 (l0.length : Int) (wrap64 (x8_1 + 1))) = some r := H;replace A5 := am A5
      obtain ⟨ji6, hji6⟩ : ∃ j_ : Int, (mn 1000 (wrap64 (x3_1 + (wrap64 (((rd_T72 l0 x8_1).f0) * t262))))) = j_ := ⟨_, rfl⟩
      replace H : (impl_hydraSize.l0 k1 ji6 l0 (l0.length : Int) (wrap64 (x8_1 + 1))) = some r := by (rw [hji6] at H; exact H)
      have hji6_ : (if (wrap64 (x3_1 + (wrap64 (((rd_T72 l0 x8_1).f0) * t262)))) < 1000 then (wrap64 (x3_1 + (wrap64 (((rd_T72 l0 x8_1).f0) * t262)))) else 1000) = ji6 := hji6;have H' := am H;clear H;have p260 : 0 <= (x8_1 : Int) := of_decide_eq_true (by assumption);have q260 : x8_1 < (l0.length : Int) := of_decide_eq_true (by assumption);obtain ⟨ad260, A260_1, c260_1, e260, hx260_0, hx260_1, hl260_1, hi260_1⟩ := at_T72 HR0.out x8_1 p260 q260;cases e260
      replace hx260_0 := (HB.out.cell (World.block_lt_of_cell? w _ hx260_0)).trans hx260_0;replace hx260_1 := (HB.out.cell (World.block_lt_of_cell? w _ hx260_1)).trans hx260_1;have HR260_1 := am hi260_1;have HC260_1 := am hl260_1;clear hi260_1 hl260_1;replace p260 := eq_true p260;replace q260 := eq_true q260;go_wp2_with (((with_reducible refine gate_dst (N := 5) rfl ?_); refine box_event ?hg (N := 5) ?hd (cs := #[.int .i64 0, .slice none 0 0]) (t := 72) ?hr ?_; (case hd => rfl); (case hg => rfl); (case hr => (go_simp; done)); intro gb261 hg w7 hbox hb; have BK261 := am (hbox);have GW261 := am ((by rw [hg]; exact (below_size (bm HB.out)) : w.heap.size <= gb261));have GE261 := am ((by rw [hg]; exact (below_size (bm HB.out)) : w.heap.size <= gb261));replace HB := am (below_step (bm HB.out) hb); clear hb hbox hg; have hcz8_0 : w7.cell? ⟨gb261, 0, none⟩ = some (.int .i64 0) := (blk_cell BK261.out 0).trans rfl; have hcz8_1 : w7.cell? ⟨gb261, 1, none⟩ = some (.slice none 0 0) := (blk_cell BK261.out 1).trans rfl; have hfz8_0 := blk_frozen BK261.out 0; have hfz8_1 := blk_frozen BK261.out 1));have n0_ : Aside0 (((w7.setCell ⟨gb261, 0, none⟩ (.int .i64 ((rd_T72 l0 x8_1).f0))).setCell ⟨gb261, 1, none⟩ (.slice A260_1 ((rd_T72 l0 x8_1).f1).length c260_1)).heap[gb261]? = some (.cells #[.int .i64 ((rd_T72 l0 x8_1).f0), .slice A260_1 ((rd_T72 l0 x8_1).f1).length c260_1] 72 (0, 0))) := ⟨by (with_reducible repeat (first | refine blk_drewN ?_ _ | refine blk_drew ?_ | refine blk_alloc ?_ _)); refine blk_put (cs := #[.int .i64 ((rd_T72 l0 x8_1).f0), .slice none 0 0]) ?_ 1 _ rfl; (with_reducible repeat (first | refine blk_drewN ?_ _ | refine blk_drew ?_ | refine blk_alloc ?_ _)); refine blk_put (cs := #[.int .i64 0, .slice none 0 0]) ?_ 0 _ rfl; (with_reducible repeat (first | refine blk_drewN ?_ _ | refine blk_drew ?_ | refine blk_alloc ?_ _)); exact BK261.out⟩;have n1_ : Aside0 (Below w.heap.size w ((w7.setCell ⟨gb261, 0, none⟩ (.int .i64 ((rd_T72 l0 x8_1).f0))).setCell ⟨gb261, 1, none⟩ (.slice A260_1 ((rd_T72 l0 x8_1).f1).length c260_1))) := ⟨by repeat ((with_reducible first | exact HB.out | refine below_set ?_ GE261.out))⟩;clear BK261;clear HB;generalize ((w7.setCell ⟨gb261, 0, none⟩ (.int .i64 ((rd_T72 l0 x8_1).f0))).setCell ⟨gb261, 1, none⟩ (.slice A260_1 ((rd_T72 l0 x8_1).f1).length c260_1)) = w9 at n0_ n1_ ⊢;have BK261 := n0_;have HB := n1_;clear n0_ n1_;replace BK261 := am (blk_drew BK261.out);replace HB := am (below_drew1 HB.out);refine start_ (n := 10) (S := fun w' => w'.cell? ⟨gb261, 0, none⟩ = some (.int .i64 ((rd_T72 l0 x8_1).f0)) /\ w'.cell? ⟨gb261, 1, none⟩ = some (.slice A260_1 ((rd_T72 l0 x8_1).f1).length c260_1)) (ds := []) #[false, false, false, false, false, false, false, false, false, false] (by kernel_rfl) rfl rfl ⟨(blk_cell BK261.out 0).trans rfl, (blk_cell BK261.out 1).trans rfl⟩ (fun hHeld => ?_); refine with_tabW impl_hydraSize.tab5 impl_hydraSize.bits5 (fun HT_ HW_ => ?_);generalize w9.drew = w10 at BK261 HB hHeld ⊢;refine pure_ (i := 0) (N := some 12) (v := ?_) (a' := ?_) #[true, false, false, false, false, false, false, false, false, false] rfl rfl (any_of HT_.out (by kernel_rfl)) (fun _ _ _ h => h) (Or.inl ⟨by rfl, ?_⟩) ?_ ?_;rotate_left;(intro w';go_simp;with_reducible rfl);rotate_left;(simp only [Act.put, sA, sB, sC, i64_w, i32_w];rfl);refine pure_ (i := 1) (N := some 13) (v := ?_) (a' := ?_) #[true, true, false, false, false, false, false, false, false, false] rfl rfl (any_of HT_.out (by kernel_rfl)) (fun _ _ _ h => h) (Or.inl ⟨by rfl, ?_⟩) ?_ ?_;rotate_left;(intro w';go_simp;with_reducible rfl);rotate_left;(simp only [Act.put, sA, sB, sC, i64_w, i32_w];rfl);refine pure_ (i := 3) (N := some 15) (v := ?_) (a' := ?_) #[true, true, false, true, false, false, false, false, false, false] rfl rfl (any_of HT_.out (by kernel_rfl)) (fun _ _ _ h => h) (Or.inl ⟨by rfl, ?_⟩) ?_ ?_;rotate_left;(intro w';go_simp;with_reducible rfl);rotate_left;(simp only [Act.put, sA, sB, sC, i64_w, i32_w];rfl)
      refine take_ (i := 2) (N := some 14) (v := ?_) (a' := ?_) #[true, true, true, true, false, false, false, false, false, false] rfl rfl (take_ofW HT_.out HW_.out (by kernel_rfl)) (fun _ _ _ h => h) (Or.inl ⟨by rfl, ?_⟩) hHeld ?_ ?_;rotate_left
      ·
       rintro w' ⟨s0, s1⟩
       go_simp;with_reducible rfl
      rotate_left
      · simp only [Act.put, sA, sB, sC, i64_w, i32_w];rfl
      refine take_ (i := 4) (N := some 16) (v := ?_) (a' := ?_) #[true, true, true, true, true, false, false, false, false, false] rfl rfl (take_ofW HT_.out HW_.out (by kernel_rfl)) (fun _ _ _ h => h) (Or.inl ⟨by rfl, ?_⟩) hHeld ?_ ?_;rotate_left
      ·
       rintro w' ⟨s0, s1⟩
       go_simp;with_reducible rfl
      rotate_left
      · simp only [Act.put, sA, sB, sC, i64_w, i32_w];rfl
      refine one_ (i := 5) (N := some 17) #[true, true, true, true, true, true, false, false, false, false] rfl rfl (one_of HT_.out (by kernel_rfl)) (by decide) (fun K hK => ?_);refine goes_ Try.func38 (by kernel_rfl) rfl #[.slice A260_1 ((rd_T72 l0 x8_1).f1).length c260_1] (by rfl) rfl rfl (by (try simp only [mA, mB, mC]); rfl) ?_
      with_reducible refine (ih k1 (by have := HK1.out; omega) _ _ ((rd_T72 l0 x8_1).f1) t262 _ ?side1 ?side2 A5.out).mono ?_
      (case side1 => exact Kd.cm ((Kd.C_below HR260_1.out HB.out)));(case side2 => exact HC260_1.out)
      rintro e w11 ⟨rfl, hb⟩
      refine ⟨_, rfl, ?_⟩;replace BK261 := am (blk_below (g := gb261) (o := .cells #[.int .i64 ((rd_T72 l0 x8_1).f0), .slice A260_1 ((rd_T72 l0 x8_1).f1).length c260_1] 72 (0, 0)) (by (with_reducible repeat (first | refine blk_drewN ?_ _ | refine blk_drew ?_ | refine blk_alloc ?_ _)); exact BK261.out) hb);replace HB := am (below_step (by repeat ((with_reducible exact HB.out))) hb);clear hb;refine hK.out _ _ ⟨(blk_cell BK261.out 0).trans rfl, (blk_cell BK261.out 1).trans rfl⟩ (fun hHeld => ?_);clear hK K;refine norm_ (a' := ?_) ?_ ?_;rotate_left
      ·
       show Act.put _ (some 17) _ = _
       simp only [Act.put, sA, sB, sC, i64_w, i32_w];rfl
      refine pure_ (i := 6) (N := some 18) (v := ?_) (a' := ?_) #[true, true, true, true, true, true, true, false, false, false] rfl rfl (any_of HT_.out (by kernel_rfl)) (fun _ _ _ h => h) (Or.inl ⟨by rfl, ?_⟩) ?_ ?_;rotate_left;(intro w';go_simp;with_reducible rfl);rotate_left;(simp only [Act.put, sA, sB, sC, i64_w, i32_w];rfl);refine pure_ (i := 7) (N := some 19) (v := ?_) (a' := ?_) #[true, true, true, true, true, true, true, true, false, false] rfl rfl (any_of HT_.out (by kernel_rfl)) (fun _ _ _ h => h) (Or.inl ⟨by rfl, ?_⟩) ?_ ?_;rotate_left;(intro w';go_simp;with_reducible rfl);rotate_left;(simp only [Act.put, sA, sB, sC, i64_w, i32_w];rfl);refine pure_ (i := 8) (N := some 20) (v := ?_) (a' := ?_) #[true, true, true, true, true, true, true, true, true, false] rfl rfl (any_of HT_.out (by kernel_rfl)) (fun _ _ _ h => h) (Or.inl ⟨by rfl, ?_⟩) ?_ ?_;rotate_left;(intro w';go_simp;with_reducible rfl);rotate_left;(simp only [Act.put, sA, sB, sC, i64_w, i32_w];rfl);refine pure_ (i := 9) (N := some 3) (v := ?_) (a' := ?_) #[true, true, true, true, true, true, true, true, true, true] rfl rfl (any_of HT_.out (by kernel_rfl)) (fun _ _ _ h => h) (Or.inl ⟨by rfl, ?_⟩) ?_ ?_;rotate_left;(intro w';go_simp;with_reducible rfl);rotate_left;(simp only [Act.put, sA, sB, sC, i64_w, i32_w];rfl)
      refine done_ (done_of HT_.out (by kernel_rfl)) ?_;go_wp2
      go_roundg k1
      case measure => have := HK1.out; omega
      case rel => exact ⟨(ji6), (wrap64 (x8_1 + 1)), (by rfl), (by rfl), H', ⟨by have := HK1.out; omega⟩, ⟨by repeat ((with_reducible exact HB.out))⟩⟩
     · rw [if_neg c4] at H;exact absurd H (by simp)
    · rw [if_neg c3] at H;exact absurd H (by simp)
   · rw [if_neg c2] at H;have c2b0 : decide (x8_1 < (l0.length : Int)) = false := decide_eq_false c2;clear c2;obtain rfl := Option.some.inj H;go_wp2;go_ret;exact ⟨by rfl, bm HB.out⟩

/-! ### impl_hydra_row: function 55 -/
mutual
def impl_hydra_row.l0 : Nat -> List Int -> List (S46) -> Int -> Int -> Option (List Int)
 | 0, _, _, _, _ => none
 | k + 1, x3, x9, x10, x11 => if x11 < x10 then (if 0 <= x11 then (if x11 < (x9.length : Int) then ((impl_hydra_row.f k ((rd_T46 x9 x11).f0)).bind fun t267 => (if x3.length + t267.length < 17592186044416 then (impl_hydra_row.l0 k (x3 ++ t267) x9 x10 (wrap64 (x11 + 1))) else (none))) else (none)) else (none)) else (some x3)
def impl_hydra_row.f : Nat -> List (S46) -> Option (List Int)
 | 0, _ => none
 | k + 1, l0 => impl_hydra_row.l0 k (([(l0.length : Int)] : List Int)) l0 (l0.length : Int) 0
end
theorem impl_hydra_row.mono_l : ∀ k, (∀ y0, LeO (impl_hydra_row.f k y0) (impl_hydra_row.f (k + 1) y0)) /\ (∀ y0 y1 y2 y3, LeO (impl_hydra_row.l0 k y0 y1 y2 y3) (impl_hydra_row.l0 (k + 1) y0 y1 y2 y3))
 | 0 => ⟨fun _ r h => by simp [impl_hydra_row.f] at h, fun _ _ _ _ r h => by simp [impl_hydra_row.l0] at h⟩
 | k + 1 => by
  obtain ⟨ih0, ih1⟩ := impl_hydra_row.mono_l k;refine ⟨?_, ?_⟩
  all_goals (intros; first | unfold impl_hydra_row.f | unfold impl_hydra_row.l0)
  all_goals repeat' with_reducible first | exact ih0 _ | exact ih1 _ _ _ _ | exact LeO.refl _ | refine LeO.ite ?_ ?_ | refine LeO.bind ?_ (fun _ => ?_)
theorem impl_hydra_row.mono : ∀ a0 k, LeO (impl_hydra_row.f k a0) (impl_hydra_row.f (k + 1) a0) := by
 intro a0 k;obtain ⟨ih0, ih1⟩ := impl_hydra_row.mono_l k;exact ih0 a0
set_option maxHeartbeats 8000000 in
set_option maxRecDepth 100000 in
theorem impl_hydra_row.calls (k : Nat) : ∀ (A0 : Option Addr) (c0 : Nat) (l0 : List (S46)) (r : List Int) (w : World) (hr0 : Kd.C k46 w A0 l0.length l0) (hc0 : l0.length <= c0) (h : impl_hydra_row.f k l0 = some r),
  Calls Try.prog 55 #[.slice A0 l0.length c0] w fun e w' => ∃ v0_ : Value, e = .returned (v0_) /\ Kd.R (Kd.int .i64) 3 w' w.heap.size (fun _ => True) v0_ r /\ Below w.heap.size w w' := by
 induction k using Nat.strongRecOn with
 | _ k ih =>
 intro A0 c0 l0 r w hr0 hc0 h
 cases k with
 | zero => exact absurd h (by simp [impl_hydra_row.f])
 | succ k =>
 simp only [impl_hydra_row.f] at h;have HR0 := am hr0;have HC0 := am hc0;clear hr0 hc0;have HB := am (Below.refl w.heap.size w);have H : (impl_hydra_row.l0 k (([(l0.length : Int)] : List Int)) l0 (l0.length : Int) 0) = some r := h;clear h
 obtain ⟨y263, hy263⟩ : ∃ y_ : List Int, y_ = (([(l0.length : Int)] : List Int)) := ⟨_, rfl⟩
 replace H : (impl_hydra_row.l0 k y263 l0 (l0.length : Int) 0) = some r := by (rw [hy263]; with_reducible exact H)
 replace hy263 := am hy263;have H' := am H;clear H;go_enter Try.func55, Try.ntmps55;go_wp2_with (((with_reducible refine gate_dst (N := 8) rfl ?_); refine Kd.R_lit (Kd.int .i64) _ 3 ?hg (N := 8) ?hd (xs := ([(l0.length : Int)] : List Int)) (inner := [.int .i64 (l0.length : Int)]) (ok := fun _ => True) (okp := fun _ => True) ?hr ?hp (fun _ hk => hk) trivial (Below.refl _ _) (Nat.le_refl _) (by simp) ?_; (case hd => rfl); (case hg => rfl); (case hr => (go_simp; done)); (case hp => exact (Reps.one (show Kd.M (Kd.int .i64) _ _ _ (l0.length : Int) [.int .i64 (l0.length : Int)] from rfl) (Reps.none _ _))); intro v264 w2 ho3 hb hg_ hnew_; clear hg_ hnew_; (rw [<- hy263.out] at ho3); have HO265 := am (Kd.R_lower ho3 (below_size (bm HB.out)));replace HB := am (below_step (bm HB.out) hb); clear hb ho3))
 go_loopg [3, 11] k (fun kq v3 v11 w' => ∃ (x3_1 : List Int) (x11_1 : Int), v11 = .int .i64 x11_1 /\ Aside0 (impl_hydra_row.l0 kq x3_1 l0 (l0.length : Int) x11_1 = some r) /\ Aside0 (kq <= k) /\ Aside0 (Kd.R (Kd.int .i64) 3 w' w.heap.size (fun _ => True) v3 x3_1) /\ Aside0 (Below w.heap.size w w'))
 case atStart => exact ⟨(y263), (0), (by rfl), H', ⟨Nat.le_refl _⟩, ⟨Kd.rm HO265.out⟩, ⟨bm HB.out⟩⟩
 case round =>
  clear H';clear HB;obtain ⟨x3_1, x11_1, rfl, HA, HK1, HO_3, HB⟩ := hrel
  cases gk with
  | zero => exact absurd HA.out (by simp [impl_hydra_row.l0])
  | succ k1 =>
   have H := HA.out;clear HA;simp only [impl_hydra_row.l0] at H;by_cases c4 : x11_1 < (l0.length : Int)
   ·
    rw [if_pos c4] at H;have c4b0 : decide (x11_1 < (l0.length : Int)) = true := decide_eq_true c4;clear c4;by_cases c5 : 0 <= x11_1
    ·
     rw [if_pos c5] at H;have c5b0 : decide (0 <= x11_1) = true := decide_eq_true c5;clear c5;by_cases c6 : x11_1 < (l0.length : Int)
     ·
      rw [if_pos c6] at H;have c6b0 : decide (x11_1 < (l0.length : Int)) = true := decide_eq_true c6;clear c6;replace H := oE H;obtain ⟨t267, A7, H⟩ := H;replace H : (if x3_1.length + t267.length < 17592186044416 then (impl_hydra_row.l0 k1 (x3_1 ++ t267) l0 (l0.length : Int) (wrap64 (x11_1 + 1))) else (none)) = some r := H;replace A7 := am A7;by_cases c8 : x3_1.length + t267.length < 17592186044416
      ·
       rw [if_pos c8] at H;have LMc8 := am c8;clear c8
       obtain ⟨y270, hy270⟩ : ∃ y_ : List Int, y_ = (x3_1 ++ t267) := ⟨_, rfl⟩
       replace H : (impl_hydra_row.l0 k1 y270 l0 (l0.length : Int) (wrap64 (x11_1 + 1))) = some r := by (rw [hy270]; with_reducible exact H)
       replace hy270 := am hy270;have H' := am H;clear H;have p266 : 0 <= (x11_1 : Int) := of_decide_eq_true (by assumption);have q266 : x11_1 < (l0.length : Int) := of_decide_eq_true (by assumption);obtain ⟨ad266, A266_0, c266_0, e266, hx266_0, hl266_0, hi266_0⟩ := at_T46 HR0.out x11_1 p266 q266;cases e266
       replace hx266_0 := (HB.out.cell (World.block_lt_of_cell? w _ hx266_0)).trans hx266_0;have HR266_0 := am hi266_0;have HC266_0 := am hl266_0;clear hi266_0 hl266_0;replace p266 := eq_true p266;replace q266 := eq_true q266;go_wp2_with (first | ((with_reducible refine gate_callee (f := 55) rfl ?_); refine goesL_ (some 17) rfl rfl Try.func55 (by kernel_rfl) rfl #[.slice A266_0 ((rd_T46 l0 x11_1).f0).length c266_0] rfl (by (try simp only [mA, mB, mC]); rfl) ?_; (with_reducible refine (ih k1 (by have := HK1.out; omega) _ _ ((rd_T46 l0 x11_1).f0) t267 _ ?side1 ?side2 A7.out).mono ?_); (case side1 => exact Kd.cm ((Kd.C_below HR266_0.out HB.out))); (case side2 => exact HC266_0.out); rintro e w9 ⟨v268, rfl, ho0, hb⟩; refine ⟨_, rfl, ?_⟩; have HO269 := am (Kd.R_lower (Kd.R_new' ho0 (Kd.R_lt (Kd.rm HO_3.out))) (below_size (bm HB.out)));replace HO_3 := am (Kd.R_elder' (Kd.rm HO_3.out) (Kd.R_base ho0) hb);replace HB := am (below_step (bm HB.out) hb); clear hb;clear ho0; obtain ⟨Ao11, co11, eo11⟩ := Kd.R_slice HO269.out; subst eo11) | ((with_reducible refine gate_builtin (b := .append) (xs := #[.tmp 15, .tmp 17]) rfl ?_); at_builtin; refine Kd.R_append_rows (Kd.int .i64) (w0 := w) w.heap.size rfl (.tmp 15) (.tmp 17) 22 3 (.int .i64 0) 8 rfl Try.underlying22 info3 rfl (by decide) (by omega) u3 x3_1 t267 _ _ _ (fun k_ => some k_ ≠ (.slice Ao11 t267.length co11 : Value).ownBlock) (fun _ => False) rfl rfl ?aO ?aR (fun _ _ h => h) (fun _ h => h.elim) ?aF ?aB ?aS ?aL ?_; (case aR => exact Kd.cm ((Kd.R_reads' HO269.out).2.2)); (case aB => exact (bm HB.out)); (case aF => exact (fun k_ hk => Kd.fresh' (Kd.R_lt (Kd.rm HO269.out)) k_ hk)); (case aO => exact (Kd.rm (Kd.R_mono HO_3.out (fun _ hk => hk.2)))); (case aS => exact (below_size (bm HB.out))); (case aL => have := LMc8.out; omega); intro v271 w10 ho hb hg hat; rw [<- hy270.out] at ho; replace HO269 := am (Kd.R_after (ok := (fun _ => True)) (Kd.rm HO269.out) hg hat);replace HB := am (hb);have HO272 := am (ho);clear HO_3; clear ho hb hg hat))
       go_roundg k1
       case measure => have := HK1.out; omega
       case rel => exact ⟨(y270), (wrap64 (x11_1 + 1)), (by rfl), H', ⟨by have := HK1.out; omega⟩, ⟨Kd.rm (Kd.R_mono HO272.out (fun _ hk => trivial))⟩, ⟨bm HB.out⟩⟩
      · rw [if_neg c8] at H;exact absurd H (by simp)
     · rw [if_neg c6] at H;exact absurd H (by simp)
    · rw [if_neg c5] at H;exact absurd H (by simp)
   · rw [if_neg c4] at H;have c4b0 : decide (x11_1 < (l0.length : Int)) = false := decide_eq_false c4;clear c4;obtain rfl := Option.some.inj H;go_wp2;go_ret;exact ⟨_, by rfl, Kd.rm HO_3.out, bm HB.out⟩

/-! ### slices_Clip_int_int: function 66 -/
def slices_Clip_int_int.f (l0 : List Int) : Option (List Int) := some l0
set_option maxHeartbeats 8000000 in
set_option maxRecDepth 100000 in
theorem slices_Clip_int_int.calls (P0_ : Nat -> Prop) (u9000_ : Value) (l0 : List Int) (r : List Int) (w0 w : World) (hB : Below w0.heap.size w0 w) (ho0 : Kd.R (Kd.int .i64) 3 w w0.heap.size P0_ u9000_ l0) (h : slices_Clip_int_int.f l0 = some r) :
  Calls Try.prog 66 #[u9000_] w fun e w' => ∃ v0_ : Value, e = .returned (v0_) /\ Kd.Y (Kd.int .i64) 3 w' w0.heap.size (fun k_ => (P0_ k_ \/ w.heap.size <= k_)) v0_ r /\ Below w0.heap.size w0 w' /\ Kept w w' (fun k_ => P0_ k_) := by
 obtain rfl := Option.some.inj h;clear h;obtain ⟨A, c, rfl⟩ := Kd.R_slice ho0;have hY := am (Kd.Y_clip (Kd.Y_of_R ho0));have hlc := (Kd.Y_reads' (Kd.Y_of_R ho0)).2.1;have HK := am (Kept.refl w (fun k_ => P0_ k_));have HB := am hB;clear hB ho0;obtain ⟨i0, hi0, _, hsz, _⟩ := info_parts info3
 have hcut : ∀ W : World, (Instr.slice 22 (.slice A l0.length c) none (some (.int .i64 (l0.length : Int))) (some (.int .i64 (l0.length : Int)))).run Try.prog W = .ok (.slice A l0.length l0.length) W := by
  intro W
  have hel : Program.elem Try.prog 22 = 3 := by simp [Program.elem, Try.underlying22]
  have hu : Try.prog.underlying 22 = some (.slice (Program.elem Try.prog 22)) := by rw [hel]; exact Try.underlying22
  rw [run_slice_hm W 22 A l0.length c hu .i64 .i64 (l0.length : Int) (l0.length : Int) (by omega) (by omega) (by omega), hel]
  cases A with
  | none => simp [sizeOf, typeInfo, hi0, hsz, sliced, Result.andThen]
  | some ad => simp [sizeOf, typeInfo, hi0, hsz, sliced, Result.andThen, Addr.add]
 clear hi0 hsz;go_enter Try.func66, Try.ntmps66;go_wp2;go_ret;exact ⟨_, rfl, Kd.Y_mono (by repeat (exact hY.out)) (fun _ hk => .inl hk), by repeat (exact HB.out), by repeat (exact HK.out)⟩

/-! ### impl_grown: function 39 -/
def impl_grown.f (k : Nat) (l0 : List (S46)) : Option (List Int × Bool) := (impl_hydra_row.f k l0).bind fun t273 => (if (t273.length : Int) > 60 then (some (([] : List Int), false)) else ((slices_Clip_int_int.f t273).bind fun t276 => (some (t276, true))))
theorem impl_grown.mono : ∀ a0 k, LeO (impl_grown.f k a0) (impl_grown.f (k + 1) a0) := by
 intro a0 k;unfold impl_grown.f
 repeat' with_reducible first | exact impl_hydra_row.mono _ _ | exact LeO.refl _ | refine LeO.bind ?_ (fun _ => ?_)
set_option maxHeartbeats 8000000 in
set_option maxRecDepth 100000 in
theorem impl_grown.calls (k : Nat) (A0 : Option Addr) (c0 : Nat) (l0 : List (S46)) (r1 : List Int) (r2 : Bool) (w : World) (hr0 : Kd.C k46 w A0 l0.length l0) (hc0 : l0.length <= c0) (h : impl_grown.f k l0 = some (r1, r2)) :
  Calls Try.prog 39 #[.slice A0 l0.length c0] w fun e w' => ∃ v0_ : Value, e = .returned (.tuple #[v0_, .bool r2]) /\ Kd.Y (Kd.int .i64) 3 w' w.heap.size (fun _ => True) v0_ r1 /\ Below w.heap.size w w' := by
 have HR0 := am hr0;have HC0 := am hc0;clear hr0 hc0;have HB := am (Below.refl w.heap.size w);have H : ((impl_hydra_row.f k l0).bind fun t273 => (if (t273.length : Int) > 60 then (some (([] : List Int), false)) else ((slices_Clip_int_int.f t273).bind fun t276 => (some (t276, true))))) = some (r1, r2) := h;clear h;replace H := oE H;obtain ⟨t273, A2, H⟩ := H;replace H : (if (t273.length : Int) > 60 then (some (([] : List Int), false)) else ((slices_Clip_int_int.f t273).bind fun t276 => (some (t276, true)))) = some (r1, r2) := H;replace A2 := am A2;by_cases c3 : (t273.length : Int) > 60
 · rw [if_pos c3] at H;have c3b0 : decide (60 < (t273.length : Int)) = true := decide_eq_true c3;have c3b1 : decide (60 < t273.length) = true := decide_eq_true (by omega);clear c3;simp only [Option.some.injEq, Prod.mk.injEq] at H;obtain ⟨rfl, rfl⟩ := H;go_enter Try.func39, Try.ntmps39;go_wp2_with (((with_reducible refine gate_callee (f := 55) rfl ?_); refine goesL_ (some 6) rfl rfl Try.func55 (by kernel_rfl) rfl #[.slice A0 l0.length c0] rfl (by (try simp only [mA, mB, mC]); rfl) ?_; (with_reducible refine (impl_hydra_row.calls k _ _ l0 t273 _ ?side1 ?side2 A2.out).mono ?_); (case side1 => exact Kd.cm HR0.out); (case side2 => exact HC0.out); rintro e w4 ⟨v274, rfl, ho0, hb⟩; refine ⟨_, rfl, ?_⟩; have HO275 := am (Kd.R_lower ho0 (below_size (bm HB.out)));replace HB := am (below_step (bm HB.out) hb); clear hb; clear ho0; obtain ⟨Ao5, co5, eo5⟩ := Kd.R_slice HO275.out; subst eo5));go_ret2;exact ⟨_, by rfl, Kd.Y_of_R (by exact Kd.R_nil _ _ _ _ _), bm HB.out⟩
 · rw [if_neg c3] at H;have c3b0 : decide (60 < (t273.length : Int)) = false := decide_eq_false c3;have c3b1 : decide (60 < t273.length) = false := decide_eq_false (by omega);clear c3;replace H := oE H;obtain ⟨t276, A6, H⟩ := H;replace H : (some (t276, true)) = some (r1, r2) := H;replace A6 := am A6;simp only [Option.some.injEq, Prod.mk.injEq] at H;obtain ⟨rfl, rfl⟩ := H;go_enter Try.func39, Try.ntmps39;go_wp2_with (first | ((with_reducible refine gate_callee (f := 55) rfl ?_); refine goesL_ (some 6) rfl rfl Try.func55 (by kernel_rfl) rfl #[.slice A0 l0.length c0] rfl (by (try simp only [mA, mB, mC]); rfl) ?_; (with_reducible refine (impl_hydra_row.calls k _ _ l0 t273 _ ?side1 ?side2 A2.out).mono ?_); (case side1 => exact Kd.cm HR0.out); (case side2 => exact HC0.out); rintro e w7 ⟨v274, rfl, ho0, hb⟩; refine ⟨_, rfl, ?_⟩; have HO275 := am (Kd.R_lower ho0 (below_size (bm HB.out)));replace HB := am (below_step (bm HB.out) hb); clear hb; clear ho0; obtain ⟨Ao8, co8, eo8⟩ := Kd.R_slice HO275.out; subst eo8) | ((with_reducible refine gate_callee (f := 66) rfl ?_); refine goesL_ (some 11) rfl rfl Try.func66 (by kernel_rfl) rfl #[.slice Ao8 t273.length co8] rfl (by (try simp only [mA, mB, mC]); rfl) ?_; (with_reducible refine (slices_Clip_int_int.calls (fun k_ => some k_ = (.slice Ao8 t273.length co8 : Value).ownBlock) (.slice Ao8 t273.length co8) t273 t276 w _ ?side1 ?side2 A6.out).mono ?_); (case side1 => repeat ((with_reducible exact HB.out))); (case side2 => exact Kd.R_tight rfl HO275.out); rintro e w9 ⟨v277, rfl, ho0, hb, hkp⟩; refine ⟨_, rfl, ?_⟩; have HO278 := am (Kd.Y_mono (ok' := fun k_ => True) ho0 (fun k_ hk_ => trivial));replace HB := am (hb);clear HO275; clear hb; clear hkp; clear ho0));go_ret2;exact ⟨_, by rfl, Kd.ym HO278.out, bm HB.out⟩

/-! ### impl_hydraBy: function 40 -/
mutual
def impl_hydraBy.l0 : Nat -> List (S46) -> List (S72) -> Int -> Int -> Option ((List (S46)))
 | 0, _, _, _, _ => none
 | k + 1, x3, x7, x8, x9 => if x9 < x8 then (if 0 <= x9 then (if x9 < (x7.length : Int) then (impl_hydraBy.l1 k x3 x7 x8 x9 ((rd_T72 x7 x9).f0) 0 ((rd_T72 x7 x9).f0) ((rd_T72 x7 x9).f1)) else (none)) else (none)) else (some x3)
def impl_hydraBy.l1 : Nat -> List (S46) -> List (S72) -> Int -> Int -> Int -> Int -> Int -> List (S72) -> Option ((List (S46)))
 | 0, _, _, _, _, _, _, _, _ => none
 | k + 1, x3, x7, x8, x9, x14, x15, x284000, x284001 => if x15 < x14 then ((impl_hydraBy.f k x284001).bind fun t284 => (if x3.length < 5864062014805 then (impl_hydraBy.l1 k (x3 ++ [(⟨t284⟩ : S46)]) x7 x8 x9 x14 (wrap64 (x15 + 1)) x284000 x284001) else (none))) else (impl_hydraBy.l0 k x3 x7 x8 (wrap64 (x9 + 1)))
def impl_hydraBy.f : Nat -> List (S72) -> Option ((List (S46)))
 | 0, _ => none
 | k + 1, l0 => impl_hydraBy.l0 k (([] : List (S46))) l0 (l0.length : Int) 0
end
theorem impl_hydraBy.mono_l : ∀ k, (∀ y0, LeO (impl_hydraBy.f k y0) (impl_hydraBy.f (k + 1) y0)) /\ (∀ y0 y1 y2 y3, LeO (impl_hydraBy.l0 k y0 y1 y2 y3) (impl_hydraBy.l0 (k + 1) y0 y1 y2 y3)) /\ (∀ y0 y1 y2 y3 y4 y5 y6 y7, LeO (impl_hydraBy.l1 k y0 y1 y2 y3 y4 y5 y6 y7) (impl_hydraBy.l1 (k + 1) y0 y1 y2 y3 y4 y5 y6 y7))
 | 0 => ⟨fun _ r h => by simp [impl_hydraBy.f] at h, fun _ _ _ _ r h => by simp [impl_hydraBy.l0] at h, fun _ _ _ _ _ _ _ _ r h => by simp [impl_hydraBy.l1] at h⟩
 | k + 1 => by
  obtain ⟨ih0, ih1, ih2⟩ := impl_hydraBy.mono_l k;refine ⟨?_, ?_, ?_⟩
  all_goals (intros; first | unfold impl_hydraBy.f | unfold impl_hydraBy.l0 | unfold impl_hydraBy.l1)
  all_goals repeat' with_reducible first | exact ih0 _ | exact ih1 _ _ _ _ | exact ih2 _ _ _ _ _ _ _ _ | exact LeO.refl _ | refine LeO.ite ?_ ?_ | refine LeO.bind ?_ (fun _ => ?_)
theorem impl_hydraBy.mono : ∀ a0 k, LeO (impl_hydraBy.f k a0) (impl_hydraBy.f (k + 1) a0) := by
 intro a0 k;obtain ⟨ih0, ih1, ih2⟩ := impl_hydraBy.mono_l k;exact ih0 a0
set_option maxHeartbeats 8000000 in
set_option maxRecDepth 100000 in
theorem impl_hydraBy.calls (k : Nat) : ∀ (A0 : Option Addr) (c0 : Nat) (l0 : List (S72)) (r : List (S46)) (w : World) (hr0 : Kd.C k72 w A0 l0.length l0) (hc0 : l0.length <= c0) (h : impl_hydraBy.f k l0 = some r),
  Calls Try.prog 40 #[.slice A0 l0.length c0] w fun e w' => ∃ v0_ : Value, e = .returned (v0_) /\ Kd.R k46 46 w' w.heap.size (fun _ => True) v0_ r /\ Below w.heap.size w w' := by
 induction k using Nat.strongRecOn with
 | _ k ih =>
 intro A0 c0 l0 r w hr0 hc0 h
 cases k with
 | zero => exact absurd h (by simp [impl_hydraBy.f])
 | succ k =>
 simp only [impl_hydraBy.f] at h;have hu72 := Try.underlying72;have HR0 := am hr0;have HC0 := am hc0;clear hr0 hc0;have HB := am (Below.refl w.heap.size w);have H : (impl_hydraBy.l0 k (([] : List (S46))) l0 (l0.length : Int) 0) = some r := h;clear h
 obtain ⟨y279, hy279⟩ : ∃ y_ : List (S46), y_ = (([] : List (S46))) := ⟨_, rfl⟩
 replace H : (impl_hydraBy.l0 k y279 l0 (l0.length : Int) 0) = some r := by (rw [hy279]; with_reducible exact H)
 replace hy279 := am hy279;have H' := am H;clear H;go_enter Try.func40, Try.ntmps40;go_wp2_with (((with_reducible refine gate_dst (N := 6) rfl ?_); refine Kd.R_lit k46 _ 46 ?hg (N := 6) ?hd (xs := ([] : List (S46))) (inner := []) (ok := fun _ => True) (okp := fun _ => True) ?hr ?hp (fun _ hk => hk) trivial (Below.refl _ _) (Nat.le_refl _) (by simp) ?_; (case hd => rfl); (case hg => rfl); (case hr => (go_simp; done)); (case hp => exact (Reps.none _ _)); intro v280 w2 ho3 hb hg_ hnew_; clear hg_ hnew_; (rw [<- hy279.out] at ho3); have HO281 := am (Kd.R_lower ho3 (below_size (bm HB.out)));replace HB := am (below_step (bm HB.out) hb); clear hb ho3))
 go_loopg [3, 9] k (fun kq v3 v9 w' => ∃ (x3_1 : List (S46)) (x9_1 : Int), v9 = .int .i64 x9_1 /\ Aside0 (impl_hydraBy.l0 kq x3_1 l0 (l0.length : Int) x9_1 = some r) /\ Aside0 (kq <= k) /\ Aside0 (Kd.R k46 46 w' w.heap.size (fun _ => True) v3 x3_1) /\ Aside0 (Below w.heap.size w w'))
 case atStart => exact ⟨(y279), (0), (by rfl), H', ⟨Nat.le_refl _⟩, ⟨Kd.rm HO281.out⟩, ⟨bm HB.out⟩⟩
 case round =>
  clear H';clear HB;obtain ⟨x3_1, x9_1, rfl, HA, HK1, HO_3, HB⟩ := hrel
  cases gk with
  | zero => exact absurd HA.out (by simp [impl_hydraBy.l0])
  | succ k1 =>
   have H := HA.out;clear HA;simp only [impl_hydraBy.l0] at H;by_cases c4 : x9_1 < (l0.length : Int)
   ·
    rw [if_pos c4] at H;have c4b0 : decide (x9_1 < (l0.length : Int)) = true := decide_eq_true c4;clear c4;by_cases c5 : 0 <= x9_1
    ·
     rw [if_pos c5] at H;have c5b0 : decide (0 <= x9_1) = true := decide_eq_true c5;clear c5;by_cases c6 : x9_1 < (l0.length : Int)
     ·
      rw [if_pos c6] at H;have c6b0 : decide (x9_1 < (l0.length : Int)) = true := decide_eq_true c6;clear c6;have H' := am H;clear H;have p282 : 0 <= (x9_1 : Int) := of_decide_eq_true (by assumption);have q282 : x9_1 < (l0.length : Int) := of_decide_eq_true (by assumption);obtain ⟨ad282, A282_1, c282_1, e282, hx282_0, hx282_1, hl282_1, hi282_1⟩ := at_T72 HR0.out x9_1 p282 q282;cases e282
      replace hx282_0 := (HB.out.cell (World.block_lt_of_cell? w _ hx282_0)).trans hx282_0;replace hx282_1 := (HB.out.cell (World.block_lt_of_cell? w _ hx282_1)).trans hx282_1;have HR282_1 := am hi282_1;have HC282_1 := am hl282_1;clear hi282_1 hl282_1;replace p282 := eq_true p282;replace q282 := eq_true q282;go_wp2_with (((with_reducible refine gate_dst (N := 5) rfl ?_); refine box_event ?hg (N := 5) ?hd (cs := #[.int .i64 0, .slice none 0 0]) (t := 72) ?hr ?_; (case hd => rfl); (case hg => rfl); (case hr => (go_simp; done)); intro gb283 hg w7 hbox hb; replace HO_3 := am (Kd.R_below (Kd.rm HO_3.out) hb);have BK283 := am (hbox);have GW283 := am ((by rw [hg]; exact (below_size (bm HB.out)) : w.heap.size <= gb283));have GE283 := am ((by rw [hg]; exact (below_size (bm HB.out)) : w.heap.size <= gb283));replace HB := am (below_step (bm HB.out) hb); clear hb hbox hg; have hcz8_0 : w7.cell? ⟨gb283, 0, none⟩ = some (.int .i64 0) := (blk_cell BK283.out 0).trans rfl; have hcz8_1 : w7.cell? ⟨gb283, 1, none⟩ = some (.slice none 0 0) := (blk_cell BK283.out 1).trans rfl; have hfz8_0 := blk_frozen BK283.out 0; have hfz8_1 := blk_frozen BK283.out 1))
      go_loopg [3, 15] k1 (fun kq v3 v15 w' => ∃ (x3_2 : List (S46)) (x15_2 : Int), v15 = .int .i64 x15_2 /\ Aside0 (impl_hydraBy.l1 kq x3_2 l0 (l0.length : Int) x9_1 ((rd_T72 l0 x9_1).f0) x15_2 ((rd_T72 l0 x9_1).f0) ((rd_T72 l0 x9_1).f1) = some r) /\ Aside0 (kq <= k1) /\ Aside0 (Kd.R k46 46 w' w.heap.size (fun _ => True) v3 x3_2) /\ Aside0 (w'.heap[gb283]? = some (.cells #[.int .i64 ((rd_T72 l0 x9_1).f0), (.slice A282_1 ((rd_T72 l0 x9_1).f1).length c282_1)] 72 (0, 0))) /\ Aside0 (Below w.heap.size w w'))
      case atStart => exact ⟨(x3_1), (0), (by rfl), H', ⟨Nat.le_refl _⟩, ⟨Kd.rm (Kd.R_mono (Kd.R_far (p := ⟨gb283, 1, none⟩) (Kd.R_far (p := ⟨gb283, 0, none⟩) (Kd.R_types HO_3.out BK283.out (by decide)) (fun _ hk => hk.2) (.int .i64 ((rd_T72 l0 x9_1).f0))) (fun _ hk => hk.2) (.slice A282_1 ((rd_T72 l0 x9_1).f1).length c282_1)) (fun _ hk => trivial))⟩, ⟨by (with_reducible repeat (first | refine blk_drewN ?_ _ | refine blk_drew ?_ | refine blk_alloc ?_ _)); refine blk_put (cs := #[.int .i64 ((rd_T72 l0 x9_1).f0), .slice none 0 0]) ?_ 1 _ rfl; (with_reducible repeat (first | refine blk_drewN ?_ _ | refine blk_drew ?_ | refine blk_alloc ?_ _)); refine blk_put (cs := #[.int .i64 0, .slice none 0 0]) ?_ 0 _ rfl; (with_reducible repeat (first | refine blk_drewN ?_ _ | refine blk_drew ?_ | refine blk_alloc ?_ _)); exact BK283.out⟩, ⟨by repeat ((with_reducible first | exact HB.out | refine below_set ?_ GE283.out))⟩⟩
      case round =>
       clear H';clear c4b0;clear c5b0;clear c6b0;clear hcz8_0;clear hcz8_1;clear hfz8_0;clear hfz8_1;clear hx282_0;clear hx282_1;clear p282;clear q282;clear HO_3;clear HB;obtain ⟨x3_2, x15_2, rfl, HA, HK2, HO_3, BK283, HB⟩ := hrel
       cases gk with
       | zero => exact absurd HA.out (by simp [impl_hydraBy.l1])
       | succ k2 =>
        have H := HA.out;clear HA;simp only [impl_hydraBy.l1] at H;by_cases c9 : x15_2 < ((rd_T72 l0 x9_1).f0)
        ·
         rw [if_pos c9] at H;have c9b0 : decide (x15_2 < ((rd_T72 l0 x9_1).f0)) = true := decide_eq_true c9;clear c9;replace H := oE H;obtain ⟨t284, A10, H⟩ := H;replace H : (if x3_2.length < 5864062014805 then (impl_hydraBy.l1 k2 (x3_2 ++ [(⟨t284⟩ : S46)]) l0 (l0.length : Int) x9_1 ((rd_T72 l0 x9_1).f0) (wrap64 (x15_2 + 1)) ((rd_T72 l0 x9_1).f0) ((rd_T72 l0 x9_1).f1)) else (none)) = some r := H;replace A10 := am A10;by_cases c11 : x3_2.length < 5864062014805
         ·
          rw [if_pos c11] at H;have LMc11 := am c11;clear c11
          obtain ⟨y287, hy287⟩ : ∃ y_ : List (S46), y_ = (x3_2 ++ [(⟨t284⟩ : S46)]) := ⟨_, rfl⟩
          replace H : (impl_hydraBy.l1 k2 y287 l0 (l0.length : Int) x9_1 ((rd_T72 l0 x9_1).f0) (wrap64 (x15_2 + 1)) ((rd_T72 l0 x9_1).f0) ((rd_T72 l0 x9_1).f1)) = some r := by (rw [hy287]; with_reducible exact H)
          replace hy287 := am hy287;have H' := am H;clear H;have hcz12_0 : wr.cell? ⟨gb283, 0, none⟩ = some (.int .i64 ((rd_T72 l0 x9_1).f0)) := (blk_cell BK283.out 0).trans rfl;have hcz12_1 : wr.cell? ⟨gb283, 1, none⟩ = some (.slice A282_1 ((rd_T72 l0 x9_1).f1).length c282_1) := (blk_cell BK283.out 1).trans rfl;have hfz12_0 := blk_frozen BK283.out 0;have hfz12_1 := blk_frozen BK283.out 1;go_wp2_with (first | ((with_reducible refine gate_callee (f := 40) rfl ?_); refine goesL_ (some 20) rfl rfl Try.func40 (by kernel_rfl) rfl #[.slice A282_1 ((rd_T72 l0 x9_1).f1).length c282_1] rfl (by (try simp only [mA, mB, mC]); rfl) ?_; (with_reducible refine (ih k2 (by have := HK1.out; have := HK2.out; omega) _ _ ((rd_T72 l0 x9_1).f1) t284 _ ?side1 ?side2 A10.out).mono ?_); (case side1 => exact Kd.cm ((Kd.C_below HR282_1.out HB.out))); (case side2 => exact HC282_1.out); rintro e w13 ⟨v285, rfl, ho0, hb⟩; refine ⟨_, rfl, ?_⟩; have HO286 := am (Kd.R_lower (Kd.R_new' ho0 (Kd.R_lt (Kd.rm HO_3.out))) (below_size (by repeat ((with_reducible exact HB.out)))));replace HO_3 := am (Kd.R_elder' (Kd.rm HO_3.out) (Kd.R_base ho0) hb);replace BK283 := am (blk_below (g := gb283) (o := .cells #[.int .i64 ((rd_T72 l0 x9_1).f0), .slice A282_1 ((rd_T72 l0 x9_1).f1).length c282_1] 72 (0, 0)) (by (with_reducible repeat (first | refine blk_drewN ?_ _ | refine blk_drew ?_ | refine blk_alloc ?_ _)); exact BK283.out) hb);replace HB := am (below_step (by repeat ((with_reducible exact HB.out))) hb); clear hb;clear ho0; obtain ⟨Ao15, co15, eo15⟩ := Kd.R_slice HO286.out; subst eo15) | ((with_reducible refine gate_builtin (b := .append) (xs := #[.tmp 17, .tmp 21]) rfl ?_); at_builtin; refine Kd.R_append k46 (w0 := w) w.heap.size rfl (.tmp 17) (.tmp 21) 46 46 (.slice none 0 0) 24 rfl Try.underlying46 info46 rfl (by decide) (by omega) u3 x3_2 (⟨t284⟩ : S46) [.slice Ao15 t284.length co15] (fun _ => True) (fun k_ => ((fun _ => True)) k_ /\ some k_ ≠ (u3 : Value).ownBlock) rfl rfl ?aP (fun _ hk => hk) ?aF ?aO ?aB ?aS ?aL ?_; (case aP => exact k46_mkM _ _ _ (⟨t284⟩ : S46) (Kd.R_mono (HO286.out) (fun k_ hk => ⟨trivial, hk.2⟩))); (case aB => exact (by repeat ((with_reducible exact HB.out)))); (case aF => exact (fun _ _ => trivial)); (case aO => exact (Kd.rm (Kd.R_mono HO_3.out (fun _ hk => trivial)))); (case aS => exact (below_size (by repeat ((with_reducible exact HB.out))))); (case aL => have := LMc11.out; omega); intro v288 w14 ho hb hg hat; rw [<- hy287.out] at ho; replace BK283 := am (blk_grown (g := gb283) (o := .cells #[.int .i64 ((rd_T72 l0 x9_1).f0), .slice A282_1 ((rd_T72 l0 x9_1).f1).length c282_1] 72 (0, 0)) (by (with_reducible repeat (first | refine blk_drewN ?_ _ | refine blk_drew ?_ | refine blk_alloc ?_ _)); exact BK283.out) hg (Kd.R_ne HO_3.out BK283.out (by decide)));replace HB := am (hb);have HO289 := am (ho);clear HO_3 HO286; clear ho hb hg hat))
          go_roundg k2
          case measure => have := HK1.out; have := HK2.out; omega
          case rel => exact ⟨(y287), (wrap64 (x15_2 + 1)), (by rfl), H', ⟨by have := HK1.out; have := HK2.out; omega⟩, ⟨Kd.rm HO289.out⟩, ⟨by (with_reducible repeat (first | refine blk_drewN ?_ _ | refine blk_drew ?_ | refine blk_alloc ?_ _)); exact BK283.out⟩, ⟨by repeat ((with_reducible exact HB.out))⟩⟩
         · rw [if_neg c11] at H;exact absurd H (by simp)
        ·
         rw [if_neg c9] at H;have c9b0 : decide (x15_2 < ((rd_T72 l0 x9_1).f0)) = false := decide_eq_false c9;clear c9;have H' := am H;clear H;go_wp2
         go_roundg k2
         case measure => have := HK1.out; have := HK2.out; omega
         case rel => exact ⟨(x3_2), (wrap64 (x9_1 + 1)), (by rfl), H', ⟨by have := HK1.out; have := HK2.out; omega⟩, ⟨Kd.rm HO_3.out⟩, ⟨by repeat ((with_reducible exact HB.out))⟩⟩
     · rw [if_neg c6] at H;exact absurd H (by simp)
    · rw [if_neg c5] at H;exact absurd H (by simp)
   · rw [if_neg c4] at H;have c4b0 : decide (x9_1 < (l0.length : Int)) = false := decide_eq_false c4;clear c4;obtain rfl := Option.some.inj H;go_wp2;go_ret;exact ⟨_, by rfl, Kd.rm HO_3.out, bm HB.out⟩

/-! ### impl_HydraOf: function 13 -/
def impl_HydraOf.j0 : Nat -> List (S72) -> Bool -> Option (List Int × Bool)
 | 0, _, _ => none
 | k + 1, x4, x17 => if x17 = true then (some (([] : List Int), false)) else ((impl_hydraBy.f k x4).bind fun t295 => ((impl_grown.f k t295).bind fun bt298 => (some (bt298.1, bt298.2))))
def impl_HydraOf.f (k : Nat) (l0 : List Int) : Option (List Int × Bool) := (impl_ordOf.f k l0).bind fun bt290 => (if bt290.2 = true then ((impl_hydraSize.f k bt290.1).bind fun t294 => (impl_HydraOf.j0 k bt290.1 (decide (t294 > 60)))) else (impl_HydraOf.j0 k bt290.1 true))
theorem impl_HydraOf.mono_l : ∀ k, (∀ y0 y1, LeO (impl_HydraOf.j0 k y0 y1) (impl_HydraOf.j0 (k + 1) y0 y1))
 | 0 => fun _ _ r h => by simp [impl_HydraOf.j0] at h
 | k + 1 => by
  have ih0 := impl_HydraOf.mono_l k
  ·
   intro y0 y1;unfold impl_HydraOf.j0
   repeat' with_reducible first | exact impl_grown.mono _ _ | exact impl_hydraBy.mono _ _ | exact LeO.refl _ | refine LeO.ite ?_ ?_ | refine LeO.bind ?_ (fun _ => ?_)
theorem impl_HydraOf.mono : ∀ a0 k, LeO (impl_HydraOf.f k a0) (impl_HydraOf.f (k + 1) a0) := by
 intro a0 k;have ih0 := impl_HydraOf.mono_l k;unfold impl_HydraOf.f
 repeat' with_reducible first | exact ih0 _ _ | exact impl_hydraSize.mono _ _ | exact impl_ordOf.mono _ _ | refine LeO.ite ?_ ?_ | refine LeO.bind ?_ (fun _ => ?_)
set_option maxHeartbeats 8000000 in
set_option maxRecDepth 100000 in
theorem impl_HydraOf.calls (k : Nat) (A0 : Option Addr) (c0 : Nat) (l0 : List Int) (r1 : List Int) (r2 : Bool) (w : World) (hr0 : Kd.C (Kd.int .i64) w A0 l0.length l0) (hc0 : l0.length <= c0) (h : impl_HydraOf.f k l0 = some (r1, r2)) :
  Calls Try.prog 13 #[.slice A0 l0.length c0] w fun e w' => ∃ v0_ : Value, e = .returned (.tuple #[v0_, .bool r2]) /\ Kd.Y (Kd.int .i64) 3 w' w.heap.size (fun _ => True) v0_ r1 /\ Below w.heap.size w w' := by
 have HR0 := am hr0;have HC0 := am hc0;clear hr0 hc0;have HB := am (Below.refl w.heap.size w);have H : ((impl_ordOf.f k l0).bind fun bt290 => (if bt290.2 = true then ((impl_hydraSize.f k bt290.1).bind fun t294 => (impl_HydraOf.j0 k bt290.1 (decide (t294 > 60)))) else (impl_HydraOf.j0 k bt290.1 true))) = some (r1, r2) := h;clear h;replace H := oE H;obtain ⟨⟨t290, t291⟩, A2, H⟩ := H;replace H : (if t291 = true then ((impl_hydraSize.f k t290).bind fun t294 => (impl_HydraOf.j0 k t290 (decide (t294 > 60)))) else (impl_HydraOf.j0 k t290 true)) = some (r1, r2) := H;replace A2 := am A2;have HC3 := am H;clear H;go_enter Try.func13, Try.ntmps13
 go_upto_region 2 with (((with_reducible refine gate_callee (f := 37) rfl ?_); refine goesL_ (some 8) rfl rfl Try.func37 (by kernel_rfl) rfl #[.slice A0 l0.length c0] rfl (by (try simp only [mA, mB, mC]); rfl) ?_; (with_reducible refine (impl_ordOf.calls k _ _ l0 t290 t291 _ ?side1 ?side2 A2.out).mono ?_); (case side1 => exact Kd.cm HR0.out); (case side2 => exact HC0.out); rintro e w4 ⟨v292, rfl, ho0, hb⟩; refine ⟨_, rfl, ?_⟩; have HO293 := am (Kd.R_lower ho0 (below_size (bm HB.out)));replace HB := am (below_step (bm HB.out) hb); clear hb; clear ho0))
 go_cut [17] (fun v17 wc => ∃ (kq : Nat) (x17_2 : Bool), v17 = .bool x17_2 /\ Aside0 (impl_HydraOf.j0 kq t290 x17_2 = some (r1, r2)) /\ Aside0 (kq <= k) /\ Aside0 (Kd.R k72 72 wc w.heap.size (fun _ => True) v292 t290) /\ Aside0 (Below w.heap.size w wc))
 case first =>
  have H := HC3.out;clear HC3;by_cases c5 : t291 = true
  ·
   subst c5
   have H1 : ((impl_hydraSize.f k t290).bind fun t294 => (impl_HydraOf.j0 k t290 (decide (t294 > 60)))) = some (r1, r2) := by rw [if_pos rfl] at H; exact H
   clear H;have H := H1;clear H1;replace H := oE H;obtain ⟨t294, A6, H⟩ := H;replace H : (impl_HydraOf.j0 k t290 (decide (t294 > 60))) = some (r1, r2) := H;replace A6 := am A6;have H' := am H;clear H;obtain ⟨Ao7, co7, eo7⟩ := Kd.R_slice HO293.out;subst eo7;go_wp2_with ((go_at_call 38; (with_reducible refine (impl_hydraSize.calls k _ _ t290 t294 _ ?side1 ?side2 A6.out).mono ?_); (case side1 => exact Kd.cm ((Kd.R_reads' HO293.out).2.2)); (case side2 => exact (Kd.R_reads' HO293.out).2.1); rintro e w8 ⟨rfl, hb⟩; replace HO293 := am (Kd.R_below (Kd.rm HO293.out) hb);replace HB := am (below_step (bm HB.out) hb); clear hb));go_meet
   case rel => exact ⟨_, (decide (t294 > 60)), (by rfl), H', ⟨by omega⟩, ⟨Kd.rm HO293.out⟩, ⟨bm HB.out⟩⟩
  ·
   replace c5 := Bool.eq_false_iff.mpr c5;subst c5
   have H1 : (impl_HydraOf.j0 k t290 true) = some (r1, r2) := by rw [if_neg (show ¬ (false = true) by decide)] at H; exact H
   clear H;have H := H1;clear H1;have H' := am H;clear H;go_wp2;go_meet
   case rel => exact ⟨_, (true), (by rfl), H', ⟨by omega⟩, ⟨Kd.rm HO293.out⟩, ⟨bm HB.out⟩⟩
 case rest =>
  clear HC3;obtain ⟨kq, x17_2, rfl, HA, HJ2, HO_4, HB⟩ := hcut
  cases kq with
  | zero => exact absurd HA.out (by simp [impl_HydraOf.j0])
  | succ kj2 =>
   have H := HA.out;clear HA;simp only [impl_HydraOf.j0] at H;by_cases c9 : x17_2 = true
   ·
    subst c9
    have H1 : (some (([] : List Int), false)) = some (r1, r2) := by rw [if_pos rfl] at H; exact H
    clear H;have H := H1;clear H1;simp only [Option.some.injEq, Prod.mk.injEq] at H;obtain ⟨rfl, rfl⟩ := H;go_wp2;go_ret2;exact ⟨_, by rfl, Kd.Y_of_R (by exact Kd.R_nil _ _ _ _ _), bm HB.out⟩
   ·
    replace c9 := Bool.eq_false_iff.mpr c9;subst c9
    have H1 : ((impl_hydraBy.f kj2 t290).bind fun t295 => ((impl_grown.f kj2 t295).bind fun bt298 => (some (bt298.1, bt298.2)))) = some (r1, r2) := by rw [if_neg (show ¬ (false = true) by decide)] at H; exact H
    clear H;have H := H1;clear H1;replace H := oE H;obtain ⟨t295, A10, H⟩ := H;replace H : ((impl_grown.f kj2 t295).bind fun bt298 => (some (bt298.1, bt298.2))) = some (r1, r2) := H;replace A10 := am A10;replace H := oE H;obtain ⟨⟨t298, t299⟩, A11, H⟩ := H;replace H : (some (t298, t299)) = some (r1, r2) := H;replace A11 := am A11;simp only [Option.some.injEq, Prod.mk.injEq] at H;obtain ⟨rfl, rfl⟩ := H;obtain ⟨Ao12, co12, eo12⟩ := Kd.R_slice HO_4.out;subst eo12;go_wp2_with (first | ((with_reducible refine gate_callee (f := 40) rfl ?_); refine goesL_ (some 19) rfl rfl Try.func40 (by kernel_rfl) rfl #[.slice Ao12 t290.length co12] rfl (by (try simp only [mA, mB, mC]); rfl) ?_; (with_reducible refine (impl_hydraBy.calls kj2 _ _ t290 t295 _ ?side1 ?side2 A10.out).mono ?_); (case side1 => exact Kd.cm ((Kd.R_reads' HO_4.out).2.2)); (case side2 => exact (Kd.R_reads' HO_4.out).2.1); rintro e w13 ⟨v296, rfl, ho0, hb⟩; refine ⟨_, rfl, ?_⟩; replace HO_4 := am (Kd.R_below (Kd.rm HO_4.out) hb);have HO297 := am (Kd.R_lower ho0 (below_size (bm HB.out)));replace HB := am (below_step (bm HB.out) hb); clear hb; clear ho0; obtain ⟨Ao14, co14, eo14⟩ := Kd.R_slice HO297.out; subst eo14) | ((with_reducible refine gate_callee (f := 39) rfl ?_); refine goesL_ (some 20) rfl rfl Try.func39 (by kernel_rfl) rfl #[.slice Ao14 t295.length co14] rfl (by (try simp only [mA, mB, mC]); rfl) ?_; (with_reducible refine (impl_grown.calls kj2 _ _ t295 t298 t299 _ ?side1 ?side2 A11.out).mono ?_); (case side1 => exact Kd.cm ((Kd.R_reads' HO297.out).2.2)); (case side2 => exact (Kd.R_reads' HO297.out).2.1); rintro e w15 ⟨v300, rfl, ho0, hb⟩; refine ⟨_, rfl, ?_⟩; replace HO_4 := am (Kd.R_below (Kd.rm HO_4.out) hb);replace HO297 := am (Kd.R_below (Kd.rm HO297.out) hb);have HO301 := am (Kd.Y_lower ho0 (below_size (bm HB.out)));replace HB := am (below_step (bm HB.out) hb); clear hb; clear ho0));go_ret2;exact ⟨_, by rfl, Kd.ym HO301.out, bm HB.out⟩

end Go.Proofs.Ytahhdbjjfdjloaa.Jf

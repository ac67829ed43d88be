-- half
-- Written by a program of this session's (wip/mp) out of the translation, over the kit's print with changes.
import Derived.Test.YtomidfnhbnhhmaaKax0
import Derived.Test.YtomidfnhbnhhmaaKax2
import Derived.Test.YtomidfnhbnhhmaaKax3
import Derived.Test.YtomidfnhbnhhmaaKax7
namespace Go.Proofs.Ytomidfnhbnhhmaa.Ka
open Go.RowKit Go.Proofs.YtomidfnhbnhhmaaW.PrintWords Go.Proofs.YtomidfnhbnhhmaaW.PrintLast Go.Proofs.YtomidfnhbnhhmaaW.PrintMore
attribute [local go_sem] max2_int min2_int max_two min_two max_three min_three max_four min_four   -- for this text's walks alone
set_option linter.unusedVariables false
set_option linter.unusedSimpArgs false

/-! ### impl_most: function 36 -/
mutual
def impl_most.l0 : Nat → Int → List (S67) → Int → Int → Option (Int)
 | 0, _, _, _, _ => none
 | k + 1, x3, x6, x7, x8 => if x8 < x7 then (if 0 ≤ x8 then (if x8 < (x6.length : Int) then ((impl_most.f k ((rd_T67 x6 x8).f1)).bind fun t387 => (impl_most.l0 k (mx (mx x3 ((rd_T67 x6 x8).f0)) t387) x6 x7 (wrap64 (x8 + 1)))) else (none)) else (none)) else (some x3)
def impl_most.f : Nat → List (S67) → Option (Int)
 | 0, _ => none
 | k + 1, l0 => impl_most.l0 k 0 l0 (l0.length : Int) 0
end
theorem impl_most.mono_l : ∀ k, (∀ y0, LeO (impl_most.f k y0) (impl_most.f (k + 1) y0)) ∧ (∀ y0 y1 y2 y3, LeO (impl_most.l0 k y0 y1 y2 y3) (impl_most.l0 (k + 1) y0 y1 y2 y3))
 | 0 => ⟨fun _ r h => by simp [impl_most.f] at h, fun _ _ _ _ r h => by simp [impl_most.l0] at h⟩
 | k + 1 => by
  obtain ⟨ih0, ih1⟩ := impl_most.mono_l k;refine ⟨?_, ?_⟩
  all_goals (intros; first | unfold impl_most.f | unfold impl_most.l0)
  all_goals repeat' first | (with_reducible exact ih0 _) | (with_reducible exact ih1 _ _ _ _) | (with_reducible exact LeO.refl _) | (with_reducible exact LeO.none _) | (with_reducible refine LeO.ite ?_ ?_) | (with_reducible refine LeO.bind ?_ (fun _ => ?_))
theorem impl_most.mono : ∀ a0 k, LeO (impl_most.f k a0) (impl_most.f (k + 1) a0) := by
 intro a0 k;obtain ⟨ih0, ih1⟩ := impl_most.mono_l k;exact ih0 a0
def impl_most.T5 : Bool × List (List Nat × List Nat) := (true, [([], []), ([], []), ([1], [1]), ([], []), ([3], [3]), ([4], [4]), ([0, 2, 5], [0, 2, 5]), ([6, 5, 0, 1, 2, 3, 4, 5, 6], [0, 6])])
def impl_most.B5 : List Nat := [0, 0, 2, 0, 8, 24, 63, 127]
theorem impl_most.tab5 : rtab .any (opsOf Try.f36 5) = impl_most.T5 := by kernel_rfl
theorem impl_most.bits5 : waitsOk impl_most.T5.2 impl_most.B5 = true := by kernel_rfl
set_option maxHeartbeats 8000000 in
set_option maxRecDepth 100000 in
theorem impl_most.calls (k : Nat) : ∀ (A0 : Option Addr) (c0 : Nat) (l0 : List (S67)) (r : Int) (w : World) (hr0 : Kd.C k67 w A0 l0.length l0) (hc0 : l0.length ≤ c0) (h : impl_most.f k l0 = some r),
  Calls Try.prog 36 #[.slice A0 l0.length c0] w fun e w' => e = .returned (.int .i64 r) ∧ Below w.heap.size w w' := by
 induction k using Nat.strongRecOn with
 | _ k ih =>
 intro A0 c0 l0 r w hr0 hc0 h
 cases k with
 | zero => exact absurd h (by simp [impl_most.f])
 | succ k =>
 simp only [impl_most.f] at h;have hu67 := Try.underlying67;have HR0 := am hr0;have HC0 := am hc0;clear hr0 hc0;have HB := am (Below.refl w.heap.size w);have H : (impl_most.l0 k 0 l0 (l0.length : Int) 0) = some r := h;clear h;have H' := am H;clear H;go_enter Try.func36, Try.ntmps36;go_wp2
 go_loopg [3, 8] k (fun kq v3 v8 w' => ∃ (x3_1 : Int) (x8_1 : Int), v3 = .int .i64 x3_1 ∧ v8 = .int .i64 x8_1 ∧ Aside0 (impl_most.l0 kq x3_1 l0 (l0.length : Int) x8_1 = some r) ∧ Aside0 (kq ≤ k) ∧ Aside0 (Below w.heap.size w w'))
 case atStart => exact ⟨(0), (0), (by first | rfl | (simp; done) | (simp [*]; done)), (by first | rfl | (simp; done) | (simp [*]; done)), H', ⟨Nat.le_refl _⟩, ⟨bm HB.out⟩⟩
 case round =>
  clear H';obtain ⟨x3_1, x8_1, rfl, rfl, HA, HK1, HB⟩ := hrel
  cases gk with
  | zero => exact absurd HA.out (by simp [impl_most.l0])
  | succ k1 =>
   have H := HA.out;clear HA;simp only [impl_most.l0] at H;by_cases c2 : x8_1 < (l0.length : Int)
   ·
    rw [if_pos c2] at H;have c2b0 : decide (x8_1 < (l0.length : Int)) = true := decide_eq_true c2;clear c2;by_cases c3 : 0 ≤ x8_1
    ·
     rw [if_pos c3] at H;have c3b0 : decide (0 ≤ x8_1) = true := decide_eq_true c3;clear c3;by_cases c4 : x8_1 < (l0.length : Int)
     ·
      rw [if_pos c4] at H;have c4b0 : decide (x8_1 < (l0.length : Int)) = true := decide_eq_true c4;clear c4;replace H := oE H;obtain ⟨t387, A5, H⟩ := H;replace H : (impl_most.l0 k1 (mx (mx x3_1 ((rd_T67 l0 x8_1).f0)) t387) l0 (l0.length : Int) (wrap64 (x8_1 + 1))) = some r := H;replace A5 := am A5
      obtain ⟨ji6, hji6⟩ : ∃ j_ : Int, (mx x3_1 ((rd_T67 l0 x8_1).f0)) = j_ := ⟨_, rfl⟩
      replace H : (impl_most.l0 k1 (mx (ji6) t387) l0 (l0.length : Int) (wrap64 (x8_1 + 1))) = some r := by first | (rw [hji6] at H; exact H) | (simp only [hji6] at H ⊢; exact H)
      (try rw [hji6] at A5);have hji6_ : (if x3_1 < ((rd_T67 l0 x8_1).f0) then ((rd_T67 l0 x8_1).f0) else x3_1) = ji6 := hji6
      obtain ⟨ji7, hji7⟩ : ∃ j_ : Int, (mx (ji6) t387) = j_ := ⟨_, rfl⟩
      replace H : (impl_most.l0 k1 ji7 l0 (l0.length : Int) (wrap64 (x8_1 + 1))) = some r := by first | (rw [hji7] at H; exact H) | (simp only [hji7] at H ⊢; exact H)
      (try rw [hji7] at A5);have hji7_ : (if (ji6) < t387 then t387 else (ji6)) = ji7 := hji7;have H' := am H;clear H;have p385 : 0 ≤ (x8_1 : Int) := of_decide_eq_true (by assumption);have q385 : x8_1 < (l0.length : Int) := of_decide_eq_true (by assumption);obtain ⟨ad385, A385_1, c385_1, e385, hx385_0, hx385_1, hl385_1, hi385_1⟩ := at_T67 HR0.out x8_1 p385 q385;cases e385
      replace hx385_0 := (HB.out.cell (World.block_lt_of_cell? w _ hx385_0)).trans hx385_0;replace hx385_1 := (HB.out.cell (World.block_lt_of_cell? w _ hx385_1)).trans hx385_1;have HR385_1 := am hi385_1;have HC385_1 := am hl385_1;clear hi385_1 hl385_1;replace p385 := eq_true p385;replace q385 := eq_true q385;(try go_wp2_with (first | ((with_reducible refine gate_dst (N := 5) rfl ?_); refine box_event ?hg (N := 5) ?hd (cs := #[.int .i64 0, .slice none 0 0]) (t := 67) ?hr ?_; (case hd => rfl); (case hg => rfl); (case hr => first | (go_simp; done) | (go_simp; rfl)); intro gb386 hg w8 hbox hb; have BK386 := am (hbox);have GW386 := am ((by rw [hg]; exact (below_size (bm HB.out)) : w.heap.size ≤ gb386));have GE386 := am ((by rw [hg]; exact (below_size (bm HB.out)) : w.heap.size ≤ gb386));replace HB := am (below_step (bm HB.out) hb); clear hb hbox hg; have hcz9_0 : w8.cell? ⟨gb386, 0, none⟩ = some (.int .i64 0) := (blk_cell BK386.out 0).trans rfl; have hcz9_1 : w8.cell? ⟨gb386, 1, none⟩ = some (.slice none 0 0) := (blk_cell BK386.out 1).trans rfl; have hfz9_0 := blk_frozen BK386.out 0; have hfz9_1 := blk_frozen BK386.out 1)));have n0_ : Aside0 (((w8.setCell ⟨gb386, 0, none⟩ (.int .i64 ((rd_T67 l0 x8_1).f0))).setCell ⟨gb386, 1, none⟩ (.slice A385_1 ((rd_T67 l0 x8_1).f1).length c385_1)).heap[gb386]? = some (.cells #[.int .i64 ((rd_T67 l0 x8_1).f0), .slice A385_1 ((rd_T67 l0 x8_1).f1).length c385_1] 67 (0, 0))) := ⟨by (with_reducible repeat (first | refine blk_drewN ?_ _ | refine blk_drew ?_ | refine blk_alloc ?_ _)); refine blk_put (cs := #[.int .i64 ((rd_T67 l0 x8_1).f0), .slice none 0 0]) ?_ 1 _ rfl; (with_reducible repeat (first | refine blk_drewN ?_ _ | refine blk_drew ?_ | refine blk_alloc ?_ _)); refine blk_put (cs := #[.int .i64 0, .slice none 0 0]) ?_ 0 _ rfl; (with_reducible repeat (first | refine blk_drewN ?_ _ | refine blk_drew ?_ | refine blk_alloc ?_ _)); exact BK386.out⟩;have n1_ : Aside0 (Below w.heap.size w ((w8.setCell ⟨gb386, 0, none⟩ (.int .i64 ((rd_T67 l0 x8_1).f0))).setCell ⟨gb386, 1, none⟩ (.slice A385_1 ((rd_T67 l0 x8_1).f1).length c385_1))) := ⟨by repeat (first | (with_reducible first | exact HB.out | apply below_alloc | apply pw_below_drewN | apply below_drew1 | refine below_set ?_ GE386.out) | exact HB.out)⟩;(try clear BK386);(try clear HB);generalize ((w8.setCell ⟨gb386, 0, none⟩ (.int .i64 ((rd_T67 l0 x8_1).f0))).setCell ⟨gb386, 1, none⟩ (.slice A385_1 ((rd_T67 l0 x8_1).f1).length c385_1)) = w10 at n0_ n1_ ⊢;have BK386 := n0_;have HB := n1_;clear n0_ n1_;replace BK386 := am (blk_drew BK386.out);replace HB := am (below_drew1 HB.out);refine start_ (n := 8) (S := fun w' => w'.cell? ⟨gb386, 0, none⟩ = some (.int .i64 ((rd_T67 l0 x8_1).f0)) ∧ w'.cell? ⟨gb386, 1, none⟩ = some (.slice A385_1 ((rd_T67 l0 x8_1).f1).length c385_1)) (ds := []) #[false, false, false, false, false, false, false, false] (by kernel_rfl) rfl rfl ⟨(blk_cell BK386.out 0).trans rfl, (blk_cell BK386.out 1).trans rfl⟩ (fun hHeld => ?_); refine with_tabW impl_most.tab5 impl_most.bits5 (fun HT_ HW_ => ?_);generalize w10.drew = w11 at BK386 HB hHeld ⊢;refine pure_ (i := 0) (N := some 12) (v := ?_) (a' := ?_) #[true, false, false, false, false, false, false, false] rfl rfl (any_of HT_.out (by kernel_rfl)) (fun _ _ _ h => h) (Or.inl ⟨by rfl, ?_⟩) ?_ ?_;rotate_left
      ·
       intro w';go_simp;with_reducible rfl
      rotate_left
      ·
       simp only [Act.put, sA, sB, sC, i64_w, i32_w];rfl
      refine pure_ (i := 1) (N := some 13) (v := ?_) (a' := ?_) #[true, true, false, false, false, false, false, false] rfl rfl (any_of HT_.out (by kernel_rfl)) (fun _ _ _ h => h) (Or.inl ⟨by rfl, ?_⟩) ?_ ?_;rotate_left
      ·
       intro w';go_simp;with_reducible rfl
      rotate_left
      ·
       simp only [Act.put, sA, sB, sC, i64_w, i32_w];rfl
      refine pure_ (i := 3) (N := some 15) (v := ?_) (a' := ?_) #[true, true, false, true, false, false, false, false] rfl rfl (any_of HT_.out (by kernel_rfl)) (fun _ _ _ h => h) (Or.inl ⟨by rfl, ?_⟩) ?_ ?_;rotate_left
      ·
       intro w';go_simp;with_reducible rfl
      rotate_left
      ·
       simp only [Act.put, sA, sB, sC, i64_w, i32_w];rfl
      refine take_ (i := 2) (N := some 14) (v := ?_) (a' := ?_) #[true, true, true, true, false, false, false, false] rfl rfl (take_ofW HT_.out HW_.out (by kernel_rfl)) (fun _ _ _ h => h) (Or.inl ⟨by rfl, ?_⟩) hHeld ?_ ?_;rotate_left
      ·
       rintro w' ⟨s0, s1⟩
       go_simp;with_reducible rfl
      rotate_left
      ·
       simp only [Act.put, sA, sB, sC, i64_w, i32_w];rfl
      refine take_ (i := 4) (N := some 16) (v := ?_) (a' := ?_) #[true, true, true, true, true, false, false, false] rfl rfl (take_ofW HT_.out HW_.out (by kernel_rfl)) (fun _ _ _ h => h) (Or.inl ⟨by rfl, ?_⟩) hHeld ?_ ?_;rotate_left
      ·
       rintro w' ⟨s0, s1⟩
       go_simp;with_reducible rfl
      rotate_left
      ·
       simp only [Act.put, sA, sB, sC, i64_w, i32_w];rfl
      refine one_ (i := 5) (N := some 17) #[true, true, true, true, true, true, false, false] rfl rfl (one_of HT_.out (by kernel_rfl)) (by decide) (fun K hK => ?_);refine goes_ Try.func36 (by kernel_rfl) rfl #[.slice A385_1 ((rd_T67 l0 x8_1).f1).length c385_1] (by rfl) rfl rfl (by (try simp only [mA, mB, mC]); first | done | rfl) ?_
      with_reducible refine (ih k1 (by have := HK1.out; omega) _ _ ((rd_T67 l0 x8_1).f1) t387 _ ?side1 ?side2 A5.out).mono ?_
      (case side1 => exact Kd.cm ((Kd.C_below HR385_1.out HB.out)));(case side2 => exact HC385_1.out)
      rintro e w12 ⟨rfl, hb⟩
      refine ⟨_, rfl, ?_⟩;replace BK386 := am (blk_below (g := gb386) (o := .cells #[.int .i64 ((rd_T67 l0 x8_1).f0), .slice A385_1 ((rd_T67 l0 x8_1).f1).length c385_1] 67 (0, 0)) (by (with_reducible repeat (first | refine blk_drewN ?_ _ | refine blk_drew ?_ | refine blk_alloc ?_ _)); exact BK386.out) hb);replace HB := am (below_step (by repeat (first | (with_reducible first | exact HB.out | apply below_alloc | apply pw_below_drewN | apply below_drew1 | refine below_set ?_ GE386.out) | exact HB.out)) hb);(try clear hb);refine hK.out _ _ ⟨(blk_cell BK386.out 0).trans rfl, (blk_cell BK386.out 1).trans rfl⟩ (fun hHeld => ?_);clear hK K;refine norm_ (a' := ?_) ?_ ?_;rotate_left
      ·
       show Act.put _ (some 17) _ = _
       simp only [Act.put, sA, sB, sC, i64_w, i32_w];rfl
      refine pure_ (i := 6) (N := some 18) (v := ?_) (a' := ?_) #[true, true, true, true, true, true, true, false] rfl rfl (any_of HT_.out (by kernel_rfl)) (fun _ _ _ h => h) (Or.inl ⟨by rfl, ?_⟩) ?_ ?_;rotate_left
      ·
       intro w';go_simp;with_reducible rfl
      rotate_left
      ·
       simp only [Act.put, sA, sB, sC, i64_w, i32_w];rfl
      refine pure_ (i := 7) (N := some 3) (v := ?_) (a' := ?_) #[true, true, true, true, true, true, true, true] rfl rfl (any_of HT_.out (by kernel_rfl)) (fun _ _ _ h => h) (Or.inl ⟨by rfl, ?_⟩) ?_ ?_;rotate_left
      ·
       intro w';go_simp;with_reducible rfl
      rotate_left
      ·
       simp only [Act.put, sA, sB, sC, i64_w, i32_w];rfl
      refine done_ (done_of HT_.out (by kernel_rfl)) ?_;(try go_wp2)
      go_roundg k1
      case measure => have := HK1.out; omega
      case rel => exact ⟨(ji7), (wrap64 (x8_1 + 1)), (by first | rfl | (simp; done) | (simp only [← hji7] <;> (first | rfl | simp)) | (simp [*]; done)), (by first | rfl | (simp; done) | (simp [*]; done)), H', ⟨by have := HK1.out; omega⟩, ⟨by repeat (first | (with_reducible first | exact HB.out | apply below_alloc | apply pw_below_drewN | apply below_drew1 | refine below_set ?_ GE386.out) | exact HB.out)⟩⟩
     ·
      rw [if_neg c4] at H;exact absurd H (by simp)
    ·
     rw [if_neg c3] at H;exact absurd H (by simp)
   ·
    rw [if_neg c2] at H;have c2b0 : decide (x8_1 < (l0.length : Int)) = false := decide_eq_false c2;clear c2;obtain rfl := Option.some.inj H;go_wp2;go_ret;exact ⟨by first | rfl | (simp [errW_none, errW_some] <;> rfl) | (simp [*, errW_none, errW_some] <;> rfl), bm HB.out⟩

/-! ### impl_BaseOk: function 14 -/
def impl_BaseOk.f (k : Nat) (l0 : List Int) (a1 : Int) : Option (Bool) := (impl_ordOf.f k l0).bind fun bt388 => (if bt388.2 = true then (if a1 ≥ 2 then (if a1 ≤ 90 then ((impl_most.f k bt388.1).bind fun t392 => (some (decide (t392 < a1)))) else (some false)) else (some false)) else (some false))
theorem impl_BaseOk.mono : ∀ a0 a1 k, LeO (impl_BaseOk.f k a0 a1) (impl_BaseOk.f (k + 1) a0 a1) := by
 intro a0 a1 k;unfold impl_BaseOk.f
 repeat' first | (with_reducible exact impl_most.mono _ _) | (with_reducible exact impl_ordOf.mono _ _) | (with_reducible exact LeO.refl _) | (with_reducible exact LeO.none _) | (with_reducible refine LeO.ite ?_ ?_) | (with_reducible refine LeO.bind ?_ (fun _ => ?_))
set_option maxHeartbeats 8000000 in
set_option maxRecDepth 100000 in
theorem impl_BaseOk.calls (k : Nat) (A0 : Option Addr) (c0 : Nat) (l0 : List Int) (a1 : Int) (r : Bool) (w : World) (hr0 : Kd.C (Kd.int .i64) w A0 l0.length l0) (hc0 : l0.length ≤ c0) (h : impl_BaseOk.f k l0 a1 = some r) :
  Calls Try.prog 14 #[.slice A0 l0.length c0, .int .i64 a1] w fun e w' => e = .returned (.bool r) ∧ Below w.heap.size w w' := by
 have HR0 := am hr0;have HC0 := am hc0;clear hr0 hc0;have HB := am (Below.refl w.heap.size w);have H : ((impl_ordOf.f k l0).bind fun bt388 => (if bt388.2 = true then (if a1 ≥ 2 then (if a1 ≤ 90 then ((impl_most.f k bt388.1).bind fun t392 => (some (decide (t392 < a1)))) else (some false)) else (some false)) else (some false))) = some r := h;clear h;replace H := oE H;obtain ⟨⟨t388, t389⟩, A3, H⟩ := H;replace H : (if t389 = true then (if a1 ≥ 2 then (if a1 ≤ 90 then ((impl_most.f k t388).bind fun t392 => (some (decide (t392 < a1)))) else (some false)) else (some false)) else (some false)) = some r := H;replace A3 := am A3;by_cases c4 : t389 = true
 ·
  subst c4
  have H1 : (if a1 ≥ 2 then (if a1 ≤ 90 then ((impl_most.f k t388).bind fun t392 => (some (decide (t392 < a1)))) else (some false)) else (some false)) = some r := by rw [if_pos rfl] at H; exact H
  clear H;have H := H1;clear H1;by_cases c5 : a1 ≥ 2
  ·
   rw [if_pos c5] at H;have c5b0 : decide (2 ≤ a1) = true := decide_eq_true c5;clear c5;by_cases c6 : a1 ≤ 90
   ·
    rw [if_pos c6] at H;have c6b0 : decide (a1 ≤ 90) = true := decide_eq_true c6;clear c6;replace H := oE H;obtain ⟨t392, A7, H⟩ := H;replace H : (some (decide (t392 < a1))) = some r := H;replace A7 := am A7;obtain rfl := Option.some.inj H;go_enter Try.func14, Try.ntmps14;go_wp2_with (first | ((with_reducible refine gate_callee (f := 35) rfl ?_); refine goesL_ (some 9) rfl rfl Try.func35 (by kernel_rfl) rfl #[.slice A0 l0.length c0] rfl (by (try simp only [mA, mB, mC]); first | done | rfl) ?_; (with_reducible refine (impl_ordOf.calls k _ _ l0 t388 true _ ?side1 ?side2 A3.out).mono ?_); (case side1 => exact Kd.cm HR0.out); (case side2 => exact HC0.out); rintro e w8 ⟨v390, rfl, ho0, hb⟩; refine ⟨_, rfl, ?_⟩; have HO391 := am (Kd.R_lower ho0 (below_size (bm HB.out)));replace HB := am (below_step (bm HB.out) hb); (try clear hb); (try clear ho0); obtain ⟨Ao9, co9, eo9⟩ := Kd.R_slice HO391.out; subst eo9) | (go_at_call 36; (with_reducible refine (impl_most.calls k _ _ t388 t392 _ ?side1 ?side2 A7.out).mono ?_); (case side1 => exact Kd.cm ((Kd.R_reads' HO391.out).2.2)); (case side2 => exact (Kd.R_reads' HO391.out).2.1); rintro e w10 ⟨rfl, hb⟩; replace HO391 := am (Kd.R_below (Kd.rm HO391.out) hb);replace HB := am (below_step (bm HB.out) hb); (try clear hb)));go_ret;exact ⟨by first | rfl | (simp [errW_none, errW_some] <;> rfl) | (simp [*, errW_none, errW_some] <;> rfl), bm HB.out⟩
   ·
    rw [if_neg c6] at H;have c6b0 : decide (a1 ≤ 90) = false := decide_eq_false c6;clear c6;obtain rfl := Option.some.inj H;go_enter Try.func14, Try.ntmps14;go_wp2_with (first | ((with_reducible refine gate_callee (f := 35) rfl ?_); refine goesL_ (some 9) rfl rfl Try.func35 (by kernel_rfl) rfl #[.slice A0 l0.length c0] rfl (by (try simp only [mA, mB, mC]); first | done | rfl) ?_; (with_reducible refine (impl_ordOf.calls k _ _ l0 t388 true _ ?side1 ?side2 A3.out).mono ?_); (case side1 => exact Kd.cm HR0.out); (case side2 => exact HC0.out); rintro e w11 ⟨v390, rfl, ho0, hb⟩; refine ⟨_, rfl, ?_⟩; have HO391 := am (Kd.R_lower ho0 (below_size (bm HB.out)));replace HB := am (below_step (bm HB.out) hb); (try clear hb); (try clear ho0)));go_ret;exact ⟨by first | rfl | (simp [errW_none, errW_some] <;> rfl) | (simp [*, errW_none, errW_some] <;> rfl), bm HB.out⟩
  ·
   rw [if_neg c5] at H;have c5b0 : decide (2 ≤ a1) = false := decide_eq_false c5;clear c5;obtain rfl := Option.some.inj H;go_enter Try.func14, Try.ntmps14;go_wp2_with (first | ((with_reducible refine gate_callee (f := 35) rfl ?_); refine goesL_ (some 9) rfl rfl Try.func35 (by kernel_rfl) rfl #[.slice A0 l0.length c0] rfl (by (try simp only [mA, mB, mC]); first | done | rfl) ?_; (with_reducible refine (impl_ordOf.calls k _ _ l0 t388 true _ ?side1 ?side2 A3.out).mono ?_); (case side1 => exact Kd.cm HR0.out); (case side2 => exact HC0.out); rintro e w12 ⟨v390, rfl, ho0, hb⟩; refine ⟨_, rfl, ?_⟩; have HO391 := am (Kd.R_lower ho0 (below_size (bm HB.out)));replace HB := am (below_step (bm HB.out) hb); (try clear hb); (try clear ho0)));go_ret;exact ⟨by first | rfl | (simp [errW_none, errW_some] <;> rfl) | (simp [*, errW_none, errW_some] <;> rfl), bm HB.out⟩
 ·
  replace c4 := Bool.eq_false_iff.mpr c4;subst c4
  have H1 : (some false) = some r := by rw [if_neg (show ¬ (false = true) by decide)] at H; exact H
  clear H;have H := H1;clear H1;obtain rfl := Option.some.inj H;go_enter Try.func14, Try.ntmps14;go_wp2_with (first | ((with_reducible refine gate_callee (f := 35) rfl ?_); refine goesL_ (some 9) rfl rfl Try.func35 (by kernel_rfl) rfl #[.slice A0 l0.length c0] rfl (by (try simp only [mA, mB, mC]); first | done | rfl) ?_; (with_reducible refine (impl_ordOf.calls k _ _ l0 t388 false _ ?side1 ?side2 A3.out).mono ?_); (case side1 => exact Kd.cm HR0.out); (case side2 => exact HC0.out); rintro e w13 ⟨v390, rfl, ho0, hb⟩; refine ⟨_, rfl, ?_⟩; have HO391 := am (Kd.R_lower ho0 (below_size (bm HB.out)));replace HB := am (below_step (bm HB.out) hb); (try clear hb); (try clear ho0)));go_ret;exact ⟨by first | rfl | (simp [errW_none, errW_some] <;> rfl) | (simp [*, errW_none, errW_some] <;> rfl), bm HB.out⟩

/-! ### spec_l1End: function 57 -/
mutual
def spec_l1End.j0 : Nat → List Int → Int → Bool → Option (Int)
 | 0, _, _, _ => none
 | k + 1, x0, x1, x20 => if x20 = true then (some (-1)) else (if 0 ≤ x1 then (if x1 < (x0.length : Int) then (spec_l1End.l0 k x0 (wrap64 (x1 + 1)) (rd x0 x1) (([] : List Int)) 0) else (none)) else (none))
def spec_l1End.l0 : Nat → List Int → Int → Int → List Int → Int → Option (Int)
 | 0, _, _, _, _, _ => none
 | k + 1, x0, x1, x5, x6, x7 => if x7 < x5 then (if x1 ≥ (x0.length : Int) then (spec_l1End.j2 k x0 x1 x5 x6 x7 true) else (if 0 ≤ x1 then (if x1 < (x0.length : Int) then ((spec_l1In.f (rd x0 x1) 1 9999).bind fun t400 => (spec_l1End.j2 k x0 x1 x5 x6 x7 (!t400))) else (none)) else (none))) else (some x1)
def spec_l1End.j2 : Nat → List Int → Int → Int → List Int → Int → Bool → Option (Int)
 | 0, _, _, _, _, _, _ => none
 | k + 1, x0, x1, x5, x6, x7, x44 => if x44 = true then (some (-1)) else ((spec_l1End.f k x0 (wrap64 (x1 + 1))).bind fun t401 => (if t401 < 0 then (some (-1)) else (if x7 > 0 then (if 0 ≤ (wrap64 (x1 + 1)) then (if (wrap64 (x1 + 1)) ≤ t401 then (if t401 ≤ (x0.length : Int) then ((spec_l1Compare.f k ((x0.take (t401 : Int).toNat).drop ((wrap64 (x1 + 1)) : Int).toNat) x6).bind fun t407 => (if t407 ≥ 0 then (some (-1)) else (spec_l1End.l0 k x0 t401 x5 ((x0.take (t401 : Int).toNat).drop ((wrap64 (x1 + 1)) : Int).toNat) (wrap64 (x7 + 1))))) else (none)) else (none)) else (none)) else (if 0 ≤ (wrap64 (x1 + 1)) then (if (wrap64 (x1 + 1)) ≤ t401 then (if t401 ≤ (x0.length : Int) then (spec_l1End.l0 k x0 t401 x5 ((x0.take (t401 : Int).toNat).drop ((wrap64 (x1 + 1)) : Int).toNat) (wrap64 (x7 + 1))) else (none)) else (none)) else (none)))))
def spec_l1End.f : Nat → List Int → Int → Option (Int)
 | 0, _, _ => none
 | k + 1, l0, a1 => if a1 ≥ (l0.length : Int) then (spec_l1End.j0 k l0 a1 true) else (if 0 ≤ a1 then (if a1 < (l0.length : Int) then ((spec_l1In.f (rd l0 a1) 0 60).bind fun t394 => (spec_l1End.j0 k l0 a1 (!t394))) else (none)) else (none))
end
theorem spec_l1End.mono_l : ∀ k, (∀ y0 y1, LeO (spec_l1End.f k y0 y1) (spec_l1End.f (k + 1) y0 y1)) ∧ (∀ y0 y1 y2, LeO (spec_l1End.j0 k y0 y1 y2) (spec_l1End.j0 (k + 1) y0 y1 y2)) ∧ (∀ y0 y1 y2 y3 y4, LeO (spec_l1End.l0 k y0 y1 y2 y3 y4) (spec_l1End.l0 (k + 1) y0 y1 y2 y3 y4)) ∧ (∀ y0 y1 y2 y3 y4 y5, LeO (spec_l1End.j2 k y0 y1 y2 y3 y4 y5) (spec_l1End.j2 (k + 1) y0 y1 y2 y3 y4 y5))
 | 0 => ⟨fun _ _ r h => by simp [spec_l1End.f] at h, fun _ _ _ r h => by simp [spec_l1End.j0] at h, fun _ _ _ _ _ r h => by simp [spec_l1End.l0] at h, fun _ _ _ _ _ _ r h => by simp [spec_l1End.j2] at h⟩
 | k + 1 => by
  obtain ⟨ih0, ih1, ih2, ih3⟩ := spec_l1End.mono_l k;refine ⟨?_, ?_, ?_, ?_⟩
  all_goals (intros; first | unfold spec_l1End.f | unfold spec_l1End.j0 | unfold spec_l1End.l0 | unfold spec_l1End.j2)
  all_goals repeat' first | (with_reducible exact ih0 _ _) | (with_reducible exact ih1 _ _ _) | (with_reducible exact ih2 _ _ _ _ _) | (with_reducible exact ih3 _ _ _ _ _ _) | (with_reducible exact spec_l1Compare.mono _ _ _) | (with_reducible exact LeO.refl _) | (with_reducible exact LeO.none _) | (with_reducible refine LeO.ite ?_ ?_) | (with_reducible refine LeO.bind ?_ (fun _ => ?_))
theorem spec_l1End.mono : ∀ a0 a1 k, LeO (spec_l1End.f k a0 a1) (spec_l1End.f (k + 1) a0 a1) := by
 intro a0 a1 k;obtain ⟨ih0, ih1, ih2, ih3⟩ := spec_l1End.mono_l k;exact ih0 a0 a1
set_option maxHeartbeats 8000000 in
set_option maxRecDepth 100000 in
theorem spec_l1End.calls (k : Nat) : ∀ (P0_ : Nat → Prop) (A0 : Option Addr) (c0 : Nat) (l0 : List Int) (a1 : Int) (r : Int) (w : World) (hs0 : Kd.V (Kd.int .i64) 3 w w.heap.size (fun k_ => P0_ k_) (.slice A0 l0.length c0) l0) (h : spec_l1End.f k l0 a1 = some r),
  Calls Try.prog 57 #[.slice A0 l0.length c0, .int .i64 a1] w fun e w' => e = .returned (.int .i64 r) ∧ Below w.heap.size w w' := by
 induction k using Nat.strongRecOn with
 | _ k ih =>
 intro P0_ A0 c0 l0 a1 r w hs0 h
 cases k with
 | zero => exact absurd h (by simp [spec_l1End.f])
 | succ k =>
 simp only [spec_l1End.f] at h;have HO0 := am (show Kd.V (Kd.int .i64) 3 w w.heap.size (fun k_ => (P0_ k_ ∨ w.heap.size ≤ k_)) (.slice A0 l0.length c0) l0 from Kd.V_mono hs0 (fun k_ hk => .inl hk));have HB := am (Below.refl w.heap.size w);have H : (if a1 ≥ (l0.length : Int) then (spec_l1End.j0 k l0 a1 true) else (if 0 ≤ a1 then (if a1 < (l0.length : Int) then ((spec_l1In.f (rd l0 a1) 0 60).bind fun t394 => (spec_l1End.j0 k l0 a1 (!t394))) else (none)) else (none))) = some r := h;clear h;have HC3 := am H;clear H;go_enter Try.func57, Try.ntmps57
 go_upto_region 1 with (fail)
 go_cut [20] (fun v20 wc => ∃ (kq : Nat) (x20_2 : Bool), v20 = .bool x20_2 ∧ Aside0 (spec_l1End.j0 kq l0 a1 x20_2 = some r) ∧ Aside0 (kq ≤ k) ∧ Aside0 (Kd.V (Kd.int .i64) 3 wc w.heap.size (fun k_ => (P0_ k_ ∨ w.heap.size ≤ k_)) (.slice A0 l0.length c0) l0) ∧ Aside0 (Below w.heap.size w wc))
 case first =>
  have H := HC3.out;clear HC3;by_cases c4 : a1 ≥ (l0.length : Int)
  ·
   rw [if_pos c4] at H;have c4b0 : decide ((l0.length : Int) ≤ a1) = true := decide_eq_true c4;clear c4
   (first | rw [c4b0] | (simp only [i64_w, i32_w]; rw [c4b0]) | skip)
   have H' := am H;clear H;go_wp2;go_meet
   case rel => exact ⟨_, (true), (by first | rfl | (simp; done) | (simp [*]; done)), H', ⟨by first | omega | exact Nat.le_refl _⟩, ⟨Kd.vm HO0.out⟩, ⟨bm HB.out⟩⟩
  ·
   rw [if_neg c4] at H;have c4b0 : decide ((l0.length : Int) ≤ a1) = false := decide_eq_false c4;clear c4
   (first | rw [c4b0] | (simp only [i64_w, i32_w]; rw [c4b0]) | skip)
   by_cases c5 : 0 ≤ a1
   ·
    rw [if_pos c5] at H;have c5b0 : decide (0 ≤ a1) = true := decide_eq_true c5;clear c5;by_cases c6 : a1 < (l0.length : Int)
    ·
     rw [if_pos c6] at H;have c6b0 : decide (a1 < (l0.length : Int)) = true := decide_eq_true c6;clear c6;replace H := oE H;obtain ⟨t394, A7, H⟩ := H;replace H : (spec_l1End.j0 k l0 a1 (!t394)) = some r := H;replace A7 := am A7;have H' := am H;clear H;have p393 : 0 ≤ (a1 : Int) := of_decide_eq_true (by assumption);have q393 : a1 < (l0.length : Int) := of_decide_eq_true (by assumption);obtain ⟨ad393, e393, hx393_0⟩ := Kd.at_int (Kd.V_reads' HO0.out).2.2 a1 p393 q393;cases e393
     replace p393 := eq_true p393;replace q393 := eq_true q393;go_wp2_with (first | (go_at_call 38; (with_reducible refine (spec_l1In.calls (rd l0 a1) 0 60 t394 _ A7.out).mono ?_); rintro e w' ⟨rfl, ⟨nd, rfl⟩⟩));go_meet
     case rel => exact ⟨_, (!t394), (by first | rfl | (simp; done) | (simp [*]; done)), H', ⟨by first | omega | exact Nat.le_refl _⟩, ⟨Kd.vm HO0.out⟩, ⟨bm HB.out⟩⟩
    ·
     rw [if_neg c6] at H;exact absurd H (by simp)
   ·
    rw [if_neg c5] at H;exact absurd H (by simp)
 case rest =>
  clear HC3;(try clear p2);(try clear p3);(try clear q3);(try clear hx3);(try clear c4);(try clear c4b0);(try clear c5);(try clear c5b0);(try clear c6);(try clear c6b0);(try clear hx393_0);(try clear p393);(try clear q393);obtain ⟨kq, x20_2, rfl, HA, HJ2, HO_0, HB⟩ := hcut
  cases kq with
  | zero => exact absurd HA.out (by simp [spec_l1End.j0])
  | succ kj2 =>
   have H := HA.out;clear HA;simp only [spec_l1End.j0] at H;by_cases c8 : x20_2 = true
   ·
    subst c8
    have H1 : (some (-1)) = some r := by rw [if_pos rfl] at H; exact H
    clear H;have H := H1;clear H1;obtain rfl := Option.some.inj H;go_wp2;go_ret;exact ⟨by first | rfl | (simp [errW_none, errW_some] <;> rfl) | (simp [*, errW_none, errW_some] <;> rfl), bm HB.out⟩
   ·
    replace c8 := Bool.eq_false_iff.mpr c8;subst c8
    have H1 : (if 0 ≤ a1 then (if a1 < (l0.length : Int) then (spec_l1End.l0 kj2 l0 (wrap64 (a1 + 1)) (rd l0 a1) (([] : List Int)) 0) else (none)) else (none)) = some r := by rw [if_neg (show ¬ (false = true) by decide)] at H; exact H
    clear H;have H := H1;clear H1;by_cases c9 : 0 ≤ a1
    ·
     rw [if_pos c9] at H;have c9b0 : decide (0 ≤ a1) = true := decide_eq_true c9;clear c9;by_cases c10 : a1 < (l0.length : Int)
     ·
      rw [if_pos c10] at H;have c10b0 : decide (a1 < (l0.length : Int)) = true := decide_eq_true c10;clear c10
      obtain ⟨y396, hy396⟩ : ∃ y_ : List Int, y_ = (([] : List Int)) := ⟨_, rfl⟩
      replace H : (spec_l1End.l0 kj2 l0 (wrap64 (a1 + 1)) (rd l0 a1) y396 0) = some r := by first | (rw [hy396]; with_reducible exact H) | (have H2_ := oB H; rw [hy396]; with_reducible exact H2_) | (have H2_ := oB H; with_reducible exact H2_) | with_reducible exact H | (rw [hy396]; exact H) | exact H
      replace hy396 := am hy396;have H' := am H;clear H;have p395 : 0 ≤ (a1 : Int) := of_decide_eq_true (by assumption);have q395 : a1 < (l0.length : Int) := of_decide_eq_true (by assumption);obtain ⟨ad395, e395, hx395_0⟩ := Kd.at_int (Kd.V_reads' HO_0.out).2.2 a1 p395 q395;cases e395
      replace p395 := eq_true p395;replace q395 := eq_true q395;go_wp2_with (first | ((with_reducible refine gate_dst (N := 27) rfl ?_); refine Kd.R_lit (Kd.int .i64) _ 3 ?hg (N := 27) ?hd (xs := ([] : List Int)) (inner := []) (ok := fun _ => True) (okp := fun _ => True) ?hr ?hp (fun _ hk => hk) trivial (Below.refl _ _) (Nat.le_refl _) (by simp) ?_; (case hd => rfl); (case hg => rfl); (case hr => first | (go_simp; done) | (go_simp; rfl)); (case hp => exact (Reps.none _ _)); intro v397 w11 ho12 hb hg_ hnew_; clear hg_ hnew_; (first | rw [← hy396.out] at ho12 | (simp only [Int.reduceToNat] at ho12; rw [← hy396.out] at ho12)); replace HO_0 := am (Kd.V_elder' (Kd.vm HO_0.out) (Kd.R_base ho12) hb);have HO398 := am (Kd.R_lower (Kd.R_newM (M := fun k_ => (w.heap.size ≤ k_)) ho12 (below_size (bm HB.out)) (fun k_ h_ => h_)) (below_size (bm HB.out)));replace HB := am (below_step (bm HB.out) hb); clear hb ho12))
      go_loopg [1, 6, 7] kj2 (fun kq v1 v6 v7 w' => ∃ (x1_2 : Int) (x6_2 : List Int) (x7_2 : Int), v1 = .int .i64 x1_2 ∧ v7 = .int .i64 x7_2 ∧ Aside0 (spec_l1End.l0 kq l0 x1_2 (rd l0 a1) x6_2 x7_2 = some r) ∧ Aside0 (kq ≤ kj2) ∧ Aside0 (Kd.V (Kd.int .i64) 3 w' w.heap.size (fun k_ => (P0_ k_ ∨ w.heap.size ≤ k_)) (.slice (some ad395) l0.length c0) l0) ∧ Aside0 (Kd.V (Kd.int .i64) 3 w' w.heap.size (fun k_ => (P0_ k_ ∨ w.heap.size ≤ k_)) v6 x6_2) ∧ Aside0 (Below w.heap.size w w'))
      case atStart => exact ⟨(wrap64 (a1 + 1)), (y396), (0), (by first | rfl | (simp; done) | (simp [*]; done)), (by first | rfl | (simp; done) | (simp [*]; done)), H', ⟨Nat.le_refl _⟩, ⟨Kd.vm (Kd.V_mono HO_0.out (fun _ hk => hk.1))⟩, ⟨Kd.V_mono (Kd.R_V (Kd.rm (Kd.R_mono HO398.out (fun _ hk => hk.1)))) (fun k_ hk => by first | exact ⟨(.inr (hk.1)), hk.2⟩ | exact (.inr (hk)))⟩, ⟨bm HB.out⟩⟩
      case round =>
       clear H';(try clear c1);(try clear p2);(try clear p3);(try clear q3);(try clear hx3);(try clear c4);(try clear c4b0);(try clear c5);(try clear c5b0);(try clear c6);(try clear c6b0);(try clear p6);(try clear c8);(try clear c9);(try clear c9b0);(try clear c10);(try clear c10b0);(try clear hx393_0);(try clear hx395_0);(try clear p2);(try clear p3);(try clear p393);(try clear p395);(try clear q3);(try clear q393);(try clear q395);(try clear HO_0);(try clear HO_6);(try clear HB);obtain ⟨x1_2, x6_2, x7_2, rfl, rfl, HA, HK2, HO_0, HO_6, HB⟩ := hrel
       cases gk with
       | zero => exact absurd HA.out (by simp [spec_l1End.l0])
       | succ k2 =>
        have H := HA.out;clear HA;simp only [spec_l1End.l0] at H;by_cases c13 : x7_2 < (rd l0 a1)
        ·
         rw [if_pos c13] at H;have c13b0 : decide (x7_2 < (rd l0 a1)) = true := decide_eq_true c13;clear c13;have HC14 := am H;clear H
         go_upto_region 9 with (fail)
         go_cut [44] (fun v44 wc => ∃ (kq : Nat) (x44_13 : Bool), v44 = .bool x44_13 ∧ Aside0 (spec_l1End.j2 kq l0 x1_2 (rd l0 a1) x6_2 x7_2 x44_13 = some r) ∧ Aside0 (kq ≤ k2) ∧ Aside0 (Kd.V (Kd.int .i64) 3 wc w.heap.size (fun k_ => (P0_ k_ ∨ w.heap.size ≤ k_)) (.slice (some ad395) l0.length c0) l0) ∧ Aside0 (Kd.V (Kd.int .i64) 3 wc w.heap.size (fun k_ => (P0_ k_ ∨ w.heap.size ≤ k_)) u6 x6_2) ∧ Aside0 (Below w.heap.size w wc))
         case first =>
          have H := HC14.out;clear HC14;by_cases c15 : x1_2 ≥ (l0.length : Int)
          ·
           rw [if_pos c15] at H;have c15b0 : decide ((l0.length : Int) ≤ x1_2) = true := decide_eq_true c15;clear c15
           (first | rw [c15b0] | (simp only [i64_w, i32_w]; rw [c15b0]) | skip)
           have H' := am H;clear H;go_wp2;go_meet
           case rel => exact ⟨_, (true), (by first | rfl | (simp; done) | (simp [*]; done)), H', ⟨by have := HJ2.out; have := HK2.out; first | omega | exact Nat.le_refl _⟩, ⟨Kd.vm HO_0.out⟩, ⟨Kd.vm HO_6.out⟩, ⟨bm HB.out⟩⟩
          ·
           rw [if_neg c15] at H;have c15b0 : decide ((l0.length : Int) ≤ x1_2) = false := decide_eq_false c15;clear c15
           (first | rw [c15b0] | (simp only [i64_w, i32_w]; rw [c15b0]) | skip)
           by_cases c16 : 0 ≤ x1_2
           ·
            rw [if_pos c16] at H;have c16b0 : decide (0 ≤ x1_2) = true := decide_eq_true c16;clear c16;by_cases c17 : x1_2 < (l0.length : Int)
            ·
             rw [if_pos c17] at H;have c17b0 : decide (x1_2 < (l0.length : Int)) = true := decide_eq_true c17;clear c17;replace H := oE H;obtain ⟨t400, A18, H⟩ := H;replace H : (spec_l1End.j2 k2 l0 x1_2 (rd l0 a1) x6_2 x7_2 (!t400)) = some r := H;replace A18 := am A18;have H' := am H;clear H;have p399 : 0 ≤ (x1_2 : Int) := of_decide_eq_true (by assumption);have q399 : x1_2 < (l0.length : Int) := of_decide_eq_true (by assumption);obtain ⟨ad399, e399, hx399_0⟩ := Kd.at_int (Kd.V_reads' HO_0.out).2.2 x1_2 p399 q399;obtain rfl : ad395 = ad399 := (by injection e399);replace p399 := eq_true p399;replace q399 := eq_true q399;go_wp2_with (first | (go_at_call 38; (with_reducible refine (spec_l1In.calls (rd l0 x1_2) 1 9999 t400 _ A18.out).mono ?_); rintro e w' ⟨rfl, ⟨nd, rfl⟩⟩));go_meet
             case rel => exact ⟨_, (!t400), (by first | rfl | (simp; done) | (simp [*]; done)), H', ⟨by have := HJ2.out; have := HK2.out; first | omega | exact Nat.le_refl _⟩, ⟨Kd.vm HO_0.out⟩, ⟨Kd.vm HO_6.out⟩, ⟨bm HB.out⟩⟩
            ·
             rw [if_neg c17] at H;exact absurd H (by simp)
           ·
            rw [if_neg c16] at H;exact absurd H (by simp)
         case rest =>
          clear HC14;(try clear c1);(try clear p2);(try clear p3);(try clear q3);(try clear hx3);(try clear c4);(try clear c4b0);(try clear c5);(try clear c5b0);(try clear c6);(try clear c6b0);(try clear p6);(try clear c8);(try clear c9);(try clear c9b0);(try clear c10);(try clear c10b0);(try clear c13);(try clear c13b0);(try clear c15);(try clear c15b0);(try clear c16);(try clear c16b0);(try clear c17);(try clear c17b0);(try clear hx393_0);(try clear hx395_0);(try clear hx399_0);(try clear p2);(try clear p3);(try clear p393);(try clear p395);(try clear p399);(try clear p6);(try clear q3);(try clear q393);(try clear q395);(try clear q399);obtain ⟨kq, x44_13, rfl, HA, HJ13, HO_0, HO_6, HB⟩ := hcut
          cases kq with
          | zero => exact absurd HA.out (by simp [spec_l1End.j2])
          | succ kj13 =>
           have H := HA.out;clear HA;simp only [spec_l1End.j2] at H;by_cases c19 : x44_13 = true
           ·
            subst c19
            have H1 : (some (-1)) = some r := by rw [if_pos rfl] at H; exact H
            clear H;have H := H1;clear H1;obtain rfl := Option.some.inj H;go_wp2;go_ret;exact ⟨by first | rfl | (simp [errW_none, errW_some] <;> rfl) | (simp [*, errW_none, errW_some] <;> rfl), bm HB.out⟩
           ·
            replace c19 := Bool.eq_false_iff.mpr c19;subst c19
            have H1 : ((spec_l1End.f kj13 l0 (wrap64 (x1_2 + 1))).bind fun t401 => (if t401 < 0 then (some (-1)) else (if x7_2 > 0 then (if 0 ≤ (wrap64 (x1_2 + 1)) then (if (wrap64 (x1_2 + 1)) ≤ t401 then (if t401 ≤ (l0.length : Int) then ((spec_l1Compare.f kj13 ((l0.take (t401 : Int).toNat).drop ((wrap64 (x1_2 + 1)) : Int).toNat) x6_2).bind fun t407 => (if t407 ≥ 0 then (some (-1)) else (spec_l1End.l0 kj13 l0 t401 (rd l0 a1) ((l0.take (t401 : Int).toNat).drop ((wrap64 (x1_2 + 1)) : Int).toNat) (wrap64 (x7_2 + 1))))) else (none)) else (none)) else (none)) else (if 0 ≤ (wrap64 (x1_2 + 1)) then (if (wrap64 (x1_2 + 1)) ≤ t401 then (if t401 ≤ (l0.length : Int) then (spec_l1End.l0 kj13 l0 t401 (rd l0 a1) ((l0.take (t401 : Int).toNat).drop ((wrap64 (x1_2 + 1)) : Int).toNat) (wrap64 (x7_2 + 1))) else (none)) else (none)) else (none))))) = some r := by rw [if_neg (show ¬ (false = true) by decide)] at H; exact H
            clear H;have H := H1;clear H1;replace H := oE H;obtain ⟨t401, A20, H⟩ := H;replace H : (if t401 < 0 then (some (-1)) else (if x7_2 > 0 then (if 0 ≤ (wrap64 (x1_2 + 1)) then (if (wrap64 (x1_2 + 1)) ≤ t401 then (if t401 ≤ (l0.length : Int) then ((spec_l1Compare.f kj13 ((l0.take (t401 : Int).toNat).drop ((wrap64 (x1_2 + 1)) : Int).toNat) x6_2).bind fun t407 => (if t407 ≥ 0 then (some (-1)) else (spec_l1End.l0 kj13 l0 t401 (rd l0 a1) ((l0.take (t401 : Int).toNat).drop ((wrap64 (x1_2 + 1)) : Int).toNat) (wrap64 (x7_2 + 1))))) else (none)) else (none)) else (none)) else (if 0 ≤ (wrap64 (x1_2 + 1)) then (if (wrap64 (x1_2 + 1)) ≤ t401 then (if t401 ≤ (l0.length : Int) then (spec_l1End.l0 kj13 l0 t401 (rd l0 a1) ((l0.take (t401 : Int).toNat).drop ((wrap64 (x1_2 + 1)) : Int).toNat) (wrap64 (x7_2 + 1))) else (none)) else (none)) else (none)))) = some r := H;replace A20 := am A20;by_cases c21 : t401 < 0
            ·
             rw [if_pos c21] at H;have c21b0 : decide (t401 < 0) = true := decide_eq_true c21;clear c21;obtain rfl := Option.some.inj H;go_wp2_with (first | ((with_reducible refine gate_callee (f := 57) rfl ?_); refine goesL_ (some 48) rfl rfl Try.func57 (by kernel_rfl) rfl #[.slice (some ad395) l0.length c0, .int .i64 (wrap64 (x1_2 + 1))] rfl (by (try simp only [mA, mB, mC]); first | done | rfl) ?_; (with_reducible refine (ih kj13 (by have := HJ2.out; have := HK2.out; have := HJ13.out; omega) (fun k_ => (P0_ k_ ∨ w.heap.size ≤ k_)) _ _ l0 (wrap64 (x1_2 + 1)) t401 _ ?side1 A20.out).mono ?_); (case side1 => exact HO_0.out); rintro e w22 ⟨rfl, hb⟩; refine ⟨_, rfl, ?_⟩; replace HO_0 := am (Kd.V_below (Kd.vm HO_0.out) hb);replace HO_6 := am (Kd.V_below (Kd.vm HO_6.out) hb);replace HB := am (below_step (bm HB.out) hb); (try clear hb)));go_ret;exact ⟨by first | rfl | (simp [errW_none, errW_some] <;> rfl) | (simp [*, errW_none, errW_some] <;> rfl), bm HB.out⟩
            ·
             rw [if_neg c21] at H;have c21b0 : decide (t401 < 0) = false := decide_eq_false c21;clear c21;by_cases c23 : x7_2 > 0
             ·
              rw [if_pos c23] at H;have c23b0 : decide (0 < x7_2) = true := decide_eq_true c23;clear c23
              obtain ⟨ji24, hji24⟩ : ∃ j_ : Int, (wrap64 (x1_2 + 1)) = j_ := ⟨_, rfl⟩
              replace H : (if 0 ≤ (ji24) then (if (ji24) ≤ t401 then (if t401 ≤ (l0.length : Int) then ((spec_l1Compare.f kj13 ((l0.take (t401 : Int).toNat).drop ((ji24) : Int).toNat) x6_2).bind fun t407 => (if t407 ≥ 0 then (some (-1)) else (spec_l1End.l0 kj13 l0 t401 (rd l0 a1) ((l0.take (t401 : Int).toNat).drop ((ji24) : Int).toNat) (wrap64 (x7_2 + 1))))) else (none)) else (none)) else (none)) = some r := by first | (rw [hji24] at H; exact H) | (simp only [hji24] at H ⊢; exact H)
              (try rw [hji24] at A20);have hji24w : (IntKind.i64.wrap (x1_2 + 1)) = ji24 := (i64_w _).trans hji24;by_cases c25 : 0 ≤ (ji24)
              ·
               rw [if_pos c25] at H;have c25b0 := eq_true c25;have c25b1 : decide (0 ≤ (ji24)) = true := decide_eq_true c25;clear c25;by_cases c26 : (ji24) ≤ t401
               ·
                rw [if_pos c26] at H;have c26b0 := eq_true c26;have c26b1 : decide ((ji24) ≤ t401) = true := decide_eq_true c26;clear c26;by_cases c27 : t401 ≤ (l0.length : Int)
                ·
                 rw [if_pos c27] at H;have c27b0 := eq_true c27;have c27b1 : decide (t401 ≤ (l0.length : Int)) = true := decide_eq_true c27;clear c27
                 obtain ⟨y402, hy402⟩ : ∃ y_ : List Int, y_ = ((l0.take (t401 : Int).toNat).drop ((ji24) : Int).toNat) := ⟨_, rfl⟩
                 replace H : ((spec_l1Compare.f kj13 y402 x6_2).bind fun t407 => (if t407 ≥ 0 then (some (-1)) else (spec_l1End.l0 kj13 l0 t401 (rd l0 a1) ((l0.take (t401 : Int).toNat).drop ((ji24) : Int).toNat) (wrap64 (x7_2 + 1))))) = some r := by first | (rw [hy402]; with_reducible exact H) | (have H2_ := oB H; rw [hy402]; with_reducible exact H2_) | (have H2_ := oB H; with_reducible exact H2_) | with_reducible exact H | (rw [hy402]; exact H) | exact H
                 replace hy402 := am hy402;replace H := oE H;obtain ⟨t407, A28, H⟩ := H;replace H : (if t407 ≥ 0 then (some (-1)) else (spec_l1End.l0 kj13 l0 t401 (rd l0 a1) ((l0.take (t401 : Int).toNat).drop ((ji24) : Int).toNat) (wrap64 (x7_2 + 1)))) = some r := H;replace A28 := am A28;by_cases c29 : t407 ≥ 0
                 ·
                  rw [if_pos c29] at H;have c29b0 : decide (0 ≤ t407) = true := decide_eq_true c29;clear c29;obtain rfl := Option.some.inj H;go_wp2_with (first | ((with_reducible refine gate_callee (f := 57) rfl ?_); refine goesL_ (some 48) rfl rfl Try.func57 (by kernel_rfl) rfl #[.slice (some ad395) l0.length c0, .int .i64 ji24] rfl (by (try simp only [List.map_toArray, List.map_cons, List.map_nil]); first | done | (simp only [hji24]; rfl) | rfl | (simp only [List.length_drop, List.length_take]; rfl)) ?_; (with_reducible refine (ih kj13 (by have := HJ2.out; have := HK2.out; have := HJ13.out; omega) (fun k_ => (P0_ k_ ∨ w.heap.size ≤ k_)) _ _ l0 ji24 t401 _ ?side1 A20.out).mono ?_); (case side1 => exact HO_0.out); rintro e w30 ⟨rfl, hb⟩; refine ⟨_, rfl, ?_⟩; replace HO_0 := am (Kd.V_below (Kd.vm HO_0.out) hb);replace HO_6 := am (Kd.V_below (Kd.vm HO_6.out) hb);replace HB := am (below_step (bm HB.out) hb); (try clear hb); (try clear hi); have q31 : (t401 : Int) ≤ ((l0.length : Int) : Int) := of_decide_eq_true (by assumption); obtain ⟨i031, hi031, _, hsz31, _⟩ := info_parts info3; have hroom31 : l0.length ≤ c0 := (Kd.V_reads' HO_0.out).2.1; have hC31 : Kd.F (Kd.int .i64) _ _ (some ad395) l0.length l0 := (Kd.V_at (base := w.heap.size) HO_0.out).2.2; have ql31 : ((ji24) : Int) ≤ (t401 : Int) := of_decide_eq_true (by assumption); have q031 : (0 : Int) ≤ ((ji24) : Int) := of_decide_eq_true (by assumption); have hcut31 := cut_mid (P := Try.prog) 25 3 .i64 .i64 Try.underlying25 hi031 1 hsz31 (some ad395) l0.length c0 (ji24) t401 q031 ql31 q31 hroom31; have hr31 := Kd.F_mid (lo := ((ji24) : Int).toNat) (hi := (t401 : Int).toNat) (c := c0) hC31 (by omega) (by omega) hroom31; obtain ⟨A31, hA31⟩ : ∃ A1, A1 = (if c0 = ((ji24) : Int).toNat then (some ad395) else ((some ad395) : Option Addr).map (·.add (((ji24) : Int).toNat * 1))) := ⟨_, rfl⟩; obtain ⟨c31, hc31⟩ : ∃ c1, c1 = c0 - ((ji24) : Int).toNat := ⟨_, rfl⟩; have hy31 : y402.length = (t401 : Int).toNat - ((ji24) : Int).toNat := (by rw [hy402.out, List.length_drop, List.length_take] <;> omega); rw [show ((l0).take (t401 : Int).toNat).drop ((ji24) : Int).toNat = y402 from hy402.out.symm] at hr31; replace hr31 : Kd.F (Kd.int .i64) _ _ A31 y402.length y402 := (by rw [hA31]; exact hr31); rw [← hy31, ← hA31, ← hc31] at hcut31; have HO406 := am (show Kd.V (Kd.int .i64) 3 _ w.heap.size _ (.slice A31 y402.length c31) y402 from Kd.V_mk (by rw [hy31, hc31]; exact Nat.sub_le_sub_right (Nat.le_trans (by omega) hroom31) _) hr31); have HC406 := am (show y402.length ≤ c31 from by rw [hy31, hc31]; exact Nat.sub_le_sub_right (Nat.le_trans (by omega) hroom31) _); clear hr31 hC31 hroom31 hi031 hsz31 hc31; have KY31 := am hy31; have KA31 := am hA31; clear hy31 hA31; replace q31 := eq_true q31; obtain ⟨Ao32, co32, eo32⟩ := Kd.V_slice HO_6.out; subst eo32) | (go_at_call 66; (with_reducible refine (spec_l1Compare.calls kj13 _ _ y402 _ _ x6_2 t407 _ ?side1 ?side2 ?side3 ?side4 A28.out).mono ?_); (case side1 => exact Kd.cm ((Kd.V_reads' HO406.out).2.2)); (case side2 => exact (Kd.V_reads' HO406.out).2.1); (case side3 => exact Kd.cm ((Kd.V_reads' HO_6.out).2.2)); (case side4 => exact (Kd.V_reads' HO_6.out).2.1); rintro e w33 ⟨rfl, hb⟩; replace HO_0 := am (Kd.V_below (Kd.vm HO_0.out) hb);replace HO_6 := am (Kd.V_below (Kd.vm HO_6.out) hb);replace HO406 := am (Kd.V_below (Kd.vm HO406.out) hb);replace HB := am (below_step (bm HB.out) hb); (try clear hb); (try clear hi)));go_ret;exact ⟨by first | rfl | (simp [errW_none, errW_some] <;> rfl) | (simp only [← hji24]; first | rfl | (simp [errW_none, errW_some] <;> rfl)) | (simp [*, errW_none, errW_some] <;> rfl), bm HB.out⟩
                 ·
                  rw [if_neg c29] at H;have c29b0 : decide (0 ≤ t407) = false := decide_eq_false c29;clear c29;have c34b0 := eq_true (of_decide_eq_true (by assumption) : 0 ≤ (ji24));have c35b0 := eq_true (of_decide_eq_true (by assumption) : (ji24) ≤ t401);have c36b0 := eq_true (of_decide_eq_true (by assumption) : t401 ≤ (l0.length : Int))
                  obtain ⟨y408, hy408⟩ : ∃ y_ : List Int, y_ = ((l0.take (t401 : Int).toNat).drop ((ji24) : Int).toNat) := ⟨_, rfl⟩
                  replace H : (spec_l1End.l0 kj13 l0 t401 (rd l0 a1) y408 (wrap64 (x7_2 + 1))) = some r := by first | (rw [hy408]; with_reducible exact H) | (have H2_ := oB H; rw [hy408]; with_reducible exact H2_) | (have H2_ := oB H; with_reducible exact H2_) | with_reducible exact H | (rw [hy408]; exact H) | exact H
                  replace hy408 := am hy408;have H' := am H;clear H;go_wp2_with (first | ((with_reducible refine gate_callee (f := 57) rfl ?_); refine goesL_ (some 48) rfl rfl Try.func57 (by kernel_rfl) rfl #[.slice (some ad395) l0.length c0, .int .i64 ji24] rfl (by (try simp only [List.map_toArray, List.map_cons, List.map_nil]); first | done | (simp only [hji24]; rfl) | rfl | (simp only [List.length_drop, List.length_take]; rfl)) ?_; (with_reducible refine (ih kj13 (by have := HJ2.out; have := HK2.out; have := HJ13.out; omega) (fun k_ => (P0_ k_ ∨ w.heap.size ≤ k_)) _ _ l0 ji24 t401 _ ?side1 A20.out).mono ?_); (case side1 => exact HO_0.out); rintro e w37 ⟨rfl, hb⟩; refine ⟨_, rfl, ?_⟩; replace HO_0 := am (Kd.V_below (Kd.vm HO_0.out) hb);replace HO_6 := am (Kd.V_below (Kd.vm HO_6.out) hb);replace HB := am (below_step (bm HB.out) hb); (try clear hb); (try clear hi); have q38 : (t401 : Int) ≤ ((l0.length : Int) : Int) := of_decide_eq_true (by assumption); obtain ⟨i038, hi038, _, hsz38, _⟩ := info_parts info3; have hroom38 : l0.length ≤ c0 := (Kd.V_reads' HO_0.out).2.1; have hC38 : Kd.F (Kd.int .i64) _ _ (some ad395) l0.length l0 := (Kd.V_at (base := w.heap.size) HO_0.out).2.2; have ql38 : ((ji24) : Int) ≤ (t401 : Int) := of_decide_eq_true (by assumption); have q038 : (0 : Int) ≤ ((ji24) : Int) := of_decide_eq_true (by assumption); have hcut38 := cut_mid (P := Try.prog) 25 3 .i64 .i64 Try.underlying25 hi038 1 hsz38 (some ad395) l0.length c0 (ji24) t401 q038 ql38 q38 hroom38; have hr38 := Kd.F_mid (lo := ((ji24) : Int).toNat) (hi := (t401 : Int).toNat) (c := c0) hC38 (by omega) (by omega) hroom38; obtain ⟨A38, hA38⟩ : ∃ A1, A1 = (if c0 = ((ji24) : Int).toNat then (some ad395) else ((some ad395) : Option Addr).map (·.add (((ji24) : Int).toNat * 1))) := ⟨_, rfl⟩; obtain ⟨c38, hc38⟩ : ∃ c1, c1 = c0 - ((ji24) : Int).toNat := ⟨_, rfl⟩; have hy38 : y402.length = (t401 : Int).toNat - ((ji24) : Int).toNat := (by rw [hy402.out, List.length_drop, List.length_take] <;> omega); rw [show ((l0).take (t401 : Int).toNat).drop ((ji24) : Int).toNat = y402 from hy402.out.symm] at hr38; replace hr38 : Kd.F (Kd.int .i64) _ _ A38 y402.length y402 := (by rw [hA38]; exact hr38); rw [← hy38, ← hA38, ← hc38] at hcut38; have HO406 := am (show Kd.V (Kd.int .i64) 3 _ w.heap.size _ (.slice A38 y402.length c38) y402 from Kd.V_mk (by rw [hy38, hc38]; exact Nat.sub_le_sub_right (Nat.le_trans (by omega) hroom38) _) hr38); have HC406 := am (show y402.length ≤ c38 from by rw [hy38, hc38]; exact Nat.sub_le_sub_right (Nat.le_trans (by omega) hroom38) _); clear hr38 hC38 hroom38 hi038 hsz38 hc38; have KY38 := am hy38; have KA38 := am hA38; clear hy38 hA38; replace q38 := eq_true q38; obtain ⟨Ao39, co39, eo39⟩ := Kd.V_slice HO_6.out; subst eo39) | (go_at_call 66; (with_reducible refine (spec_l1Compare.calls kj13 _ _ y402 _ _ x6_2 t407 _ ?side1 ?side2 ?side3 ?side4 A28.out).mono ?_); (case side1 => exact Kd.cm ((Kd.V_reads' HO406.out).2.2)); (case side2 => exact (Kd.V_reads' HO406.out).2.1); (case side3 => exact Kd.cm ((Kd.V_reads' HO_6.out).2.2)); (case side4 => exact (Kd.V_reads' HO_6.out).2.1); rintro e w40 ⟨rfl, hb⟩; replace HO_0 := am (Kd.V_below (Kd.vm HO_0.out) hb);replace HO_6 := am (Kd.V_below (Kd.vm HO_6.out) hb);replace HO406 := am (Kd.V_below (Kd.vm HO406.out) hb);replace HB := am (below_step (bm HB.out) hb); (try clear hb); (try clear hi); have q41 : (t401 : Int) ≤ ((l0.length : Int) : Int) := of_decide_eq_true (by assumption); obtain ⟨i041, hi041, _, hsz41, _⟩ := info_parts info3; have hroom41 : l0.length ≤ c0 := (Kd.V_reads' HO_0.out).2.1; have hC41 : Kd.F (Kd.int .i64) _ _ (some ad395) l0.length l0 := (Kd.V_at (base := w.heap.size) HO_0.out).2.2; have ql41 : ((ji24) : Int) ≤ (t401 : Int) := of_decide_eq_true (by assumption); have q041 : (0 : Int) ≤ ((ji24) : Int) := of_decide_eq_true (by assumption); have hcut41 := cut_mid (P := Try.prog) 25 3 .i64 .i64 Try.underlying25 hi041 1 hsz41 (some ad395) l0.length c0 (ji24) t401 q041 ql41 q41 hroom41; have hr41 := Kd.F_mid (lo := ((ji24) : Int).toNat) (hi := (t401 : Int).toNat) (c := c0) hC41 (by omega) (by omega) hroom41; obtain ⟨A41, hA41⟩ : ∃ A1, A1 = (if c0 = ((ji24) : Int).toNat then (some ad395) else ((some ad395) : Option Addr).map (·.add (((ji24) : Int).toNat * 1))) := ⟨_, rfl⟩; obtain ⟨c41, hc41⟩ : ∃ c1, c1 = c0 - ((ji24) : Int).toNat := ⟨_, rfl⟩; have hy41 : y408.length = (t401 : Int).toNat - ((ji24) : Int).toNat := (by rw [hy408.out, List.length_drop, List.length_take] <;> omega); rw [show ((l0).take (t401 : Int).toNat).drop ((ji24) : Int).toNat = y408 from hy408.out.symm] at hr41; replace hr41 : Kd.F (Kd.int .i64) _ _ A41 y408.length y408 := (by rw [hA41]; exact hr41); rw [← hy41, ← hA41, ← hc41] at hcut41; have HO412 := am (show Kd.V (Kd.int .i64) 3 _ w.heap.size _ (.slice A41 y408.length c41) y408 from Kd.V_mk (by rw [hy41, hc41]; exact Nat.sub_le_sub_right (Nat.le_trans (by omega) hroom41) _) hr41); have HC412 := am (show y408.length ≤ c41 from by rw [hy41, hc41]; exact Nat.sub_le_sub_right (Nat.le_trans (by omega) hroom41) _); clear hr41 hC41 hroom41 hi041 hsz41 hc41; have KY41 := am hy41; have KA41 := am hA41; clear hy41 hA41; replace q41 := eq_true q41))
                  go_roundg kj13
                  case measure => have := HJ2.out; have := HK2.out; have := HJ13.out; omega
                  case rel => exact ⟨(t401), (y408), (wrap64 (x7_2 + 1)), (by first | rfl | (simp; done) | (simp [*]; done)), (by first | rfl | (simp; done) | (simp [*]; done)), H', ⟨by have := HJ2.out; have := HK2.out; have := HJ13.out; omega⟩, ⟨Kd.vm HO_0.out⟩, ⟨by (with_reducible repeat (first | apply Kd.V_alloc | apply Kd.V_drewN | apply Kd.V_drew)); first | exact HO412.out | (rw [hy408.out.trans hy402.out.symm]; exact HO406.out)⟩, ⟨bm HB.out⟩⟩
                ·
                 rw [if_neg c27] at H;exact absurd H (by simp)
               ·
                rw [if_neg c26] at H;exact absurd H (by simp)
              ·
               rw [if_neg c25] at H;exact absurd H (by simp)
             ·
              rw [if_neg c23] at H;have c23b0 : decide (0 < x7_2) = false := decide_eq_false c23;clear c23
              obtain ⟨ji42, hji42⟩ : ∃ j_ : Int, (wrap64 (x1_2 + 1)) = j_ := ⟨_, rfl⟩
              replace H : (if 0 ≤ (ji42) then (if (ji42) ≤ t401 then (if t401 ≤ (l0.length : Int) then (spec_l1End.l0 kj13 l0 t401 (rd l0 a1) ((l0.take (t401 : Int).toNat).drop ((ji42) : Int).toNat) (wrap64 (x7_2 + 1))) else (none)) else (none)) else (none)) = some r := by first | (rw [hji42] at H; exact H) | (simp only [hji42] at H ⊢; exact H)
              (try rw [hji42] at A20);have hji42w : (IntKind.i64.wrap (x1_2 + 1)) = ji42 := (i64_w _).trans hji42;by_cases c43 : 0 ≤ (ji42)
              ·
               rw [if_pos c43] at H;have c43b0 := eq_true c43;have c43b1 : decide (0 ≤ (ji42)) = true := decide_eq_true c43;clear c43;by_cases c44 : (ji42) ≤ t401
               ·
                rw [if_pos c44] at H;have c44b0 := eq_true c44;have c44b1 : decide ((ji42) ≤ t401) = true := decide_eq_true c44;clear c44;by_cases c45 : t401 ≤ (l0.length : Int)
                ·
                 rw [if_pos c45] at H;have c45b0 := eq_true c45;have c45b1 : decide (t401 ≤ (l0.length : Int)) = true := decide_eq_true c45;clear c45
                 obtain ⟨y413, hy413⟩ : ∃ y_ : List Int, y_ = ((l0.take (t401 : Int).toNat).drop ((ji42) : Int).toNat) := ⟨_, rfl⟩
                 replace H : (spec_l1End.l0 kj13 l0 t401 (rd l0 a1) y413 (wrap64 (x7_2 + 1))) = some r := by first | (rw [hy413]; with_reducible exact H) | (have H2_ := oB H; rw [hy413]; with_reducible exact H2_) | (have H2_ := oB H; with_reducible exact H2_) | with_reducible exact H | (rw [hy413]; exact H) | exact H
                 replace hy413 := am hy413;have H' := am H;clear H;go_wp2_with (first | ((with_reducible refine gate_callee (f := 57) rfl ?_); refine goesL_ (some 48) rfl rfl Try.func57 (by kernel_rfl) rfl #[.slice (some ad395) l0.length c0, .int .i64 ji42] rfl (by (try simp only [List.map_toArray, List.map_cons, List.map_nil]); first | done | (simp only [hji42]; rfl) | rfl | (simp only [List.length_drop, List.length_take]; rfl)) ?_; (with_reducible refine (ih kj13 (by have := HJ2.out; have := HK2.out; have := HJ13.out; omega) (fun k_ => (P0_ k_ ∨ w.heap.size ≤ k_)) _ _ l0 ji42 t401 _ ?side1 A20.out).mono ?_); (case side1 => exact HO_0.out); rintro e w46 ⟨rfl, hb⟩; refine ⟨_, rfl, ?_⟩; replace HO_0 := am (Kd.V_below (Kd.vm HO_0.out) hb);replace HO_6 := am (Kd.V_below (Kd.vm HO_6.out) hb);replace HB := am (below_step (bm HB.out) hb); (try clear hb); (try clear hi); have q47 : (t401 : Int) ≤ ((l0.length : Int) : Int) := of_decide_eq_true (by assumption); obtain ⟨i047, hi047, _, hsz47, _⟩ := info_parts info3; have hroom47 : l0.length ≤ c0 := (Kd.V_reads' HO_0.out).2.1; have hC47 : Kd.F (Kd.int .i64) _ _ (some ad395) l0.length l0 := (Kd.V_at (base := w.heap.size) HO_0.out).2.2; have ql47 : ((ji42) : Int) ≤ (t401 : Int) := of_decide_eq_true (by assumption); have q047 : (0 : Int) ≤ ((ji42) : Int) := of_decide_eq_true (by assumption); have hcut47 := cut_mid (P := Try.prog) 25 3 .i64 .i64 Try.underlying25 hi047 1 hsz47 (some ad395) l0.length c0 (ji42) t401 q047 ql47 q47 hroom47; have hr47 := Kd.F_mid (lo := ((ji42) : Int).toNat) (hi := (t401 : Int).toNat) (c := c0) hC47 (by omega) (by omega) hroom47; obtain ⟨A47, hA47⟩ : ∃ A1, A1 = (if c0 = ((ji42) : Int).toNat then (some ad395) else ((some ad395) : Option Addr).map (·.add (((ji42) : Int).toNat * 1))) := ⟨_, rfl⟩; obtain ⟨c47, hc47⟩ : ∃ c1, c1 = c0 - ((ji42) : Int).toNat := ⟨_, rfl⟩; have hy47 : y413.length = (t401 : Int).toNat - ((ji42) : Int).toNat := (by rw [hy413.out, List.length_drop, List.length_take] <;> omega); rw [show ((l0).take (t401 : Int).toNat).drop ((ji42) : Int).toNat = y413 from hy413.out.symm] at hr47; replace hr47 : Kd.F (Kd.int .i64) _ _ A47 y413.length y413 := (by rw [hA47]; exact hr47); rw [← hy47, ← hA47, ← hc47] at hcut47; have HO417 := am (show Kd.V (Kd.int .i64) 3 _ w.heap.size _ (.slice A47 y413.length c47) y413 from Kd.V_mk (by rw [hy47, hc47]; exact Nat.sub_le_sub_right (Nat.le_trans (by omega) hroom47) _) hr47); have HC417 := am (show y413.length ≤ c47 from by rw [hy47, hc47]; exact Nat.sub_le_sub_right (Nat.le_trans (by omega) hroom47) _); clear hr47 hC47 hroom47 hi047 hsz47 hc47; have KY47 := am hy47; have KA47 := am hA47; clear hy47 hA47; replace q47 := eq_true q47))
                 go_roundg kj13
                 case measure => have := HJ2.out; have := HK2.out; have := HJ13.out; omega
                 case rel => exact ⟨(t401), (y413), (wrap64 (x7_2 + 1)), (by first | rfl | (simp; done) | (simp [*]; done)), (by first | rfl | (simp; done) | (simp [*]; done)), H', ⟨by have := HJ2.out; have := HK2.out; have := HJ13.out; omega⟩, ⟨Kd.vm HO_0.out⟩, ⟨Kd.vm HO417.out⟩, ⟨bm HB.out⟩⟩
                ·
                 rw [if_neg c45] at H;exact absurd H (by simp)
               ·
                rw [if_neg c44] at H;exact absurd H (by simp)
              ·
               rw [if_neg c43] at H;exact absurd H (by simp)
        ·
         rw [if_neg c13] at H;have c13b0 : decide (x7_2 < (rd l0 a1)) = false := decide_eq_false c13;clear c13;obtain rfl := Option.some.inj H;go_wp2;go_ret;exact ⟨by first | rfl | (simp [errW_none, errW_some] <;> rfl) | (simp [*, errW_none, errW_some] <;> rfl), bm HB.out⟩
     ·
      rw [if_neg c10] at H;exact absurd H (by simp)
    ·
     rw [if_neg c9] at H;exact absurd H (by simp)

/-! ### spec_OrdValid: function 37 -/
def spec_OrdValid.f (k : Nat) (l0 : List Int) : Option (Bool) := (spec_l1In.f (l0.length : Int) 1 60).bind fun t418 => (if t418 = true then ((spec_l1End.f k l0 0).bind fun t419 => (some (t419 == (l0.length : Int)))) else (some false))
theorem spec_OrdValid.mono : ∀ a0 k, LeO (spec_OrdValid.f k a0) (spec_OrdValid.f (k + 1) a0) := by
 intro a0 k;unfold spec_OrdValid.f
 repeat' first | (with_reducible exact spec_l1End.mono _ _ _) | (with_reducible exact LeO.refl _) | (with_reducible exact LeO.none _) | (with_reducible refine LeO.ite ?_ ?_) | (with_reducible refine LeO.bind ?_ (fun _ => ?_))
set_option maxHeartbeats 8000000 in
set_option maxRecDepth 100000 in
theorem spec_OrdValid.calls (k : Nat) (A0 : Option Addr) (c0 : Nat) (l0 : List Int) (r : Bool) (w : World) (hr0 : Kd.C (Kd.int .i64) w A0 l0.length l0) (hc0 : l0.length ≤ c0) (h : spec_OrdValid.f k l0 = some r) :
  Calls Try.prog 37 #[.slice A0 l0.length c0] w fun e w' => e = .returned (.bool r) ∧ Below w.heap.size w w' := by
 have HR0 := am hr0;have HC0 := am hc0;clear hr0 hc0;have HB := am (Below.refl w.heap.size w);have H : ((spec_l1In.f (l0.length : Int) 1 60).bind fun t418 => (if t418 = true then ((spec_l1End.f k l0 0).bind fun t419 => (some (t419 == (l0.length : Int)))) else (some false))) = some r := h;clear h;replace H := oE H;obtain ⟨t418, A2, H⟩ := H;replace H : (if t418 = true then ((spec_l1End.f k l0 0).bind fun t419 => (some (t419 == (l0.length : Int)))) else (some false)) = some r := H;replace A2 := am A2;by_cases c3 : t418 = true
 ·
  subst c3
  have H1 : ((spec_l1End.f k l0 0).bind fun t419 => (some (t419 == (l0.length : Int)))) = some r := by rw [if_pos rfl] at H; exact H
  clear H;have H := H1;clear H1;replace H := oE H;obtain ⟨t419, A4, H⟩ := H;replace H : (some (t419 == (l0.length : Int))) = some r := H;replace A4 := am A4;obtain rfl := Option.some.inj H;go_enter Try.func37, Try.ntmps37;go_wp2_with (first | ((with_reducible refine gate_callee (f := 38) rfl ?_); refine goesL_ (some 5) rfl rfl Try.func38 (by kernel_rfl) rfl #[.int .i64 (l0.length : Int), .int .i64 1, .int .i64 60] rfl (by (try simp only [mA, mB, mC]); first | done | rfl) ?_; (with_reducible refine (spec_l1In.calls (l0.length : Int) 1 60 true _ A2.out).mono ?_); rintro e w' ⟨rfl, ⟨nd, rfl⟩⟩; refine ⟨_, rfl, ?_⟩) | (go_at_call 57; (with_reducible refine (spec_l1End.calls k (fun k_ => k_ < w.heap.size) _ _ l0 0 t419 _ ?side1 A4.out).mono ?_); (case side1 => exact Kd.V_mk HC0.out (Kd.F_below (Kd.C_F (Kd.heap_int .i64) HR0.out) (bm HB.out))); rintro e w5 ⟨rfl, hb⟩; replace HB := am (below_step (bm HB.out) hb); (try clear hb)));go_ret;exact ⟨by first | rfl | (simp [errW_none, errW_some] <;> rfl) | (simp [*, errW_none, errW_some] <;> rfl), bm HB.out⟩
 ·
  replace c3 := Bool.eq_false_iff.mpr c3;subst c3
  have H1 : (some false) = some r := by rw [if_neg (show ¬ (false = true) by decide)] at H; exact H
  clear H;have H := H1;clear H1;obtain rfl := Option.some.inj H;go_enter Try.func37, Try.ntmps37;go_wp2_with (first | ((with_reducible refine gate_callee (f := 38) rfl ?_); refine goesL_ (some 5) rfl rfl Try.func38 (by kernel_rfl) rfl #[.int .i64 (l0.length : Int), .int .i64 1, .int .i64 60] rfl (by (try simp only [mA, mB, mC]); first | done | rfl) ?_; (with_reducible refine (spec_l1In.calls (l0.length : Int) 1 60 false _ A2.out).mono ?_); rintro e w' ⟨rfl, ⟨nd, rfl⟩⟩; refine ⟨_, rfl, ?_⟩));go_ret;exact ⟨by first | rfl | (simp [errW_none, errW_some] <;> rfl) | (simp [*, errW_none, errW_some] <;> rfl), bm HB.out⟩

end Go.Proofs.Ytomidfnhbnhhmaa.Ka

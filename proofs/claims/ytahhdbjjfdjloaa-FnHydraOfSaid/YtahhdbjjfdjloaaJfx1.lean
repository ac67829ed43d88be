-- half
-- Written by a program of this session's (wip/mp) out of the translation, over the kit's print with changes.
import Derived.Test.YtahhdbjjfdjloaaJfx0
namespace Go.Proofs.Ytahhdbjjfdjloaa.Jf
open Go.RowKit Go.Proofs.YtahhdbjjfdjloaaW.PrintWords Go.Proofs.YtahhdbjjfdjloaaW.PrintLast Go.Proofs.YtahhdbjjfdjloaaW.PrintMore
attribute [local go_sem] max2_int min2_int max_two min_two max_three min_three max_four min_four   -- for this text's walks alone
set_option linter.unusedVariables false
set_option linter.unusedSimpArgs false

/-! ### spec_l1In: function 58 -/
def spec_l1In.f (a0 : Int) (a1 : Int) (a2 : Int) : Option (Bool) := if a0 >= a1 then (some (decide (a0 <= a2))) else (some false)
set_option maxHeartbeats 8000000 in
set_option maxRecDepth 100000 in
theorem spec_l1In.calls (a0 : Int) (a1 : Int) (a2 : Int) (r : Bool) (w : World) (h : spec_l1In.f a0 a1 a2 = some r) :
  Calls Try.prog 58 #[.int .i64 a0, .int .i64 a1, .int .i64 a2] w fun e w' => e = .returned (.bool r) /\ Drawn0 w w' := by
 have H : (if a0 >= a1 then (some (decide (a0 <= a2))) else (some false)) = some r := h;clear h;by_cases c4 : a0 >= a1
 · rw [if_pos c4] at H;have c4b0 : decide (a1 <= a0) = true := decide_eq_true c4;clear c4;obtain rfl := Option.some.inj H;go_enter Try.func58, Try.ntmps58;go_wp2;go_ret;exact ⟨by rfl, by repeat (exact Drawn0.refl _)⟩
 · rw [if_neg c4] at H;have c4b0 : decide (a1 <= a0) = false := decide_eq_false c4;clear c4;obtain rfl := Option.some.inj H;go_enter Try.func58, Try.ntmps58;go_wp2;go_ret;exact ⟨by rfl, by repeat (exact Drawn0.refl _)⟩

/-! ### spec_l1Span: function 88 -/
mutual
def spec_l1Span.l0 : Nat -> List Int -> Int -> Int -> Int -> Option (Int)
 | 0, _, _, _, _ => none
 | k + 1, x0, x1, x5, x6 => if x6 < x5 then ((spec_l1Span.f k x0 (wrap64 (x1 + 1))).bind fun t102 => (spec_l1Span.l0 k x0 t102 x5 (wrap64 (x6 + 1)))) else (some x1)
def spec_l1Span.f : Nat -> List Int -> Int -> Option (Int)
 | 0, _, _ => none
 | k + 1, l0, a1 => if 0 <= a1 then (if a1 < (l0.length : Int) then (spec_l1Span.l0 k l0 (wrap64 (a1 + 1)) (rd l0 a1) 0) else (none)) else (none)
end
theorem spec_l1Span.mono_l : ∀ k, (∀ y0 y1, LeO (spec_l1Span.f k y0 y1) (spec_l1Span.f (k + 1) y0 y1)) /\ (∀ y0 y1 y2 y3, LeO (spec_l1Span.l0 k y0 y1 y2 y3) (spec_l1Span.l0 (k + 1) y0 y1 y2 y3))
 | 0 => ⟨fun _ _ r h => by simp [spec_l1Span.f] at h, fun _ _ _ _ r h => by simp [spec_l1Span.l0] at h⟩
 | k + 1 => by
  obtain ⟨ih0, ih1⟩ := spec_l1Span.mono_l k;refine ⟨?_, ?_⟩
  all_goals (intros; first | unfold spec_l1Span.f | unfold spec_l1Span.l0)
  all_goals repeat' with_reducible first | exact ih0 _ _ | exact ih1 _ _ _ _ | exact LeO.refl _ | refine LeO.ite ?_ ?_ | refine LeO.bind ?_ (fun _ => ?_)
theorem spec_l1Span.mono : ∀ a0 a1 k, LeO (spec_l1Span.f k a0 a1) (spec_l1Span.f (k + 1) a0 a1) := by
 intro a0 a1 k;obtain ⟨ih0, ih1⟩ := spec_l1Span.mono_l k;exact ih0 a0 a1
set_option maxHeartbeats 8000000 in
set_option maxRecDepth 100000 in
theorem spec_l1Span.calls (k : Nat) : ∀ (A0 : Option Addr) (c0 : Nat) (l0 : List Int) (a1 : Int) (r : Int) (w : World) (hr0 : Kd.C (Kd.int .i64) w A0 l0.length l0) (hc0 : l0.length <= c0) (h : spec_l1Span.f k l0 a1 = some r),
  Calls Try.prog 88 #[.slice A0 l0.length c0, .int .i64 a1] w fun e w' => e = .returned (.int .i64 r) /\ Drawn0 w w' := by
 induction k using Nat.strongRecOn with
 | _ k ih =>
 intro A0 c0 l0 a1 r w hr0 hc0 h
 cases k with
 | zero => exact absurd h (by simp [spec_l1Span.f])
 | succ k =>
 simp only [spec_l1Span.f] at h;have HR0 := am hr0;have HC0 := am hc0;clear hr0 hc0;have H : (if 0 <= a1 then (if a1 < (l0.length : Int) then (spec_l1Span.l0 k l0 (wrap64 (a1 + 1)) (rd l0 a1) 0) else (none)) else (none)) = some r := h;clear h;by_cases c3 : 0 <= a1
 ·
  rw [if_pos c3] at H;have c3b0 : decide (0 <= a1) = true := decide_eq_true c3;clear c3;by_cases c4 : a1 < (l0.length : Int)
  ·
   rw [if_pos c4] at H;have c4b0 : decide (a1 < (l0.length : Int)) = true := decide_eq_true c4;clear c4;have H' := am H;clear H;have p101 : 0 <= (a1 : Int) := of_decide_eq_true (by assumption);have q101 : a1 < (l0.length : Int) := of_decide_eq_true (by assumption);obtain ⟨ad101, e101, hx101_0⟩ := Kd.at_int HR0.out a1 p101 q101;cases e101
   replace p101 := eq_true p101;replace q101 := eq_true q101;go_enter Try.func88, Try.ntmps88;go_wp2
   go_loopg [1, 6] k (fun kq v1 v6 w' => ∃ (x1_1 : Int) (x6_1 : Int), v1 = .int .i64 x1_1 /\ v6 = .int .i64 x6_1 /\ Aside0 (spec_l1Span.l0 kq l0 x1_1 (rd l0 a1) x6_1 = some r) /\ Aside0 (kq <= k) /\ Drawn0 w w')
   case atStart => exact ⟨(wrap64 (a1 + 1)), (0), (by rfl), (by rfl), H', ⟨Nat.le_refl _⟩, by repeat (exact Drawn0.refl _)⟩
   case round =>
    clear H';clear c3b0;clear c4b0;clear hx101_0;clear p101;clear q101;obtain ⟨x1_1, x6_1, rfl, rfl, HA, HK1, ⟨m1, rfl⟩⟩ := hrel
    cases gk with
    | zero => exact absurd HA.out (by simp [spec_l1Span.l0])
    | succ k1 =>
     have H := HA.out;clear HA;simp only [spec_l1Span.l0] at H;by_cases c5 : x6_1 < (rd l0 a1)
     ·
      rw [if_pos c5] at H;have c5b0 : decide (x6_1 < (rd l0 a1)) = true := decide_eq_true c5;clear c5;replace H := oE H;obtain ⟨t102, A6, H⟩ := H;replace H : (spec_l1Span.l0 k1 l0 t102 (rd l0 a1) (wrap64 (x6_1 + 1))) = some r := H;replace A6 := am A6;have H' := am H;clear H;go_wp2_with (((with_reducible refine gate_callee (f := 88) rfl ?_); refine goesL_ (some 21) rfl rfl Try.func88 (by kernel_rfl) rfl #[.slice (some ad101) l0.length c0, .int .i64 (wrap64 (x1_1 + 1))] rfl (by (try simp only [mA, mB, mC]); rfl) ?_; (with_reducible refine (ih k1 (by have := HK1.out; omega) _ _ l0 (wrap64 (x1_1 + 1)) t102 _ ?side1 ?side2 A6.out).mono ?_); (case side1 => exact Kd.cm HR0.out); (case side2 => exact HC0.out); rintro e w' ⟨rfl, ⟨nd, rfl⟩⟩; refine ⟨_, rfl, ?_⟩))
      go_roundg k1
      case measure => have := HK1.out; omega
      case rel => exact ⟨(t102), (wrap64 (x6_1 + 1)), (by rfl), (by rfl), H', ⟨by have := HK1.out; omega⟩, by repeat (first | exact Drawn0.refl _ | apply Drawn0.step)⟩
     · rw [if_neg c5] at H;have c5b0 : decide (x6_1 < (rd l0 a1)) = false := decide_eq_false c5;clear c5;obtain rfl := Option.some.inj H;go_wp2;go_ret;exact ⟨by rfl, by repeat (first | exact Drawn0.refl _ | apply Drawn0.step)⟩
  · rw [if_neg c4] at H;exact absurd H (by simp)
 · rw [if_neg c3] at H;exact absurd H (by simp)

/-! ### spec_l1Terms: function 64 -/
def spec_l1Terms.l0 : Nat -> List Int -> List Int -> List (List Int) -> Int -> Option (List Int × (List (List Int)))
 | 0, _, _, _, _ => none
 | k + 1, x0, x4, x5, x6 => if x6 < (x0.length : Int) then ((spec_l1Span.f k x0 (wrap64 (x6 + 1))).bind fun t109 => (if 0 <= x6 then (if x4.length < 17592186044416 then (if 0 <= (wrap64 (x6 + 1)) then (if (wrap64 (x6 + 1)) <= t109 then (if t109 <= (x0.length : Int) then (if x5.length < 5864062014805 then (spec_l1Terms.l0 k x0 (x4 ++ [rd x0 x6]) (x5 ++ [((x0.take (t109 : Int).toNat).drop ((wrap64 (x6 + 1)) : Int).toNat)]) t109) else (none)) else (none)) else (none)) else (none)) else (none)) else (none))) else (some (x4, x5))
def spec_l1Terms.f (k : Nat) (l0 : List Int) : Option (List Int × (List (List Int))) := spec_l1Terms.l0 k l0 (([] : List Int)) (([] : List (List Int))) 1
theorem spec_l1Terms.mono_l : ∀ k, (∀ y0 y1 y2 y3, LeO (spec_l1Terms.l0 k y0 y1 y2 y3) (spec_l1Terms.l0 (k + 1) y0 y1 y2 y3))
 | 0 => fun _ _ _ _ r h => by simp [spec_l1Terms.l0] at h
 | k + 1 => by
  have ih0 := spec_l1Terms.mono_l k
  ·
   intro y0 y1 y2 y3;unfold spec_l1Terms.l0
   repeat' with_reducible first | exact ih0 _ _ _ _ | exact spec_l1Span.mono _ _ _ | exact LeO.refl _ | refine LeO.ite ?_ ?_ | refine LeO.bind ?_ (fun _ => ?_)
theorem spec_l1Terms.mono : ∀ a0 k, LeO (spec_l1Terms.f k a0) (spec_l1Terms.f (k + 1) a0) := by
 intro a0 k;have ih0 := spec_l1Terms.mono_l k;unfold spec_l1Terms.f
 repeat' (with_reducible exact ih0 _ _ _ _)
set_option maxHeartbeats 8000000 in
set_option maxRecDepth 100000 in
theorem spec_l1Terms.calls (k : Nat) (P0_ : Nat -> Prop) (A0 : Option Addr) (c0 : Nat) (l0 : List Int) (r1 : List Int) (r2 : List (List Int)) (w : World) (hs0 : Kd.V (Kd.int .i64) 3 w w.heap.size (fun k_ => P0_ k_) (.slice A0 l0.length c0) l0) (h : spec_l1Terms.f k l0 = some (r1, r2)) :
  Calls Try.prog 64 #[.slice A0 l0.length c0] w fun e w' => ∃ v0_ v1_ : Value, e = .returned (.tuple #[v0_, v1_]) /\ Kd.R (Kd.int .i64) 3 w' w.heap.size (fun k_ => (w.heap.size <= k_)) v0_ r1 /\ Kd.N (Kd.slice 3 (Kd.int .i64)) 22 w' w.heap.size (fun k_ => (P0_ k_ \/ w.heap.size <= k_) /\ some k_ ≠ v0_.ownBlock) v1_ r2 /\ Below w.heap.size w w' := by
 have HO0 := am (show Kd.V (Kd.int .i64) 3 w w.heap.size (fun k_ => (P0_ k_ \/ w.heap.size <= k_)) (.slice A0 l0.length c0) l0 from Kd.V_mono hs0 (fun k_ hk => .inl hk));have HB := am (Below.refl w.heap.size w);have H : (spec_l1Terms.l0 k l0 (([] : List Int)) (([] : List (List Int))) 1) = some (r1, r2) := h;clear h
 obtain ⟨y103, hy103⟩ : ∃ y_ : List Int, y_ = (([] : List Int)) := ⟨_, rfl⟩
 replace H : (spec_l1Terms.l0 k l0 y103 (([] : List (List Int))) 1) = some (r1, r2) := by (rw [hy103]; with_reducible exact H)
 replace hy103 := am hy103
 obtain ⟨y106, hy106⟩ : ∃ y_ : List (List Int), y_ = (([] : List (List Int))) := ⟨_, rfl⟩
 replace H : (spec_l1Terms.l0 k l0 y103 y106 1) = some (r1, r2) := by (rw [hy106]; with_reducible exact H)
 replace hy106 := am hy106;have H' := am H;clear H;go_enter Try.func64, Try.ntmps64;go_wp2_with (first | ((with_reducible refine gate_dst (N := 8) rfl ?_); refine Kd.R_lit (Kd.int .i64) _ 3 ?hg (N := 8) ?hd (xs := ([] : List Int)) (inner := []) (ok := fun _ => True) (okp := fun _ => True) ?hr ?hp (fun _ hk => hk) trivial (Below.refl _ _) (Nat.le_refl _) (by simp) ?_; (case hd => rfl); (case hg => rfl); (case hr => (go_simp; done)); (case hp => exact (Reps.none _ _)); intro v104 w2 ho3 hb hg_ hnew_; clear hg_ hnew_; (rw [<- hy103.out] at ho3); replace HO0 := am (Kd.V_elder' (Kd.vm HO0.out) (Kd.R_base ho3) hb);have HO105 := am (Kd.R_lower (Kd.R_newM (M := fun k_ => (w.heap.size <= k_)) ho3 (below_size (bm HB.out)) (fun k_ h_ => h_)) (below_size (bm HB.out)));replace HB := am (below_step (bm HB.out) hb); clear hb ho3) | ((with_reducible refine gate_dst (N := 9) rfl ?_); refine Kd.N_lit (Kd.slice 3 (Kd.int .i64)) _ 22 ?hg (N' := 9) ?hd (xs := ([] : List (List Int))) (inner := []) (ok := (fun k_ => (P0_ k_ \/ w.heap.size <= k_) /\ some k_ ≠ v104.ownBlock)) (okp := (fun k_ => (P0_ k_ \/ w.heap.size <= k_) /\ some k_ ≠ v104.ownBlock)) ?hr ?hp (fun _ hk => hk) ((show ∀ k_, w2.heap.size <= k_ -> (fun k_ => (P0_ k_ \/ w.heap.size <= k_) /\ some k_ ≠ v104.ownBlock) k_ from fun k_ hk => ⟨(.inr (Nat.le_trans (below_size (bm HB.out)) hk)), Kd.fresh' (Kd.R_lt (Kd.rm HO105.out)) k_ hk⟩) _ (Nat.le_refl _)) (Below.refl _ _) (Nat.le_refl _) (by simp) ?_; (case hd => rfl); (case hg => rfl); (case hr => (go_simp; done)); (case hp => exact (Reps.none _ _)); intro v107 w4 ho5 hb hg_ hnew_; clear hg_ hnew_; (rw [<- hy106.out] at ho5); replace HO0 := am (Kd.V_elder' (Kd.vm HO0.out) (Kd.N_base ho5) hb);replace HO105 := am (Kd.R_below (Kd.rm HO105.out) hb);have HO108 := am (Kd.N_lower ho5 (below_size (bm HB.out)));replace HB := am (below_step (bm HB.out) hb); clear hb ho5))
 go_loopg [4, 5, 6] k (fun kq v4 v5 v6 w' => ∃ (x4_1 : List Int) (x5_1 : List (List Int)) (x6_1 : Int), v6 = .int .i64 x6_1 /\ Aside0 (spec_l1Terms.l0 kq l0 x4_1 x5_1 x6_1 = some (r1, r2)) /\ Aside0 (kq <= k) /\ Aside0 (Kd.V (Kd.int .i64) 3 w' w.heap.size (fun k_ => (P0_ k_ \/ w.heap.size <= k_) /\ some k_ ≠ v4.ownBlock /\ some k_ ≠ v5.ownBlock) (.slice A0 l0.length c0) l0) /\ Aside0 (Kd.R (Kd.int .i64) 3 w' w.heap.size (fun k_ => (w.heap.size <= k_)) v4 x4_1) /\ Aside0 (Kd.N (Kd.slice 3 (Kd.int .i64)) 22 w' w.heap.size (fun k_ => (P0_ k_ \/ w.heap.size <= k_) /\ some k_ ≠ v4.ownBlock) v5 x5_1) /\ Aside0 (Below w.heap.size w w'))
 case atStart => exact ⟨(y103), (y106), (1), (by rfl), H', ⟨Nat.le_refl _⟩, ⟨Kd.vm (Kd.V_mono HO0.out (fun _ hk => ⟨hk.1.1, ⟨hk.1.2, hk.2⟩⟩))⟩, ⟨Kd.rm (Kd.R_mono HO105.out (fun _ hk => hk.1))⟩, ⟨Kd.nm HO108.out⟩, ⟨bm HB.out⟩⟩
 case round =>
  clear H';clear HB;obtain ⟨x4_1, x5_1, x6_1, rfl, HA, HK1, HO_0, HO_4, HO_5, HB⟩ := hrel
  cases gk with
  | zero => exact absurd HA.out (by simp [spec_l1Terms.l0])
  | succ k1 =>
   have H := HA.out;clear HA;simp only [spec_l1Terms.l0] at H;by_cases c6 : x6_1 < (l0.length : Int)
   ·
    rw [if_pos c6] at H;have c6b0 : decide (x6_1 < (l0.length : Int)) = true := decide_eq_true c6;clear c6;replace H := oE H;obtain ⟨t109, A7, H⟩ := H;replace H : (if 0 <= x6_1 then (if x4_1.length < 17592186044416 then (if 0 <= (wrap64 (x6_1 + 1)) then (if (wrap64 (x6_1 + 1)) <= t109 then (if t109 <= (l0.length : Int) then (if x5_1.length < 5864062014805 then (spec_l1Terms.l0 k1 l0 (x4_1 ++ [rd l0 x6_1]) (x5_1 ++ [((l0.take (t109 : Int).toNat).drop ((wrap64 (x6_1 + 1)) : Int).toNat)]) t109) else (none)) else (none)) else (none)) else (none)) else (none)) else (none)) = some (r1, r2) := H;replace A7 := am A7;by_cases c8 : 0 <= x6_1
    ·
     rw [if_pos c8] at H;have c8b0 : decide (0 <= x6_1) = true := decide_eq_true c8;clear c8;by_cases c9 : x4_1.length < 17592186044416
     ·
      rw [if_pos c9] at H;have LMc9 := am c9;clear c9
      obtain ⟨y111, hy111⟩ : ∃ y_ : List Int, y_ = (x4_1 ++ [rd l0 x6_1]) := ⟨_, rfl⟩
      replace H : (if 0 <= (wrap64 (x6_1 + 1)) then (if (wrap64 (x6_1 + 1)) <= t109 then (if t109 <= (l0.length : Int) then (if x5_1.length < 5864062014805 then (spec_l1Terms.l0 k1 l0 y111 (x5_1 ++ [((l0.take (t109 : Int).toNat).drop ((wrap64 (x6_1 + 1)) : Int).toNat)]) t109) else (none)) else (none)) else (none)) else (none)) = some (r1, r2) := by (rw [hy111]; with_reducible exact H)
      replace hy111 := am hy111
      obtain ⟨ji10, hji10⟩ : ∃ j_ : Int, (wrap64 (x6_1 + 1)) = j_ := ⟨_, rfl⟩
      replace H : (if 0 <= (ji10) then (if (ji10) <= t109 then (if t109 <= (l0.length : Int) then (if x5_1.length < 5864062014805 then (spec_l1Terms.l0 k1 l0 y111 (x5_1 ++ [((l0.take (t109 : Int).toNat).drop ((ji10) : Int).toNat)]) t109) else (none)) else (none)) else (none)) else (none)) = some (r1, r2) := by (rw [hji10] at H; exact H)
      rw [hji10] at A7;have hji10w : (IntKind.i64.wrap (x6_1 + 1)) = ji10 := (i64_w _).trans hji10;by_cases c11 : 0 <= (ji10)
      ·
       rw [if_pos c11] at H;have c11b0 := eq_true c11;have c11b1 : decide (0 <= (ji10)) = true := decide_eq_true c11;clear c11;by_cases c12 : (ji10) <= t109
       ·
        rw [if_pos c12] at H;have c12b0 := eq_true c12;have c12b1 : decide ((ji10) <= t109) = true := decide_eq_true c12;clear c12;by_cases c13 : t109 <= (l0.length : Int)
        ·
         rw [if_pos c13] at H;have c13b0 := eq_true c13;have c13b1 : decide (t109 <= (l0.length : Int)) = true := decide_eq_true c13;clear c13
         obtain ⟨y114, hy114⟩ : ∃ y_ : List Int, y_ = ((l0.take (t109 : Int).toNat).drop ((ji10) : Int).toNat) := ⟨_, rfl⟩
         replace H : (if x5_1.length < 5864062014805 then (spec_l1Terms.l0 k1 l0 y111 (x5_1 ++ [y114]) t109) else (none)) = some (r1, r2) := by (rw [hy114]; with_reducible exact H)
         replace hy114 := am hy114;by_cases c14 : x5_1.length < 5864062014805
         ·
          rw [if_pos c14] at H;have LMc14 := am c14;clear c14
          obtain ⟨y119, hy119⟩ : ∃ y_ : List (List Int), y_ = (x5_1 ++ [y114]) := ⟨_, rfl⟩
          replace H : (spec_l1Terms.l0 k1 l0 y111 y119 t109) = some (r1, r2) := by (rw [hy119]; with_reducible exact H)
          replace hy119 := am hy119;have H' := am H;clear H;go_wp2_with (first | ((with_reducible refine gate_callee (f := 88) rfl ?_); refine goesL_ (some 17) rfl rfl Try.func88 (by kernel_rfl) rfl #[.slice A0 l0.length c0, .int .i64 ji10] rfl (by (try simp only [List.map_toArray, List.map_cons, List.map_nil]); rfl) ?_; (with_reducible refine (spec_l1Span.calls k1 _ _ l0 ji10 t109 _ ?side1 ?side2 A7.out).mono ?_); (case side1 => exact Kd.cm ((Kd.V_reads' HO_0.out).2.2)); (case side2 => exact (Kd.V_reads' HO_0.out).2.1); rintro e w' ⟨rfl, ⟨nd, rfl⟩⟩; refine ⟨_, rfl, ?_⟩; have p110 : 0 <= (x6_1 : Int) := of_decide_eq_true (by assumption); have q110 : x6_1 < (l0.length : Int) := of_decide_eq_true (by assumption); obtain ⟨ad110, e110, hx110_0⟩ := Kd.at_int (Kd.V_reads' HO_0.out).2.2 x6_1 p110 q110; cases e110; replace p110 := eq_true p110; replace q110 := eq_true q110) | ((with_reducible refine gate_builtin (b := .append) (xs := #[.tmp 18, .tmp 23]) rfl ?_); at_builtin; refine Kd.R_append (Kd.int .i64) (w0 := w) w.heap.size rfl (.tmp 18) (.tmp 23) 22 3 (.int .i64 0) 8 rfl Try.underlying22 info3 rfl (by decide) (by omega) u4 x4_1 (rd l0 x6_1) [.int .i64 (rd l0 x6_1)] (fun k_ => (w.heap.size <= k_)) (fun _ => False) rfl rfl ?aP (fun _ hk => hk.elim) ?aF ?aO ?aB ?aS ?aL ?_; (case aP => exact rfl); (case aB => exact (bm HB.out)); (case aF => exact (fun k_ hk => (Nat.le_trans (below_size (bm HB.out)) hk))); (case aO => exact (Kd.rm HO_4.out)); (case aS => exact (below_size (bm HB.out))); (case aL => have := LMc9.out; omega); intro v112 w15 ho hb hg hat; rw [<- hy111.out] at ho; replace HO_0 := am (Kd.V_afterv (ok := (fun k_ => (P0_ k_ \/ w.heap.size <= k_) /\ some k_ ≠ (u5 : Value).ownBlock)) (Kd.vm (Kd.V_mono HO_0.out (fun _ hk => ⟨⟨hk.1, hk.2.2⟩, hk.2.1⟩))) hg hat);replace HO_5 := am (Kd.N_afterv (ok := (fun k_ => (P0_ k_ \/ w.heap.size <= k_))) (Kd.nm HO_5.out) hg hat);replace HB := am (hb);have HO113 := am (ho);clear HO_4; clear ho hb hg hat; have q16 : (t109 : Int) <= ((l0.length : Int) : Int) := of_decide_eq_true (by assumption); obtain ⟨i016, hi016, _, hsz16, _⟩ := info_parts info3; have hroom16 : l0.length <= c0 := (Kd.V_reads' HO_0.out).2.1; have hC16 : Kd.F (Kd.int .i64) _ _ (some ad110) l0.length l0 := (Kd.V_at (base := w.heap.size) HO_0.out).2.2; have ql16 : ((ji10) : Int) <= (t109 : Int) := of_decide_eq_true (by assumption); have q016 : (0 : Int) <= ((ji10) : Int) := of_decide_eq_true (by assumption); have hcut16 := cut_mid (P := Try.prog) 22 3 .i64 .i64 Try.underlying22 hi016 1 hsz16 (some ad110) l0.length c0 (ji10) t109 q016 ql16 q16 hroom16; have hr16 := Kd.F_mid (lo := ((ji10) : Int).toNat) (hi := (t109 : Int).toNat) (c := c0) hC16 (by omega) (by omega) hroom16; obtain ⟨A16, hA16⟩ : ∃ A_, A_ = (if c0 = ((ji10) : Int).toNat then (some ad110) else ((some ad110) : Option Addr).map (·.add (((ji10) : Int).toNat * 1))) := ⟨_, rfl⟩; obtain ⟨c16, hc16⟩ : ∃ c_, c_ = c0 - ((ji10) : Int).toNat := ⟨_, rfl⟩; have hy16 : y114.length = (t109 : Int).toNat - ((ji10) : Int).toNat := (by rw [hy114.out, List.length_drop, List.length_take] <;> omega); rw [show ((l0).take (t109 : Int).toNat).drop ((ji10) : Int).toNat = y114 from hy114.out.symm] at hr16; replace hr16 : Kd.F (Kd.int .i64) _ _ A16 y114.length y114 := (by rw [hA16]; exact hr16); rw [<- hy16, <- hA16, <- hc16] at hcut16; have HO118 := am (show Kd.V (Kd.int .i64) 3 _ w.heap.size _ (.slice A16 y114.length c16) y114 from Kd.V_mk (by rw [hy16, hc16]; exact Nat.sub_le_sub_right (Nat.le_trans (by omega) hroom16) _) hr16); have HC118 := am (show y114.length <= c16 from by rw [hy16, hc16]; exact Nat.sub_le_sub_right (Nat.le_trans (by omega) hroom16) _); clear hr16 hC16 hroom16 hi016 hsz16 hc16; have KY16 := am hy16; have KA16 := am hA16; clear hy16 hA16; replace q16 := eq_true q16) | ((with_reducible refine gate_builtin (b := .append) (xs := #[.tmp 25, .tmp 31]) rfl ?_); at_builtin; refine Kd.N_append (Kd.slice 3 (Kd.int .i64)) (w0 := w) w.heap.size rfl (.tmp 25) (.tmp 31) 64 22 (.slice none 0 0) 24 rfl Try.underlying64 info22 rfl (by decide) (by omega) u5 x5_1 y114 [.slice A16 y114.length c16] (fun k_ => (P0_ k_ \/ w.heap.size <= k_) /\ some k_ ≠ v112.ownBlock) (fun k_ => ((fun k_ => (P0_ k_ \/ w.heap.size <= k_) /\ some k_ ≠ v112.ownBlock)) k_ /\ some k_ ≠ (u5 : Value).ownBlock) rfl rfl ?aP (fun _ hk => hk) ?aF ?aO ?aB ?aS ?aL ?_; (case aP => exact (Kd.FK_slice_mk (Kd.V_reads' (Kd.V_mono (ok' := (fun k_ => ((fun k_ => (P0_ k_ \/ w.heap.size <= k_) /\ some k_ ≠ v112.ownBlock)) k_ /\ some k_ ≠ (u5 : Value).ownBlock)) (HO118.out) (fun k_ hk => ⟨⟨hk.1.1, hk.2⟩, hk.1.2⟩))).2.1 (Kd.V_F (Kd.V_mono (ok' := (fun k_ => ((fun k_ => (P0_ k_ \/ w.heap.size <= k_) /\ some k_ ≠ v112.ownBlock)) k_ /\ some k_ ≠ (u5 : Value).ownBlock)) (HO118.out) (fun k_ hk => ⟨⟨hk.1.1, hk.2⟩, hk.1.2⟩))))); (case aB => exact (bm HB.out)); (case aF => exact (fun k_ hk => ⟨(.inr (Nat.le_trans (below_size (bm HB.out)) hk)), Kd.fresh' (Kd.R_lt (Kd.rm HO113.out)) k_ hk⟩)); (case aO => exact (Kd.nm HO_5.out)); (case aS => exact (below_size (bm HB.out))); (case aL => have := LMc14.out; omega); intro v120 w17 ho hb hg hat; rw [<- hy119.out] at ho; replace HO_0 := am (Kd.V_afterv (ok := (fun k_ => (P0_ k_ \/ w.heap.size <= k_) /\ some k_ ≠ v112.ownBlock)) (Kd.vm (Kd.V_mono HO_0.out (fun _ hk => ⟨⟨hk.1.1, hk.2⟩, hk.1.2⟩))) hg hat);replace HO113 := am (Kd.R_over' (Kd.rm HO113.out) (Kd.N_typed (Kd.nm HO_5.out)) (by decide) hg);replace HO118 := am (Kd.V_afterv (ok := (fun k_ => (P0_ k_ \/ w.heap.size <= k_) /\ some k_ ≠ v112.ownBlock)) (Kd.vm (Kd.V_mono HO118.out (fun _ hk => ⟨⟨hk.1.1, hk.2⟩, hk.1.2⟩))) hg hat);replace HB := am (hb);have HO121 := am (ho);clear HO_5; clear ho hb hg hat))
          go_roundg k1
          case measure => have := HK1.out; omega
          case rel => exact ⟨(y111), (y119), (t109), (by rfl), H', ⟨by have := HK1.out; omega⟩, ⟨Kd.vm (Kd.V_mono HO_0.out (fun _ hk => ⟨hk.1.1, ⟨hk.1.2, hk.2⟩⟩))⟩, ⟨Kd.rm HO113.out⟩, ⟨Kd.nm HO121.out⟩, ⟨bm HB.out⟩⟩
         · rw [if_neg c14] at H;exact absurd H (by simp)
        · rw [if_neg c13] at H;exact absurd H (by simp)
       · rw [if_neg c12] at H;exact absurd H (by simp)
      · rw [if_neg c11] at H;exact absurd H (by simp)
     · rw [if_neg c9] at H;exact absurd H (by simp)
    · rw [if_neg c8] at H;exact absurd H (by simp)
   · rw [if_neg c6] at H;have c6b0 : decide (x6_1 < (l0.length : Int)) = false := decide_eq_false c6;clear c6;simp only [Option.some.injEq, Prod.mk.injEq] at H;obtain ⟨rfl, rfl⟩ := H;go_wp2;go_ret2;exact ⟨_, _, by rfl, Kd.rm HO_4.out, Kd.nm HO_5.out, bm HB.out⟩

end Go.Proofs.Ytahhdbjjfdjloaa.Jf

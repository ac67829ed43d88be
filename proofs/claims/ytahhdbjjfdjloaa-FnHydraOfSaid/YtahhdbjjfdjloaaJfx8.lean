-- half
-- Written by a program of this session's (wip/mp) out of the translation, over the kit's print with changes.
import Derived.Test.YtahhdbjjfdjloaaJfx0
namespace Go.Proofs.Ytahhdbjjfdjloaa.Jf
open Go.RowKit Go.Proofs.YtahhdbjjfdjloaaW.PrintWords Go.Proofs.YtahhdbjjfdjloaaW.PrintLast Go.Proofs.YtahhdbjjfdjloaaW.PrintMore
attribute [local go_sem] max2_int min2_int max_two min_two max_three min_three max_four min_four   -- for this text's walks alone
set_option linter.unusedVariables false
set_option linter.unusedSimpArgs false

/-! ### impl_takeHydra: function 68 -/
mutual
def impl_takeHydra.j0 : Nat -> List Int -> Bool -> Option ((List (S46)) × List Int × Bool)
 | 0, _, _ => none
 | k + 1, x0, x24 => if x24 = true then (some (([] : List (S46)), ([] : List Int), false)) else (if 0 < (x0.length : Int) then (if 1 <= (x0.length : Int) then (impl_takeHydra.l0 k (x0.drop 1) (([] : List (S46))) (rd x0 0) 0) else (none)) else (none))
def impl_takeHydra.l0 : Nat -> List Int -> List (S46) -> Int -> Int -> Option ((List (S46)) × List Int × Bool)
 | 0, _, _, _, _ => none
 | k + 1, x0, x6, x31, x32 => if x32 < x31 then ((impl_takeHydra.f k x0).bind fun bt313 => (if bt313.2.2 = true then (if x6.length < 5864062014805 then (impl_takeHydra.l0 k bt313.2.1 (x6 ++ [(⟨bt313.1⟩ : S46)]) x31 (wrap64 (x32 + 1))) else (none)) else (some (([] : List (S46)), ([] : List Int), false)))) else (some (x6, x0, true))
def impl_takeHydra.f : Nat -> List Int -> Option ((List (S46)) × List Int × Bool)
 | 0, _ => none
 | k + 1, l0 => if (l0.length : Int) = 0 then (impl_takeHydra.j0 k l0 true) else (if 0 < (l0.length : Int) then (if (rd l0 0) < 0 then (impl_takeHydra.j0 k l0 true) else (impl_takeHydra.j0 k l0 (decide ((rd l0 0) > 60)))) else (none))
end
theorem impl_takeHydra.mono_l : ∀ k, (∀ y0, LeO (impl_takeHydra.f k y0) (impl_takeHydra.f (k + 1) y0)) /\ (∀ y0 y1, LeO (impl_takeHydra.j0 k y0 y1) (impl_takeHydra.j0 (k + 1) y0 y1)) /\ (∀ y0 y1 y2 y3, LeO (impl_takeHydra.l0 k y0 y1 y2 y3) (impl_takeHydra.l0 (k + 1) y0 y1 y2 y3))
 | 0 => ⟨fun _ r h => by simp [impl_takeHydra.f] at h, fun _ _ r h => by simp [impl_takeHydra.j0] at h, fun _ _ _ _ r h => by simp [impl_takeHydra.l0] at h⟩
 | k + 1 => by
  obtain ⟨ih0, ih1, ih2⟩ := impl_takeHydra.mono_l k;refine ⟨?_, ?_, ?_⟩
  all_goals (intros; first | unfold impl_takeHydra.f | unfold impl_takeHydra.j0 | unfold impl_takeHydra.l0)
  all_goals repeat' with_reducible first | exact ih0 _ | exact ih1 _ _ | exact ih2 _ _ _ _ | exact LeO.refl _ | refine LeO.ite ?_ ?_ | refine LeO.bind ?_ (fun _ => ?_)
theorem impl_takeHydra.mono : ∀ a0 k, LeO (impl_takeHydra.f k a0) (impl_takeHydra.f (k + 1) a0) := by
 intro a0 k;obtain ⟨ih0, ih1, ih2⟩ := impl_takeHydra.mono_l k;exact ih0 a0
set_option maxHeartbeats 8000000 in
set_option maxRecDepth 100000 in
theorem impl_takeHydra.calls (k : Nat) : ∀ (P0_ : Nat -> Prop) (A0 : Option Addr) (c0 : Nat) (l0 : List Int) (r1 : List (S46)) (r2 : List Int) (r3 : Bool) (w : World) (hs0 : Kd.V (Kd.int .i64) 3 w w.heap.size (fun k_ => P0_ k_) (.slice A0 l0.length c0) l0) (h : impl_takeHydra.f k l0 = some (r1, r2, r3)),
  Calls Try.prog 68 #[.slice A0 l0.length c0] w fun e w' => ∃ v0_ v1_ : Value, e = .returned (.tuple #[v0_, v1_, .bool r3]) /\ Kd.R k46 46 w' w.heap.size (fun k_ => (w.heap.size <= k_)) v0_ r1 /\ Kd.V (Kd.int .i64) 3 w' w.heap.size (fun k_ => (P0_ k_ \/ w.heap.size <= k_) /\ some k_ ≠ v0_.ownBlock) v1_ r2 /\ Below w.heap.size w w' := by
 induction k using Nat.strongRecOn with
 | _ k ih =>
 intro P0_ A0 c0 l0 r1 r2 r3 w hs0 h
 cases k with
 | zero => exact absurd h (by simp [impl_takeHydra.f])
 | succ k =>
 simp only [impl_takeHydra.f] at h;have HO0 := am (show Kd.V (Kd.int .i64) 3 w w.heap.size (fun k_ => (P0_ k_ \/ w.heap.size <= k_)) (.slice A0 l0.length c0) l0 from Kd.V_mono hs0 (fun k_ hk => .inl hk));have HB := am (Below.refl w.heap.size w);have H : (if (l0.length : Int) = 0 then (impl_takeHydra.j0 k l0 true) else (if 0 < (l0.length : Int) then (if (rd l0 0) < 0 then (impl_takeHydra.j0 k l0 true) else (impl_takeHydra.j0 k l0 (decide ((rd l0 0) > 60)))) else (none))) = some (r1, r2, r3) := h;clear h;have HC2 := am H;clear H;go_enter Try.func68, Try.ntmps68
 go_upto_region 1 with (fail)
 go_cut [24] (fun v24 wc => ∃ (kq : Nat) (x24_1 : Bool), v24 = .bool x24_1 /\ Aside0 (impl_takeHydra.j0 kq l0 x24_1 = some (r1, r2, r3)) /\ Aside0 (kq <= k) /\ Aside0 (Kd.V (Kd.int .i64) 3 wc w.heap.size (fun k_ => (P0_ k_ \/ w.heap.size <= k_)) (.slice A0 l0.length c0) l0) /\ Aside0 (Below w.heap.size w wc))
 case first =>
  have H := HC2.out;clear HC2;by_cases c3 : (l0.length : Int) = 0
  ·
   rw [if_pos c3] at H;have c3b0 : ((l0.length : Int) == 0) = true := beq_iff_eq.mpr c3;have c3b1 : ((l0.length : Int) != 0) = false := bne_eq_false_iff_eq.mpr c3;clear c3
   (skip)
   have H' := am H;clear H;go_wp2;go_meet
   case rel => exact ⟨_, (true), (by rfl), H', ⟨by omega⟩, ⟨Kd.vm HO0.out⟩, ⟨bm HB.out⟩⟩
  ·
   rw [if_neg c3] at H;have c3b0 : ((l0.length : Int) == 0) = false := beq_eq_false_iff_ne.mpr c3;have c3b1 : ((l0.length : Int) != 0) = true := bne_iff_ne.mpr c3
   have c3b2 : ¬ (l0 = []) := fun h_ => c3 (by rw [h_]; rfl)
   (skip)
   by_cases c4 : 0 < (l0.length : Int)
   ·
    rw [if_pos c4] at H;have c4b0 : decide (0 < (l0.length : Int)) = true := decide_eq_true c4;have c4b1 : decide (0 < l0.length) = true := decide_eq_true (by omega);clear c4;by_cases c5 : (rd l0 0) < 0
    ·
     rw [if_pos c5] at H;have c5b0 : decide ((rd l0 0) < 0) = true := decide_eq_true c5;clear c5;have H' := am H;clear H;have p302 : 0 <= (0 : Int) := (by omega);have q302 : 0 < (l0.length : Int) := of_decide_eq_true (by assumption);obtain ⟨ad302, e302, hx302_0⟩ := Kd.at_int (Kd.V_reads' HO0.out).2.2 0 p302 q302;cases e302
     have qi302 : (0 < l0.length) = True := eq_true (by omega);rw [show ((0 : Int)).toNat = 0 from rfl] at hx302_0;rw [Addr.add_zero'] at hx302_0;replace p302 := eq_true p302;replace q302 := eq_true q302;go_wp2;go_meet
     case rel => exact ⟨_, (true), (by rfl), H', ⟨by omega⟩, ⟨Kd.vm HO0.out⟩, ⟨bm HB.out⟩⟩
    ·
     rw [if_neg c5] at H;have c5b0 : decide ((rd l0 0) < 0) = false := decide_eq_false c5;clear c5;have H' := am H;clear H;have p302 : 0 <= (0 : Int) := (by omega);have q302 : 0 < (l0.length : Int) := of_decide_eq_true (by assumption);obtain ⟨ad302, e302, hx302_0⟩ := Kd.at_int (Kd.V_reads' HO0.out).2.2 0 p302 q302;cases e302
     have qi302 : (0 < l0.length) = True := eq_true (by omega);rw [show ((0 : Int)).toNat = 0 from rfl] at hx302_0;rw [Addr.add_zero'] at hx302_0;replace p302 := eq_true p302;replace q302 := eq_true q302;have p303 : 0 <= (0 : Int) := (by omega);have q303 : 0 < (l0.length : Int) := of_decide_eq_true (by assumption);obtain ⟨ad303, e303, hx303_0⟩ := Kd.at_int (Kd.V_reads' HO0.out).2.2 0 p303 q303;obtain rfl : ad302 = ad303 := (by injection e303);have qi303 : (0 < l0.length) = True := eq_true (by omega);rw [show ((0 : Int)).toNat = 0 from rfl] at hx303_0;rw [Addr.add_zero'] at hx303_0;replace p303 := eq_true p303;replace q303 := eq_true q303;go_wp2;go_meet
     case rel => exact ⟨_, (decide ((rd l0 0) > 60)), (by rfl), H', ⟨by omega⟩, ⟨Kd.vm HO0.out⟩, ⟨bm HB.out⟩⟩
   · rw [if_neg c4] at H;exact absurd H (by simp)
 case rest =>
  clear HC2;obtain ⟨kq, x24_1, rfl, HA, HJ1, HO_0, HB⟩ := hcut
  cases kq with
  | zero => exact absurd HA.out (by simp [impl_takeHydra.j0])
  | succ kj1 =>
   have H := HA.out;clear HA;simp only [impl_takeHydra.j0] at H;by_cases c6 : x24_1 = true
   ·
    subst c6
    have H1 : (some (([] : List (S46)), ([] : List Int), false)) = some (r1, r2, r3) := by rw [if_pos rfl] at H; exact H
    clear H;have H := H1;clear H1;simp only [Option.some.injEq, Prod.mk.injEq] at H;obtain ⟨rfl, rfl, rfl⟩ := H;go_wp2;go_ret3;exact ⟨_, _, by rfl, by exact Kd.R_nil _ _ _ _ _, (by exact Kd.V_nil _ _ _ _ _), bm HB.out⟩
   ·
    replace c6 := Bool.eq_false_iff.mpr c6;subst c6
    have H1 : (if 0 < (l0.length : Int) then (if 1 <= (l0.length : Int) then (impl_takeHydra.l0 kj1 (l0.drop 1) (([] : List (S46))) (rd l0 0) 0) else (none)) else (none)) = some (r1, r2, r3) := by rw [if_neg (show ¬ (false = true) by decide)] at H; exact H
    clear H;have H := H1;clear H1;by_cases c7 : 0 < (l0.length : Int)
    ·
     rw [if_pos c7] at H;have c7b0 : decide (0 < (l0.length : Int)) = true := decide_eq_true c7;have c7b1 : decide (0 < l0.length) = true := decide_eq_true (by omega);clear c7;by_cases c8 : 1 <= (l0.length : Int)
     ·
      rw [if_pos c8] at H;have c8b0 := eq_true c8;have c8b1 : decide (1 <= (l0.length : Int)) = true := decide_eq_true c8;clear c8
      obtain ⟨y305, hy305⟩ : ∃ y_ : List Int, y_ = (l0.drop 1) := ⟨_, rfl⟩
      replace H : (impl_takeHydra.l0 kj1 y305 (([] : List (S46))) (rd l0 0) 0) = some (r1, r2, r3) := by (rw [hy305]; with_reducible exact H)
      replace hy305 := am hy305
      obtain ⟨y310, hy310⟩ : ∃ y_ : List (S46), y_ = (([] : List (S46))) := ⟨_, rfl⟩
      replace H : (impl_takeHydra.l0 kj1 y305 y310 (rd l0 0) 0) = some (r1, r2, r3) := by (rw [hy310]; with_reducible exact H)
      replace hy310 := am hy310;have H' := am H;clear H;have p304 : 0 <= (0 : Int) := (by omega);have q304 : 0 < (l0.length : Int) := of_decide_eq_true (by assumption);obtain ⟨ad304, e304, hx304_0⟩ := Kd.at_int (Kd.V_reads' HO_0.out).2.2 0 p304 q304;cases e304
      have qi304 : (0 < l0.length) = True := eq_true (by omega);rw [show ((0 : Int)).toNat = 0 from rfl] at hx304_0;rw [Addr.add_zero'] at hx304_0;replace p304 := eq_true p304;replace q304 := eq_true q304;have q9 : (1 : Int) <= ((l0.length : Int) : Int) := of_decide_eq_true (by assumption);obtain ⟨i09, hi09, _, hsz9, _⟩ := info_parts info3;have hroom9 : l0.length <= c0 := (Kd.V_reads' HO_0.out).2.1;have hC9 : Kd.F (Kd.int .i64) _ _ (some ad304) l0.length l0 := (Kd.V_at (base := w.heap.size) HO_0.out).2.2;have hcut9 := cut_from (P := Try.prog) 22 3 .i64 Try.underlying22 hi09 1 hsz9 (some ad304) l0.length c0 1 (by omega) q9;have hr9 := Kd.F_cut (m := (1 : Int).toNat) (c := c0) hC9 (by omega) hroom9
      obtain ⟨A9, hA9⟩ : ∃ A_, A_ = (if c0 = (1 : Int).toNat then (some ad304) else ((some ad304) : Option Addr).map (·.add ((1 : Int).toNat * 1))) := ⟨_, rfl⟩
      obtain ⟨c9, hc9⟩ : ∃ c_, c_ = c0 - (1 : Int).toNat := ⟨_, rfl⟩
      have hy9 : y305.length = l0.length - (1 : Int).toNat := (by rw [hy305.out, List.length_drop] <;> omega);rw [show (l0).drop (1 : Int).toNat = y305 from hy305.out.symm] at hr9;replace hr9 : Kd.F (Kd.int .i64) _ _ A9 y305.length y305 := (by rw [hA9]; exact hr9);rw [<- hy9, <- hA9, <- hc9] at hcut9;have HO309 := am (show Kd.V (Kd.int .i64) 3 _ w.heap.size _ (.slice A9 y305.length c9) y305 from Kd.V_mk (by rw [hy9, hc9]; exact Nat.sub_le_sub_right hroom9 _) hr9);have HC309 := am (show y305.length <= c9 from by rw [hy9, hc9]; exact Nat.sub_le_sub_right hroom9 _);clear hr9 hC9 hroom9 hi09 hsz9 hc9;have KY9 := am hy9;have KA9 := am hA9;clear hy9 hA9;replace q9 := eq_true q9;go_wp2_with (((with_reducible refine gate_dst (N := 30) rfl ?_); refine Kd.R_lit k46 _ 46 ?hg (N := 30) ?hd (xs := ([] : List (S46))) (inner := []) (ok := fun _ => True) (okp := fun _ => True) ?hr ?hp (fun _ hk => hk) trivial (Below.refl _ _) (Nat.le_refl _) (by simp) ?_; (case hd => rfl); (case hg => rfl); (case hr => (go_simp; done)); (case hp => exact (Reps.none _ _)); intro v311 w10 ho11 hb hg_ hnew_; clear hg_ hnew_; (rw [<- hy310.out] at ho11); replace HO_0 := am (Kd.V_elder' (Kd.vm HO_0.out) (Kd.R_base ho11) hb);replace HO309 := am (Kd.V_elder' (Kd.vm HO309.out) (Kd.R_base ho11) hb);have HO312 := am (Kd.R_lower (Kd.R_newM (M := fun k_ => (w.heap.size <= k_)) ho11 (below_size (bm HB.out)) (fun k_ h_ => h_)) (below_size (bm HB.out)));replace HB := am (below_step (bm HB.out) hb); clear hb ho11))
      go_loopg [0, 6, 32] kj1 (fun kq v0 v6 v32 w' => ∃ (x0_2 : List Int) (x6_2 : List (S46)) (x32_2 : Int), v32 = .int .i64 x32_2 /\ Aside0 (impl_takeHydra.l0 kq x0_2 x6_2 (rd l0 0) x32_2 = some (r1, r2, r3)) /\ Aside0 (kq <= kj1) /\ Aside0 (Kd.V (Kd.int .i64) 3 w' w.heap.size (fun k_ => (P0_ k_ \/ w.heap.size <= k_) /\ some k_ ≠ v6.ownBlock) v0 x0_2) /\ Aside0 (Kd.R k46 46 w' w.heap.size (fun k_ => (w.heap.size <= k_)) v6 x6_2) /\ Aside0 (Below w.heap.size w w'))
      case atStart => exact ⟨(y305), (y310), (0), (by rfl), H', ⟨Nat.le_refl _⟩, ⟨Kd.vm HO309.out⟩, ⟨Kd.rm (Kd.R_mono HO312.out (fun _ hk => hk.1))⟩, ⟨bm HB.out⟩⟩
      case round =>
       clear H';clear c7b0;clear c7b1;clear c8b0;clear c8b1;clear q9;clear hx304_0;clear p304;clear q304;clear HO_0;clear HB;obtain ⟨x0_2, x6_2, x32_2, rfl, HA, HK2, HO_0, HO_6, HB⟩ := hrel
       cases gk with
       | zero => exact absurd HA.out (by simp [impl_takeHydra.l0])
       | succ k2 =>
        have H := HA.out;clear HA;simp only [impl_takeHydra.l0] at H;by_cases c12 : x32_2 < (rd l0 0)
        ·
         rw [if_pos c12] at H;have c12b0 : decide (x32_2 < (rd l0 0)) = true := decide_eq_true c12;clear c12;replace H := oE H;obtain ⟨⟨t313, t316, t319⟩, A13, H⟩ := H;replace H : (if t319 = true then (if x6_2.length < 5864062014805 then (impl_takeHydra.l0 k2 t316 (x6_2 ++ [(⟨t313⟩ : S46)]) (rd l0 0) (wrap64 (x32_2 + 1))) else (none)) else (some (([] : List (S46)), ([] : List Int), false))) = some (r1, r2, r3) := H;replace A13 := am A13;by_cases c14 : t319 = true
         ·
          subst c14
          have H1 : (if x6_2.length < 5864062014805 then (impl_takeHydra.l0 k2 t316 (x6_2 ++ [(⟨t313⟩ : S46)]) (rd l0 0) (wrap64 (x32_2 + 1))) else (none)) = some (r1, r2, r3) := by rw [if_pos rfl] at H; exact H
          clear H;have H := H1;clear H1;by_cases c15 : x6_2.length < 5864062014805
          ·
           rw [if_pos c15] at H;have LMc15 := am c15;clear c15
           obtain ⟨y320, hy320⟩ : ∃ y_ : List (S46), y_ = (x6_2 ++ [(⟨t313⟩ : S46)]) := ⟨_, rfl⟩
           replace H : (impl_takeHydra.l0 k2 t316 y320 (rd l0 0) (wrap64 (x32_2 + 1))) = some (r1, r2, r3) := by (rw [hy320]; with_reducible exact H)
           replace hy320 := am hy320;have H' := am H;clear H;obtain ⟨Ao16, co16, eo16⟩ := Kd.V_slice HO_0.out;subst eo16;go_wp2_with (first | ((with_reducible refine gate_callee (f := 68) rfl ?_); refine goesL_ (some 36) rfl rfl Try.func68 (by kernel_rfl) rfl #[.slice Ao16 x0_2.length co16] rfl (by (try simp only [mA, mB, mC]); rfl) ?_; (with_reducible refine (ih k2 (by have := HJ1.out; have := HK2.out; omega) (fun k_ => ((P0_ k_ \/ w.heap.size <= k_) /\ some k_ ≠ (u6 : Value).ownBlock)) _ _ x0_2 t313 t316 true _ ?side1 A13.out).mono ?_); (case side1 => exact HO_0.out); rintro e w17 ⟨v314, v317, rfl, ho0, ho1, hb⟩; refine ⟨_, rfl, ?_⟩; replace HO_0 := am (Kd.V_elder' (Kd.vm HO_0.out) (Kd.R_base ho0) hb);have HO315 := am (Kd.R_lower (Kd.R_new' (Kd.R_newM (M := fun k_ => (w.heap.size <= k_)) (Kd.R_mono (ok' := fun k_ => True) ho0 (fun _ hk_ => trivial)) (below_size (bm HB.out)) (fun k_ h_ => h_)) (Kd.R_lt (Kd.rm HO_6.out))) (below_size (bm HB.out)));have HO318 := am (Kd.V_lower (Kd.V_mono (ok' := fun k_ => (P0_ k_ \/ w.heap.size <= k_) /\ some k_ ≠ v314.ownBlock /\ some k_ ≠ (u6 : Value).ownBlock) ho1 (fun k_ hk_ => ⟨Or.elim hk_.1 (fun hs_ => hs_.1) (fun hn_ => (.inr (Nat.le_trans (below_size (bm HB.out)) hn_))), hk_.2, Or.elim hk_.1 (fun hs_ => hs_.2) (fun hn_ => (Kd.fresh' (Kd.R_lt (Kd.rm HO_6.out)) k_ hn_))⟩)) (below_size (bm HB.out)));replace HO_6 := am (Kd.R_elder' (Kd.rm HO_6.out) (Kd.R_base ho0) hb);replace HB := am (below_step (bm HB.out) hb); clear hb;clear ho0; clear ho1; obtain ⟨Ao19, co19, eo19⟩ := Kd.R_slice HO315.out; subst eo19) | ((with_reducible refine gate_builtin (b := .append) (xs := #[.tmp 42, .tmp 44]) rfl ?_); at_builtin; refine Kd.R_append k46 (w0 := w) w.heap.size rfl (.tmp 42) (.tmp 44) 46 46 (.slice none 0 0) 24 rfl Try.underlying46 info46 rfl (by decide) (by omega) u6 x6_2 (⟨t313⟩ : S46) [.slice Ao19 t313.length co19] (fun k_ => (w.heap.size <= k_)) (fun k_ => ((fun k_ => (w.heap.size <= k_))) k_ /\ some k_ ≠ (u6 : Value).ownBlock) rfl rfl ?aP (fun _ hk => hk) ?aF ?aO ?aB ?aS ?aL ?_; (case aP => exact k46_mkM _ _ _ (⟨t313⟩ : S46) (Kd.R_mono (HO315.out) (fun k_ hk => ⟨hk.1.1, hk.2⟩))); (case aB => exact (bm HB.out)); (case aF => exact (fun k_ hk => (Nat.le_trans (below_size (bm HB.out)) hk))); (case aO => exact (Kd.rm (Kd.R_mono HO_6.out (fun _ hk => hk.1)))); (case aS => exact (below_size (bm HB.out))); (case aL => have := LMc15.out; omega); intro v321 w18 ho hb hg hat; rw [<- hy320.out] at ho; replace HO_0 := am (Kd.V_afterv (ok := (fun k_ => (P0_ k_ \/ w.heap.size <= k_) /\ some k_ ≠ (.slice Ao19 t313.length co19 : Value).ownBlock)) (Kd.vm (Kd.V_mono HO_0.out (fun _ hk => ⟨⟨hk.1.1, hk.2⟩, hk.1.2⟩))) hg hat);replace HO318 := am (Kd.V_afterv (ok := (fun k_ => (P0_ k_ \/ w.heap.size <= k_) /\ some k_ ≠ (.slice Ao19 t313.length co19 : Value).ownBlock)) (Kd.vm (Kd.V_mono HO318.out (fun _ hk => ⟨⟨hk.1, hk.2.1⟩, hk.2.2⟩))) hg hat);replace HB := am (hb);have HO322 := am (ho);clear HO_6 HO315; clear ho hb hg hat))
           go_roundg k2
           case measure => have := HJ1.out; have := HK2.out; omega
           case rel => exact ⟨(t316), (y320), (wrap64 (x32_2 + 1)), (by rfl), H', ⟨by have := HJ1.out; have := HK2.out; omega⟩, ⟨Kd.vm (Kd.V_mono HO318.out (fun _ hk => ⟨hk.1.1, hk.2⟩))⟩, ⟨Kd.rm HO322.out⟩, ⟨bm HB.out⟩⟩
          · rw [if_neg c15] at H;exact absurd H (by simp)
         ·
          replace c14 := Bool.eq_false_iff.mpr c14;subst c14
          have H1 : (some (([] : List (S46)), ([] : List Int), false)) = some (r1, r2, r3) := by rw [if_neg (show ¬ (false = true) by decide)] at H; exact H
          clear H;have H := H1;clear H1;simp only [Option.some.injEq, Prod.mk.injEq] at H;obtain ⟨rfl, rfl, rfl⟩ := H;obtain ⟨Ao20, co20, eo20⟩ := Kd.V_slice HO_0.out;subst eo20;go_wp2_with (((with_reducible refine gate_callee (f := 68) rfl ?_); refine goesL_ (some 36) rfl rfl Try.func68 (by kernel_rfl) rfl #[.slice Ao20 x0_2.length co20] rfl (by (try simp only [mA, mB, mC]); rfl) ?_; (with_reducible refine (ih k2 (by have := HJ1.out; have := HK2.out; omega) (fun k_ => ((P0_ k_ \/ w.heap.size <= k_) /\ some k_ ≠ (u6 : Value).ownBlock)) _ _ x0_2 t313 t316 false _ ?side1 A13.out).mono ?_); (case side1 => exact HO_0.out); rintro e w21 ⟨v314, v317, rfl, ho0, ho1, hb⟩; refine ⟨_, rfl, ?_⟩; replace HO_0 := am (Kd.V_elder' (Kd.vm HO_0.out) (Kd.R_base ho0) hb);have HO315 := am (Kd.R_lower (Kd.R_new' (Kd.R_newM (M := fun k_ => (w.heap.size <= k_)) (Kd.R_mono (ok' := fun k_ => True) ho0 (fun _ hk_ => trivial)) (below_size (bm HB.out)) (fun k_ h_ => h_)) (Kd.R_lt (Kd.rm HO_6.out))) (below_size (bm HB.out)));have HO318 := am (Kd.V_lower (Kd.V_mono (ok' := fun k_ => (P0_ k_ \/ w.heap.size <= k_) /\ some k_ ≠ v314.ownBlock /\ some k_ ≠ (u6 : Value).ownBlock) ho1 (fun k_ hk_ => ⟨Or.elim hk_.1 (fun hs_ => hs_.1) (fun hn_ => (.inr (Nat.le_trans (below_size (bm HB.out)) hn_))), hk_.2, Or.elim hk_.1 (fun hs_ => hs_.2) (fun hn_ => (Kd.fresh' (Kd.R_lt (Kd.rm HO_6.out)) k_ hn_))⟩)) (below_size (bm HB.out)));replace HO_6 := am (Kd.R_elder' (Kd.rm HO_6.out) (Kd.R_base ho0) hb);replace HB := am (below_step (bm HB.out) hb); clear hb; clear ho0; clear ho1));go_ret3;exact ⟨_, _, by rfl, by exact Kd.R_nil _ _ _ _ _, (by exact Kd.V_nil _ _ _ _ _), bm HB.out⟩
        · rw [if_neg c12] at H;have c12b0 : decide (x32_2 < (rd l0 0)) = false := decide_eq_false c12;clear c12;simp only [Option.some.injEq, Prod.mk.injEq] at H;obtain ⟨rfl, rfl, rfl⟩ := H;go_wp2;go_ret3;exact ⟨_, _, by rfl, Kd.rm HO_6.out, Kd.vm HO_0.out, bm HB.out⟩
     · rw [if_neg c8] at H;exact absurd H (by simp)
    · rw [if_neg c7] at H;exact absurd H (by simp)

/-! ### impl_hydraOf: function 43 -/
def impl_hydraOf.f (k : Nat) (l0 : List Int) : Option ((List (S46)) × Bool) := if (l0.length : Int) < 1 then (some (([] : List (S46)), false)) else (if (l0.length : Int) > 60 then (some (([] : List (S46)), false)) else ((impl_takeHydra.f k l0).bind fun bt323 => (if bt323.2.2 = true then (some (bt323.1, ((bt323.2.1.length : Int) == 0))) else (some (bt323.1, false)))))
theorem impl_hydraOf.mono : ∀ a0 k, LeO (impl_hydraOf.f k a0) (impl_hydraOf.f (k + 1) a0) := by
 intro a0 k;unfold impl_hydraOf.f
 repeat' with_reducible first | exact impl_takeHydra.mono _ _ | exact LeO.refl _ | refine LeO.ite ?_ ?_ | refine LeO.bind ?_ (fun _ => ?_)
set_option maxHeartbeats 8000000 in
set_option maxRecDepth 100000 in
theorem impl_hydraOf.calls (k : Nat) (A0 : Option Addr) (c0 : Nat) (l0 : List Int) (r1 : List (S46)) (r2 : Bool) (w : World) (hr0 : Kd.C (Kd.int .i64) w A0 l0.length l0) (hc0 : l0.length <= c0) (h : impl_hydraOf.f k l0 = some (r1, r2)) :
  Calls Try.prog 43 #[.slice A0 l0.length c0] w fun e w' => ∃ v0_ : Value, e = .returned (.tuple #[v0_, .bool r2]) /\ Kd.R k46 46 w' w.heap.size (fun _ => True) v0_ r1 /\ Below w.heap.size w w' := by
 have HR0 := am hr0;have HC0 := am hc0;clear hr0 hc0;have HB := am (Below.refl w.heap.size w);have H : (if (l0.length : Int) < 1 then (some (([] : List (S46)), false)) else (if (l0.length : Int) > 60 then (some (([] : List (S46)), false)) else ((impl_takeHydra.f k l0).bind fun bt323 => (if bt323.2.2 = true then (some (bt323.1, ((bt323.2.1.length : Int) == 0))) else (some (bt323.1, false)))))) = some (r1, r2) := h;clear h;by_cases c2 : (l0.length : Int) < 1
 · rw [if_pos c2] at H;have c2b0 : decide ((l0.length : Int) < 1) = true := decide_eq_true c2;have c2b1 : decide (l0.length < 1) = true := decide_eq_true (by omega);clear c2;simp only [Option.some.injEq, Prod.mk.injEq] at H;obtain ⟨rfl, rfl⟩ := H;go_enter Try.func43, Try.ntmps43;go_wp2;go_ret2;exact ⟨_, by rfl, by exact Kd.R_nil _ _ _ _ _, bm HB.out⟩
 ·
  rw [if_neg c2] at H;have c2b0 : decide ((l0.length : Int) < 1) = false := decide_eq_false c2;have c2b1 : decide (l0.length < 1) = false := decide_eq_false (by omega);clear c2;by_cases c3 : (l0.length : Int) > 60
  · rw [if_pos c3] at H;have c3b0 : decide (60 < (l0.length : Int)) = true := decide_eq_true c3;have c3b1 : decide (60 < l0.length) = true := decide_eq_true (by omega);clear c3;simp only [Option.some.injEq, Prod.mk.injEq] at H;obtain ⟨rfl, rfl⟩ := H;go_enter Try.func43, Try.ntmps43;go_wp2;go_ret2;exact ⟨_, by rfl, by exact Kd.R_nil _ _ _ _ _, bm HB.out⟩
  ·
   rw [if_neg c3] at H;have c3b0 : decide (60 < (l0.length : Int)) = false := decide_eq_false c3;have c3b1 : decide (60 < l0.length) = false := decide_eq_false (by omega);clear c3;replace H := oE H;obtain ⟨⟨t323, t326, t329⟩, A4, H⟩ := H;replace H : (if t329 = true then (some (t323, ((t326.length : Int) == 0))) else (some (t323, false))) = some (r1, r2) := H;replace A4 := am A4;by_cases c5 : t329 = true
   ·
    subst c5
    have H1 : (some (t323, ((t326.length : Int) == 0))) = some (r1, r2) := by rw [if_pos rfl] at H; exact H
    clear H;have H := H1;clear H1;simp only [Option.some.injEq, Prod.mk.injEq] at H;obtain ⟨rfl, rfl⟩ := H;go_enter Try.func43, Try.ntmps43;go_wp2_with (((with_reducible refine gate_callee (f := 68) rfl ?_); refine goesL_ (some 17) rfl rfl Try.func68 (by kernel_rfl) rfl #[.slice A0 l0.length c0] rfl (by (try simp only [mA, mB, mC]); rfl) ?_; (with_reducible refine (impl_takeHydra.calls k (fun k_ => k_ < w.heap.size) _ _ l0 t323 t326 true _ ?side1 A4.out).mono ?_); (case side1 => exact Kd.V_mk HC0.out (Kd.F_below (Kd.C_F (Kd.heap_int .i64) HR0.out) (bm HB.out))); rintro e w6 ⟨v324, v327, rfl, ho0, ho1, hb⟩; refine ⟨_, rfl, ?_⟩; have HO325 := am (Kd.R_lower (Kd.R_mono (ok' := fun k_ => True) ho0 (fun _ hk_ => trivial)) (below_size (bm HB.out)));have HO328 := am (Kd.V_lower (Kd.V_mono (ok' := fun k_ => some k_ ≠ v324.ownBlock) ho1 (fun k_ hk_ => hk_.2)) (below_size (bm HB.out)));replace HB := am (below_step (bm HB.out) hb); clear hb; clear ho0; clear ho1; obtain ⟨Ao7, co7, eo7⟩ := Kd.V_slice HO328.out; subst eo7));go_ret2;exact ⟨_, by rfl, Kd.rm HO325.out, bm HB.out⟩
   ·
    replace c5 := Bool.eq_false_iff.mpr c5;subst c5
    have H1 : (some (t323, false)) = some (r1, r2) := by rw [if_neg (show ¬ (false = true) by decide)] at H; exact H
    clear H;have H := H1;clear H1;simp only [Option.some.injEq, Prod.mk.injEq] at H;obtain ⟨rfl, rfl⟩ := H;go_enter Try.func43, Try.ntmps43;go_wp2_with (((with_reducible refine gate_callee (f := 68) rfl ?_); refine goesL_ (some 17) rfl rfl Try.func68 (by kernel_rfl) rfl #[.slice A0 l0.length c0] rfl (by (try simp only [mA, mB, mC]); rfl) ?_; (with_reducible refine (impl_takeHydra.calls k (fun k_ => k_ < w.heap.size) _ _ l0 t323 t326 false _ ?side1 A4.out).mono ?_); (case side1 => exact Kd.V_mk HC0.out (Kd.F_below (Kd.C_F (Kd.heap_int .i64) HR0.out) (bm HB.out))); rintro e w8 ⟨v324, v327, rfl, ho0, ho1, hb⟩; refine ⟨_, rfl, ?_⟩; have HO325 := am (Kd.R_lower (Kd.R_mono (ok' := fun k_ => True) ho0 (fun _ hk_ => trivial)) (below_size (bm HB.out)));have HO328 := am (Kd.V_lower (Kd.V_mono (ok' := fun k_ => some k_ ≠ v324.ownBlock) ho1 (fun k_ hk_ => hk_.2)) (below_size (bm HB.out)));replace HB := am (below_step (bm HB.out) hb); clear hb; clear ho0; clear ho1));go_ret2;exact ⟨_, by rfl, Kd.rm HO325.out, bm HB.out⟩

/-! ### impl_sizeOf: function 69 -/
mutual
def impl_sizeOf.l0 : Nat -> Int -> List (S72) -> Int -> Int -> Option (Int)
 | 0, _, _, _, _ => none
 | k + 1, x3, x6, x7, x8 => if x8 < x7 then (if 0 <= x8 then (if x8 < (x6.length : Int) then ((impl_sizeOf.f k ((rd_T72 x6 x8).f1)).bind fun t332 => (impl_sizeOf.l0 k (wrap64 (x3 + (wrap64 (1 + t332)))) x6 x7 (wrap64 (x8 + 1)))) else (none)) else (none)) else (some x3)
def impl_sizeOf.f : Nat -> List (S72) -> Option (Int)
 | 0, _ => none
 | k + 1, l0 => impl_sizeOf.l0 k 1 l0 (l0.length : Int) 0
end
theorem impl_sizeOf.mono_l : ∀ k, (∀ y0, LeO (impl_sizeOf.f k y0) (impl_sizeOf.f (k + 1) y0)) /\ (∀ y0 y1 y2 y3, LeO (impl_sizeOf.l0 k y0 y1 y2 y3) (impl_sizeOf.l0 (k + 1) y0 y1 y2 y3))
 | 0 => ⟨fun _ r h => by simp [impl_sizeOf.f] at h, fun _ _ _ _ r h => by simp [impl_sizeOf.l0] at h⟩
 | k + 1 => by
  obtain ⟨ih0, ih1⟩ := impl_sizeOf.mono_l k;refine ⟨?_, ?_⟩
  all_goals (intros; first | unfold impl_sizeOf.f | unfold impl_sizeOf.l0)
  all_goals repeat' with_reducible first | exact ih0 _ | exact ih1 _ _ _ _ | exact LeO.refl _ | refine LeO.ite ?_ ?_ | refine LeO.bind ?_ (fun _ => ?_)
theorem impl_sizeOf.mono : ∀ a0 k, LeO (impl_sizeOf.f k a0) (impl_sizeOf.f (k + 1) a0) := by
 intro a0 k;obtain ⟨ih0, ih1⟩ := impl_sizeOf.mono_l k;exact ih0 a0
set_option maxHeartbeats 8000000 in
set_option maxRecDepth 100000 in
theorem impl_sizeOf.calls (k : Nat) : ∀ (A0 : Option Addr) (c0 : Nat) (l0 : List (S72)) (r : Int) (w : World) (hr0 : Kd.C k72 w A0 l0.length l0) (hc0 : l0.length <= c0) (h : impl_sizeOf.f k l0 = some r),
  Calls Try.prog 69 #[.slice A0 l0.length c0] w fun e w' => e = .returned (.int .i64 r) /\ Below w.heap.size w w' := by
 induction k using Nat.strongRecOn with
 | _ k ih =>
 intro A0 c0 l0 r w hr0 hc0 h
 cases k with
 | zero => exact absurd h (by simp [impl_sizeOf.f])
 | succ k =>
 simp only [impl_sizeOf.f] at h;have hu72 := Try.underlying72;have HR0 := am hr0;have HC0 := am hc0;clear hr0 hc0;have HB := am (Below.refl w.heap.size w);have H : (impl_sizeOf.l0 k 1 l0 (l0.length : Int) 0) = some r := h;clear h;have H' := am H;clear H;go_enter Try.func69, Try.ntmps69;go_wp2
 go_loopg [3, 8] k (fun kq v3 v8 w' => ∃ (x3_1 : Int) (x8_1 : Int), v3 = .int .i64 x3_1 /\ v8 = .int .i64 x8_1 /\ Aside0 (impl_sizeOf.l0 kq x3_1 l0 (l0.length : Int) x8_1 = some r) /\ Aside0 (kq <= k) /\ Aside0 (Below w.heap.size w w'))
 case atStart => exact ⟨(1), (0), (by rfl), (by rfl), H', ⟨Nat.le_refl _⟩, ⟨bm HB.out⟩⟩
 case round =>
  clear H';obtain ⟨x3_1, x8_1, rfl, rfl, HA, HK1, HB⟩ := hrel
  cases gk with
  | zero => exact absurd HA.out (by simp [impl_sizeOf.l0])
  | succ k1 =>
   have H := HA.out;clear HA;simp only [impl_sizeOf.l0] at H;by_cases c2 : x8_1 < (l0.length : Int)
   ·
    rw [if_pos c2] at H;have c2b0 : decide (x8_1 < (l0.length : Int)) = true := decide_eq_true c2;clear c2;by_cases c3 : 0 <= x8_1
    ·
     rw [if_pos c3] at H;have c3b0 : decide (0 <= x8_1) = true := decide_eq_true c3;clear c3;by_cases c4 : x8_1 < (l0.length : Int)
     ·
      rw [if_pos c4] at H;have c4b0 : decide (x8_1 < (l0.length : Int)) = true := decide_eq_true c4;clear c4;replace H := oE H;obtain ⟨t332, A5, H⟩ := H;replace H : (impl_sizeOf.l0 k1 (wrap64 (x3_1 + (wrap64 (1 + t332)))) l0 (l0.length : Int) (wrap64 (x8_1 + 1))) = some r := H;replace A5 := am A5;have H' := am H;clear H;have p330 : 0 <= (x8_1 : Int) := of_decide_eq_true (by assumption);have q330 : x8_1 < (l0.length : Int) := of_decide_eq_true (by assumption);obtain ⟨ad330, A330_1, c330_1, e330, hx330_0, hx330_1, hl330_1, hi330_1⟩ := at_T72 HR0.out x8_1 p330 q330;cases e330
      replace hx330_0 := (HB.out.cell (World.block_lt_of_cell? w _ hx330_0)).trans hx330_0;replace hx330_1 := (HB.out.cell (World.block_lt_of_cell? w _ hx330_1)).trans hx330_1;have HR330_1 := am hi330_1;have HC330_1 := am hl330_1;clear hi330_1 hl330_1;replace p330 := eq_true p330;replace q330 := eq_true q330;go_wp2_with (first | ((with_reducible refine gate_dst (N := 5) rfl ?_); refine box_event ?hg (N := 5) ?hd (cs := #[.int .i64 0, .slice none 0 0]) (t := 72) ?hr ?_; (case hd => rfl); (case hg => rfl); (case hr => (go_simp; done)); intro gb331 hg w6 hbox hb; have BK331 := am (hbox);have GW331 := am ((by rw [hg]; exact (below_size (bm HB.out)) : w.heap.size <= gb331));have GE331 := am ((by rw [hg]; exact (below_size (bm HB.out)) : w.heap.size <= gb331));replace HB := am (below_step (bm HB.out) hb); clear hb hbox hg; have hcz7_0 : w6.cell? ⟨gb331, 0, none⟩ = some (.int .i64 0) := (blk_cell BK331.out 0).trans rfl; have hcz7_1 : w6.cell? ⟨gb331, 1, none⟩ = some (.slice none 0 0) := (blk_cell BK331.out 1).trans rfl; have hfz7_0 := blk_frozen BK331.out 0; have hfz7_1 := blk_frozen BK331.out 1) | ((with_reducible refine gate_callee (f := 69) rfl ?_); refine goesL_ (some 15) rfl rfl Try.func69 (by kernel_rfl) rfl #[.slice A330_1 ((rd_T72 l0 x8_1).f1).length c330_1] rfl (by (try simp only [mA, mB, mC]); rfl) ?_; (with_reducible refine (ih k1 (by have := HK1.out; omega) _ _ ((rd_T72 l0 x8_1).f1) t332 _ ?side1 ?side2 A5.out).mono ?_); (case side1 => exact Kd.C_below HR330_1.out (by repeat ((with_reducible first | exact HB.out | refine below_set ?_ GE331.out)))); (case side2 => exact HC330_1.out); rintro e w8 ⟨rfl, hb⟩; refine ⟨_, rfl, ?_⟩; replace BK331 := am (blk_below (g := gb331) (o := .cells #[.int .i64 ((rd_T72 l0 x8_1).f0), .slice A330_1 ((rd_T72 l0 x8_1).f1).length c330_1] 72 (0, 0)) (by (with_reducible repeat (first | refine blk_drewN ?_ _ | refine blk_drew ?_ | refine blk_alloc ?_ _)); refine blk_put (cs := #[.int .i64 ((rd_T72 l0 x8_1).f0), .slice none 0 0]) ?_ 1 _ rfl; (with_reducible repeat (first | refine blk_drewN ?_ _ | refine blk_drew ?_ | refine blk_alloc ?_ _)); refine blk_put (cs := #[.int .i64 0, .slice none 0 0]) ?_ 0 _ rfl; (with_reducible repeat (first | refine blk_drewN ?_ _ | refine blk_drew ?_ | refine blk_alloc ?_ _)); exact BK331.out) hb);replace HB := am (below_step (by repeat ((with_reducible first | exact HB.out | refine below_set ?_ GE331.out))) hb); clear hb))
      go_roundg k1
      case measure => have := HK1.out; omega
      case rel => exact ⟨(wrap64 (x3_1 + (wrap64 (1 + t332)))), (wrap64 (x8_1 + 1)), (by rfl), (by rfl), H', ⟨by have := HK1.out; omega⟩, ⟨by repeat ((with_reducible exact HB.out))⟩⟩
     · rw [if_neg c4] at H;exact absurd H (by simp)
    · rw [if_neg c3] at H;exact absurd H (by simp)
   · rw [if_neg c2] at H;have c2b0 : decide (x8_1 < (l0.length : Int)) = false := decide_eq_false c2;clear c2;obtain rfl := Option.some.inj H;go_wp2;go_ret;exact ⟨by rfl, bm HB.out⟩

/-! ### impl_most: function 70 -/
mutual
def impl_most.l0 : Nat -> Int -> List (S72) -> Int -> Int -> Option (Int)
 | 0, _, _, _, _ => none
 | k + 1, x3, x6, x7, x8 => if x8 < x7 then (if 0 <= x8 then (if x8 < (x6.length : Int) then ((impl_most.f k ((rd_T72 x6 x8).f1)).bind fun t335 => (impl_most.l0 k (mx (mx x3 ((rd_T72 x6 x8).f0)) t335) x6 x7 (wrap64 (x8 + 1)))) else (none)) else (none)) else (some x3)
def impl_most.f : Nat -> List (S72) -> Option (Int)
 | 0, _ => none
 | k + 1, l0 => impl_most.l0 k 0 l0 (l0.length : Int) 0
end
theorem impl_most.mono_l : ∀ k, (∀ y0, LeO (impl_most.f k y0) (impl_most.f (k + 1) y0)) /\ (∀ y0 y1 y2 y3, LeO (impl_most.l0 k y0 y1 y2 y3) (impl_most.l0 (k + 1) y0 y1 y2 y3))
 | 0 => ⟨fun _ r h => by simp [impl_most.f] at h, fun _ _ _ _ r h => by simp [impl_most.l0] at h⟩
 | k + 1 => by
  obtain ⟨ih0, ih1⟩ := impl_most.mono_l k;refine ⟨?_, ?_⟩
  all_goals (intros; first | unfold impl_most.f | unfold impl_most.l0)
  all_goals repeat' with_reducible first | exact ih0 _ | exact ih1 _ _ _ _ | exact LeO.refl _ | refine LeO.ite ?_ ?_ | refine LeO.bind ?_ (fun _ => ?_)
theorem impl_most.mono : ∀ a0 k, LeO (impl_most.f k a0) (impl_most.f (k + 1) a0) := by
 intro a0 k;obtain ⟨ih0, ih1⟩ := impl_most.mono_l k;exact ih0 a0
def impl_most.T5 : Bool × List (List Nat × List Nat) := (true, [([], []), ([], []), ([1], [1]), ([], []), ([3], [3]), ([4], [4]), ([0, 2, 5], [0, 2, 5]), ([6, 5, 0, 1, 2, 3, 4, 5, 6], [0, 6])])
def impl_most.B5 : List Nat := [0, 0, 2, 0, 8, 24, 63, 127]
theorem impl_most.tab5 : rtab .any (opsOf Try.f70 5) = impl_most.T5 := by kernel_rfl
theorem impl_most.bits5 : waitsOk impl_most.T5.2 impl_most.B5 = true := by kernel_rfl
set_option maxHeartbeats 8000000 in
set_option maxRecDepth 100000 in
theorem impl_most.calls (k : Nat) : ∀ (A0 : Option Addr) (c0 : Nat) (l0 : List (S72)) (r : Int) (w : World) (hr0 : Kd.C k72 w A0 l0.length l0) (hc0 : l0.length <= c0) (h : impl_most.f k l0 = some r),
  Calls Try.prog 70 #[.slice A0 l0.length c0] w fun e w' => e = .returned (.int .i64 r) /\ Below w.heap.size w w' := by
 induction k using Nat.strongRecOn with
 | _ k ih =>
 intro A0 c0 l0 r w hr0 hc0 h
 cases k with
 | zero => exact absurd h (by simp [impl_most.f])
 | succ k =>
 simp only [impl_most.f] at h;have hu72 := Try.underlying72;have HR0 := am hr0;have HC0 := am hc0;clear hr0 hc0;have HB := am (Below.refl w.heap.size w);have H : (impl_most.l0 k 0 l0 (l0.length : Int) 0) = some r := h;clear h;have H' := am H;clear H;go_enter Try.func70, Try.ntmps70;go_wp2
 go_loopg [3, 8] k (fun kq v3 v8 w' => ∃ (x3_1 : Int) (x8_1 : Int), v3 = .int .i64 x3_1 /\ v8 = .int .i64 x8_1 /\ Aside0 (impl_most.l0 kq x3_1 l0 (l0.length : Int) x8_1 = some r) /\ Aside0 (kq <= k) /\ Aside0 (Below w.heap.size w w'))
 case atStart => exact ⟨(0), (0), (by rfl), (by rfl), H', ⟨Nat.le_refl _⟩, ⟨bm HB.out⟩⟩
 case round =>
  clear H';obtain ⟨x3_1, x8_1, rfl, rfl, HA, HK1, HB⟩ := hrel
  cases gk with
  | zero => exact absurd HA.out (by simp [impl_most.l0])
  | succ k1 =>
   have H := HA.out;clear HA;simp only [impl_most.l0] at H;by_cases c2 : x8_1 < (l0.length : Int)
   ·
    rw [if_pos c2] at H;have c2b0 : decide (x8_1 < (l0.length : Int)) = true := decide_eq_true c2;clear c2;by_cases c3 : 0 <= x8_1
    ·
     rw [if_pos c3] at H;have c3b0 : decide (0 <= x8_1) = true := decide_eq_true c3;clear c3;by_cases c4 : x8_1 < (l0.length : Int)
     ·
      rw [if_pos c4] at H;have c4b0 : decide (x8_1 < (l0.length : Int)) = true := decide_eq_true c4;clear c4;replace H := oE H;obtain ⟨t335, A5, H⟩ := H;replace H : (impl_most.l0 k1 (mx (mx x3_1 ((rd_T72 l0 x8_1).f0)) t335) l0 (l0.length : Int) (wrap64 (x8_1 + 1))) = some r := H;replace A5 := am A5
      obtain ⟨ji6, hji6⟩ : ∃ j_ : Int, (mx x3_1 ((rd_T72 l0 x8_1).f0)) = j_ := ⟨_, rfl⟩
      replace H : (impl_most.l0 k1 (mx (ji6) t335) l0 (l0.length : Int) (wrap64 (x8_1 + 1))) = some r := by (rw [hji6] at H; exact H)
      have hji6_ : (if x3_1 < ((rd_T72 l0 x8_1).f0) then ((rd_T72 l0 x8_1).f0) else x3_1) = ji6 := hji6
      obtain ⟨ji7, hji7⟩ : ∃ j_ : Int, (mx (ji6) t335) = j_ := ⟨_, rfl⟩
      replace H : (impl_most.l0 k1 ji7 l0 (l0.length : Int) (wrap64 (x8_1 + 1))) = some r := by (rw [hji7] at H; exact H)
      have hji7_ : (if (ji6) < t335 then t335 else (ji6)) = ji7 := hji7;have H' := am H;clear H;have p333 : 0 <= (x8_1 : Int) := of_decide_eq_true (by assumption);have q333 : x8_1 < (l0.length : Int) := of_decide_eq_true (by assumption);obtain ⟨ad333, A333_1, c333_1, e333, hx333_0, hx333_1, hl333_1, hi333_1⟩ := at_T72 HR0.out x8_1 p333 q333;cases e333
      replace hx333_0 := (HB.out.cell (World.block_lt_of_cell? w _ hx333_0)).trans hx333_0;replace hx333_1 := (HB.out.cell (World.block_lt_of_cell? w _ hx333_1)).trans hx333_1;have HR333_1 := am hi333_1;have HC333_1 := am hl333_1;clear hi333_1 hl333_1;replace p333 := eq_true p333;replace q333 := eq_true q333;go_wp2_with (((with_reducible refine gate_dst (N := 5) rfl ?_); refine box_event ?hg (N := 5) ?hd (cs := #[.int .i64 0, .slice none 0 0]) (t := 72) ?hr ?_; (case hd => rfl); (case hg => rfl); (case hr => (go_simp; done)); intro gb334 hg w8 hbox hb; have BK334 := am (hbox);have GW334 := am ((by rw [hg]; exact (below_size (bm HB.out)) : w.heap.size <= gb334));have GE334 := am ((by rw [hg]; exact (below_size (bm HB.out)) : w.heap.size <= gb334));replace HB := am (below_step (bm HB.out) hb); clear hb hbox hg; have hcz9_0 : w8.cell? ⟨gb334, 0, none⟩ = some (.int .i64 0) := (blk_cell BK334.out 0).trans rfl; have hcz9_1 : w8.cell? ⟨gb334, 1, none⟩ = some (.slice none 0 0) := (blk_cell BK334.out 1).trans rfl; have hfz9_0 := blk_frozen BK334.out 0; have hfz9_1 := blk_frozen BK334.out 1));have n0_ : Aside0 (((w8.setCell ⟨gb334, 0, none⟩ (.int .i64 ((rd_T72 l0 x8_1).f0))).setCell ⟨gb334, 1, none⟩ (.slice A333_1 ((rd_T72 l0 x8_1).f1).length c333_1)).heap[gb334]? = some (.cells #[.int .i64 ((rd_T72 l0 x8_1).f0), .slice A333_1 ((rd_T72 l0 x8_1).f1).length c333_1] 72 (0, 0))) := ⟨by (with_reducible repeat (first | refine blk_drewN ?_ _ | refine blk_drew ?_ | refine blk_alloc ?_ _)); refine blk_put (cs := #[.int .i64 ((rd_T72 l0 x8_1).f0), .slice none 0 0]) ?_ 1 _ rfl; (with_reducible repeat (first | refine blk_drewN ?_ _ | refine blk_drew ?_ | refine blk_alloc ?_ _)); refine blk_put (cs := #[.int .i64 0, .slice none 0 0]) ?_ 0 _ rfl; (with_reducible repeat (first | refine blk_drewN ?_ _ | refine blk_drew ?_ | refine blk_alloc ?_ _)); exact BK334.out⟩;have n1_ : Aside0 (Below w.heap.size w ((w8.setCell ⟨gb334, 0, none⟩ (.int .i64 ((rd_T72 l0 x8_1).f0))).setCell ⟨gb334, 1, none⟩ (.slice A333_1 ((rd_T72 l0 x8_1).f1).length c333_1))) := ⟨by repeat ((with_reducible first | exact HB.out | refine below_set ?_ GE334.out))⟩;clear BK334;clear HB;generalize ((w8.setCell ⟨gb334, 0, none⟩ (.int .i64 ((rd_T72 l0 x8_1).f0))).setCell ⟨gb334, 1, none⟩ (.slice A333_1 ((rd_T72 l0 x8_1).f1).length c333_1)) = w10 at n0_ n1_ ⊢;have BK334 := n0_;have HB := n1_;clear n0_ n1_;replace BK334 := am (blk_drew BK334.out);replace HB := am (below_drew1 HB.out);refine start_ (n := 8) (S := fun w' => w'.cell? ⟨gb334, 0, none⟩ = some (.int .i64 ((rd_T72 l0 x8_1).f0)) /\ w'.cell? ⟨gb334, 1, none⟩ = some (.slice A333_1 ((rd_T72 l0 x8_1).f1).length c333_1)) (ds := []) #[false, false, false, false, false, false, false, false] (by kernel_rfl) rfl rfl ⟨(blk_cell BK334.out 0).trans rfl, (blk_cell BK334.out 1).trans rfl⟩ (fun hHeld => ?_); refine with_tabW impl_most.tab5 impl_most.bits5 (fun HT_ HW_ => ?_);generalize w10.drew = w11 at BK334 HB hHeld ⊢;refine pure_ (i := 0) (N := some 12) (v := ?_) (a' := ?_) #[true, false, false, false, false, false, false, false] rfl rfl (any_of HT_.out (by kernel_rfl)) (fun _ _ _ h => h) (Or.inl ⟨by rfl, ?_⟩) ?_ ?_;rotate_left;(intro w';go_simp;with_reducible rfl);rotate_left;(simp only [Act.put, sA, sB, sC, i64_w, i32_w];rfl);refine pure_ (i := 1) (N := some 13) (v := ?_) (a' := ?_) #[true, true, false, false, false, false, false, false] rfl rfl (any_of HT_.out (by kernel_rfl)) (fun _ _ _ h => h) (Or.inl ⟨by rfl, ?_⟩) ?_ ?_;rotate_left;(intro w';go_simp;with_reducible rfl);rotate_left;(simp only [Act.put, sA, sB, sC, i64_w, i32_w];rfl);refine pure_ (i := 3) (N := some 15) (v := ?_) (a' := ?_) #[true, true, false, true, false, false, false, false] rfl rfl (any_of HT_.out (by kernel_rfl)) (fun _ _ _ h => h) (Or.inl ⟨by rfl, ?_⟩) ?_ ?_;rotate_left;(intro w';go_simp;with_reducible rfl);rotate_left;(simp only [Act.put, sA, sB, sC, i64_w, i32_w];rfl)
      refine take_ (i := 2) (N := some 14) (v := ?_) (a' := ?_) #[true, true, true, true, false, false, false, false] rfl rfl (take_ofW HT_.out HW_.out (by kernel_rfl)) (fun _ _ _ h => h) (Or.inl ⟨by rfl, ?_⟩) hHeld ?_ ?_;rotate_left
      ·
       rintro w' ⟨s0, s1⟩
       go_simp;with_reducible rfl
      rotate_left
      · simp only [Act.put, sA, sB, sC, i64_w, i32_w];rfl
      refine take_ (i := 4) (N := some 16) (v := ?_) (a' := ?_) #[true, true, true, true, true, false, false, false] rfl rfl (take_ofW HT_.out HW_.out (by kernel_rfl)) (fun _ _ _ h => h) (Or.inl ⟨by rfl, ?_⟩) hHeld ?_ ?_;rotate_left
      ·
       rintro w' ⟨s0, s1⟩
       go_simp;with_reducible rfl
      rotate_left
      · simp only [Act.put, sA, sB, sC, i64_w, i32_w];rfl
      refine one_ (i := 5) (N := some 17) #[true, true, true, true, true, true, false, false] rfl rfl (one_of HT_.out (by kernel_rfl)) (by decide) (fun K hK => ?_);refine goes_ Try.func70 (by kernel_rfl) rfl #[.slice A333_1 ((rd_T72 l0 x8_1).f1).length c333_1] (by rfl) rfl rfl (by (try simp only [mA, mB, mC]); rfl) ?_
      with_reducible refine (ih k1 (by have := HK1.out; omega) _ _ ((rd_T72 l0 x8_1).f1) t335 _ ?side1 ?side2 A5.out).mono ?_
      (case side1 => exact Kd.cm ((Kd.C_below HR333_1.out HB.out)));(case side2 => exact HC333_1.out)
      rintro e w12 ⟨rfl, hb⟩
      refine ⟨_, rfl, ?_⟩;replace BK334 := am (blk_below (g := gb334) (o := .cells #[.int .i64 ((rd_T72 l0 x8_1).f0), .slice A333_1 ((rd_T72 l0 x8_1).f1).length c333_1] 72 (0, 0)) (by (with_reducible repeat (first | refine blk_drewN ?_ _ | refine blk_drew ?_ | refine blk_alloc ?_ _)); exact BK334.out) hb);replace HB := am (below_step (by repeat ((with_reducible exact HB.out))) hb);clear hb;refine hK.out _ _ ⟨(blk_cell BK334.out 0).trans rfl, (blk_cell BK334.out 1).trans rfl⟩ (fun hHeld => ?_);clear hK K;refine norm_ (a' := ?_) ?_ ?_;rotate_left
      ·
       show Act.put _ (some 17) _ = _
       simp only [Act.put, sA, sB, sC, i64_w, i32_w];rfl
      refine pure_ (i := 6) (N := some 18) (v := ?_) (a' := ?_) #[true, true, true, true, true, true, true, false] rfl rfl (any_of HT_.out (by kernel_rfl)) (fun _ _ _ h => h) (Or.inl ⟨by rfl, ?_⟩) ?_ ?_;rotate_left;(intro w';go_simp;with_reducible rfl);rotate_left;(simp only [Act.put, sA, sB, sC, i64_w, i32_w];rfl);refine pure_ (i := 7) (N := some 3) (v := ?_) (a' := ?_) #[true, true, true, true, true, true, true, true] rfl rfl (any_of HT_.out (by kernel_rfl)) (fun _ _ _ h => h) (Or.inl ⟨by rfl, ?_⟩) ?_ ?_;rotate_left;(intro w';go_simp;with_reducible rfl);rotate_left;(simp only [Act.put, sA, sB, sC, i64_w, i32_w];rfl)
      refine done_ (done_of HT_.out (by kernel_rfl)) ?_;go_wp2
      go_roundg k1
      case measure => have := HK1.out; omega
      case rel => exact ⟨(ji7), (wrap64 (x8_1 + 1)), (by rfl), (by rfl), H', ⟨by have := HK1.out; omega⟩, ⟨by repeat ((with_reducible exact HB.out))⟩⟩
     · rw [if_neg c4] at H;exact absurd H (by simp)
    · rw [if_neg c3] at H;exact absurd H (by simp)
   · rw [if_neg c2] at H;have c2b0 : decide (x8_1 < (l0.length : Int)) = false := decide_eq_false c2;clear c2;obtain rfl := Option.some.inj H;go_wp2;go_ret;exact ⟨by rfl, bm HB.out⟩

end Go.Proofs.Ytahhdbjjfdjloaa.Jf

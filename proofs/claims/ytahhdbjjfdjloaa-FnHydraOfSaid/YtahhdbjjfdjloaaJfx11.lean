-- half
-- Written by a program of this session's (wip/mp) out of the translation, over the kit's print with changes.
import Derived.Test.YtahhdbjjfdjloaaJfx0
import Derived.Test.YtahhdbjjfdjloaaJfx8
import Derived.Test.YtahhdbjjfdjloaaJfx9
import Derived.Test.YtahhdbjjfdjloaaJfx10
namespace Go.Proofs.Ytahhdbjjfdjloaa.Jf
open Go.RowKit Go.Proofs.YtahhdbjjfdjloaaW.PrintWords Go.Proofs.YtahhdbjjfdjloaaW.PrintLast Go.Proofs.YtahhdbjjfdjloaaW.PrintMore
attribute [local go_sem] max2_int min2_int max_two min_two max_three min_three max_four min_four   -- for this text's walks alone
set_option linter.unusedVariables false
set_option linter.unusedSimpArgs false

/-! ### impl_power: function 73 -/
def impl_power.f (l0 : List (S72)) : Option ((List (S72))) := some (([(⟨1, l0⟩ : S72)] : List (S72)))
set_option maxHeartbeats 8000000 in
set_option maxRecDepth 100000 in
theorem impl_power.calls (P0_ : Nat -> Prop) (A0 : Option Addr) (c0 : Nat) (l0 : List (S72)) (r : List (S72)) (w : World) (hs0 : Kd.V k72 72 w w.heap.size (fun k_ => P0_ k_) (.slice A0 l0.length c0) l0) (h : impl_power.f l0 = some r) :
  Calls Try.prog 73 #[.slice A0 l0.length c0] w fun e w' => ∃ v0_ : Value, e = .returned (v0_) /\ Kd.N k72 72 w' w.heap.size (fun k_ => (P0_ k_ \/ w.heap.size <= k_)) v0_ r /\ Below w.heap.size w w' := by
 have hu72 := Try.underlying72;have HO0 := am (show Kd.V k72 72 w w.heap.size (fun k_ => (P0_ k_ \/ w.heap.size <= k_)) (.slice A0 l0.length c0) l0 from Kd.V_mono hs0 (fun k_ hk => .inl hk));have HB := am (Below.refl w.heap.size w);have H : (some (([(⟨1, l0⟩ : S72)] : List (S72)))) = some r := h;clear h
 obtain ⟨y404, hy404⟩ : ∃ y_ : List (S72), y_ = (([(⟨1, l0⟩ : S72)] : List (S72))) := ⟨_, rfl⟩
 replace H : (some y404) = some r := by (rw [hy404]; with_reducible exact H)
 replace hy404 := am hy404;obtain rfl := Option.some.inj H;go_enter Try.func73, Try.ntmps73;go_wp2_with (((with_reducible refine gate_dst (N := 5) rfl ?_); refine Kd.N_lit k72 _ 72 ?hg (N' := 5) ?hd (xs := ([(⟨1, l0⟩ : S72)] : List (S72))) (inner := [.int .i64 1, .slice A0 l0.length c0]) (ok := (fun k_ => (P0_ k_ \/ w.heap.size <= k_))) (okp := (fun k_ => (P0_ k_ \/ w.heap.size <= k_))) ?hr ?hp (fun _ hk => hk) ((show ∀ k_, w.heap.size <= k_ -> (fun k_ => (P0_ k_ \/ w.heap.size <= k_)) k_ from fun k_ hk => (.inr (Nat.le_trans (below_size (bm HB.out)) hk))) _ (Nat.le_refl _)) (Below.refl _ _) (Nat.le_refl _) (by simp) ?_; (case hd => rfl); (case hg => rfl); (case hr => (go_simp; done)); (case hp => exact (Reps.c2 (show Kd.FK k72 _ _ (⟨1, l0⟩ : S72) [.int .i64 1, .slice A0 l0.length c0] from (k72_mkF _ _ (⟨1, l0⟩ : S72) (Kd.V_reads' (Kd.V_mono (ok' := (fun k_ => (P0_ k_ \/ w.heap.size <= k_))) (HO0.out) (fun k_ hk => hk))).2.1 (Kd.V_F (Kd.V_mono (ok' := (fun k_ => (P0_ k_ \/ w.heap.size <= k_))) (HO0.out) (fun k_ hk => hk))))) (Reps.none _ _))); intro v405 w2 ho3 hb hg_ hnew_; clear hg_ hnew_; (rw [<- hy404.out] at ho3); replace HO0 := am (Kd.V_elder' (Kd.vm HO0.out) (Kd.N_base ho3) hb);have HO406 := am (Kd.N_lower ho3 (below_size (bm HB.out)));replace HB := am (below_step (bm HB.out) hb); clear hb ho3));go_ret;exact ⟨_, by rfl, Kd.nm HO406.out, bm HB.out⟩

/-! ### impl_hydra_ord: function 45 -/
mutual
def impl_hydra_ord.l0 : Nat -> List (S72) -> List (S46) -> Int -> Int -> Option ((List (S72)))
 | 0, _, _, _, _ => none
 | k + 1, x3, x7, x8, x9 => if x9 < x8 then (if 0 <= x9 then (if x9 < (x7.length : Int) then ((impl_hydra_ord.f k ((rd_T46 x7 x9).f0)).bind fun t411 => ((impl_power.f t411).bind fun t414 => ((impl_natural.f k x3 t414).bind fun t417 => (impl_hydra_ord.l0 k t417 x7 x8 (wrap64 (x9 + 1)))))) else (none)) else (none)) else (some x3)
def impl_hydra_ord.f : Nat -> List (S46) -> Option ((List (S72)))
 | 0, _ => none
 | k + 1, l0 => impl_hydra_ord.l0 k (([] : List (S72))) l0 (l0.length : Int) 0
end
theorem impl_hydra_ord.mono_l : ∀ k, (∀ y0, LeO (impl_hydra_ord.f k y0) (impl_hydra_ord.f (k + 1) y0)) /\ (∀ y0 y1 y2 y3, LeO (impl_hydra_ord.l0 k y0 y1 y2 y3) (impl_hydra_ord.l0 (k + 1) y0 y1 y2 y3))
 | 0 => ⟨fun _ r h => by simp [impl_hydra_ord.f] at h, fun _ _ _ _ r h => by simp [impl_hydra_ord.l0] at h⟩
 | k + 1 => by
  obtain ⟨ih0, ih1⟩ := impl_hydra_ord.mono_l k;refine ⟨?_, ?_⟩
  all_goals (intros; first | unfold impl_hydra_ord.f | unfold impl_hydra_ord.l0)
  all_goals repeat' with_reducible first | exact ih0 _ | exact ih1 _ _ _ _ | exact impl_natural.mono _ _ _ | exact LeO.refl _ | refine LeO.ite ?_ ?_ | refine LeO.bind ?_ (fun _ => ?_)
theorem impl_hydra_ord.mono : ∀ a0 k, LeO (impl_hydra_ord.f k a0) (impl_hydra_ord.f (k + 1) a0) := by
 intro a0 k;obtain ⟨ih0, ih1⟩ := impl_hydra_ord.mono_l k;exact ih0 a0
set_option maxHeartbeats 8000000 in
set_option maxRecDepth 100000 in
theorem impl_hydra_ord.calls (k : Nat) : ∀ (A0 : Option Addr) (c0 : Nat) (l0 : List (S46)) (r : List (S72)) (w : World) (hr0 : Kd.C k46 w A0 l0.length l0) (hc0 : l0.length <= c0) (h : impl_hydra_ord.f k l0 = some r),
  Calls Try.prog 45 #[.slice A0 l0.length c0] w fun e w' => ∃ v0_ : Value, e = .returned (v0_) /\ Kd.N k72 72 w' w.heap.size (fun k_ => (w.heap.size <= k_)) v0_ r /\ Below w.heap.size w w' := by
 induction k using Nat.strongRecOn with
 | _ k ih =>
 intro A0 c0 l0 r w hr0 hc0 h
 cases k with
 | zero => exact absurd h (by simp [impl_hydra_ord.f])
 | succ k =>
 simp only [impl_hydra_ord.f] at h;have HR0 := am hr0;have HC0 := am hc0;clear hr0 hc0;have HB := am (Below.refl w.heap.size w);have H : (impl_hydra_ord.l0 k (([] : List (S72))) l0 (l0.length : Int) 0) = some r := h;clear h
 obtain ⟨y407, hy407⟩ : ∃ y_ : List (S72), y_ = (([] : List (S72))) := ⟨_, rfl⟩
 replace H : (impl_hydra_ord.l0 k y407 l0 (l0.length : Int) 0) = some r := by (rw [hy407]; with_reducible exact H)
 replace hy407 := am hy407;have H' := am H;clear H;go_enter Try.func45, Try.ntmps45;go_wp2_with (((with_reducible refine gate_dst (N := 6) rfl ?_); refine Kd.N_lit k72 _ 72 ?hg (N' := 6) ?hd (xs := ([] : List (S72))) (inner := []) (ok := (fun k_ => (w.heap.size <= k_))) (okp := (fun k_ => (w.heap.size <= k_))) ?hr ?hp (fun _ hk => hk) ((show ∀ k_, w.heap.size <= k_ -> (fun k_ => (w.heap.size <= k_)) k_ from fun k_ hk => (Nat.le_trans (below_size (bm HB.out)) hk)) _ (Nat.le_refl _)) (Below.refl _ _) (Nat.le_refl _) (by simp) ?_; (case hd => rfl); (case hg => rfl); (case hr => (go_simp; done)); (case hp => exact (Reps.none _ _)); intro v408 w2 ho3 hb hg_ hnew_; clear hg_ hnew_; (rw [<- hy407.out] at ho3); have HO409 := am (Kd.N_lower ho3 (below_size (bm HB.out)));replace HB := am (below_step (bm HB.out) hb); clear hb ho3))
 go_loopg [3, 9] k (fun kq v3 v9 w' => ∃ (x3_1 : List (S72)) (x9_1 : Int), v9 = .int .i64 x9_1 /\ Aside0 (impl_hydra_ord.l0 kq x3_1 l0 (l0.length : Int) x9_1 = some r) /\ Aside0 (kq <= k) /\ Aside0 (Kd.N k72 72 w' w.heap.size (fun k_ => (w.heap.size <= k_)) v3 x3_1) /\ Aside0 (Below w.heap.size w w'))
 case atStart => exact ⟨(y407), (0), (by rfl), H', ⟨Nat.le_refl _⟩, ⟨Kd.nm HO409.out⟩, ⟨bm HB.out⟩⟩
 case round =>
  clear H';clear HB;obtain ⟨x3_1, x9_1, rfl, HA, HK1, HO_3, HB⟩ := hrel
  cases gk with
  | zero => exact absurd HA.out (by simp [impl_hydra_ord.l0])
  | succ k1 =>
   have H := HA.out;clear HA;simp only [impl_hydra_ord.l0] at H;by_cases c4 : x9_1 < (l0.length : Int)
   ·
    rw [if_pos c4] at H;have c4b0 : decide (x9_1 < (l0.length : Int)) = true := decide_eq_true c4;clear c4;by_cases c5 : 0 <= x9_1
    ·
     rw [if_pos c5] at H;have c5b0 : decide (0 <= x9_1) = true := decide_eq_true c5;clear c5;by_cases c6 : x9_1 < (l0.length : Int)
     ·
      rw [if_pos c6] at H;have c6b0 : decide (x9_1 < (l0.length : Int)) = true := decide_eq_true c6;clear c6;replace H := oE H;obtain ⟨t411, A7, H⟩ := H;replace H : ((impl_power.f t411).bind fun t414 => ((impl_natural.f k1 x3_1 t414).bind fun t417 => (impl_hydra_ord.l0 k1 t417 l0 (l0.length : Int) (wrap64 (x9_1 + 1))))) = some r := H;replace A7 := am A7;replace H := oE H;obtain ⟨t414, A8, H⟩ := H;replace H : ((impl_natural.f k1 x3_1 t414).bind fun t417 => (impl_hydra_ord.l0 k1 t417 l0 (l0.length : Int) (wrap64 (x9_1 + 1)))) = some r := H;replace A8 := am A8;replace H := oE H;obtain ⟨t417, A9, H⟩ := H;replace H : (impl_hydra_ord.l0 k1 t417 l0 (l0.length : Int) (wrap64 (x9_1 + 1))) = some r := H;replace A9 := am A9;have H' := am H;clear H;have p410 : 0 <= (x9_1 : Int) := of_decide_eq_true (by assumption);have q410 : x9_1 < (l0.length : Int) := of_decide_eq_true (by assumption);obtain ⟨ad410, A410_0, c410_0, e410, hx410_0, hl410_0, hi410_0⟩ := at_T46 HR0.out x9_1 p410 q410;cases e410
      replace hx410_0 := (HB.out.cell (World.block_lt_of_cell? w _ hx410_0)).trans hx410_0;have HR410_0 := am hi410_0;have HC410_0 := am hl410_0;clear hi410_0 hl410_0;replace p410 := eq_true p410;replace q410 := eq_true q410;go_wp2_with (first | ((with_reducible refine gate_callee (f := 45) rfl ?_); refine goesL_ (some 15) rfl rfl Try.func45 (by kernel_rfl) rfl #[.slice A410_0 ((rd_T46 l0 x9_1).f0).length c410_0] rfl (by (try simp only [mA, mB, mC]); rfl) ?_; (with_reducible refine (ih k1 (by have := HK1.out; omega) _ _ ((rd_T46 l0 x9_1).f0) t411 _ ?side1 ?side2 A7.out).mono ?_); (case side1 => exact Kd.cm ((Kd.C_below HR410_0.out HB.out))); (case side2 => exact HC410_0.out); rintro e w10 ⟨v412, rfl, ho0, hb⟩; refine ⟨_, rfl, ?_⟩; have HO413 := am (Kd.N_lower (Kd.N_mono (ok' := fun k_ => (w.heap.size <= k_) /\ some k_ ≠ (u3 : Value).ownBlock) ho0 (fun k_ hk_ => ⟨(Nat.le_trans (below_size (bm HB.out)) hk_), (Kd.fresh' (Kd.N_lt (Kd.nm HO_3.out)) k_ hk_)⟩)) (below_size (bm HB.out)));replace HO_3 := am (Kd.N_elder' (Kd.nm HO_3.out) (Kd.N_base ho0) hb);replace HB := am (below_step (bm HB.out) hb); clear hb; clear ho0; obtain ⟨Ao11, co11, eo11⟩ := Kd.N_slice HO413.out; subst eo11) | ((with_reducible refine gate_callee (f := 73) rfl ?_); refine goesL_ (some 16) rfl rfl Try.func73 (by kernel_rfl) rfl #[.slice Ao11 t411.length co11] rfl (by (try simp only [mA, mB, mC]); rfl) ?_; (with_reducible refine (impl_power.calls (fun k_ => ((w.heap.size <= k_) /\ some k_ ≠ (u3 : Value).ownBlock)) _ _ t411 t414 _ ?side1 A8.out).mono ?_); (case side1 => exact Kd.N_V (HO413.out)); rintro e w12 ⟨v415, rfl, ho0, hb⟩; refine ⟨_, rfl, ?_⟩; replace HO413 := am (Kd.N_elder' (Kd.nm HO413.out) (Kd.N_base ho0) hb);have HO416 := am (Kd.N_lower (Kd.N_mono (ok' := fun k_ => (w.heap.size <= k_) /\ some k_ ≠ (u3 : Value).ownBlock) ho0 (fun k_ hk_ => ⟨Or.elim hk_ (fun hs_ => hs_.1) (fun hn_ => (Nat.le_trans (below_size (bm HB.out)) hn_)), Or.elim hk_ (fun hs_ => hs_.2) (fun hn_ => (Kd.fresh' (Kd.N_lt (Kd.nm HO_3.out)) k_ hn_))⟩)) (below_size (bm HB.out)));replace HO_3 := am (Kd.N_elder' (Kd.nm HO_3.out) (Kd.N_base ho0) hb);replace HB := am (below_step (bm HB.out) hb); clear hb; clear ho0; obtain ⟨Ao13, co13, eo13⟩ := Kd.N_slice HO_3.out; subst eo13; obtain ⟨Ao14, co14, eo14⟩ := Kd.N_slice HO416.out; subst eo14) | ((with_reducible refine gate_callee (f := 72) rfl ?_); refine goesL_ (some 17) rfl rfl Try.func72 (by kernel_rfl) rfl #[.slice Ao13 x3_1.length co13, .slice Ao14 t414.length co14] rfl (by (try simp only [mA, mB, mC]); rfl) ?_; (with_reducible refine (impl_natural.calls k1 (fun k_ => (((w.heap.size <= k_) /\ some k_ ≠ (.slice Ao11 t411.length co11 : Value).ownBlock) /\ some k_ ≠ (.slice Ao14 t414.length co14 : Value).ownBlock)) _ _ x3_1 (fun k_ => ((w.heap.size <= k_) /\ some k_ ≠ (.slice Ao13 x3_1.length co13 : Value).ownBlock)) _ _ t414 t417 _ ?side1 ?side2 A9.out).mono ?_); (case side1 => exact Kd.N_V (HO_3.out)); (case side2 => exact Kd.N_V (HO416.out)); rintro e w15 ⟨v418, rfl, ho0, hb⟩; refine ⟨_, rfl, ?_⟩; replace HO_3 := am (Kd.N_elder' (Kd.nm HO_3.out) (Kd.N_base ho0) hb);replace HO413 := am (Kd.N_elder' (Kd.nm HO413.out) (Kd.N_base ho0) hb);replace HO416 := am (Kd.N_elder' (Kd.nm HO416.out) (Kd.N_base ho0) hb);have HO419 := am (Kd.N_lower (Kd.N_mono (ok' := fun k_ => (w.heap.size <= k_)) ho0 (fun k_ hk_ => Or.elim hk_ (fun hs_ => Or.elim hs_ (fun hs_ => hs_.1.1) (fun hs_ => hs_.1)) (fun hn_ => (Nat.le_trans (below_size (bm HB.out)) hn_)))) (below_size (bm HB.out)));replace HB := am (below_step (bm HB.out) hb); clear hb; clear ho0))
      go_roundg k1
      case measure => have := HK1.out; omega
      case rel => exact ⟨(t417), (wrap64 (x9_1 + 1)), (by rfl), H', ⟨by have := HK1.out; omega⟩, ⟨Kd.nm HO419.out⟩, ⟨bm HB.out⟩⟩
     · rw [if_neg c6] at H;exact absurd H (by simp)
    · rw [if_neg c5] at H;exact absurd H (by simp)
   · rw [if_neg c4] at H;have c4b0 : decide (x9_1 < (l0.length : Int)) = false := decide_eq_false c4;clear c4;obtain rfl := Option.some.inj H;go_wp2;go_ret;exact ⟨_, by rfl, Kd.nm HO_3.out, bm HB.out⟩

/-! ### impl_HydraOrd: function 18 -/
def impl_HydraOrd.f (k : Nat) (l0 : List Int) : Option (List Int × Bool) := (impl_hydraOf.f k l0).bind fun bt420 => (if bt420.2 = true then ((impl_hydra_ord.f k bt420.1).bind fun t424 => ((impl_told.f k t424).bind fun bt427 => (some (bt427.1, bt427.2)))) else (some (([] : List Int), false)))
theorem impl_HydraOrd.mono : ∀ a0 k, LeO (impl_HydraOrd.f k a0) (impl_HydraOrd.f (k + 1) a0) := by
 intro a0 k;unfold impl_HydraOrd.f
 repeat' with_reducible first | exact impl_hydraOf.mono _ _ | exact impl_hydra_ord.mono _ _ | exact impl_told.mono _ _ | exact LeO.refl _ | refine LeO.ite ?_ ?_ | refine LeO.bind ?_ (fun _ => ?_)
set_option maxHeartbeats 8000000 in
set_option maxRecDepth 100000 in
theorem impl_HydraOrd.calls (k : Nat) (A0 : Option Addr) (c0 : Nat) (l0 : List Int) (r1 : List Int) (r2 : Bool) (w : World) (hr0 : Kd.C (Kd.int .i64) w A0 l0.length l0) (hc0 : l0.length <= c0) (h : impl_HydraOrd.f k l0 = some (r1, r2)) :
  Calls Try.prog 18 #[.slice A0 l0.length c0] w fun e w' => ∃ v0_ : Value, e = .returned (.tuple #[v0_, .bool r2]) /\ Kd.Y (Kd.int .i64) 3 w' w.heap.size (fun _ => True) v0_ r1 /\ Below w.heap.size w w' := by
 have HR0 := am hr0;have HC0 := am hc0;clear hr0 hc0;have HB := am (Below.refl w.heap.size w);have H : ((impl_hydraOf.f k l0).bind fun bt420 => (if bt420.2 = true then ((impl_hydra_ord.f k bt420.1).bind fun t424 => ((impl_told.f k t424).bind fun bt427 => (some (bt427.1, bt427.2)))) else (some (([] : List Int), false)))) = some (r1, r2) := h;clear h;replace H := oE H;obtain ⟨⟨t420, t421⟩, A2, H⟩ := H;replace H : (if t421 = true then ((impl_hydra_ord.f k t420).bind fun t424 => ((impl_told.f k t424).bind fun bt427 => (some (bt427.1, bt427.2)))) else (some (([] : List Int), false))) = some (r1, r2) := H;replace A2 := am A2;by_cases c3 : t421 = true
 ·
  subst c3
  have H1 : ((impl_hydra_ord.f k t420).bind fun t424 => ((impl_told.f k t424).bind fun bt427 => (some (bt427.1, bt427.2)))) = some (r1, r2) := by rw [if_pos rfl] at H; exact H
  clear H;have H := H1;clear H1;replace H := oE H;obtain ⟨t424, A4, H⟩ := H;replace H : ((impl_told.f k t424).bind fun bt427 => (some (bt427.1, bt427.2))) = some (r1, r2) := H;replace A4 := am A4;replace H := oE H;obtain ⟨⟨t427, t428⟩, A5, H⟩ := H;replace H : (some (t427, t428)) = some (r1, r2) := H;replace A5 := am A5;simp only [Option.some.injEq, Prod.mk.injEq] at H;obtain ⟨rfl, rfl⟩ := H;go_enter Try.func18, Try.ntmps18;go_wp2_with (first | ((with_reducible refine gate_callee (f := 43) rfl ?_); refine goesL_ (some 8) rfl rfl Try.func43 (by kernel_rfl) rfl #[.slice A0 l0.length c0] rfl (by (try simp only [mA, mB, mC]); rfl) ?_; (with_reducible refine (impl_hydraOf.calls k _ _ l0 t420 true _ ?side1 ?side2 A2.out).mono ?_); (case side1 => exact Kd.cm HR0.out); (case side2 => exact HC0.out); rintro e w6 ⟨v422, rfl, ho0, hb⟩; refine ⟨_, rfl, ?_⟩; have HO423 := am (Kd.N_lower (Kd.N_mono (ok' := fun k_ => True) (Kd.R_N (Kd.R_bound ho0)) (fun k_ hk_ => trivial)) (below_size (bm HB.out)));replace HB := am (below_step (bm HB.out) hb); clear hb; clear ho0; obtain ⟨Ao7, co7, eo7⟩ := Kd.N_slice HO423.out; subst eo7) | ((with_reducible refine gate_callee (f := 45) rfl ?_); refine goesL_ (some 14) rfl rfl Try.func45 (by kernel_rfl) rfl #[.slice Ao7 t420.length co7] rfl (by (try simp only [mA, mB, mC]); rfl) ?_; (with_reducible refine (impl_hydra_ord.calls k _ _ t420 t424 _ ?side1 ?side2 A4.out).mono ?_); (case side1 => exact Kd.cm ((Kd.N_reads' HO423.out).2.2)); (case side2 => exact (Kd.N_reads' HO423.out).2.1); rintro e w8 ⟨v425, rfl, ho0, hb⟩; refine ⟨_, rfl, ?_⟩; have HO426 := am (Kd.N_lower (Kd.N_mono (ok' := fun k_ => some k_ ≠ (.slice Ao7 t420.length co7 : Value).ownBlock) ho0 (fun k_ hk_ => (Kd.fresh' (Kd.N_lt (Kd.nm HO423.out)) k_ hk_))) (below_size (bm HB.out)));replace HO423 := am (Kd.N_elder' (Kd.nm HO423.out) (Kd.N_base ho0) hb);replace HB := am (below_step (bm HB.out) hb); clear hb; clear ho0; obtain ⟨Ao9, co9, eo9⟩ := Kd.N_slice HO426.out; subst eo9) | ((with_reducible refine gate_callee (f := 44) rfl ?_); refine goesL_ (some 15) rfl rfl Try.func44 (by kernel_rfl) rfl #[.slice Ao9 t424.length co9] rfl (by (try simp only [mA, mB, mC]); rfl) ?_; (with_reducible refine (impl_told.calls k _ _ t424 t427 t428 _ ?side1 ?side2 A5.out).mono ?_); (case side1 => exact Kd.cm ((Kd.N_reads' HO426.out).2.2)); (case side2 => exact (Kd.N_reads' HO426.out).2.1); rintro e w10 ⟨v429, rfl, ⟨ho0, hz_⟩, hb⟩; refine ⟨_, rfl, ?_⟩; replace HO423 := am (Kd.N_elder' (Kd.nm HO423.out) (Kd.Y_base ho0) hb);replace HO426 := am (Kd.N_elder' (Kd.nm HO426.out) (Kd.Y_base ho0) hb);have HO430 := am (Kd.Y_lower ho0 (below_size (bm HB.out)));replace HB := am (below_step (bm HB.out) hb); clear hb; clear ho0));go_ret2;exact ⟨_, by rfl, Kd.ym HO430.out, bm HB.out⟩
 ·
  replace c3 := Bool.eq_false_iff.mpr c3;subst c3
  have H1 : (some (([] : List Int), false)) = some (r1, r2) := by rw [if_neg (show ¬ (false = true) by decide)] at H; exact H
  clear H;have H := H1;clear H1;simp only [Option.some.injEq, Prod.mk.injEq] at H;obtain ⟨rfl, rfl⟩ := H;go_enter Try.func18, Try.ntmps18;go_wp2_with (((with_reducible refine gate_callee (f := 43) rfl ?_); refine goesL_ (some 8) rfl rfl Try.func43 (by kernel_rfl) rfl #[.slice A0 l0.length c0] rfl (by (try simp only [mA, mB, mC]); rfl) ?_; (with_reducible refine (impl_hydraOf.calls k _ _ l0 t420 false _ ?side1 ?side2 A2.out).mono ?_); (case side1 => exact Kd.cm HR0.out); (case side2 => exact HC0.out); rintro e w11 ⟨v422, rfl, ho0, hb⟩; refine ⟨_, rfl, ?_⟩; have HO423 := am (Kd.N_lower (Kd.N_mono (ok' := fun k_ => True) (Kd.R_N (Kd.R_bound ho0)) (fun k_ hk_ => trivial)) (below_size (bm HB.out)));replace HB := am (below_step (bm HB.out) hb); clear hb; clear ho0));go_ret2;exact ⟨_, by rfl, Kd.Y_of_R (by exact Kd.R_nil _ _ _ _ _), bm HB.out⟩

/-- A state of type 81 at block g of W; what its slices lead to came in by w0. -/
def IsS81 (w0 W : World) (g : Nat) (f0 : List Int) (f1 : Int) : Prop := ∃ A0 c0, W.heap[g]? = some (.cells #[.slice A0 f0.length c0, .int .i64 f1] 81 (0, 0)) /\ w0.heap.size <= g /\ Kd.C (Kd.int .u8) w0 A0 f0.length f0
theorem IsS81.grown {w0 W : World} {g : Nat} {f0 : List Int} {f1 : Int} {W1 : World} {row : Option Nat} (h : IsS81 w0 W g f0 f1) (hw : W.grownBy W1 row) (hne : some g ≠ row) : IsS81 w0 W1 g f0 f1 := by
 obtain ⟨A0, c0, hb, hg, hr0⟩ := h;exact ⟨A0, c0, blk_grown hb hw hne, hg, hr0⟩
theorem IsS81.own_neN {w0 W : World} {g : Nat} {f0 : List Int} {f1 : Int} {α : Type} {d : Kd α} {e : Nat} {base : Nat} {ok : Nat -> Prop} {v : Value} {xs : List α} (h : IsS81 w0 W g f0 f1) (ho : Kd.N d e W base ok v xs) (ht : e ≠ 81) : some g ≠ v.ownBlock := by
 obtain ⟨A0, c0, hb, hg, hr0⟩ := h;exact Kd.N_ne ho hb ht
theorem IsS81.fresh {w0 W : World} {g : Nat} {f0 : List Int} {f1 : Int} (h : IsS81 w0 W g f0 f1) : ∀ k, W.heap.size <= k -> k ≠ g := by
 obtain ⟨A0, c0, hb, hg, hr0⟩ := h;exact Kd.freshB hb
theorem IsS81.kept {w0 W : World} {g : Nat} {f0 : List Int} {f1 : Int} {W1 : World} {S : Nat -> Prop} (h : IsS81 w0 W g f0 f1) (hk : Kept W W1 S) (hne : ¬ S g) : IsS81 w0 W1 g f0 f1 := by
 obtain ⟨A0, c0, hb, hg, hr0⟩ := h;exact ⟨A0, c0, blk_kept hb hk hne, hg, hr0⟩
theorem IsS81.below {w0 W : World} {g : Nat} {f0 : List Int} {f1 : Int} {W1 : World} (h : IsS81 w0 W g f0 f1) (hw : Below W.heap.size W W1) : IsS81 w0 W1 g f0 f1 := h.grown (grown_of_below hw none) (by simp)
theorem IsS81.alloc {w0 W : World} {g : Nat} {f0 : List Int} {f1 : Int} (h : IsS81 w0 W g f0 f1) (o : Obj) : IsS81 w0 (W.alloc o) g f0 f1 := h.below (below_alloc (Below.refl _ _) o)
theorem IsS81.drewN {w0 W : World} {g : Nat} {f0 : List Int} {f1 : Int} (h : IsS81 w0 W g f0 f1) (m : Nat) : IsS81 w0 (W.drewN m) g f0 f1 := h
theorem IsS81.drew {w0 W : World} {g : Nat} {f0 : List Int} {f1 : Int} (h : IsS81 w0 W g f0 f1) : IsS81 w0 W.drew g f0 f1 := h
theorem IsS81.at_ {w0 W : World} {g : Nat} {f0 : List Int} {f1 : Int} {w' : World} {m : Nat} (hq : W.drewN m = w') (h : IsS81 w0 W g f0 f1) : IsS81 w0 w' g f0 f1 := by subst hq; exact IsS81.drewN h m
theorem IsS81.apart {w0 W : World} {g : Nat} {f0 : List Int} {f1 : Int} {α : Type} {d : Kd α} {e : Nat} {base : Nat} {ok : Nat -> Prop} {v : Value} {xs : List α} (h : IsS81 w0 W g f0 f1) (ho : d.R e W base ok v xs) (ht : ∀ q, q ∈ e :: d.E -> q ≠ 81) : d.R e W base (fun k => ok k /\ k ≠ g) v xs := by
 obtain ⟨A0, c0, hb, hg, hr0⟩ := h;exact Kd.R_types ho hb ht
theorem IsS81.own_ne {w0 W : World} {g : Nat} {f0 : List Int} {f1 : Int} {α : Type} {d : Kd α} {e : Nat} {base : Nat} {ok : Nat -> Prop} {v : Value} {xs : List α} (h : IsS81 w0 W g f0 f1) (ho : d.R e W base ok v xs) (ht : e ≠ 81) : some g ≠ v.ownBlock := by
 obtain ⟨A0, c0, hb, hg, hr0⟩ := h;exact Kd.R_ne ho hb ht
theorem IsS81.apartQ {w0 W : World} {g : Nat} {f0 : List Int} {f1 : Int} {α : Type} {d : Kd α} {e : Nat} {base : Nat} {ok : Nat -> Prop} {v : Value} {xs : List α} (h : IsS81 w0 W g f0 f1) (ho : d.Y e W base ok v xs) (ht : ∀ q, q ∈ e :: d.E -> q ≠ 81) : d.Y e W base (fun k => ok k /\ k ≠ g) v xs := by
 obtain ⟨A0, c0, hb, hg, hr0⟩ := h;exact Kd.Y_types ho hb ht
theorem IsS81.own_neQ {w0 W : World} {g : Nat} {f0 : List Int} {f1 : Int} {α : Type} {d : Kd α} {e : Nat} {base : Nat} {ok : Nat -> Prop} {v : Value} {xs : List α} (h : IsS81 w0 W g f0 f1) (ho : d.Y e W base ok v xs) (ht : e ≠ 81) : some g ≠ v.ownBlock := by
 obtain ⟨A0, c0, hb, hg, hr0⟩ := h;exact Kd.Y_ne ho hb ht
theorem IsS81.apartS {w0 W : World} {g : Nat} {f0 : List Int} {f1 : Int} {α : Type} {d : Kd α} {e : Nat} {base : Nat} {ok : Nat -> Prop} {v : Value} {xs : List α} (h : IsS81 w0 W g f0 f1) (ho : d.S e W base ok v xs) (ht : ∀ q, q ∈ e :: d.E -> q ≠ 81) : d.S e W base (fun k => ok k /\ k ≠ g) v xs := by
 obtain ⟨A0, c0, hb, hg, hr0⟩ := h;exact Kd.S_types ho hb ht
theorem IsS81.own_neS {w0 W : World} {g : Nat} {f0 : List Int} {f1 : Int} {α : Type} {d : Kd α} {e : Nat} {base : Nat} {ok : Nat -> Prop} {v : Value} {xs : List α} (h : IsS81 w0 W g f0 f1) (ho : d.S e W base ok v xs) (ht : e ≠ 81) : some g ≠ v.ownBlock := by
 obtain ⟨A0, c0, hb, hg, hr0⟩ := h;exact Kd.S_ne ho hb ht
theorem IsS81.lt {w0 W : World} {g : Nat} {f0 : List Int} {f1 : Int} (h : IsS81 w0 W g f0 f1) : g < W.heap.size := by
 obtain ⟨A0, c0, hb, hg, hr0⟩ := h;exact blk_lt hb
theorem IsS81.ge {w0 W : World} {g : Nat} {f0 : List Int} {f1 : Int} (h : IsS81 w0 W g f0 f1) : w0.heap.size <= g := by
 obtain ⟨A0, c0, hb, hg, hr0⟩ := h;exact hg
theorem IsS81.ne_blk {w0 W : World} {g : Nat} {f0 : List Int} {f1 : Int} {a : Nat} {cs : Array Value} {t : TypeId} {fr : Nat × Nat} (h : IsS81 w0 W g f0 f1) (hb2 : W.heap[a]? = some (.cells cs t fr)) (ht : t ≠ 81) : g ≠ a := by
 obtain ⟨A0, c0, hb, hg, hr0⟩ := h
 rintro rfl
 rw [hb] at hb2
 injection hb2 with hb2
 injection hb2 with _ ht2
 exact ht ht2.symm
theorem IsS81.far {w0 W : World} {g : Nat} {f0 : List Int} {f1 : Int} {p : Addr} (h : IsS81 w0 W g f0 f1) (hne : g ≠ p.block) (u : Value) : IsS81 w0 (W.setCell p u) g f0 f1 := by
 obtain ⟨A0, c0, hb, hg, hr0⟩ := h;exact ⟨A0, c0, blk_far hb hne u, hg, hr0⟩
theorem cellS81_0 {W : World} {g : Nat} {A0 : Option Addr} {c0 : Nat} {f0 : List Int} {f1 : Int} (h : W.heap[g]? = some (.cells #[.slice A0 f0.length c0, .int .i64 f1] 81 (0, 0))) : W.cell? ⟨g, 0, none⟩ = some (.slice A0 f0.length c0) := (blk_cell h 0).trans rfl
theorem cellS81_1 {W : World} {g : Nat} {A0 : Option Addr} {c0 : Nat} {f0 : List Int} {f1 : Int} (h : W.heap[g]? = some (.cells #[.slice A0 f0.length c0, .int .i64 f1] 81 (0, 0))) : W.cell? ⟨g, 1, none⟩ = some (.int .i64 f1) := (blk_cell h 1).trans rfl
theorem IsS81.set_1 {w0 W : World} {g : Nat} {f0 : List Int} {f1 : Int} (h : IsS81 w0 W g f0 f1) (x : Int) : IsS81 w0 (W.setCell ⟨g, 1, none⟩ (.int .i64 x)) g f0 x := by
 obtain ⟨A0, c0, hb, hg, hr0⟩ := h;exact ⟨A0, c0, by simpa using blk_set hb 1 (.int .i64 x), hg, hr0⟩
theorem IsS81.new (w0 W : World) (A0 : Option Addr) (c0 : Nat) (f0 : List Int) (f1 : Int) (hB : Below w0.heap.size w0 W) (hr0 : Kd.C (Kd.int .u8) w0 A0 f0.length f0) : IsS81 w0 (W.alloc (.cells #[.slice A0 f0.length c0, .int .i64 f1] 81)) W.heap.size f0 f1 := ⟨A0, c0, by simpa using heap_alloc_new W _, hB.size, hr0⟩

/-! ### spec_l20Rd_pick: function 60 -/
def spec_l20Rd_pick.j0 : Nat -> Int -> Bool -> List Int -> Int -> Option (Int × Int)
 | 0, _, _, _, _ => none
 | k + 1, x1, x24, x1000, x1001 => if x24 = true then (some (0, x1001)) else (if (wrap64 (x1001 - 1)) < (x1000.length : Int) then (if 0 <= (wrap64 (x1001 - 1)) then (if x1 = 0 then (none) else (some (Int.tmod (wrap64 (rd x1000 (wrap64 (x1001 - 1)))) x1, x1001))) else (none)) else (if (x1000.length : Int) = 0 then (none) else (if 0 <= (Int.tmod (wrap64 (x1001 - 1)) (x1000.length : Int)) then (if (Int.tmod (wrap64 (x1001 - 1)) (x1000.length : Int)) < (x1000.length : Int) then (if 0 <= (Int.tmod (wrap64 ((wrap64 ((wrap64 (x1001 - 1)) * 7)) + 3)) (x1000.length : Int)) then (if (Int.tmod (wrap64 ((wrap64 ((wrap64 (x1001 - 1)) * 7)) + 3)) (x1000.length : Int)) < (x1000.length : Int) then (if x1 = 0 then (none) else (some (Int.tmod (Go.bits .xor .i64 (wrap64 ((wrap64 ((wrap64 ((wrap64 ((wrap64 (rd x1000 (Int.tmod (wrap64 (x1001 - 1)) (x1000.length : Int)))) * 131)) + (wrap64 ((wrap64 (rd x1000 (Int.tmod (wrap64 ((wrap64 ((wrap64 (x1001 - 1)) * 7)) + 3)) (x1000.length : Int)))) * 1117)))) + (wrap64 ((wrap64 (x1001 - 1)) * 29)))) + (wrap64 ((wrap64 (Int.tdiv (wrap64 (x1001 - 1)) (x1000.length : Int))) * 53)))) (wrap64 (Int.tdiv (wrap64 ((wrap64 ((wrap64 ((wrap64 ((wrap64 (rd x1000 (Int.tmod (wrap64 (x1001 - 1)) (x1000.length : Int)))) * 131)) + (wrap64 ((wrap64 (rd x1000 (Int.tmod (wrap64 ((wrap64 ((wrap64 (x1001 - 1)) * 7)) + 3)) (x1000.length : Int)))) * 1117)))) + (wrap64 ((wrap64 (x1001 - 1)) * 29)))) + (wrap64 ((wrap64 (Int.tdiv (wrap64 (x1001 - 1)) (x1000.length : Int))) * 53)))) 64))) x1, x1001))) else (none)) else (none)) else (none)) else (none))))
def spec_l20Rd_pick.f (k : Nat) (s0_0 : List Int) (s0_1 : Int) (a1 : Int) : Option (Int × Int) := if a1 < 1 then (spec_l20Rd_pick.j0 k a1 true s0_0 (wrap64 (s0_1 + 1))) else (spec_l20Rd_pick.j0 k a1 ((s0_0.length : Int) == 0) s0_0 (wrap64 (s0_1 + 1)))
theorem spec_l20Rd_pick.mono_l : ∀ k, (∀ y0 y1 y2 y3, LeO (spec_l20Rd_pick.j0 k y0 y1 y2 y3) (spec_l20Rd_pick.j0 (k + 1) y0 y1 y2 y3))
 | 0 => fun _ _ _ _ r h => by simp [spec_l20Rd_pick.j0] at h
 | k + 1 => by
  have ih0 := spec_l20Rd_pick.mono_l k
  ·
   intro y0 y1 y2 y3;unfold spec_l20Rd_pick.j0
   repeat' (with_reducible exact LeO.refl _)
theorem spec_l20Rd_pick.mono : ∀ a0 a1 a2 k, LeO (spec_l20Rd_pick.f k a0 a1 a2) (spec_l20Rd_pick.f (k + 1) a0 a1 a2) := by
 intro a0 a1 a2 k;have ih0 := spec_l20Rd_pick.mono_l k;unfold spec_l20Rd_pick.f
 repeat' with_reducible first | exact ih0 _ _ _ _ | refine LeO.ite ?_ ?_
set_option maxHeartbeats 8000000 in
set_option maxRecDepth 100000 in
theorem spec_l20Rd_pick.calls (k : Nat) (g : Nat) (s0_0 : List Int) (s0_1 : Int) (a1 : Int) (r1 : Int) (r2 : Int) (w0 w : World) (hI : IsS81 w0 w g s0_0 s0_1) (hB : Below w0.heap.size w0 w) (h : spec_l20Rd_pick.f k s0_0 s0_1 a1 = some (r1, r2)) :
  Calls Try.prog 60 #[.pointer (some ⟨g, 0, none⟩), .int .i64 a1] w fun e w' => e = .returned (.int .i64 r1) /\ IsS81 w0 w' g s0_0 r2 /\ Below w0.heap.size w0 w' /\ KeepBut w w' g none := by
 have HI0 := am hI;have HK := am (KeepBut.refl w g none);have HL := am hB.size;clear hI;have HW0 := am hB.size;have HB := am hB;clear hB;have H : (if a1 < 1 then (spec_l20Rd_pick.j0 k a1 true s0_0 (wrap64 (s0_1 + 1))) else (spec_l20Rd_pick.j0 k a1 ((s0_0.length : Int) == 0) s0_0 (wrap64 (s0_1 + 1)))) = some (r1, r2) := h;clear h;have HC3 := am H;clear H;obtain ⟨ASz4_0, cSz4_0, HGz4, hgz4, HSz4_0⟩ := HI0.out;have hcz4_0 := cellS81_0 HGz4;have hcz4_1 := cellS81_1 HGz4;have hfz4_1 := blk_frozen HGz4 1;clear HGz4 hgz4;go_enter Try.func60, Try.ntmps60
 go_upto_region 2 with (fail)
 repeat (go_quiet (fail); go_upto_region 2 with (fail))
 go_cut [24] (fun v24 wc => ∃ (kq : Nat) (x24_2 : Bool), v24 = .bool x24_2 /\ Aside0 (spec_l20Rd_pick.j0 kq a1 x24_2 s0_0 (wrap64 (s0_1 + 1)) = some (r1, r2)) /\ Aside0 (kq <= k) /\ Aside0 (IsS81 w0 wc g s0_0 (wrap64 (s0_1 + 1))) /\ Aside0 (KeepBut w wc g none) /\ Aside0 (Below w0.heap.size w0 wc))
 case first =>
  have H := HC3.out;clear HC3;by_cases c5 : a1 < 1
  ·
   rw [if_pos c5] at H;have c5b0 : decide (a1 < 1) = true := decide_eq_true c5;clear c5
   (skip)
   have H' := am H;clear H;go_wp2
   repeat (go_quiet (fail); try go_wp2)
   go_meet
   case rel => exact ⟨_, (true), (by rfl), H', ⟨by omega⟩, ⟨by repeat ((with_reducible first | exact HI0.out | apply IsS81.set_1))⟩, ⟨km HK.out⟩, ⟨bs (IsS81.ge HI0.out) HB.out⟩⟩
  ·
   rw [if_neg c5] at H;have c5b0 : decide (a1 < 1) = false := decide_eq_false c5;clear c5
   (skip)
   have H' := am H;clear H;obtain ⟨ASz6_0, cSz6_0, HGz6, hgz6, HSz6_0⟩ := HI0.out;have hcz6_0 := cellS81_0 HGz6;have hcz6_1 := cellS81_1 HGz6;have hfz6_1 := blk_frozen HGz6 1;clear HGz6 hgz6;go_wp2
   repeat (go_quiet (fail); try go_wp2)
   go_meet
   case rel => exact ⟨_, (((s0_0.length : Int) == 0)), (by rfl), H', ⟨by omega⟩, ⟨by repeat ((with_reducible first | exact HI0.out | apply IsS81.set_1))⟩, ⟨km HK.out⟩, ⟨bs (IsS81.ge HI0.out) HB.out⟩⟩
 case rest =>
  clear HC3;clear hcz4_0;clear hcz4_1;clear hfz4_1;obtain ⟨kq, x24_2, rfl, HA, HJ2, HI0, HK, HB⟩ := hcut
  cases kq with
  | zero => exact absurd HA.out (by simp [spec_l20Rd_pick.j0])
  | succ kj2 =>
   have H := HA.out;clear HA;simp only [spec_l20Rd_pick.j0] at H;by_cases c7 : x24_2 = true
   ·
    subst c7
    have H1 : (some (0, (wrap64 (s0_1 + 1)))) = some (r1, r2) := by rw [if_pos rfl] at H; exact H
    clear H;have H := H1;clear H1;simp only [Option.some.injEq, Prod.mk.injEq] at H;obtain ⟨rfl, rfl⟩ := H;go_wp2
    repeat (go_quiet (fail); try go_wp2)
    go_ret;exact ⟨by rfl, by repeat ((with_reducible exact HI0.out)), bs (IsS81.ge HI0.out) HB.out, km HK.out⟩
   ·
    replace c7 := Bool.eq_false_iff.mpr c7;subst c7
    have H1 : (if (wrap64 ((wrap64 (s0_1 + 1)) - 1)) < (s0_0.length : Int) then (if 0 <= (wrap64 ((wrap64 (s0_1 + 1)) - 1)) then (if a1 = 0 then (none) else (some (Int.tmod (wrap64 (rd s0_0 (wrap64 ((wrap64 (s0_1 + 1)) - 1)))) a1, (wrap64 (s0_1 + 1))))) else (none)) else (if (s0_0.length : Int) = 0 then (none) else (if 0 <= (Int.tmod (wrap64 ((wrap64 (s0_1 + 1)) - 1)) (s0_0.length : Int)) then (if (Int.tmod (wrap64 ((wrap64 (s0_1 + 1)) - 1)) (s0_0.length : Int)) < (s0_0.length : Int) then (if 0 <= (Int.tmod (wrap64 ((wrap64 ((wrap64 ((wrap64 (s0_1 + 1)) - 1)) * 7)) + 3)) (s0_0.length : Int)) then (if (Int.tmod (wrap64 ((wrap64 ((wrap64 ((wrap64 (s0_1 + 1)) - 1)) * 7)) + 3)) (s0_0.length : Int)) < (s0_0.length : Int) then (if a1 = 0 then (none) else (some (Int.tmod (Go.bits .xor .i64 (wrap64 ((wrap64 ((wrap64 ((wrap64 ((wrap64 (rd s0_0 (Int.tmod (wrap64 ((wrap64 (s0_1 + 1)) - 1)) (s0_0.length : Int)))) * 131)) + (wrap64 ((wrap64 (rd s0_0 (Int.tmod (wrap64 ((wrap64 ((wrap64 ((wrap64 (s0_1 + 1)) - 1)) * 7)) + 3)) (s0_0.length : Int)))) * 1117)))) + (wrap64 ((wrap64 ((wrap64 (s0_1 + 1)) - 1)) * 29)))) + (wrap64 ((wrap64 (Int.tdiv (wrap64 ((wrap64 (s0_1 + 1)) - 1)) (s0_0.length : Int))) * 53)))) (wrap64 (Int.tdiv (wrap64 ((wrap64 ((wrap64 ((wrap64 ((wrap64 (rd s0_0 (Int.tmod (wrap64 ((wrap64 (s0_1 + 1)) - 1)) (s0_0.length : Int)))) * 131)) + (wrap64 ((wrap64 (rd s0_0 (Int.tmod (wrap64 ((wrap64 ((wrap64 ((wrap64 (s0_1 + 1)) - 1)) * 7)) + 3)) (s0_0.length : Int)))) * 1117)))) + (wrap64 ((wrap64 ((wrap64 (s0_1 + 1)) - 1)) * 29)))) + (wrap64 ((wrap64 (Int.tdiv (wrap64 ((wrap64 (s0_1 + 1)) - 1)) (s0_0.length : Int))) * 53)))) 64))) a1, (wrap64 (s0_1 + 1))))) else (none)) else (none)) else (none)) else (none)))) = some (r1, r2) := by rw [if_neg (show ¬ (false = true) by decide)] at H; exact H
    clear H;have H := H1;clear H1;by_cases c8 : (wrap64 ((wrap64 (s0_1 + 1)) - 1)) < (s0_0.length : Int)
    ·
     rw [if_pos c8] at H;have c8b0 : decide ((wrap64 ((wrap64 (s0_1 + 1)) - 1)) < (s0_0.length : Int)) = true := decide_eq_true c8;clear c8
     obtain ⟨ji9, hji9⟩ : ∃ j_ : Int, (wrap64 ((wrap64 (s0_1 + 1)) - 1)) = j_ := ⟨_, rfl⟩
     replace H : (if 0 <= (ji9) then (if a1 = 0 then (none) else (some (Int.tmod (wrap64 (rd s0_0 (ji9))) a1, (wrap64 (s0_1 + 1))))) else (none)) = some (r1, r2) := by (rw [hji9] at H; exact H)
     rw [hji9] at c8b0;have hji9w : (IntKind.i64.wrap ((wrap64 (s0_1 + 1)) - 1)) = ji9 := (i64_w _).trans hji9;by_cases c10 : 0 <= (ji9)
     ·
      rw [if_pos c10] at H;have c10b0 : decide (0 <= (ji9)) = true := decide_eq_true c10;clear c10;by_cases c11 : a1 = 0
      · rw [if_pos c11] at H;exact absurd H (by simp)
      ·
       rw [if_neg c11] at H;have c11b0 : (a1 == 0) = false := beq_eq_false_iff_ne.mpr c11;have c11b1 : (a1 != 0) = true := bne_iff_ne.mpr c11;simp only [Option.some.injEq, Prod.mk.injEq] at H;obtain ⟨rfl, rfl⟩ := H;obtain ⟨ASz12_0, cSz12_0, HGz12, hgz12, HSz12_0⟩ := HI0.out;have hcz12_0 := cellS81_0 HGz12;have hcz12_1 := cellS81_1 HGz12;have hfz12_1 := blk_frozen HGz12 1;clear HGz12 hgz12;have p431 : 0 <= ((ji9) : Int) := of_decide_eq_true (by assumption);have q431 : (ji9) < (s0_0.length : Int) := of_decide_eq_true (by assumption);obtain ⟨ad431, e431, hx431_0⟩ := Kd.at_int HSz12_0 (ji9) p431 q431;cases e431
       replace hx431_0 := pw_cell_below HB.out hx431_0;replace p431 := eq_true p431;replace q431 := eq_true q431;go_wp2
       repeat (go_quiet (fail); try go_wp2)
       go_ret;exact ⟨by rfl, by repeat ((with_reducible exact HI0.out)), bs (IsS81.ge HI0.out) HB.out, km HK.out⟩
     · rw [if_neg c10] at H;exact absurd H (by simp)
    ·
     rw [if_neg c8] at H;have c8b0 : decide ((wrap64 ((wrap64 (s0_1 + 1)) - 1)) < (s0_0.length : Int)) = false := decide_eq_false c8;clear c8;by_cases c13 : (s0_0.length : Int) = 0
     · rw [if_pos c13] at H;exact absurd H (by simp)
     ·
      rw [if_neg c13] at H;have c13b0 : ((s0_0.length : Int) == 0) = false := beq_eq_false_iff_ne.mpr c13;have c13b1 : ((s0_0.length : Int) != 0) = true := bne_iff_ne.mpr c13
      have c13b2 : ¬ (s0_0 = []) := fun h_ => c13 (by rw [h_]; rfl)
      obtain ⟨ji14, hji14⟩ : ∃ j_ : Int, (Int.tmod (wrap64 ((wrap64 (s0_1 + 1)) - 1)) (s0_0.length : Int)) = j_ := ⟨_, rfl⟩
      replace H : (if 0 <= (ji14) then (if (ji14) < (s0_0.length : Int) then (if 0 <= (Int.tmod (wrap64 ((wrap64 ((wrap64 ((wrap64 (s0_1 + 1)) - 1)) * 7)) + 3)) (s0_0.length : Int)) then (if (Int.tmod (wrap64 ((wrap64 ((wrap64 ((wrap64 (s0_1 + 1)) - 1)) * 7)) + 3)) (s0_0.length : Int)) < (s0_0.length : Int) then (if a1 = 0 then (none) else (some (Int.tmod (Go.bits .xor .i64 (wrap64 ((wrap64 ((wrap64 ((wrap64 ((wrap64 (rd s0_0 (ji14))) * 131)) + (wrap64 ((wrap64 (rd s0_0 (Int.tmod (wrap64 ((wrap64 ((wrap64 ((wrap64 (s0_1 + 1)) - 1)) * 7)) + 3)) (s0_0.length : Int)))) * 1117)))) + (wrap64 ((wrap64 ((wrap64 (s0_1 + 1)) - 1)) * 29)))) + (wrap64 ((wrap64 (Int.tdiv (wrap64 ((wrap64 (s0_1 + 1)) - 1)) (s0_0.length : Int))) * 53)))) (wrap64 (Int.tdiv (wrap64 ((wrap64 ((wrap64 ((wrap64 ((wrap64 (rd s0_0 (ji14))) * 131)) + (wrap64 ((wrap64 (rd s0_0 (Int.tmod (wrap64 ((wrap64 ((wrap64 ((wrap64 (s0_1 + 1)) - 1)) * 7)) + 3)) (s0_0.length : Int)))) * 1117)))) + (wrap64 ((wrap64 ((wrap64 (s0_1 + 1)) - 1)) * 29)))) + (wrap64 ((wrap64 (Int.tdiv (wrap64 ((wrap64 (s0_1 + 1)) - 1)) (s0_0.length : Int))) * 53)))) 64))) a1, (wrap64 (s0_1 + 1))))) else (none)) else (none)) else (none)) else (none)) = some (r1, r2) := by (rw [hji14] at H; exact H)
      by_cases c15 : 0 <= (ji14)
      ·
       rw [if_pos c15] at H;have c15b0 : decide (0 <= (ji14)) = true := decide_eq_true c15;clear c15;by_cases c16 : (ji14) < (s0_0.length : Int)
       ·
        rw [if_pos c16] at H;have c16b0 : decide ((ji14) < (s0_0.length : Int)) = true := decide_eq_true c16;clear c16
        obtain ⟨ji17, hji17⟩ : ∃ j_ : Int, (Int.tmod (wrap64 ((wrap64 ((wrap64 ((wrap64 (s0_1 + 1)) - 1)) * 7)) + 3)) (s0_0.length : Int)) = j_ := ⟨_, rfl⟩
        replace H : (if 0 <= (ji17) then (if (ji17) < (s0_0.length : Int) then (if a1 = 0 then (none) else (some (Int.tmod (Go.bits .xor .i64 (wrap64 ((wrap64 ((wrap64 ((wrap64 ((wrap64 (rd s0_0 (ji14))) * 131)) + (wrap64 ((wrap64 (rd s0_0 (ji17))) * 1117)))) + (wrap64 ((wrap64 ((wrap64 (s0_1 + 1)) - 1)) * 29)))) + (wrap64 ((wrap64 (Int.tdiv (wrap64 ((wrap64 (s0_1 + 1)) - 1)) (s0_0.length : Int))) * 53)))) (wrap64 (Int.tdiv (wrap64 ((wrap64 ((wrap64 ((wrap64 ((wrap64 (rd s0_0 (ji14))) * 131)) + (wrap64 ((wrap64 (rd s0_0 (ji17))) * 1117)))) + (wrap64 ((wrap64 ((wrap64 (s0_1 + 1)) - 1)) * 29)))) + (wrap64 ((wrap64 (Int.tdiv (wrap64 ((wrap64 (s0_1 + 1)) - 1)) (s0_0.length : Int))) * 53)))) 64))) a1, (wrap64 (s0_1 + 1))))) else (none)) else (none)) = some (r1, r2) := by (rw [hji17] at H; exact H)
        by_cases c18 : 0 <= (ji17)
        ·
         rw [if_pos c18] at H;have c18b0 : decide (0 <= (ji17)) = true := decide_eq_true c18;clear c18;by_cases c19 : (ji17) < (s0_0.length : Int)
         ·
          rw [if_pos c19] at H;have c19b0 : decide ((ji17) < (s0_0.length : Int)) = true := decide_eq_true c19;clear c19;by_cases c20 : a1 = 0
          · rw [if_pos c20] at H;exact absurd H (by simp)
          ·
           rw [if_neg c20] at H;have c20b0 : (a1 == 0) = false := beq_eq_false_iff_ne.mpr c20;have c20b1 : (a1 != 0) = true := bne_iff_ne.mpr c20;simp only [Option.some.injEq, Prod.mk.injEq] at H;obtain ⟨rfl, rfl⟩ := H;obtain ⟨ASz21_0, cSz21_0, HGz21, hgz21, HSz21_0⟩ := HI0.out;have hcz21_0 := cellS81_0 HGz21;have hcz21_1 := cellS81_1 HGz21;have hfz21_1 := blk_frozen HGz21 1;clear HGz21 hgz21;have p432 : 0 <= ((ji14) : Int) := of_decide_eq_true (by assumption);have q432 : (ji14) < (s0_0.length : Int) := of_decide_eq_true (by assumption);obtain ⟨ad432, e432, hx432_0⟩ := Kd.at_int HSz21_0 (ji14) p432 q432;cases e432
           replace hx432_0 := pw_cell_below HB.out hx432_0;replace p432 := eq_true p432;replace q432 := eq_true q432;have p433 : 0 <= ((ji17) : Int) := of_decide_eq_true (by assumption);have q433 : (ji17) < (s0_0.length : Int) := of_decide_eq_true (by assumption);obtain ⟨ad433, e433, hx433_0⟩ := Kd.at_int HSz21_0 (ji17) p433 q433;obtain rfl : ad432 = ad433 := (by injection e433);replace hx433_0 := pw_cell_below HB.out hx433_0;replace p433 := eq_true p433;replace q433 := eq_true q433;go_wp2
           repeat (go_quiet (fail); try go_wp2)
           go_ret;exact ⟨by rfl, by repeat ((with_reducible first | exact HI0.out | apply IsS81.drewN)), bs (IsS81.ge HI0.out) HB.out, km HK.out⟩
         · rw [if_neg c19] at H;exact absurd H (by simp)
        · rw [if_neg c18] at H;exact absurd H (by simp)
       · rw [if_neg c16] at H;exact absurd H (by simp)
      · rw [if_neg c15] at H;exact absurd H (by simp)

/-! ### spec_l20Rd_odd: function 74 -/
def spec_l20Rd_odd.f (k : Nat) (s0_0 : List Int) (s0_1 : Int) (a1 : Int) : Option (Bool × Int) := if a1 > 0 then ((spec_l20Rd_pick.f k s0_0 s0_1 a1).bind fun bt434 => (some ((bt434.1 == (wrap64 (a1 - 1))), bt434.2))) else (some (false, s0_1))
theorem spec_l20Rd_odd.mono : ∀ a0 a1 a2 k, LeO (spec_l20Rd_odd.f k a0 a1 a2) (spec_l20Rd_odd.f (k + 1) a0 a1 a2) := by
 intro a0 a1 a2 k;unfold spec_l20Rd_odd.f
 repeat' with_reducible first | exact spec_l20Rd_pick.mono _ _ _ _ | exact LeO.refl _ | refine LeO.ite ?_ ?_ | refine LeO.bind ?_ (fun _ => ?_)
set_option maxHeartbeats 8000000 in
set_option maxRecDepth 100000 in
theorem spec_l20Rd_odd.calls (k : Nat) (g : Nat) (s0_0 : List Int) (s0_1 : Int) (a1 : Int) (r1 : Bool) (r2 : Int) (w0 w : World) (hI : IsS81 w0 w g s0_0 s0_1) (hB : Below w0.heap.size w0 w) (h : spec_l20Rd_odd.f k s0_0 s0_1 a1 = some (r1, r2)) :
  Calls Try.prog 74 #[.pointer (some ⟨g, 0, none⟩), .int .i64 a1] w fun e w' => e = .returned (.bool r1) /\ IsS81 w0 w' g s0_0 r2 /\ Below w0.heap.size w0 w' /\ KeepBut w w' g none := by
 have HI0 := am hI;have HK := am (KeepBut.refl w g none);have HL := am hB.size;clear hI;have HW0 := am hB.size;have HB := am hB;clear hB;have H : (if a1 > 0 then ((spec_l20Rd_pick.f k s0_0 s0_1 a1).bind fun bt434 => (some ((bt434.1 == (wrap64 (a1 - 1))), bt434.2))) else (some (false, s0_1))) = some (r1, r2) := h;clear h;by_cases c3 : a1 > 0
 · rw [if_pos c3] at H;have c3b0 : decide (0 < a1) = true := decide_eq_true c3;clear c3;replace H := oE H;obtain ⟨⟨t434, t435⟩, A4, H⟩ := H;replace H : (some ((t434 == (wrap64 (a1 - 1))), t435)) = some (r1, r2) := H;replace A4 := am A4;simp only [Option.some.injEq, Prod.mk.injEq] at H;obtain ⟨rfl, rfl⟩ := H;go_enter Try.func74, Try.ntmps74;go_wp2_with ((go_at_call 60; (with_reducible refine (spec_l20Rd_pick.calls k g s0_0 s0_1 a1 t434 t435 w0 _ ?side1 ?side2 A4.out).mono ?_); (case side1 => repeat ((with_reducible exact HI0.out))); (case side2 => exact bs (IsS81.ge HI0.out) HB.out); rintro e w5 ⟨rfl, hi, hb, hk⟩; replace HK := am (KeepBut.trans (km HK.out) hk (.inl rfl));replace HB := am (hb);replace HI0 := am (hi); clear hb; clear hk; clear hi));go_ret;exact ⟨by rfl, by repeat ((with_reducible exact HI0.out)), bs (IsS81.ge HI0.out) HB.out, km HK.out⟩
 · rw [if_neg c3] at H;have c3b0 : decide (0 < a1) = false := decide_eq_false c3;clear c3;simp only [Option.some.injEq, Prod.mk.injEq] at H;obtain ⟨rfl, rfl⟩ := H;go_enter Try.func74, Try.ntmps74;go_wp2;go_ret;exact ⟨by rfl, by repeat ((with_reducible exact HI0.out)), bs (IsS81.ge HI0.out) HB.out, km HK.out⟩

/-! ### spec_l1Make: function 89 -/
def spec_l1Make.l0 : Nat -> List Int -> List (List Int) -> List Int -> Int -> Option (List Int)
 | 0, _, _, _, _ => none
 | k + 1, x0, x1, x5, x6 => if x6 < (x0.length : Int) then (if 0 <= x6 then (if x5.length < 17592186044416 then ((some (x5 ++ [rd x0 x6] : List Int)).bind fun y440 => (if x6 < (x1.length : Int) then (if y440.length + (rd_L1 x1 x6).length < 17592186044416 then (spec_l1Make.l0 k x0 x1 (y440 ++ (rd_L1 x1 x6)) (wrap64 (x6 + 1))) else (none)) else (none))) else (none)) else (none)) else (some x5)
def spec_l1Make.f (k : Nat) (l0 : List Int) (l1 : List (List Int)) : Option (List Int) := spec_l1Make.l0 k l0 l1 (([(l0.length : Int)] : List Int)) 0
theorem spec_l1Make.mono_l : ∀ k, (∀ y0 y1 y2 y3, LeO (spec_l1Make.l0 k y0 y1 y2 y3) (spec_l1Make.l0 (k + 1) y0 y1 y2 y3))
 | 0 => fun _ _ _ _ r h => by simp [spec_l1Make.l0] at h
 | k + 1 => by
  have ih0 := spec_l1Make.mono_l k
  ·
   intro y0 y1 y2 y3;unfold spec_l1Make.l0
   repeat' with_reducible first | exact ih0 _ _ _ _ | exact LeO.refl _ | refine LeO.ite ?_ ?_ | refine LeO.bind ?_ (fun _ => ?_)
theorem spec_l1Make.mono : ∀ a0 a1 k, LeO (spec_l1Make.f k a0 a1) (spec_l1Make.f (k + 1) a0 a1) := by
 intro a0 a1 k;have ih0 := spec_l1Make.mono_l k;unfold spec_l1Make.f
 repeat' (with_reducible exact ih0 _ _ _ _)
def spec_l1Make.T5 : Bool × List (List Nat × List Nat) := (true, [([], []), ([], []), ([], []), ([1, 2], [1, 2]), ([3], [3]), ([4], [4]), ([0, 5], [0, 5]), ([], []), ([], []), ([7, 8], [7, 8]), ([9], [9]), ([6, 10, 6], [6, 10]), ([11, 11, 0, 1, 2, 3, 4, 5, 6, 7, 8, 9, 10, 11], [0, 11])])
def spec_l1Make.B5 : List Nat := [0, 0, 0, 6, 14, 30, 63, 0, 0, 384, 896, 2047, 4095]
theorem spec_l1Make.tab5 : rtab .any (opsOf Try.f89 5) = spec_l1Make.T5 := by kernel_rfl
theorem spec_l1Make.bits5 : waitsOk spec_l1Make.T5.2 spec_l1Make.B5 = true := by kernel_rfl
set_option maxHeartbeats 8000000 in
set_option maxRecDepth 100000 in
theorem spec_l1Make.calls (k : Nat) (A0 : Option Addr) (c0 : Nat) (l0 : List Int) (A1 : Option Addr) (c1 : Nat) (l1 : List (List Int)) (r : List Int) (w : World) (hr0 : Kd.C (Kd.int .i64) w A0 l0.length l0) (hc0 : l0.length <= c0) (hr1 : Kd.C (Kd.slice 3 (Kd.int .i64)) w A1 l1.length l1) (hc1 : l1.length <= c1) (h : spec_l1Make.f k l0 l1 = some r) :
  Calls Try.prog 89 #[.slice A0 l0.length c0, .slice A1 l1.length c1] w fun e w' => ∃ v0_ : Value, e = .returned (v0_) /\ Kd.R (Kd.int .i64) 3 w' w.heap.size (fun _ => True) v0_ r /\ Below w.heap.size w w' := by
 have HR0 := am hr0;have HC0 := am hc0;clear hr0 hc0;have HR1 := am hr1;have HC1 := am hc1;clear hr1 hc1;have HB := am (Below.refl w.heap.size w);have H : (spec_l1Make.l0 k l0 l1 (([(l0.length : Int)] : List Int)) 0) = some r := h;clear h
 obtain ⟨y436, hy436⟩ : ∃ y_ : List Int, y_ = (([(l0.length : Int)] : List Int)) := ⟨_, rfl⟩
 replace H : (spec_l1Make.l0 k l0 l1 y436 0) = some r := by (rw [hy436]; with_reducible exact H)
 replace hy436 := am hy436;have H' := am H;clear H;go_enter Try.func89, Try.ntmps89;go_wp2_with (((with_reducible refine gate_dst (N := 9) rfl ?_); refine Kd.R_lit (Kd.int .i64) _ 3 ?hg (N := 9) ?hd (xs := ([(l0.length : Int)] : List Int)) (inner := [.int .i64 (l0.length : Int)]) (ok := fun _ => True) (okp := fun _ => True) ?hr ?hp (fun _ hk => hk) trivial (Below.refl _ _) (Nat.le_refl _) (by simp) ?_; (case hd => rfl); (case hg => rfl); (case hr => (go_simp; done)); (case hp => exact (Reps.one (show Kd.M (Kd.int .i64) _ _ _ (l0.length : Int) [.int .i64 (l0.length : Int)] from rfl) (Reps.none _ _))); intro v437 w3 ho4 hb hg_ hnew_; clear hg_ hnew_; (rw [<- hy436.out] at ho4); have HO438 := am (Kd.R_lower ho4 (below_size (bm HB.out)));replace HB := am (below_step (bm HB.out) hb); clear hb ho4))
 go_loopg [5, 6] k (fun kq v5 v6 w' => ∃ (x5_1 : List Int) (x6_1 : Int), v6 = .int .i64 x6_1 /\ Aside0 (spec_l1Make.l0 kq l0 l1 x5_1 x6_1 = some r) /\ Aside0 (kq <= k) /\ Aside0 (Kd.R (Kd.int .i64) 3 w' w.heap.size (fun _ => True) v5 x5_1) /\ Aside0 (Below w.heap.size w w'))
 case atStart => exact ⟨(y436), (0), (by rfl), H', ⟨Nat.le_refl _⟩, ⟨Kd.rm HO438.out⟩, ⟨bm HB.out⟩⟩
 case round =>
  clear H';clear HB;obtain ⟨x5_1, x6_1, rfl, HA, HK1, HO_5, HB⟩ := hrel
  cases gk with
  | zero => exact absurd HA.out (by simp [spec_l1Make.l0])
  | succ k1 =>
   have H := HA.out;clear HA;simp only [spec_l1Make.l0] at H;by_cases c5 : x6_1 < (l0.length : Int)
   ·
    rw [if_pos c5] at H;have c5b0 : decide (x6_1 < (l0.length : Int)) = true := decide_eq_true c5;clear c5;by_cases c6 : 0 <= x6_1
    ·
     rw [if_pos c6] at H;have c6b0 : decide (0 <= x6_1) = true := decide_eq_true c6;clear c6;by_cases c7 : x5_1.length < 17592186044416
     ·
      rw [if_pos c7] at H;have LMc7 := am c7;clear c7
      obtain ⟨y440, hy440⟩ : ∃ y_ : List Int, y_ = (x5_1 ++ [rd l0 x6_1]) := ⟨_, rfl⟩
      replace H : (if x6_1 < (l1.length : Int) then (if y440.length + (rd_L1 l1 x6_1).length < 17592186044416 then (spec_l1Make.l0 k1 l0 l1 (y440 ++ (rd_L1 l1 x6_1)) (wrap64 (x6_1 + 1))) else (none)) else (none)) = some r := by (rw [hy440]; exact H)
      replace hy440 := am hy440;by_cases c8 : x6_1 < (l1.length : Int)
      ·
       rw [if_pos c8] at H;have c8b0 : decide (x6_1 < (l1.length : Int)) = true := decide_eq_true c8;clear c8;by_cases c9 : y440.length + (rd_L1 l1 x6_1).length < 17592186044416
       ·
        rw [if_pos c9] at H;have LMc9 := am c9;clear c9
        obtain ⟨y444, hy444⟩ : ∃ y_ : List Int, y_ = (y440 ++ (rd_L1 l1 x6_1)) := ⟨_, rfl⟩
        replace H : (spec_l1Make.l0 k1 l0 l1 y444 (wrap64 (x6_1 + 1))) = some r := by (rw [hy444]; with_reducible exact H)
        replace hy444 := am hy444;have H' := am H;clear H;go_wp2;replace HO_5 := am (Kd.R_drew HO_5.out);replace HB := am (below_drew1 HB.out);have p439 : 0 <= (x6_1 : Int) := of_decide_eq_true (by assumption);have q439 : x6_1 < (l0.length : Int) := of_decide_eq_true (by assumption);obtain ⟨ad439, e439, hx439_0⟩ := Kd.at_int HR0.out x6_1 p439 q439;have hw439_0 := hx439_0;cases e439
        replace hx439_0 := (HB.out.cell (World.block_lt_of_cell? w _ hx439_0)).trans hx439_0;replace p439 := eq_true p439;replace q439 := eq_true q439;have p443 : 0 <= (x6_1 : Int) := of_decide_eq_true (by assumption);have q443 : x6_1 < (l1.length : Int) := of_decide_eq_true (by assumption);obtain ⟨ad443, A443_0, c443_0, e443, hx443_0, hl443_0, hi443_0⟩ := at_L1 HR1.out x6_1 p443 q443;have hw443_0 := hx443_0;cases e443
        replace hx443_0 := (HB.out.cell (World.block_lt_of_cell? w _ hx443_0)).trans hx443_0;have HR443_0 := am hi443_0;have HC443_0 := am hl443_0;clear hi443_0 hl443_0;replace p443 := eq_true p443;replace q443 := eq_true q443;refine start_ (n := 13) (S := fun w' => w'.cell? (ad439.add (x6_1).toNat) = some (.int .i64 (rd l0 x6_1)) /\ w'.cell? (ad443.add (x6_1).toNat) = some (.slice A443_0 (rd_L1 l1 x6_1).length c443_0)) (ds := []) #[false, false, false, false, false, false, false, false, false, false, false, false, false] (by kernel_rfl) rfl rfl ⟨((HB.out.cell (World.block_lt_of_cell? w _ hw439_0)).trans hw439_0), ((HB.out.cell (World.block_lt_of_cell? w _ hw443_0)).trans hw443_0)⟩ (fun hHeld => ?_); refine with_tabW spec_l1Make.tab5 spec_l1Make.bits5 (fun HT_ HW_ => ?_);generalize wr.drew = w10 at HO_5 HB HR443_0 hx439_0 hx443_0 hHeld ⊢;refine pure_ (i := 0) (N := some 16) (v := ?_) (a' := ?_) #[true, false, false, false, false, false, false, false, false, false, false, false, false] rfl rfl (any_of HT_.out (by kernel_rfl)) (fun _ _ _ h => h) (Or.inl ⟨by rfl, ?_⟩) ?_ ?_;rotate_left;(intro w';go_simp;with_reducible rfl);rotate_left;(simp only [Act.put, sA, sB, sC, i64_w, i32_w];rfl);refine pure_ (i := 1) (N := some 17) (v := ?_) (a' := ?_) #[true, true, false, false, false, false, false, false, false, false, false, false, false] rfl rfl (any_of HT_.out (by kernel_rfl)) (fun _ _ _ h => h) (Or.inl ⟨by rfl, ?_⟩) ?_ ?_;rotate_left;(intro w';go_simp;with_reducible rfl);rotate_left;(simp only [Act.put, sA, sB, sC, i64_w, i32_w];rfl);refine pure_ (i := 2) (N := some 18) (v := ?_) (a' := ?_) #[true, true, true, false, false, false, false, false, false, false, false, false, false] rfl rfl (any_of HT_.out (by kernel_rfl)) (fun _ _ _ h => h) (Or.inl ⟨by rfl, ?_⟩) ?_ ?_;rotate_left;(intro w';go_simp;with_reducible rfl);rotate_left;(simp only [Act.put, sA, sB, sC, i64_w, i32_w];rfl);refine pure_ (i := 3) (N := some 19) (v := ?_) (a' := ?_) #[true, true, true, true, false, false, false, false, false, false, false, false, false] rfl rfl (any_of HT_.out (by kernel_rfl)) (fun _ _ _ h => h) (Or.inl ⟨by rfl, ?_⟩) ?_ ?_;rotate_left;(intro w';go_simp;with_reducible rfl);rotate_left;(simp only [Act.put, sA, sB, sC, i64_w, i32_w];rfl);refine pure_ (i := 7) (N := some 23) (v := ?_) (a' := ?_) #[true, true, true, true, false, false, false, true, false, false, false, false, false] rfl rfl (any_of HT_.out (by kernel_rfl)) (fun _ _ _ h => h) (Or.inl ⟨by rfl, ?_⟩) ?_ ?_;rotate_left;(intro w';go_simp;with_reducible rfl);rotate_left;(simp only [Act.put, sA, sB, sC, i64_w, i32_w];rfl);refine pure_ (i := 8) (N := some 24) (v := ?_) (a' := ?_) #[true, true, true, true, false, false, false, true, true, false, false, false, false] rfl rfl (any_of HT_.out (by kernel_rfl)) (fun _ _ _ h => h) (Or.inl ⟨by rfl, ?_⟩) ?_ ?_;rotate_left;(intro w';go_simp;with_reducible rfl);rotate_left;(simp only [Act.put, sA, sB, sC, i64_w, i32_w];rfl);refine pure_ (i := 9) (N := some 25) (v := ?_) (a' := ?_) #[true, true, true, true, false, false, false, true, true, true, false, false, false] rfl rfl (any_of HT_.out (by kernel_rfl)) (fun _ _ _ h => h) (Or.inl ⟨by rfl, ?_⟩) ?_ ?_;rotate_left;(intro w';go_simp;with_reducible rfl);rotate_left;(simp only [Act.put, sA, sB, sC, i64_w, i32_w];rfl)
        refine take_ (i := 4) (N := some 20) (v := ?_) (a' := ?_) #[true, true, true, true, true, false, false, true, true, true, false, false, false] rfl rfl (take_ofW HT_.out HW_.out (by kernel_rfl)) (fun _ _ _ h => h) (Or.inl ⟨by rfl, ?_⟩) hHeld ?_ ?_;rotate_left
        ·
         rintro w' ⟨s0, s1⟩
         go_simp;with_reducible rfl
        rotate_left
        · simp only [Act.put, sA, sB, sC, i64_w, i32_w];rfl
        refine take_ (i := 10) (N := some 26) (v := ?_) (a' := ?_) #[true, true, true, true, true, false, false, true, true, true, true, false, false] rfl rfl (take_ofW HT_.out HW_.out (by kernel_rfl)) (fun _ _ _ h => h) (Or.inl ⟨by rfl, ?_⟩) hHeld ?_ ?_;rotate_left
        ·
         rintro w' ⟨s0, s1⟩
         go_simp;with_reducible rfl
        rotate_left
        · simp only [Act.put, sA, sB, sC, i64_w, i32_w];rfl
        refine one_ (i := 5) (N := some 21) #[true, true, true, true, true, true, false, true, true, true, true, false, false] rfl rfl (one_of HT_.out (by kernel_rfl)) (by decide) (fun K hK => ?_);refine value_ (w1 := ?_) (v := ?_) (by rfl) rfl ?_ ?_;rotate_left 2
        ·
         go_simp
         constructor
         · rfl
         · rfl
        refine hK.out _ _ ⟨(World.cell?_alloc_lt _ _ _ (World.block_lt_of_cell? _ _ (((HB.out.cell (World.block_lt_of_cell? w _ hw439_0)).trans hw439_0)))).trans (((HB.out.cell (World.block_lt_of_cell? w _ hw439_0)).trans hw439_0)), (World.cell?_alloc_lt _ _ _ (World.block_lt_of_cell? _ _ (((HB.out.cell (World.block_lt_of_cell? w _ hw443_0)).trans hw443_0)))).trans (((HB.out.cell (World.block_lt_of_cell? w _ hw443_0)).trans hw443_0))⟩ (fun hHeld => ?_);clear hK K;refine norm_ (a' := ?_) ?_ ?_;rotate_left
        ·
         show Act.put _ (some 21) _ = _
         simp only [Act.put, sA, sB, sC, i64_w, i32_w];rfl
        refine one_ (i := 6) (N := some 22) #[true, true, true, true, true, true, true, true, true, true, true, false, false] rfl rfl (one_of HT_.out (by kernel_rfl)) (by decide) (fun K hK => ?_);refine Kd.R_append_step (Kd.int .i64) (w0 := w) w.heap.size (by rfl) (.tmp 16) (.tmp 21) 22 3 (.int .i64 0) 8 rfl Try.underlying22 info3 rfl (by decide) (by omega) u5 x5_1 (rd l0 x6_1) [.int .i64 (rd l0 x6_1)] (fun _ => True) (fun _ => False) rfl rfl ?aP (fun _ hk => hk.elim) ?aF ?aO ?aB ?aS ?aL ?_
        (case aP => exact rfl)
        (case aB => exact (bm HB.out))
        (case aF => exact (fun _ _ => trivial))
        (case aO => exact (Kd.rm HO_5.out))
        (case aS => exact (below_size (bm HB.out)))
        (case aL => have := LMc7.out; omega)
        intro v441 w11 ho hb hg hat;rw [<- hy440.out] at ho;replace HB := am (hb);have HO442 := am (ho);clear HO_5;clear ho hb hg hat;refine hK.out _ _ ⟨((HB.out.cell (World.block_lt_of_cell? w _ hw439_0)).trans hw439_0), ((HB.out.cell (World.block_lt_of_cell? w _ hw443_0)).trans hw443_0)⟩ (fun hHeld => ?_);clear hK K;refine norm_ (a' := ?_) ?_ ?_;rotate_left
        ·
         show Act.put _ (some 22) _ = _
         simp only [Act.put, sA, sB, sC, i64_w, i32_w];rfl
        refine one_ (i := 11) (N := some 27) #[true, true, true, true, true, true, true, true, true, true, true, true, false] rfl rfl (one_of HT_.out (by kernel_rfl)) (by decide) (fun K hK => ?_);refine Kd.R_append_rows_step (Kd.int .i64) (w0 := w) w.heap.size (by rfl) (.tmp 22) (.tmp 26) 22 3 (.int .i64 0) 8 rfl Try.underlying22 info3 rfl (by decide) (by omega) v441 y440 (rd_L1 l1 x6_1) _ _ _ (fun _ => True) (fun _ => False) rfl rfl ?aO ?aR (fun _ _ h => h) (fun _ h => h.elim) ?aF ?aB ?aS ?aL ?_
        (case aR => exact Kd.cm ((Kd.C_below HR443_0.out HB.out)))
        (case aB => exact (bm HB.out))
        (case aF => exact (fun _ _ => trivial))
        (case aO => exact (Kd.rm HO442.out))
        (case aS => exact (below_size (bm HB.out)))
        (case aL => have := LMc9.out; omega)
        intro v445 w12 ho hb hg hat;rw [<- hy444.out] at ho;replace HB := am (hb);have HO446 := am (ho);clear HO442;clear ho hb hg hat;refine hK.out _ _ ⟨((HB.out.cell (World.block_lt_of_cell? w _ hw439_0)).trans hw439_0), ((HB.out.cell (World.block_lt_of_cell? w _ hw443_0)).trans hw443_0)⟩ (fun hHeld => ?_);clear hK K;refine norm_ (a' := ?_) ?_ ?_;rotate_left
        ·
         show Act.put _ (some 27) _ = _
         simp only [Act.put, sA, sB, sC, i64_w, i32_w];rfl
        refine pure_ (i := 12) (N := some 5) (v := ?_) (a' := ?_) #[true, true, true, true, true, true, true, true, true, true, true, true, true] rfl rfl (any_of HT_.out (by kernel_rfl)) (fun _ _ _ h => h) (Or.inl ⟨by rfl, ?_⟩) ?_ ?_;rotate_left;(intro w';go_simp;with_reducible rfl);rotate_left;(simp only [Act.put, sA, sB, sC, i64_w, i32_w];rfl)
        refine done_ (done_of HT_.out (by kernel_rfl)) ?_;go_wp2
        go_roundg k1
        case measure => have := HK1.out; omega
        case rel => exact ⟨(y444), (wrap64 (x6_1 + 1)), (by rfl), H', ⟨by have := HK1.out; omega⟩, ⟨Kd.rm HO446.out⟩, ⟨bm HB.out⟩⟩
       · rw [if_neg c9] at H;exact absurd H (by simp)
      · rw [if_neg c8] at H;exact absurd H (by simp)
     · rw [if_neg c7] at H;exact absurd H (by simp)
    · rw [if_neg c6] at H;exact absurd H (by simp)
   · rw [if_neg c5] at H;have c5b0 : decide (x6_1 < (l0.length : Int)) = false := decide_eq_false c5;clear c5;obtain rfl := Option.some.inj H;go_wp2;go_ret;exact ⟨_, by rfl, Kd.rm HO_5.out, bm HB.out⟩

end Go.Proofs.Ytahhdbjjfdjloaa.Jf

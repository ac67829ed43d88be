-- half
-- Written by a program of this session's (wip/mp) out of the translation, over the kit's print with changes.
import Derived.Test.YtahhdbjjfdjloaaJdx0
import Derived.Test.YtahhdbjjfdjloaaJdx10
import Derived.Test.YtahhdbjjfdjloaaJdx11
import Derived.Test.YtahhdbjjfdjloaaJdx12
namespace Go.Proofs.Ytahhdbjjfdjloaa.Jd
open Go.RowKit Go.Proofs.YtahhdbjjfdjloaaW.PrintWords Go.Proofs.YtahhdbjjfdjloaaW.PrintLast Go.Proofs.YtahhdbjjfdjloaaW.PrintMore
attribute [local go_sem] max2_int min2_int max_two min_two max_three min_three max_four min_four   -- for this text's walks alone
set_option linter.unusedVariables false
set_option linter.unusedSimpArgs false

/-! ### impl_power: function 73 -/
def impl_power.f (l0 : List (S72)) : Option ((List (S72))) := some (([(⟨1, l0⟩ : S72)] : List (S72)))
set_option maxHeartbeats 8000000 in
set_option maxRecDepth 100000 in
theorem impl_power.calls (P0_ : Nat → Prop) (A0 : Option Addr) (c0 : Nat) (l0 : List (S72)) (r : List (S72)) (w : World) (hs0 : Kd.V k72 72 w w.heap.size (fun k_ => P0_ k_) (.slice A0 l0.length c0) l0) (h : impl_power.f l0 = some r) :
  Calls Try.prog 73 #[.slice A0 l0.length c0] w fun e w' => ∃ v0_ : Value, e = .returned (v0_) ∧ Kd.N k72 72 w' w.heap.size (fun k_ => (P0_ k_ ∨ w.heap.size ≤ k_)) v0_ r ∧ Below w.heap.size w w' := by
 have hu72 := Try.underlying72;have HO0 := am (show Kd.V k72 72 w w.heap.size (fun k_ => (P0_ k_ ∨ w.heap.size ≤ k_)) (.slice A0 l0.length c0) l0 from Kd.V_mono hs0 (fun k_ hk => .inl hk));have HB := am (Below.refl w.heap.size w);have H : (some (([(⟨1, l0⟩ : S72)] : List (S72)))) = some r := h;clear h
 obtain ⟨y485, hy485⟩ : ∃ y_ : List (S72), y_ = (([(⟨1, l0⟩ : S72)] : List (S72))) := ⟨_, rfl⟩
 replace H : (some y485) = some r := by first | (rw [hy485]; with_reducible exact H) | (have H2_ := oB H; rw [hy485]; with_reducible exact H2_) | (have H2_ := oB H; with_reducible exact H2_) | with_reducible exact H | (rw [hy485]; exact H) | exact H
 replace hy485 := am hy485;obtain rfl := Option.some.inj H;go_enter Try.func73, Try.ntmps73;go_wp2_with (first | ((with_reducible refine gate_dst (N := 5) rfl ?_); refine Kd.N_lit k72 _ 72 ?hg (N' := 5) ?hd (xs := ([(⟨1, l0⟩ : S72)] : List (S72))) (inner := [.int .i64 1, .slice A0 l0.length c0]) (ok := (fun k_ => (P0_ k_ ∨ w.heap.size ≤ k_))) (okp := (fun k_ => (P0_ k_ ∨ w.heap.size ≤ k_))) ?hr ?hp (fun _ hk => hk) ((show ∀ k_, w.heap.size ≤ k_ → (fun k_ => (P0_ k_ ∨ w.heap.size ≤ k_)) k_ from fun k_ hk => (.inr (Nat.le_trans (below_size (bm HB.out)) hk))) _ (Nat.le_refl _)) (Below.refl _ _) (Nat.le_refl _) (by simp) ?_; (case hd => rfl); (case hg => rfl); (case hr => first | (go_simp; done) | (go_simp; rfl)); (case hp => exact (Reps.c2 (show Kd.FK k72 _ _ (⟨1, l0⟩ : S72) [.int .i64 1, .slice A0 l0.length c0] from (k72_mkF _ _ (⟨1, l0⟩ : S72) (Kd.V_reads' (Kd.V_mono (ok' := (fun k_ => (P0_ k_ ∨ w.heap.size ≤ k_))) (HO0.out) (fun k_ hk => hk))).2.1 (Kd.V_F (Kd.V_mono (ok' := (fun k_ => (P0_ k_ ∨ w.heap.size ≤ k_))) (HO0.out) (fun k_ hk => hk))))) (Reps.none _ _))); intro v486 w2 ho3 hb hg_ hnew_; clear hg_ hnew_; (first | rw [← hy485.out] at ho3 | (simp only [Int.reduceToNat] at ho3; rw [← hy485.out] at ho3)); replace HO0 := am (Kd.V_elder' (Kd.vm HO0.out) (Kd.N_base ho3) hb);have HO487 := am (Kd.N_lower ho3 (below_size (bm HB.out)));replace HB := am (below_step (bm HB.out) hb); clear hb ho3));go_ret;exact ⟨_, by first | rfl | (simp [errW_none, errW_some] <;> rfl) | (simp [*, errW_none, errW_some] <;> rfl), Kd.nm HO487.out, bm HB.out⟩

/-! ### impl_hydra_ord: function 45 -/
mutual
def impl_hydra_ord.l0 : Nat → List (S72) → List (S46) → Int → Int → Option ((List (S72)))
 | 0, _, _, _, _ => none
 | k + 1, x3, x7, x8, x9 => if x9 < x8 then (if 0 ≤ x9 then (if x9 < (x7.length : Int) then ((impl_hydra_ord.f k ((rd_T46 x7 x9).f0)).bind fun t492 => ((impl_power.f t492).bind fun t495 => ((impl_natural.f k x3 t495).bind fun t498 => (impl_hydra_ord.l0 k t498 x7 x8 (wrap64 (x9 + 1)))))) else (none)) else (none)) else (some x3)
def impl_hydra_ord.f : Nat → List (S46) → Option ((List (S72)))
 | 0, _ => none
 | k + 1, l0 => impl_hydra_ord.l0 k (([] : List (S72))) l0 (l0.length : Int) 0
end
theorem impl_hydra_ord.mono_l : ∀ k, (∀ y0, LeO (impl_hydra_ord.f k y0) (impl_hydra_ord.f (k + 1) y0)) ∧ (∀ y0 y1 y2 y3, LeO (impl_hydra_ord.l0 k y0 y1 y2 y3) (impl_hydra_ord.l0 (k + 1) y0 y1 y2 y3))
 | 0 => ⟨fun _ r h => by simp [impl_hydra_ord.f] at h, fun _ _ _ _ r h => by simp [impl_hydra_ord.l0] at h⟩
 | k + 1 => by
  obtain ⟨ih0, ih1⟩ := impl_hydra_ord.mono_l k;refine ⟨?_, ?_⟩
  all_goals (intros; first | unfold impl_hydra_ord.f | unfold impl_hydra_ord.l0)
  all_goals repeat' first | (with_reducible exact ih0 _) | (with_reducible exact ih1 _ _ _ _) | (with_reducible exact impl_natural.mono _ _ _) | (with_reducible exact LeO.refl _) | (with_reducible exact LeO.none _) | (with_reducible refine LeO.ite ?_ ?_) | (with_reducible refine LeO.bind ?_ (fun _ => ?_))
theorem impl_hydra_ord.mono : ∀ a0 k, LeO (impl_hydra_ord.f k a0) (impl_hydra_ord.f (k + 1) a0) := by
 intro a0 k;obtain ⟨ih0, ih1⟩ := impl_hydra_ord.mono_l k;exact ih0 a0
set_option maxHeartbeats 8000000 in
set_option maxRecDepth 100000 in
theorem impl_hydra_ord.calls (k : Nat) : ∀ (A0 : Option Addr) (c0 : Nat) (l0 : List (S46)) (r : List (S72)) (w : World) (hr0 : Kd.C k46 w A0 l0.length l0) (hc0 : l0.length ≤ c0) (h : impl_hydra_ord.f k l0 = some r),
  Calls Try.prog 45 #[.slice A0 l0.length c0] w fun e w' => ∃ v0_ : Value, e = .returned (v0_) ∧ Kd.N k72 72 w' w.heap.size (fun k_ => (w.heap.size ≤ k_)) v0_ r ∧ Below w.heap.size w w' := by
 induction k using Nat.strongRecOn with
 | _ k ih =>
 intro A0 c0 l0 r w hr0 hc0 h
 cases k with
 | zero => exact absurd h (by simp [impl_hydra_ord.f])
 | succ k =>
 simp only [impl_hydra_ord.f] at h;have HR0 := am hr0;have HC0 := am hc0;clear hr0 hc0;have HB := am (Below.refl w.heap.size w);have H : (impl_hydra_ord.l0 k (([] : List (S72))) l0 (l0.length : Int) 0) = some r := h;clear h
 obtain ⟨y488, hy488⟩ : ∃ y_ : List (S72), y_ = (([] : List (S72))) := ⟨_, rfl⟩
 replace H : (impl_hydra_ord.l0 k y488 l0 (l0.length : Int) 0) = some r := by first | (rw [hy488]; with_reducible exact H) | (have H2_ := oB H; rw [hy488]; with_reducible exact H2_) | (have H2_ := oB H; with_reducible exact H2_) | with_reducible exact H | (rw [hy488]; exact H) | exact H
 replace hy488 := am hy488;have H' := am H;clear H;go_enter Try.func45, Try.ntmps45;go_wp2_with (first | ((with_reducible refine gate_dst (N := 6) rfl ?_); refine Kd.N_lit k72 _ 72 ?hg (N' := 6) ?hd (xs := ([] : List (S72))) (inner := []) (ok := (fun k_ => (w.heap.size ≤ k_))) (okp := (fun k_ => (w.heap.size ≤ k_))) ?hr ?hp (fun _ hk => hk) ((show ∀ k_, w.heap.size ≤ k_ → (fun k_ => (w.heap.size ≤ k_)) k_ from fun k_ hk => (Nat.le_trans (below_size (bm HB.out)) hk)) _ (Nat.le_refl _)) (Below.refl _ _) (Nat.le_refl _) (by simp) ?_; (case hd => rfl); (case hg => rfl); (case hr => first | (go_simp; done) | (go_simp; rfl)); (case hp => exact (Reps.none _ _)); intro v489 w2 ho3 hb hg_ hnew_; clear hg_ hnew_; (first | rw [← hy488.out] at ho3 | (simp only [Int.reduceToNat] at ho3; rw [← hy488.out] at ho3)); have HO490 := am (Kd.N_lower ho3 (below_size (bm HB.out)));replace HB := am (below_step (bm HB.out) hb); clear hb ho3))
 go_loopg [3, 9] k (fun kq v3 v9 w' => ∃ (x3_1 : List (S72)) (x9_1 : Int), v9 = .int .i64 x9_1 ∧ Aside0 (impl_hydra_ord.l0 kq x3_1 l0 (l0.length : Int) x9_1 = some r) ∧ Aside0 (kq ≤ k) ∧ Aside0 (Kd.N k72 72 w' w.heap.size (fun k_ => (w.heap.size ≤ k_)) v3 x3_1) ∧ Aside0 (Below w.heap.size w w'))
 case atStart => exact ⟨(y488), (0), (by first | rfl | (simp; done) | (simp [*]; done)), H', ⟨Nat.le_refl _⟩, ⟨Kd.nm HO490.out⟩, ⟨bm HB.out⟩⟩
 case round =>
  clear H';(try clear p2);(try clear HO_3);(try clear HB);obtain ⟨x3_1, x9_1, rfl, HA, HK1, HO_3, HB⟩ := hrel
  cases gk with
  | zero => exact absurd HA.out (by simp [impl_hydra_ord.l0])
  | succ k1 =>
   have H := HA.out;clear HA;simp only [impl_hydra_ord.l0] at H;by_cases c4 : x9_1 < (l0.length : Int)
   ·
    rw [if_pos c4] at H;have c4b0 : decide (x9_1 < (l0.length : Int)) = true := decide_eq_true c4;clear c4;by_cases c5 : 0 ≤ x9_1
    ·
     rw [if_pos c5] at H;have c5b0 : decide (0 ≤ x9_1) = true := decide_eq_true c5;clear c5;by_cases c6 : x9_1 < (l0.length : Int)
     ·
      rw [if_pos c6] at H;have c6b0 : decide (x9_1 < (l0.length : Int)) = true := decide_eq_true c6;clear c6;replace H := oE H;obtain ⟨t492, A7, H⟩ := H;replace H : ((impl_power.f t492).bind fun t495 => ((impl_natural.f k1 x3_1 t495).bind fun t498 => (impl_hydra_ord.l0 k1 t498 l0 (l0.length : Int) (wrap64 (x9_1 + 1))))) = some r := H;replace A7 := am A7;replace H := oE H;obtain ⟨t495, A8, H⟩ := H;replace H : ((impl_natural.f k1 x3_1 t495).bind fun t498 => (impl_hydra_ord.l0 k1 t498 l0 (l0.length : Int) (wrap64 (x9_1 + 1)))) = some r := H;replace A8 := am A8;replace H := oE H;obtain ⟨t498, A9, H⟩ := H;replace H : (impl_hydra_ord.l0 k1 t498 l0 (l0.length : Int) (wrap64 (x9_1 + 1))) = some r := H;replace A9 := am A9;have H' := am H;clear H;have p491 : 0 ≤ (x9_1 : Int) := of_decide_eq_true (by assumption);have q491 : x9_1 < (l0.length : Int) := of_decide_eq_true (by assumption);obtain ⟨ad491, A491_0, c491_0, e491, hx491_0, hl491_0, hi491_0⟩ := at_T46 HR0.out x9_1 p491 q491;cases e491
      replace hx491_0 := (HB.out.cell (World.block_lt_of_cell? w _ hx491_0)).trans hx491_0;have HR491_0 := am hi491_0;have HC491_0 := am hl491_0;clear hi491_0 hl491_0;replace p491 := eq_true p491;replace q491 := eq_true q491;go_wp2_with (first | ((with_reducible refine gate_callee (f := 45) rfl ?_); refine goesL_ (some 15) rfl rfl Try.func45 (by kernel_rfl) rfl #[.slice A491_0 ((rd_T46 l0 x9_1).f0).length c491_0] rfl (by (try simp only [mA, mB, mC]); first | done | rfl) ?_; (with_reducible refine (ih k1 (by have := HK1.out; omega) _ _ ((rd_T46 l0 x9_1).f0) t492 _ ?side1 ?side2 A7.out).mono ?_); (case side1 => exact Kd.cm ((Kd.C_below HR491_0.out HB.out))); (case side2 => exact HC491_0.out); rintro e w10 ⟨v493, rfl, ho0, hb⟩; refine ⟨_, rfl, ?_⟩; have HO494 := am (Kd.N_lower (Kd.N_mono (ok' := fun k_ => (w.heap.size ≤ k_) ∧ some k_ ≠ (u3 : Value).ownBlock) ho0 (fun k_ hk_ => ⟨(Nat.le_trans (below_size (bm HB.out)) hk_), (Kd.fresh' (Kd.N_lt (Kd.nm HO_3.out)) k_ hk_)⟩)) (below_size (bm HB.out)));replace HO_3 := am (Kd.N_elder' (Kd.nm HO_3.out) (Kd.N_base ho0) hb);replace HB := am (below_step (bm HB.out) hb); (try clear hb); (try clear ho0); obtain ⟨Ao11, co11, eo11⟩ := Kd.N_slice HO494.out; subst eo11) | ((with_reducible refine gate_callee (f := 73) rfl ?_); refine goesL_ (some 16) rfl rfl Try.func73 (by kernel_rfl) rfl #[.slice Ao11 t492.length co11] rfl (by (try simp only [mA, mB, mC]); first | done | rfl) ?_; (with_reducible refine (impl_power.calls (fun k_ => ((w.heap.size ≤ k_) ∧ some k_ ≠ (u3 : Value).ownBlock)) _ _ t492 t495 _ ?side1 A8.out).mono ?_); (case side1 => exact Kd.N_V (HO494.out)); rintro e w12 ⟨v496, rfl, ho0, hb⟩; refine ⟨_, rfl, ?_⟩; replace HO494 := am (Kd.N_elder' (Kd.nm HO494.out) (Kd.N_base ho0) hb);have HO497 := am (Kd.N_lower (Kd.N_mono (ok' := fun k_ => (w.heap.size ≤ k_) ∧ some k_ ≠ (u3 : Value).ownBlock) ho0 (fun k_ hk_ => ⟨Or.elim hk_ (fun hs_ => hs_.1) (fun hn_ => (Nat.le_trans (below_size (bm HB.out)) hn_)), Or.elim hk_ (fun hs_ => hs_.2) (fun hn_ => (Kd.fresh' (Kd.N_lt (Kd.nm HO_3.out)) k_ hn_))⟩)) (below_size (bm HB.out)));replace HO_3 := am (Kd.N_elder' (Kd.nm HO_3.out) (Kd.N_base ho0) hb);replace HB := am (below_step (bm HB.out) hb); (try clear hb); (try clear ho0); obtain ⟨Ao13, co13, eo13⟩ := Kd.N_slice HO_3.out; subst eo13; obtain ⟨Ao14, co14, eo14⟩ := Kd.N_slice HO497.out; subst eo14) | ((with_reducible refine gate_callee (f := 72) rfl ?_); refine goesL_ (some 17) rfl rfl Try.func72 (by kernel_rfl) rfl #[.slice Ao13 x3_1.length co13, .slice Ao14 t495.length co14] rfl (by (try simp only [mA, mB, mC]); first | done | rfl) ?_; (with_reducible refine (impl_natural.calls k1 (fun k_ => (((w.heap.size ≤ k_) ∧ some k_ ≠ (.slice Ao11 t492.length co11 : Value).ownBlock) ∧ some k_ ≠ (.slice Ao14 t495.length co14 : Value).ownBlock)) _ _ x3_1 (fun k_ => ((w.heap.size ≤ k_) ∧ some k_ ≠ (.slice Ao13 x3_1.length co13 : Value).ownBlock)) _ _ t495 t498 _ ?side1 ?side2 A9.out).mono ?_); (case side1 => exact Kd.N_V (HO_3.out)); (case side2 => exact Kd.N_V (HO497.out)); rintro e w15 ⟨v499, rfl, ho0, hb⟩; refine ⟨_, rfl, ?_⟩; replace HO_3 := am (Kd.N_elder' (Kd.nm HO_3.out) (Kd.N_base ho0) hb);replace HO494 := am (Kd.N_elder' (Kd.nm HO494.out) (Kd.N_base ho0) hb);replace HO497 := am (Kd.N_elder' (Kd.nm HO497.out) (Kd.N_base ho0) hb);have HO500 := am (Kd.N_lower (Kd.N_mono (ok' := fun k_ => (w.heap.size ≤ k_)) ho0 (fun k_ hk_ => Or.elim hk_ (fun hs_ => Or.elim hs_ (fun hs_ => hs_.1.1) (fun hs_ => hs_.1)) (fun hn_ => (Nat.le_trans (below_size (bm HB.out)) hn_)))) (below_size (bm HB.out)));replace HB := am (below_step (bm HB.out) hb); (try clear hb); (try clear ho0)))
      go_roundg k1
      case measure => have := HK1.out; omega
      case rel => exact ⟨(t498), (wrap64 (x9_1 + 1)), (by first | rfl | (simp; done) | (simp [*]; done)), H', ⟨by have := HK1.out; omega⟩, ⟨Kd.nm HO500.out⟩, ⟨bm HB.out⟩⟩
     ·
      rw [if_neg c6] at H;exact absurd H (by simp)
    ·
     rw [if_neg c5] at H;exact absurd H (by simp)
   ·
    rw [if_neg c4] at H;have c4b0 : decide (x9_1 < (l0.length : Int)) = false := decide_eq_false c4;clear c4;obtain rfl := Option.some.inj H;go_wp2;go_ret;exact ⟨_, by first | rfl | (simp [errW_none, errW_some] <;> rfl) | (simp [*, errW_none, errW_some] <;> rfl), Kd.nm HO_3.out, bm HB.out⟩

/-! ### impl_HydraOrd: function 18 -/
def impl_HydraOrd.f (k : Nat) (l0 : List Int) : Option (List Int × Bool) := (impl_hydraOf.f k l0).bind fun bt501 => (if bt501.2 = true then ((impl_hydra_ord.f k bt501.1).bind fun t505 => ((impl_told.f k t505).bind fun bt508 => (some (bt508.1, bt508.2)))) else (some (([] : List Int), false)))
theorem impl_HydraOrd.mono : ∀ a0 k, LeO (impl_HydraOrd.f k a0) (impl_HydraOrd.f (k + 1) a0) := by
 intro a0 k;unfold impl_HydraOrd.f
 repeat' first | (with_reducible exact impl_hydraOf.mono _ _) | (with_reducible exact impl_hydra_ord.mono _ _) | (with_reducible exact impl_told.mono _ _) | (with_reducible exact LeO.refl _) | (with_reducible exact LeO.none _) | (with_reducible refine LeO.ite ?_ ?_) | (with_reducible refine LeO.bind ?_ (fun _ => ?_))
set_option maxHeartbeats 8000000 in
set_option maxRecDepth 100000 in
theorem impl_HydraOrd.calls (k : Nat) (A0 : Option Addr) (c0 : Nat) (l0 : List Int) (r1 : List Int) (r2 : Bool) (w : World) (hr0 : Kd.C (Kd.int .i64) w A0 l0.length l0) (hc0 : l0.length ≤ c0) (h : impl_HydraOrd.f k l0 = some (r1, r2)) :
  Calls Try.prog 18 #[.slice A0 l0.length c0] w fun e w' => ∃ v0_ : Value, e = .returned (.tuple #[v0_, .bool r2]) ∧ Kd.Y (Kd.int .i64) 3 w' w.heap.size (fun _ => True) v0_ r1 ∧ Below w.heap.size w w' := by
 have HR0 := am hr0;have HC0 := am hc0;clear hr0 hc0;have HB := am (Below.refl w.heap.size w);have H : ((impl_hydraOf.f k l0).bind fun bt501 => (if bt501.2 = true then ((impl_hydra_ord.f k bt501.1).bind fun t505 => ((impl_told.f k t505).bind fun bt508 => (some (bt508.1, bt508.2)))) else (some (([] : List Int), false)))) = some (r1, r2) := h;clear h;replace H := oE H;obtain ⟨⟨t501, t502⟩, A2, H⟩ := H;replace H : (if t502 = true then ((impl_hydra_ord.f k t501).bind fun t505 => ((impl_told.f k t505).bind fun bt508 => (some (bt508.1, bt508.2)))) else (some (([] : List Int), false))) = some (r1, r2) := H;replace A2 := am A2;by_cases c3 : t502 = true
 ·
  subst c3
  have H1 : ((impl_hydra_ord.f k t501).bind fun t505 => ((impl_told.f k t505).bind fun bt508 => (some (bt508.1, bt508.2)))) = some (r1, r2) := by rw [if_pos rfl] at H; exact H
  clear H;have H := H1;clear H1;replace H := oE H;obtain ⟨t505, A4, H⟩ := H;replace H : ((impl_told.f k t505).bind fun bt508 => (some (bt508.1, bt508.2))) = some (r1, r2) := H;replace A4 := am A4;replace H := oE H;obtain ⟨⟨t508, t509⟩, A5, H⟩ := H;replace H : (some (t508, t509)) = some (r1, r2) := H;replace A5 := am A5;simp only [Option.some.injEq, Prod.mk.injEq] at H;obtain ⟨rfl, rfl⟩ := H;go_enter Try.func18, Try.ntmps18;go_wp2_with (first | ((with_reducible refine gate_callee (f := 43) rfl ?_); refine goesL_ (some 8) rfl rfl Try.func43 (by kernel_rfl) rfl #[.slice A0 l0.length c0] rfl (by (try simp only [mA, mB, mC]); first | done | rfl) ?_; (with_reducible refine (impl_hydraOf.calls k _ _ l0 t501 true _ ?side1 ?side2 A2.out).mono ?_); (case side1 => exact Kd.cm HR0.out); (case side2 => exact HC0.out); rintro e w6 ⟨v503, rfl, ho0, hb⟩; refine ⟨_, rfl, ?_⟩; have HO504 := am (Kd.N_lower (Kd.N_mono (ok' := fun k_ => True) (Kd.R_N (Kd.R_bound ho0)) (fun k_ hk_ => trivial)) (below_size (bm HB.out)));replace HB := am (below_step (bm HB.out) hb); (try clear hb); (try clear ho0); obtain ⟨Ao7, co7, eo7⟩ := Kd.N_slice HO504.out; subst eo7) | ((with_reducible refine gate_callee (f := 45) rfl ?_); refine goesL_ (some 14) rfl rfl Try.func45 (by kernel_rfl) rfl #[.slice Ao7 t501.length co7] rfl (by (try simp only [mA, mB, mC]); first | done | rfl) ?_; (with_reducible refine (impl_hydra_ord.calls k _ _ t501 t505 _ ?side1 ?side2 A4.out).mono ?_); (case side1 => exact Kd.cm ((Kd.N_reads' HO504.out).2.2)); (case side2 => exact (Kd.N_reads' HO504.out).2.1); rintro e w8 ⟨v506, rfl, ho0, hb⟩; refine ⟨_, rfl, ?_⟩; have HO507 := am (Kd.N_lower (Kd.N_mono (ok' := fun k_ => some k_ ≠ (.slice Ao7 t501.length co7 : Value).ownBlock) ho0 (fun k_ hk_ => (Kd.fresh' (Kd.N_lt (Kd.nm HO504.out)) k_ hk_))) (below_size (bm HB.out)));replace HO504 := am (Kd.N_elder' (Kd.nm HO504.out) (Kd.N_base ho0) hb);replace HB := am (below_step (bm HB.out) hb); (try clear hb); (try clear ho0); obtain ⟨Ao9, co9, eo9⟩ := Kd.N_slice HO507.out; subst eo9) | ((with_reducible refine gate_callee (f := 44) rfl ?_); refine goesL_ (some 15) rfl rfl Try.func44 (by kernel_rfl) rfl #[.slice Ao9 t505.length co9] rfl (by (try simp only [mA, mB, mC]); first | done | rfl) ?_; (with_reducible refine (impl_told.calls k _ _ t505 t508 t509 _ ?side1 ?side2 A5.out).mono ?_); (case side1 => exact Kd.cm ((Kd.N_reads' HO507.out).2.2)); (case side2 => exact (Kd.N_reads' HO507.out).2.1); rintro e w10 ⟨v510, rfl, ho0, hb⟩; refine ⟨_, rfl, ?_⟩; replace HO504 := am (Kd.N_elder' (Kd.nm HO504.out) (Kd.Y_base ho0) hb);replace HO507 := am (Kd.N_elder' (Kd.nm HO507.out) (Kd.Y_base ho0) hb);have HO511 := am (Kd.Y_lower ho0 (below_size (bm HB.out)));replace HB := am (below_step (bm HB.out) hb); (try clear hb); (try clear ho0)));go_ret2;exact ⟨_, by first | rfl | (simp [errW_none, errW_some] <;> rfl) | (simp [*, errW_none, errW_some] <;> rfl), Kd.ym HO511.out, bm HB.out⟩
 ·
  replace c3 := Bool.eq_false_iff.mpr c3;subst c3
  have H1 : (some (([] : List Int), false)) = some (r1, r2) := by rw [if_neg (show ¬ (false = true) by decide)] at H; exact H
  clear H;have H := H1;clear H1;simp only [Option.some.injEq, Prod.mk.injEq] at H;obtain ⟨rfl, rfl⟩ := H;go_enter Try.func18, Try.ntmps18;go_wp2_with (first | ((with_reducible refine gate_callee (f := 43) rfl ?_); refine goesL_ (some 8) rfl rfl Try.func43 (by kernel_rfl) rfl #[.slice A0 l0.length c0] rfl (by (try simp only [mA, mB, mC]); first | done | rfl) ?_; (with_reducible refine (impl_hydraOf.calls k _ _ l0 t501 false _ ?side1 ?side2 A2.out).mono ?_); (case side1 => exact Kd.cm HR0.out); (case side2 => exact HC0.out); rintro e w11 ⟨v503, rfl, ho0, hb⟩; refine ⟨_, rfl, ?_⟩; have HO504 := am (Kd.N_lower (Kd.N_mono (ok' := fun k_ => True) (Kd.R_N (Kd.R_bound ho0)) (fun k_ hk_ => trivial)) (below_size (bm HB.out)));replace HB := am (below_step (bm HB.out) hb); (try clear hb); (try clear ho0)));go_ret2;exact ⟨_, by first | rfl | (simp [errW_none, errW_some] <;> rfl) | (simp [*, errW_none, errW_some] <;> rfl), Kd.Y_of_R (by first | exact Kd.R_nil _ _ _ _ _ | exact Kd.N_nil _ _ _ _ _ | exact Kd.V_nil _ _ _ _ _ | exact Kd.Y_nil _ _ _ _ _ | exact Kd.S_nil _ _ _ _ _), bm HB.out⟩

/-! ### laws_sameInts: function 20 -/
def laws_sameInts.l0 : Nat → List Int → List Int → Int → Option (Bool)
 | 0, _, _, _ => none
 | k + 1, x0, x1, x5 => if x5 < (x0.length : Int) then (if 0 ≤ x5 then (if x5 < (x1.length : Int) then (if (rd x0 x5) = (rd x1 x5) then (laws_sameInts.l0 k x0 x1 (wrap64 (x5 + 1))) else (some false)) else (none)) else (none)) else (some true)
def laws_sameInts.f (k : Nat) (l0 : List Int) (l1 : List Int) : Option (Bool) := if (l0.length : Int) = (l1.length : Int) then (laws_sameInts.l0 k l0 l1 0) else (some false)
theorem laws_sameInts.mono_l : ∀ k, (∀ y0 y1 y2, LeO (laws_sameInts.l0 k y0 y1 y2) (laws_sameInts.l0 (k + 1) y0 y1 y2))
 | 0 => fun _ _ _ r h => by simp [laws_sameInts.l0] at h
 | k + 1 => by
  have ih0 := laws_sameInts.mono_l k
  ·
   intro y0 y1 y2;unfold laws_sameInts.l0
   repeat' first | (with_reducible exact ih0 _ _ _) | (with_reducible exact LeO.refl _) | (with_reducible exact LeO.none _) | (with_reducible refine LeO.ite ?_ ?_) | (with_reducible refine LeO.bind ?_ (fun _ => ?_))
theorem laws_sameInts.mono : ∀ a0 a1 k, LeO (laws_sameInts.f k a0 a1) (laws_sameInts.f (k + 1) a0 a1) := by
 intro a0 a1 k;have ih0 := laws_sameInts.mono_l k;unfold laws_sameInts.f
 repeat' first | (with_reducible exact ih0 _ _ _) | (with_reducible exact LeO.refl _) | (with_reducible exact LeO.none _) | (with_reducible refine LeO.ite ?_ ?_) | (with_reducible refine LeO.bind ?_ (fun _ => ?_))
set_option maxHeartbeats 8000000 in
set_option maxRecDepth 100000 in
theorem laws_sameInts.calls (k : Nat) (A0 : Option Addr) (c0 : Nat) (l0 : List Int) (A1 : Option Addr) (c1 : Nat) (l1 : List Int) (r : Bool) (w : World) (hr0 : Kd.C (Kd.int .i64) w A0 l0.length l0) (hc0 : l0.length ≤ c0) (hr1 : Kd.C (Kd.int .i64) w A1 l1.length l1) (hc1 : l1.length ≤ c1) (h : laws_sameInts.f k l0 l1 = some r) :
  Calls Try.prog 20 #[.slice A0 l0.length c0, .slice A1 l1.length c1] w fun e w' => e = .returned (.bool r) ∧ Drawn0 w w' := by
 have HR0 := am hr0;have HC0 := am hc0;clear hr0 hc0;have HR1 := am hr1;have HC1 := am hc1;clear hr1 hc1;have H : (if (l0.length : Int) = (l1.length : Int) then (laws_sameInts.l0 k l0 l1 0) else (some false)) = some r := h;clear h;by_cases c3 : (l0.length : Int) = (l1.length : Int)
 ·
  rw [if_pos c3] at H;have c3b0 : ((l0.length : Int) == (l1.length : Int)) = true := beq_iff_eq.mpr c3;have c3b1 : ((l0.length : Int) != (l1.length : Int)) = false := bne_eq_false_iff_eq.mpr c3
  have c3b2 : (l0.length == l1.length) = true := by first | simpa using c3 | (simp at c3 ⊢; omega)
  clear c3;have H' := am H;clear H;go_enter Try.func20, Try.ntmps20;go_wp2
  repeat (go_quiet (fail); try go_wp2)
  go_loopg [5] k (fun kq v5 w' => ∃ (x5_1 : Int), v5 = .int .i64 x5_1 ∧ Aside0 (laws_sameInts.l0 kq l0 l1 x5_1 = some r) ∧ Aside0 (kq ≤ k) ∧ Drawn0 w w')
  case atStart => exact ⟨(0), (by first | rfl | (simp; done) | (simp [*]; done)), H', ⟨Nat.le_refl _⟩, by repeat (first | exact Drawn0.refl _ | apply Drawn0.step)⟩
  case round =>
   clear H';(try clear c1);(try clear c2);(try clear p2);(try clear c3);(try clear c3b0);(try clear c3b1);(try clear c3b2);obtain ⟨x5_1, rfl, HA, HK1, ⟨m1, rfl⟩⟩ := hrel
   cases gk with
   | zero => exact absurd HA.out (by simp [laws_sameInts.l0])
   | succ k1 =>
    have H := HA.out;clear HA;simp only [laws_sameInts.l0] at H;by_cases c4 : x5_1 < (l0.length : Int)
    ·
     rw [if_pos c4] at H;have c4b0 : decide (x5_1 < (l0.length : Int)) = true := decide_eq_true c4;clear c4;by_cases c5 : 0 ≤ x5_1
     ·
      rw [if_pos c5] at H;have c5b0 : decide (0 ≤ x5_1) = true := decide_eq_true c5;clear c5;by_cases c6 : x5_1 < (l1.length : Int)
      ·
       rw [if_pos c6] at H;have c6b0 : decide (x5_1 < (l1.length : Int)) = true := decide_eq_true c6;clear c6;by_cases c7 : (rd l0 x5_1) = (rd l1 x5_1)
       ·
        rw [if_pos c7] at H;have c7b0 : ((rd l0 x5_1) == (rd l1 x5_1)) = true := beq_iff_eq.mpr c7;have c7b1 : ((rd l0 x5_1) != (rd l1 x5_1)) = false := bne_eq_false_iff_eq.mpr c7;clear c7;have H' := am H;clear H;have p512 : 0 ≤ (x5_1 : Int) := of_decide_eq_true (by assumption);have q512 : x5_1 < (l0.length : Int) := of_decide_eq_true (by assumption);obtain ⟨ad512, e512, hx512_0⟩ := Kd.at_int HR0.out x5_1 p512 q512;cases e512
        replace p512 := eq_true p512;replace q512 := eq_true q512;have p513 : 0 ≤ (x5_1 : Int) := of_decide_eq_true (by assumption);have q513 : x5_1 < (l1.length : Int) := of_decide_eq_true (by assumption);obtain ⟨ad513, e513, hx513_0⟩ := Kd.at_int HR1.out x5_1 p513 q513;cases e513
        replace p513 := eq_true p513;replace q513 := eq_true q513;go_wp2
        repeat (go_quiet (fail); try go_wp2)
        go_roundg k1
        case measure => have := HK1.out; omega
        case rel => exact ⟨(wrap64 (x5_1 + 1)), (by first | rfl | (simp; done) | (simp [*]; done)), H', ⟨by have := HK1.out; omega⟩, by repeat (first | exact Drawn0.refl _ | apply Drawn0.step)⟩
       ·
        rw [if_neg c7] at H;have c7b0 : ((rd l0 x5_1) == (rd l1 x5_1)) = false := beq_eq_false_iff_ne.mpr c7;have c7b1 : ((rd l0 x5_1) != (rd l1 x5_1)) = true := bne_iff_ne.mpr c7;obtain rfl := Option.some.inj H;have p512 : 0 ≤ (x5_1 : Int) := of_decide_eq_true (by assumption);have q512 : x5_1 < (l0.length : Int) := of_decide_eq_true (by assumption);obtain ⟨ad512, e512, hx512_0⟩ := Kd.at_int HR0.out x5_1 p512 q512;cases e512
        replace p512 := eq_true p512;replace q512 := eq_true q512;have p513 : 0 ≤ (x5_1 : Int) := of_decide_eq_true (by assumption);have q513 : x5_1 < (l1.length : Int) := of_decide_eq_true (by assumption);obtain ⟨ad513, e513, hx513_0⟩ := Kd.at_int HR1.out x5_1 p513 q513;cases e513
        replace p513 := eq_true p513;replace q513 := eq_true q513;go_wp2
        repeat (go_quiet (fail); try go_wp2)
        go_ret;exact ⟨by first | rfl | (simp; done) | (simp [*]; done), by repeat (first | exact Drawn0.refl _ | apply Drawn0.step)⟩
      ·
       rw [if_neg c6] at H;exact absurd H (by simp)
     ·
      rw [if_neg c5] at H;exact absurd H (by simp)
    ·
     rw [if_neg c4] at H;have c4b0 : decide (x5_1 < (l0.length : Int)) = false := decide_eq_false c4;clear c4;obtain rfl := Option.some.inj H;go_wp2
     repeat (go_quiet (fail); try go_wp2)
     go_ret;exact ⟨by first | rfl | (simp; done) | (simp [*]; done), by repeat (first | exact Drawn0.refl _ | apply Drawn0.step)⟩
 ·
  rw [if_neg c3] at H;have c3b0 : ((l0.length : Int) == (l1.length : Int)) = false := beq_eq_false_iff_ne.mpr c3;have c3b1 : ((l0.length : Int) != (l1.length : Int)) = true := bne_iff_ne.mpr c3
  have c3b2 : (l0.length == l1.length) = false := by first | simpa using c3 | (simp at c3 ⊢; omega)
  obtain rfl := Option.some.inj H;go_enter Try.func20, Try.ntmps20;go_wp2
  repeat (go_quiet (fail); try go_wp2)
  go_ret;exact ⟨by first | rfl | (simp; done) | (simp [*]; done), by repeat (first | exact Drawn0.refl _ | apply Drawn0.step)⟩

/-! ### impl_number: function 77 -/
def impl_number.f (a0 : Int) : Option ((List (S72))) := if a0 = 0 then (some ([] : List (S72))) else (some (([(⟨a0, ([] : List (S72))⟩ : S72)] : List (S72))))
set_option maxHeartbeats 8000000 in
set_option maxRecDepth 100000 in
theorem impl_number.calls (a0 : Int) (r : List (S72)) (w : World) (h : impl_number.f a0 = some r) :
  Calls Try.prog 77 #[.int .i64 a0] w fun e w' => ∃ v0_ : Value, e = .returned (v0_) ∧ Kd.R k72 72 w' w.heap.size (fun _ => True) v0_ r ∧ Below w.heap.size w w' := by
 have hu72 := Try.underlying72;have HB := am (Below.refl w.heap.size w);have H : (if a0 = 0 then (some ([] : List (S72))) else (some (([(⟨a0, ([] : List (S72))⟩ : S72)] : List (S72))))) = some r := h;clear h;by_cases c2 : a0 = 0
 ·
  rw [if_pos c2] at H;have c2b0 : (a0 == 0) = true := beq_iff_eq.mpr c2;have c2b1 : (a0 != 0) = false := bne_eq_false_iff_eq.mpr c2;clear c2;obtain rfl := Option.some.inj H;go_enter Try.func77, Try.ntmps77;go_wp2;go_ret;exact ⟨_, by first | rfl | (simp [errW_none, errW_some] <;> rfl) | (simp [*, errW_none, errW_some] <;> rfl), by first | exact Kd.R_nil _ _ _ _ _ | exact Kd.N_nil _ _ _ _ _ | exact Kd.V_nil _ _ _ _ _ | exact Kd.Y_nil _ _ _ _ _ | exact Kd.S_nil _ _ _ _ _, bm HB.out⟩
 ·
  rw [if_neg c2] at H;have c2b0 : (a0 == 0) = false := beq_eq_false_iff_ne.mpr c2;have c2b1 : (a0 != 0) = true := bne_iff_ne.mpr c2
  obtain ⟨y514, hy514⟩ : ∃ y_ : List (S72), y_ = (([(⟨a0, ([] : List (S72))⟩ : S72)] : List (S72))) := ⟨_, rfl⟩
  replace H : (some y514) = some r := by first | (rw [hy514]; with_reducible exact H) | (have H2_ := oB H; rw [hy514]; with_reducible exact H2_) | (have H2_ := oB H; with_reducible exact H2_) | with_reducible exact H | (rw [hy514]; exact H) | exact H
  replace hy514 := am hy514;obtain rfl := Option.some.inj H;go_enter Try.func77, Try.ntmps77;go_wp2_with (first | ((with_reducible refine gate_dst (N := 7) rfl ?_); refine Kd.R_lit k72 _ 72 ?hg (N := 7) ?hd (xs := ([(⟨a0, ([] : List (S72))⟩ : S72)] : List (S72))) (inner := [.int .i64 a0, .slice none 0 0]) (ok := fun _ => True) (okp := fun _ => True) ?hr ?hp (fun _ hk => hk) trivial (Below.refl _ _) (Nat.le_refl _) (by simp) ?_; (case hd => rfl); (case hg => rfl); (case hr => first | (go_simp; done) | (go_simp; rfl)); (case hp => exact (Reps.c2 (show Kd.M k72 _ _ _ (⟨a0, ([] : List (S72))⟩ : S72) [.int .i64 a0, .slice none 0 0] from (k72_mkM _ _ _ (⟨a0, ([] : List (S72))⟩ : S72) (Kd.R_nil _ _ _ _ _))) (Reps.none _ _))); intro v515 w3 ho4 hb hg_ hnew_; clear hg_ hnew_; (first | rw [← hy514.out] at ho4 | (simp only [Int.reduceToNat] at ho4; rw [← hy514.out] at ho4)); have HO516 := am (Kd.R_lower ho4 (below_size (bm HB.out)));replace HB := am (below_step (bm HB.out) hb); clear hb ho4));go_ret;exact ⟨_, by first | rfl | (simp [errW_none, errW_some] <;> rfl) | (simp [*, errW_none, errW_some] <;> rfl), Kd.rm HO516.out, bm HB.out⟩

/-! ### impl_OrdOf: function 48 -/
def impl_OrdOf.j0 : Nat → Int → Bool → Option (List Int)
 | 0, _, _ => none
 | k + 1, x0, x8 => if x8 = true then (some ([] : List Int)) else ((impl_number.f x0).bind fun t517 => ((impl_rowOf.f k t517).bind fun t520 => (some t520)))
def impl_OrdOf.f (k : Nat) (a0 : Int) : Option (List Int) := if a0 < 0 then (impl_OrdOf.j0 k a0 true) else (impl_OrdOf.j0 k a0 (decide (a0 > 9999)))
theorem impl_OrdOf.mono_l : ∀ k, (∀ y0 y1, LeO (impl_OrdOf.j0 k y0 y1) (impl_OrdOf.j0 (k + 1) y0 y1))
 | 0 => fun _ _ r h => by simp [impl_OrdOf.j0] at h
 | k + 1 => by
  have ih0 := impl_OrdOf.mono_l k
  ·
   intro y0 y1;unfold impl_OrdOf.j0
   repeat' first | (with_reducible exact ih0 _ _) | (with_reducible exact impl_rowOf.mono _ _) | (with_reducible exact LeO.refl _) | (with_reducible exact LeO.none _) | (with_reducible refine LeO.ite ?_ ?_) | (with_reducible refine LeO.bind ?_ (fun _ => ?_))
theorem impl_OrdOf.mono : ∀ a0 k, LeO (impl_OrdOf.f k a0) (impl_OrdOf.f (k + 1) a0) := by
 intro a0 k;have ih0 := impl_OrdOf.mono_l k;unfold impl_OrdOf.f
 repeat' first | (with_reducible exact ih0 _ _) | (with_reducible exact impl_rowOf.mono _ _) | (with_reducible exact LeO.refl _) | (with_reducible exact LeO.none _) | (with_reducible refine LeO.ite ?_ ?_) | (with_reducible refine LeO.bind ?_ (fun _ => ?_))
set_option maxHeartbeats 8000000 in
set_option maxRecDepth 100000 in
theorem impl_OrdOf.calls (k : Nat) (a0 : Int) (r : List Int) (w : World) (h : impl_OrdOf.f k a0 = some r) :
  Calls Try.prog 48 #[.int .i64 a0] w fun e w' => ∃ v0_ : Value, e = .returned (v0_) ∧ Kd.R (Kd.int .i64) 3 w' w.heap.size (fun _ => True) v0_ r ∧ Below w.heap.size w w' := by
 have HB := am (Below.refl w.heap.size w);have H : (if a0 < 0 then (impl_OrdOf.j0 k a0 true) else (impl_OrdOf.j0 k a0 (decide (a0 > 9999)))) = some r := h;clear h;have HC2 := am H;clear H;go_enter Try.func48, Try.ntmps48
 go_upto_region 1 with (fail)
 go_cut [8] (fun v8 wc => ∃ (kq : Nat) (x8_1 : Bool), v8 = .bool x8_1 ∧ Aside0 (impl_OrdOf.j0 kq a0 x8_1 = some r) ∧ Aside0 (kq ≤ k) ∧ Aside0 (Below w.heap.size w wc))
 case first =>
  have H := HC2.out;clear HC2;by_cases c3 : a0 < 0
  ·
   rw [if_pos c3] at H;have c3b0 : decide (a0 < 0) = true := decide_eq_true c3;clear c3
   (first | rw [c3b0] | (simp only [i64_w, i32_w]; rw [c3b0]) | skip)
   have H' := am H;clear H;go_wp2;go_meet
   case rel => exact ⟨_, (true), (by first | rfl | (simp; done) | (simp [*]; done)), H', ⟨by first | omega | exact Nat.le_refl _⟩, ⟨bm HB.out⟩⟩
  ·
   rw [if_neg c3] at H;have c3b0 : decide (a0 < 0) = false := decide_eq_false c3;clear c3
   (first | rw [c3b0] | (simp only [i64_w, i32_w]; rw [c3b0]) | skip)
   have H' := am H;clear H;go_wp2;go_meet
   case rel => exact ⟨_, (decide (a0 > 9999)), (by first | rfl | (simp; done) | (simp [*]; done)), H', ⟨by first | omega | exact Nat.le_refl _⟩, ⟨bm HB.out⟩⟩
 case rest =>
  clear HC2;(try clear p2);(try clear c3);(try clear c3b0);obtain ⟨kq, x8_1, rfl, HA, HJ1, HB⟩ := hcut
  cases kq with
  | zero => exact absurd HA.out (by simp [impl_OrdOf.j0])
  | succ kj1 =>
   have H := HA.out;clear HA;simp only [impl_OrdOf.j0] at H;by_cases c4 : x8_1 = true
   ·
    subst c4
    have H1 : (some ([] : List Int)) = some r := by rw [if_pos rfl] at H; exact H
    clear H;have H := H1;clear H1;obtain rfl := Option.some.inj H;go_wp2;go_ret;exact ⟨_, by first | rfl | (simp [errW_none, errW_some] <;> rfl) | (simp [*, errW_none, errW_some] <;> rfl), by first | exact Kd.R_nil _ _ _ _ _ | exact Kd.N_nil _ _ _ _ _ | exact Kd.V_nil _ _ _ _ _ | exact Kd.Y_nil _ _ _ _ _ | exact Kd.S_nil _ _ _ _ _, bm HB.out⟩
   ·
    replace c4 := Bool.eq_false_iff.mpr c4;subst c4
    have H1 : ((impl_number.f a0).bind fun t517 => ((impl_rowOf.f kj1 t517).bind fun t520 => (some t520))) = some r := by rw [if_neg (show ¬ (false = true) by decide)] at H; exact H
    clear H;have H := H1;clear H1;replace H := oE H;obtain ⟨t517, A5, H⟩ := H;replace H : ((impl_rowOf.f kj1 t517).bind fun t520 => (some t520)) = some r := H;replace A5 := am A5;replace H := oE H;obtain ⟨t520, A6, H⟩ := H;replace H : (some t520) = some r := H;replace A6 := am A6;obtain rfl := Option.some.inj H;go_wp2_with (first | ((with_reducible refine gate_callee (f := 77) rfl ?_); refine goesL_ (some 10) rfl rfl Try.func77 (by kernel_rfl) rfl #[.int .i64 a0] rfl (by (try simp only [mA, mB, mC]); first | done | rfl) ?_; (with_reducible refine (impl_number.calls a0 t517 _ A5.out).mono ?_); rintro e w7 ⟨v518, rfl, ho0, hb⟩; refine ⟨_, rfl, ?_⟩; have HO519 := am (Kd.R_lower ho0 (below_size (bm HB.out)));replace HB := am (below_step (bm HB.out) hb); (try clear hb); (try clear ho0); obtain ⟨Ao8, co8, eo8⟩ := Kd.R_slice HO519.out; subst eo8) | ((with_reducible refine gate_callee (f := 71) rfl ?_); refine goesL_ (some 11) rfl rfl Try.func71 (by kernel_rfl) rfl #[.slice Ao8 t517.length co8] rfl (by (try simp only [mA, mB, mC]); first | done | rfl) ?_; (with_reducible refine (impl_rowOf.calls kj1 _ _ t517 t520 _ ?side1 ?side2 A6.out).mono ?_); (case side1 => exact Kd.cm ((Kd.R_reads' HO519.out).2.2)); (case side2 => exact (Kd.R_reads' HO519.out).2.1); rintro e w9 ⟨v521, rfl, ho0, hb⟩; refine ⟨_, rfl, ?_⟩; replace HO519 := am (Kd.R_below (Kd.rm HO519.out) hb);have HO522 := am (Kd.R_lower ho0 (below_size (bm HB.out)));replace HB := am (below_step (bm HB.out) hb); (try clear hb); (try clear ho0)));go_ret;exact ⟨_, by first | rfl | (simp [errW_none, errW_some] <;> rfl) | (simp [*, errW_none, errW_some] <;> rfl), Kd.rm HO522.out, bm HB.out⟩

/-! ### laws_alive: function 21 -/
def laws_alive.f (k : Nat)  : Option (Bool) := (impl_OrdOf.f k 0).bind fun t523 => (if (t523.length : Int) = 1 then ((impl_OrdOf.f k 7).bind fun t526 => (some ((t526.length : Int) == 3))) else (some false))
theorem laws_alive.mono : ∀ k, LeO (laws_alive.f k ) (laws_alive.f (k + 1) ) := by
 intro  k;unfold laws_alive.f
 repeat' first | (with_reducible exact impl_OrdOf.mono _ _) | (with_reducible exact LeO.refl _) | (with_reducible exact LeO.none _) | (with_reducible refine LeO.ite ?_ ?_) | (with_reducible refine LeO.bind ?_ (fun _ => ?_))
set_option maxHeartbeats 8000000 in
set_option maxRecDepth 100000 in
theorem laws_alive.calls (k : Nat)  (r : Bool) (w : World) (h : laws_alive.f k  = some r) :
  Calls Try.prog 21 #[] w fun e w' => e = .returned (.bool r) ∧ Below w.heap.size w w' := by
 have HB := am (Below.refl w.heap.size w);have H : ((impl_OrdOf.f k 0).bind fun t523 => (if (t523.length : Int) = 1 then ((impl_OrdOf.f k 7).bind fun t526 => (some ((t526.length : Int) == 3))) else (some false))) = some r := h;clear h;replace H := oE H;obtain ⟨t523, A1, H⟩ := H;replace H : (if (t523.length : Int) = 1 then ((impl_OrdOf.f k 7).bind fun t526 => (some ((t526.length : Int) == 3))) else (some false)) = some r := H;replace A1 := am A1;by_cases c2 : (t523.length : Int) = 1
 ·
  rw [if_pos c2] at H;have c2b0 : ((t523.length : Int) == 1) = true := beq_iff_eq.mpr c2;have c2b1 : ((t523.length : Int) != 1) = false := bne_eq_false_iff_eq.mpr c2;clear c2;replace H := oE H;obtain ⟨t526, A3, H⟩ := H;replace H : (some ((t526.length : Int) == 3)) = some r := H;replace A3 := am A3;obtain rfl := Option.some.inj H;go_enter Try.func21, Try.ntmps21;go_wp2_with (first | ((with_reducible refine gate_callee (f := 48) rfl ?_); refine goesL_ (some 1) rfl rfl Try.func48 (by kernel_rfl) rfl #[.int .i64 0] rfl (by (try simp only [mA, mB, mC]); first | done | rfl) ?_; (with_reducible refine (impl_OrdOf.calls k 0 t523 _ A1.out).mono ?_); rintro e w4 ⟨v524, rfl, ho0, hb⟩; refine ⟨_, rfl, ?_⟩; have HO525 := am (Kd.R_lower ho0 (below_size (bm HB.out)));replace HB := am (below_step (bm HB.out) hb); (try clear hb); (try clear ho0); obtain ⟨Ao5, co5, eo5⟩ := Kd.R_slice HO525.out; subst eo5) | (go_at_call 48; (with_reducible refine (impl_OrdOf.calls k 7 t526 _ A3.out).mono ?_); rintro e w6 ⟨v527, rfl, ho0, hb⟩; have HO528 := am (Kd.R_lower (Kd.R_new' ho0 (Kd.R_lt (Kd.rm HO525.out))) (below_size (bm HB.out)));replace HO525 := am (Kd.R_elder' (Kd.rm HO525.out) (Kd.R_base ho0) hb);replace HB := am (below_step (bm HB.out) hb); (try clear hb); (try clear ho0); obtain ⟨Ao7, co7, eo7⟩ := Kd.R_slice HO528.out; subst eo7));go_ret;exact ⟨by first | rfl | (simp [errW_none, errW_some] <;> rfl) | (simp [*, errW_none, errW_some] <;> rfl), bm HB.out⟩
 ·
  rw [if_neg c2] at H;have c2b0 : ((t523.length : Int) == 1) = false := beq_eq_false_iff_ne.mpr c2;have c2b1 : ((t523.length : Int) != 1) = true := bne_iff_ne.mpr c2;obtain rfl := Option.some.inj H;go_enter Try.func21, Try.ntmps21;go_wp2_with (first | ((with_reducible refine gate_callee (f := 48) rfl ?_); refine goesL_ (some 1) rfl rfl Try.func48 (by kernel_rfl) rfl #[.int .i64 0] rfl (by (try simp only [mA, mB, mC]); first | done | rfl) ?_; (with_reducible refine (impl_OrdOf.calls k 0 t523 _ A1.out).mono ?_); rintro e w8 ⟨v524, rfl, ho0, hb⟩; refine ⟨_, rfl, ?_⟩; have HO525 := am (Kd.R_lower ho0 (below_size (bm HB.out)));replace HB := am (below_step (bm HB.out) hb); (try clear hb); (try clear ho0); obtain ⟨Ao9, co9, eo9⟩ := Kd.R_slice HO525.out; subst eo9));go_ret;exact ⟨by first | rfl | (simp [errW_none, errW_some] <;> rfl) | (simp [*, errW_none, errW_some] <;> rfl), bm HB.out⟩

/-- A state of type 81 at block g of W; what its slices lead to came in by w0. -/
def IsS81 (w0 W : World) (g : Nat) (f0 : List Int) (f1 : Int) : Prop := ∃ A0 c0, W.heap[g]? = some (.cells #[.slice A0 f0.length c0, .int .i64 f1] 81 (0, 0)) ∧ w0.heap.size ≤ g ∧ Kd.C (Kd.int .u8) w0 A0 f0.length f0
theorem IsS81.grown {w0 W : World} {g : Nat} {f0 : List Int} {f1 : Int} {W1 : World} {row : Option Nat} (h : IsS81 w0 W g f0 f1) (hw : W.grownBy W1 row) (hne : some g ≠ row) : IsS81 w0 W1 g f0 f1 := by
 obtain ⟨A0, c0, hb, hg, hr0⟩ := h;exact ⟨A0, c0, blk_grown hb hw hne, hg, hr0⟩
theorem IsS81.kept {w0 W : World} {g : Nat} {f0 : List Int} {f1 : Int} {W1 : World} {S : Nat → Prop} (h : IsS81 w0 W g f0 f1) (hk : Kept W W1 S) (hne : ¬ S g) : IsS81 w0 W1 g f0 f1 := by
 obtain ⟨A0, c0, hb, hg, hr0⟩ := h;exact ⟨A0, c0, blk_kept hb hk hne, hg, hr0⟩
theorem IsS81.below {w0 W : World} {g : Nat} {f0 : List Int} {f1 : Int} {W1 : World} (h : IsS81 w0 W g f0 f1) (hw : Below W.heap.size W W1) : IsS81 w0 W1 g f0 f1 := h.grown (grown_of_below hw none) (by simp)
theorem IsS81.alloc {w0 W : World} {g : Nat} {f0 : List Int} {f1 : Int} (h : IsS81 w0 W g f0 f1) (o : Obj) : IsS81 w0 (W.alloc o) g f0 f1 := h.below (below_alloc (Below.refl _ _) o)
theorem IsS81.drewN {w0 W : World} {g : Nat} {f0 : List Int} {f1 : Int} (h : IsS81 w0 W g f0 f1) (m : Nat) : IsS81 w0 (W.drewN m) g f0 f1 := h
theorem IsS81.drew {w0 W : World} {g : Nat} {f0 : List Int} {f1 : Int} (h : IsS81 w0 W g f0 f1) : IsS81 w0 W.drew g f0 f1 := h
theorem IsS81.at_ {w0 W : World} {g : Nat} {f0 : List Int} {f1 : Int} {w' : World} {m : Nat} (hq : W.drewN m = w') (h : IsS81 w0 W g f0 f1) : IsS81 w0 w' g f0 f1 := by subst hq; exact IsS81.drewN h m
theorem IsS81.apart {w0 W : World} {g : Nat} {f0 : List Int} {f1 : Int} {α : Type} {d : Kd α} {e : Nat} {base : Nat} {ok : Nat → Prop} {v : Value} {xs : List α} (h : IsS81 w0 W g f0 f1) (ho : d.R e W base ok v xs) (ht : ∀ q, q ∈ e :: d.E → q ≠ 81) : d.R e W base (fun k => ok k ∧ k ≠ g) v xs := by
 obtain ⟨A0, c0, hb, hg, hr0⟩ := h;exact Kd.R_types ho hb ht
theorem IsS81.own_ne {w0 W : World} {g : Nat} {f0 : List Int} {f1 : Int} {α : Type} {d : Kd α} {e : Nat} {base : Nat} {ok : Nat → Prop} {v : Value} {xs : List α} (h : IsS81 w0 W g f0 f1) (ho : d.R e W base ok v xs) (ht : e ≠ 81) : some g ≠ v.ownBlock := by
 obtain ⟨A0, c0, hb, hg, hr0⟩ := h;exact Kd.R_ne ho hb ht
theorem IsS81.apartS {w0 W : World} {g : Nat} {f0 : List Int} {f1 : Int} {α : Type} {d : Kd α} {e : Nat} {base : Nat} {ok : Nat → Prop} {v : Value} {xs : List α} (h : IsS81 w0 W g f0 f1) (ho : d.S e W base ok v xs) (ht : ∀ q, q ∈ e :: d.E → q ≠ 81) : d.S e W base (fun k => ok k ∧ k ≠ g) v xs := by
 obtain ⟨A0, c0, hb, hg, hr0⟩ := h;exact Kd.S_types ho hb ht
theorem IsS81.own_neS {w0 W : World} {g : Nat} {f0 : List Int} {f1 : Int} {α : Type} {d : Kd α} {e : Nat} {base : Nat} {ok : Nat → Prop} {v : Value} {xs : List α} (h : IsS81 w0 W g f0 f1) (ho : d.S e W base ok v xs) (ht : e ≠ 81) : some g ≠ v.ownBlock := by
 obtain ⟨A0, c0, hb, hg, hr0⟩ := h;exact Kd.S_ne ho hb ht
theorem IsS81.lt {w0 W : World} {g : Nat} {f0 : List Int} {f1 : Int} (h : IsS81 w0 W g f0 f1) : g < W.heap.size := by
 obtain ⟨A0, c0, hb, hg, hr0⟩ := h;exact blk_lt hb
theorem IsS81.ge {w0 W : World} {g : Nat} {f0 : List Int} {f1 : Int} (h : IsS81 w0 W g f0 f1) : w0.heap.size ≤ g := by
 obtain ⟨A0, c0, hb, hg, hr0⟩ := h;exact hg
theorem cellS81_0 {W : World} {g : Nat} {A0 : Option Addr} {c0 : Nat} {f0 : List Int} {f1 : Int} (h : W.heap[g]? = some (.cells #[.slice A0 f0.length c0, .int .i64 f1] 81 (0, 0))) : W.cell? ⟨g, 0, none⟩ = some (.slice A0 f0.length c0) := (blk_cell h 0).trans rfl
theorem cellS81_1 {W : World} {g : Nat} {A0 : Option Addr} {c0 : Nat} {f0 : List Int} {f1 : Int} (h : W.heap[g]? = some (.cells #[.slice A0 f0.length c0, .int .i64 f1] 81 (0, 0))) : W.cell? ⟨g, 1, none⟩ = some (.int .i64 f1) := (blk_cell h 1).trans rfl
theorem IsS81.set_1 {w0 W : World} {g : Nat} {f0 : List Int} {f1 : Int} (h : IsS81 w0 W g f0 f1) (x : Int) : IsS81 w0 (W.setCell ⟨g, 1, none⟩ (.int .i64 x)) g f0 x := by
 obtain ⟨A0, c0, hb, hg, hr0⟩ := h;exact ⟨A0, c0, by simpa using blk_set hb 1 (.int .i64 x), hg, hr0⟩
/-! ### spec_l20Open: function 47 -/
def spec_l20Open.f (l0 : List Int) : Option (List Int × Int) := if (l0.length : Int) > 2000 then (if 2000 ≤ (l0.length : Int) then (some (l0.take 2000, 0)) else (none)) else (some (l0, 0))
set_option maxHeartbeats 8000000 in
set_option maxRecDepth 100000 in
theorem spec_l20Open.calls (A0 : Option Addr) (c0 : Nat) (l0 : List Int) (r1 : List Int) (r2 : Int) (w0 w : World) (hB : Below w0.heap.size w0 w) (hr0 : Kd.C (Kd.int .u8) w0 A0 l0.length l0) (hc0 : l0.length ≤ c0) (h : spec_l20Open.f l0 = some (r1, r2)) :
  Calls Try.prog 47 #[.slice A0 l0.length c0] w fun e w' => ∃ g_ : Nat, e = .returned (.pointer (some ⟨g_, 0, none⟩)) ∧ IsS81 w0 w' g_ r1 r2 ∧ Below w0.heap.size w0 w' ∧ Below w.heap.size w w' := by
 have hu81 := Try.underlying81;have HR0 := am hr0;have HC0 := am hc0;clear hr0 hc0;have HBW := am (Below.refl w.heap.size w);have HW0 := am hB.size;have HB := am hB;clear hB;have H : (if (l0.length : Int) > 2000 then (if 2000 ≤ (l0.length : Int) then (some (l0.take 2000, 0)) else (none)) else (some (l0, 0))) = some (r1, r2) := h;clear h;by_cases c2 : (l0.length : Int) > 2000
 ·
  rw [if_pos c2] at H;have c2b0 : decide (2000 < (l0.length : Int)) = true := decide_eq_true c2;have c2b1 : decide (2000 < l0.length) = true := decide_eq_true (by omega);clear c2;by_cases c3 : 2000 ≤ (l0.length : Int)
  ·
   rw [if_pos c3] at H;have c3b0 := eq_true c3;have c3b1 : decide (2000 ≤ (l0.length : Int)) = true := decide_eq_true c3;clear c3;simp only [Option.some.injEq, Prod.mk.injEq] at H;obtain ⟨rfl, rfl⟩ := H;obtain ⟨i04, hi04, _, hsz4, _⟩ := info_parts info5;obtain ⟨hcut4, hA4, hC4⟩ := print_take_of (P := Try.prog) (Value.int .u8) 0 29 5 .i64 Try.underlying29 hi04 hsz4 A0 c0 l0 2000 (by omega) (of_decide_eq_true (by assumption)) HC0.out;have HR529 := am (Kd.C_of_reads (h1 := fun _ => rfl) (hA4 _ (Kd.reads_of_C HR0.out)));have HC529 := am hC4;clear hA4 hC4 hi04 hsz4;go_enter Try.func47, Try.ntmps47;go_wp2_with (first | ((with_reducible refine gate_dst (N := 10) rfl ?_); refine box_event ?hg (N := 10) ?hd (cs := #[.slice A0 (l0.take 2000).length c0, .int .i64 0]) (t := 81) ?hr ?_; (case hd => rfl); (case hg => rfl); (case hr => first | (go_simp; done) | (go_simp; rfl)); intro gb530 hg w5 hbox hb; replace HB := am (below_step (bm HB.out) hb);have BK530 := am (hbox);have GW530 := am ((by rw [hg]; exact (below_size (bm HBW.out)) : w.heap.size ≤ gb530));have GE530 := am ((Nat.le_trans HW0.out (by rw [hg]; exact (below_size (bm HBW.out)) : w.heap.size ≤ gb530) : w0.heap.size ≤ gb530));replace HBW := am (below_step HBW.out hb); clear hb hbox hg));go_ret;exact ⟨_, rfl, (show IsS81 w0 _ gb530 (l0.take 2000) 0 from ⟨_, _, by (with_reducible repeat (first | refine blk_drewN ?_ _ | refine blk_drew ?_ | refine blk_alloc ?_ _)); exact BK530.out, GE530.out, HR529.out⟩), by repeat (first | (with_reducible first | exact HB.out | apply below_alloc | apply pw_below_drewN | apply below_drew1 | refine below_set ?_ GE530.out) | exact HB.out), by repeat (first | (with_reducible first | exact HBW.out | apply below_alloc | apply pw_below_drewN | apply below_drew1 | refine below_set ?_ GW530.out) | exact HBW.out)⟩
  ·
   rw [if_neg c3] at H;exact absurd H (by simp)
 ·
  rw [if_neg c2] at H;have c2b0 : decide (2000 < (l0.length : Int)) = false := decide_eq_false c2;have c2b1 : decide (2000 < l0.length) = false := decide_eq_false (by omega);clear c2;simp only [Option.some.injEq, Prod.mk.injEq] at H;obtain ⟨rfl, rfl⟩ := H;go_enter Try.func47, Try.ntmps47;go_wp2_with (first | ((with_reducible refine gate_dst (N := 10) rfl ?_); refine box_event ?hg (N := 10) ?hd (cs := #[.slice A0 l0.length c0, .int .i64 0]) (t := 81) ?hr ?_; (case hd => rfl); (case hg => rfl); (case hr => first | (go_simp; done) | (go_simp; rfl)); intro gb531 hg w6 hbox hb; replace HB := am (below_step (bm HB.out) hb);have BK531 := am (hbox);have GW531 := am ((by rw [hg]; exact (below_size (bm HBW.out)) : w.heap.size ≤ gb531));have GE531 := am ((Nat.le_trans HW0.out (by rw [hg]; exact (below_size (bm HBW.out)) : w.heap.size ≤ gb531) : w0.heap.size ≤ gb531));replace HBW := am (below_step HBW.out hb); clear hb hbox hg));go_ret;exact ⟨_, rfl, (show IsS81 w0 _ gb531 l0 0 from ⟨_, _, by (with_reducible repeat (first | refine blk_drewN ?_ _ | refine blk_drew ?_ | refine blk_alloc ?_ _)); exact BK531.out, GE531.out, HR0.out⟩), by repeat (first | (with_reducible first | exact HB.out | apply below_alloc | apply pw_below_drewN | apply below_drew1 | refine below_set ?_ GE531.out) | exact HB.out), by repeat (first | (with_reducible first | exact HBW.out | apply below_alloc | apply pw_below_drewN | apply below_drew1 | refine below_set ?_ GW531.out) | exact HBW.out)⟩

end Go.Proofs.Ytahhdbjjfdjloaa.Jd

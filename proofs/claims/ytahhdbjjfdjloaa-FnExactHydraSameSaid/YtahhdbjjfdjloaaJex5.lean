-- half
-- Written by a program of this session's (wip/mp) out of the translation, over the kit's print with changes.
import Derived.Test.YtahhdbjjfdjloaaJex0
import Derived.Test.YtahhdbjjfdjloaaJex1
import Derived.Test.YtahhdbjjfdjloaaJex2
import Derived.Test.YtahhdbjjfdjloaaJex3
import Derived.Test.YtahhdbjjfdjloaaJex4
namespace Go.Proofs.Ytahhdbjjfdjloaa.Je
open Go.RowKit Go.Proofs.YtahhdbjjfdjloaaW.PrintWords Go.Proofs.YtahhdbjjfdjloaaW.PrintLast Go.Proofs.YtahhdbjjfdjloaaW.PrintMore
attribute [local go_sem] max2_int min2_int max_two min_two max_three min_three max_four min_four   -- for this text's walks alone
set_option linter.unusedVariables false
set_option linter.unusedSimpArgs false

/-! ### impl_power: function 73 -/
def impl_power.f (l0 : List (S72)) : Option ((List (S72))) := some (([(⟨1, l0⟩ : S72)] : List (S72)))
set_option maxHeartbeats 8000000 in
set_option maxRecDepth 100000 in
theorem impl_power.calls (P0_ : Nat → Prop) (A0 : Option Addr) (c0 : Nat) (l0 : List (S72)) (r : List (S72)) (w : World) (hs0 : Kd.V k72 72 w w.heap.size (fun k_ => P0_ k_) (.slice A0 l0.length c0) l0) (h : impl_power.f l0 = some r) :
  Calls Try.prog 73 #[.slice A0 l0.length c0] w fun e w' => ∃ v0_ : Value, e = .returned (v0_) ∧ Kd.N k72 72 w' w.heap.size (fun k_ => (P0_ k_ ∨ w.heap.size ≤ k_)) v0_ r ∧ Below w.heap.size w w' := by
 have hu72 := Try.underlying72;have HO0 := am (show Kd.V k72 72 w w.heap.size (fun k_ => (P0_ k_ ∨ w.heap.size ≤ k_)) (.slice A0 l0.length c0) l0 from Kd.V_mono hs0 (fun k_ hk => .inl hk));have HB := am (Below.refl w.heap.size w);have H : (some (([(⟨1, l0⟩ : S72)] : List (S72)))) = some r := h;clear h
 obtain ⟨y193, hy193⟩ : ∃ y_ : List (S72), y_ = (([(⟨1, l0⟩ : S72)] : List (S72))) := ⟨_, rfl⟩
 replace H : (some y193) = some r := by first | (rw [hy193]; with_reducible exact H) | (have H2_ := oB H; rw [hy193]; with_reducible exact H2_) | (have H2_ := oB H; with_reducible exact H2_) | with_reducible exact H | (rw [hy193]; exact H) | exact H
 replace hy193 := am hy193;obtain rfl := Option.some.inj H;go_enter Try.func73, Try.ntmps73;go_wp2_with (first | ((with_reducible refine gate_dst (N := 5) rfl ?_); refine Kd.N_lit k72 _ 72 ?hg (N' := 5) ?hd (xs := ([(⟨1, l0⟩ : S72)] : List (S72))) (inner := [.int .i64 1, .slice A0 l0.length c0]) (ok := (fun k_ => (P0_ k_ ∨ w.heap.size ≤ k_))) (okp := (fun k_ => (P0_ k_ ∨ w.heap.size ≤ k_))) ?hr ?hp (fun _ hk => hk) ((show ∀ k_, w.heap.size ≤ k_ → (fun k_ => (P0_ k_ ∨ w.heap.size ≤ k_)) k_ from fun k_ hk => (.inr (Nat.le_trans (below_size (bm HB.out)) hk))) _ (Nat.le_refl _)) (Below.refl _ _) (Nat.le_refl _) (by simp) ?_; (case hd => rfl); (case hg => rfl); (case hr => first | (go_simp; done) | (go_simp; rfl)); (case hp => exact (Reps.c2 (show Kd.FK k72 _ _ (⟨1, l0⟩ : S72) [.int .i64 1, .slice A0 l0.length c0] from (k72_mkF _ _ (⟨1, l0⟩ : S72) (Kd.V_reads' (Kd.V_mono (ok' := (fun k_ => (P0_ k_ ∨ w.heap.size ≤ k_))) (HO0.out) (fun k_ hk => hk))).2.1 (Kd.V_F (Kd.V_mono (ok' := (fun k_ => (P0_ k_ ∨ w.heap.size ≤ k_))) (HO0.out) (fun k_ hk => hk))))) (Reps.none _ _))); intro v194 w2 ho3 hb hg_ hnew_; clear hg_ hnew_; (first | rw [← hy193.out] at ho3 | (simp only [Int.reduceToNat] at ho3; rw [← hy193.out] at ho3)); replace HO0 := am (Kd.V_elder' (Kd.vm HO0.out) (Kd.N_base ho3) hb);have HO195 := am (Kd.N_lower ho3 (below_size (bm HB.out)));replace HB := am (below_step (bm HB.out) hb); clear hb ho3));go_ret;exact ⟨_, by first | rfl | (simp [errW_none, errW_some] <;> rfl) | (simp [*, errW_none, errW_some] <;> rfl), Kd.nm HO195.out, bm HB.out⟩

/-! ### impl_hydra_ord: function 45 -/
mutual
def impl_hydra_ord.l0 : Nat → List (S72) → List (S46) → Int → Int → Option ((List (S72)))
 | 0, _, _, _, _ => none
 | k + 1, x3, x7, x8, x9 => if x9 < x8 then (if 0 ≤ x9 then (if x9 < (x7.length : Int) then ((impl_hydra_ord.f k ((rd_T46 x7 x9).f0)).bind fun t200 => ((impl_power.f t200).bind fun t203 => ((impl_natural.f k x3 t203).bind fun t206 => (impl_hydra_ord.l0 k t206 x7 x8 (wrap64 (x9 + 1)))))) else (none)) else (none)) else (some x3)
def impl_hydra_ord.f : Nat → List (S46) → Option ((List (S72)))
 | 0, _ => none
 | k + 1, l0 => impl_hydra_ord.l0 k (([] : List (S72))) l0 (l0.length : Int) 0
end
theorem impl_hydra_ord.mono_l : ∀ k, (∀ y0, LeO (impl_hydra_ord.f k y0) (impl_hydra_ord.f (k + 1) y0)) ∧ (∀ y0 y1 y2 y3, LeO (impl_hydra_ord.l0 k y0 y1 y2 y3) (impl_hydra_ord.l0 (k + 1) y0 y1 y2 y3))
 | 0 => ⟨fun _ r h => by simp [impl_hydra_ord.f] at h, fun _ _ _ _ r h => by simp [impl_hydra_ord.l0] at h⟩
 | k + 1 => by
  obtain ⟨ih0, ih1⟩ := impl_hydra_ord.mono_l k;refine ⟨?_, ?_⟩
  all_goals (intros; first | unfold impl_hydra_ord.f | unfold impl_hydra_ord.l0)
  all_goals repeat' first | (with_reducible exact ih0 _) | (with_reducible exact ih1 _ _ _ _) | (with_reducible exact impl_natural.mono _ _ _) | (with_reducible exact LeO.refl _) | (with_reducible exact LeO.none _) | (with_reducible refine LeO.ite ?_ ?_) | (with_reducible refine LeO.bind ?_ (fun _ => ?_))
theorem impl_hydra_ord.mono : ∀ a0 k, LeO (impl_hydra_ord.f k a0) (impl_hydra_ord.f (k + 1) a0) := by
 intro a0 k;obtain ⟨ih0, ih1⟩ := impl_hydra_ord.mono_l k;exact ih0 a0
set_option maxHeartbeats 8000000 in
set_option maxRecDepth 100000 in
theorem impl_hydra_ord.calls (k : Nat) : ∀ (A0 : Option Addr) (c0 : Nat) (l0 : List (S46)) (r : List (S72)) (w : World) (hr0 : Kd.C k46 w A0 l0.length l0) (hc0 : l0.length ≤ c0) (h : impl_hydra_ord.f k l0 = some r),
  Calls Try.prog 45 #[.slice A0 l0.length c0] w fun e w' => ∃ v0_ : Value, e = .returned (v0_) ∧ Kd.N k72 72 w' w.heap.size (fun k_ => (w.heap.size ≤ k_)) v0_ r ∧ Below w.heap.size w w' := by
 induction k using Nat.strongRecOn with
 | _ k ih =>
 intro A0 c0 l0 r w hr0 hc0 h
 cases k with
 | zero => exact absurd h (by simp [impl_hydra_ord.f])
 | succ k =>
 simp only [impl_hydra_ord.f] at h;have HR0 := am hr0;have HC0 := am hc0;clear hr0 hc0;have HB := am (Below.refl w.heap.size w);have H : (impl_hydra_ord.l0 k (([] : List (S72))) l0 (l0.length : Int) 0) = some r := h;clear h
 obtain ⟨y196, hy196⟩ : ∃ y_ : List (S72), y_ = (([] : List (S72))) := ⟨_, rfl⟩
 replace H : (impl_hydra_ord.l0 k y196 l0 (l0.length : Int) 0) = some r := by first | (rw [hy196]; with_reducible exact H) | (have H2_ := oB H; rw [hy196]; with_reducible exact H2_) | (have H2_ := oB H; with_reducible exact H2_) | with_reducible exact H | (rw [hy196]; exact H) | exact H
 replace hy196 := am hy196;have H' := am H;clear H;go_enter Try.func45, Try.ntmps45;go_wp2_with (first | ((with_reducible refine gate_dst (N := 6) rfl ?_); refine Kd.N_lit k72 _ 72 ?hg (N' := 6) ?hd (xs := ([] : List (S72))) (inner := []) (ok := (fun k_ => (w.heap.size ≤ k_))) (okp := (fun k_ => (w.heap.size ≤ k_))) ?hr ?hp (fun _ hk => hk) ((show ∀ k_, w.heap.size ≤ k_ → (fun k_ => (w.heap.size ≤ k_)) k_ from fun k_ hk => (Nat.le_trans (below_size (bm HB.out)) hk)) _ (Nat.le_refl _)) (Below.refl _ _) (Nat.le_refl _) (by simp) ?_; (case hd => rfl); (case hg => rfl); (case hr => first | (go_simp; done) | (go_simp; rfl)); (case hp => exact (Reps.none _ _)); intro v197 w2 ho3 hb hg_ hnew_; clear hg_ hnew_; (first | rw [← hy196.out] at ho3 | (simp only [Int.reduceToNat] at ho3; rw [← hy196.out] at ho3)); have HO198 := am (Kd.N_lower ho3 (below_size (bm HB.out)));replace HB := am (below_step (bm HB.out) hb); clear hb ho3))
 go_loopg [3, 9] k (fun kq v3 v9 w' => ∃ (x3_1 : List (S72)) (x9_1 : Int), v9 = .int .i64 x9_1 ∧ Aside0 (impl_hydra_ord.l0 kq x3_1 l0 (l0.length : Int) x9_1 = some r) ∧ Aside0 (kq ≤ k) ∧ Aside0 (Kd.N k72 72 w' w.heap.size (fun k_ => (w.heap.size ≤ k_)) v3 x3_1) ∧ Aside0 (Below w.heap.size w w'))
 case atStart => exact ⟨(y196), (0), (by first | rfl | (simp; done) | (simp [*]; done)), H', ⟨Nat.le_refl _⟩, ⟨Kd.nm HO198.out⟩, ⟨bm HB.out⟩⟩
 case round =>
  clear H';(try clear p2);(try clear HO_3);(try clear HB);obtain ⟨x3_1, x9_1, rfl, HA, HK1, HO_3, HB⟩ := hrel
  cases gk with
  | zero => exact absurd HA.out (by simp [impl_hydra_ord.l0])
  | succ k1 =>
   have H := HA.out;clear HA;simp only [impl_hydra_ord.l0] at H;by_cases c4 : x9_1 < (l0.length : Int)
   ·
    rw [if_pos c4] at H;have c4b0 : decide (x9_1 < (l0.length : Int)) = true := decide_eq_true c4;clear c4;by_cases c5 : 0 ≤ x9_1
    ·
     rw [if_pos c5] at H;have c5b0 : decide (0 ≤ x9_1) = true := decide_eq_true c5;clear c5;by_cases c6 : x9_1 < (l0.length : Int)
     ·
      rw [if_pos c6] at H;have c6b0 : decide (x9_1 < (l0.length : Int)) = true := decide_eq_true c6;clear c6;replace H := oE H;obtain ⟨t200, A7, H⟩ := H;replace H : ((impl_power.f t200).bind fun t203 => ((impl_natural.f k1 x3_1 t203).bind fun t206 => (impl_hydra_ord.l0 k1 t206 l0 (l0.length : Int) (wrap64 (x9_1 + 1))))) = some r := H;replace A7 := am A7;replace H := oE H;obtain ⟨t203, A8, H⟩ := H;replace H : ((impl_natural.f k1 x3_1 t203).bind fun t206 => (impl_hydra_ord.l0 k1 t206 l0 (l0.length : Int) (wrap64 (x9_1 + 1)))) = some r := H;replace A8 := am A8;replace H := oE H;obtain ⟨t206, A9, H⟩ := H;replace H : (impl_hydra_ord.l0 k1 t206 l0 (l0.length : Int) (wrap64 (x9_1 + 1))) = some r := H;replace A9 := am A9;have H' := am H;clear H;have p199 : 0 ≤ (x9_1 : Int) := of_decide_eq_true (by assumption);have q199 : x9_1 < (l0.length : Int) := of_decide_eq_true (by assumption);obtain ⟨ad199, A199_0, c199_0, e199, hx199_0, hl199_0, hi199_0⟩ := at_T46 HR0.out x9_1 p199 q199;cases e199
      replace hx199_0 := (HB.out.cell (World.block_lt_of_cell? w _ hx199_0)).trans hx199_0;have HR199_0 := am hi199_0;have HC199_0 := am hl199_0;clear hi199_0 hl199_0;replace p199 := eq_true p199;replace q199 := eq_true q199;go_wp2_with (first | ((with_reducible refine gate_callee (f := 45) rfl ?_); refine goesL_ (some 15) rfl rfl Try.func45 (by kernel_rfl) rfl #[.slice A199_0 ((rd_T46 l0 x9_1).f0).length c199_0] rfl (by (try simp only [mA, mB, mC]); first | done | rfl) ?_; (with_reducible refine (ih k1 (by have := HK1.out; omega) _ _ ((rd_T46 l0 x9_1).f0) t200 _ ?side1 ?side2 A7.out).mono ?_); (case side1 => exact Kd.cm ((Kd.C_below HR199_0.out HB.out))); (case side2 => exact HC199_0.out); rintro e w10 ⟨v201, rfl, ho0, hb⟩; refine ⟨_, rfl, ?_⟩; have HO202 := am (Kd.N_lower (Kd.N_mono (ok' := fun k_ => (w.heap.size ≤ k_) ∧ some k_ ≠ (u3 : Value).ownBlock) ho0 (fun k_ hk_ => ⟨(Nat.le_trans (below_size (bm HB.out)) hk_), (Kd.fresh' (Kd.N_lt (Kd.nm HO_3.out)) k_ hk_)⟩)) (below_size (bm HB.out)));replace HO_3 := am (Kd.N_elder' (Kd.nm HO_3.out) (Kd.N_base ho0) hb);replace HB := am (below_step (bm HB.out) hb); (try clear hb); (try clear ho0); obtain ⟨Ao11, co11, eo11⟩ := Kd.N_slice HO202.out; subst eo11) | ((with_reducible refine gate_callee (f := 73) rfl ?_); refine goesL_ (some 16) rfl rfl Try.func73 (by kernel_rfl) rfl #[.slice Ao11 t200.length co11] rfl (by (try simp only [mA, mB, mC]); first | done | rfl) ?_; (with_reducible refine (impl_power.calls (fun k_ => ((w.heap.size ≤ k_) ∧ some k_ ≠ (u3 : Value).ownBlock)) _ _ t200 t203 _ ?side1 A8.out).mono ?_); (case side1 => exact Kd.N_V (HO202.out)); rintro e w12 ⟨v204, rfl, ho0, hb⟩; refine ⟨_, rfl, ?_⟩; replace HO202 := am (Kd.N_elder' (Kd.nm HO202.out) (Kd.N_base ho0) hb);have HO205 := am (Kd.N_lower (Kd.N_mono (ok' := fun k_ => (w.heap.size ≤ k_) ∧ some k_ ≠ (u3 : Value).ownBlock) ho0 (fun k_ hk_ => ⟨Or.elim hk_ (fun hs_ => hs_.1) (fun hn_ => (Nat.le_trans (below_size (bm HB.out)) hn_)), Or.elim hk_ (fun hs_ => hs_.2) (fun hn_ => (Kd.fresh' (Kd.N_lt (Kd.nm HO_3.out)) k_ hn_))⟩)) (below_size (bm HB.out)));replace HO_3 := am (Kd.N_elder' (Kd.nm HO_3.out) (Kd.N_base ho0) hb);replace HB := am (below_step (bm HB.out) hb); (try clear hb); (try clear ho0); obtain ⟨Ao13, co13, eo13⟩ := Kd.N_slice HO_3.out; subst eo13; obtain ⟨Ao14, co14, eo14⟩ := Kd.N_slice HO205.out; subst eo14) | ((with_reducible refine gate_callee (f := 72) rfl ?_); refine goesL_ (some 17) rfl rfl Try.func72 (by kernel_rfl) rfl #[.slice Ao13 x3_1.length co13, .slice Ao14 t203.length co14] rfl (by (try simp only [mA, mB, mC]); first | done | rfl) ?_; (with_reducible refine (impl_natural.calls k1 (fun k_ => (((w.heap.size ≤ k_) ∧ some k_ ≠ (.slice Ao11 t200.length co11 : Value).ownBlock) ∧ some k_ ≠ (.slice Ao14 t203.length co14 : Value).ownBlock)) _ _ x3_1 (fun k_ => ((w.heap.size ≤ k_) ∧ some k_ ≠ (.slice Ao13 x3_1.length co13 : Value).ownBlock)) _ _ t203 t206 _ ?side1 ?side2 A9.out).mono ?_); (case side1 => exact Kd.N_V (HO_3.out)); (case side2 => exact Kd.N_V (HO205.out)); rintro e w15 ⟨v207, rfl, ho0, hb⟩; refine ⟨_, rfl, ?_⟩; replace HO_3 := am (Kd.N_elder' (Kd.nm HO_3.out) (Kd.N_base ho0) hb);replace HO202 := am (Kd.N_elder' (Kd.nm HO202.out) (Kd.N_base ho0) hb);replace HO205 := am (Kd.N_elder' (Kd.nm HO205.out) (Kd.N_base ho0) hb);have HO208 := am (Kd.N_lower (Kd.N_mono (ok' := fun k_ => (w.heap.size ≤ k_)) ho0 (fun k_ hk_ => Or.elim hk_ (fun hs_ => Or.elim hs_ (fun hs_ => hs_.1.1) (fun hs_ => hs_.1)) (fun hn_ => (Nat.le_trans (below_size (bm HB.out)) hn_)))) (below_size (bm HB.out)));replace HB := am (below_step (bm HB.out) hb); (try clear hb); (try clear ho0)))
      go_roundg k1
      case measure => have := HK1.out; omega
      case rel => exact ⟨(t206), (wrap64 (x9_1 + 1)), (by first | rfl | (simp; done) | (simp [*]; done)), H', ⟨by have := HK1.out; omega⟩, ⟨Kd.nm HO208.out⟩, ⟨bm HB.out⟩⟩
     ·
      rw [if_neg c6] at H;exact absurd H (by simp)
    ·
     rw [if_neg c5] at H;exact absurd H (by simp)
   ·
    rw [if_neg c4] at H;have c4b0 : decide (x9_1 < (l0.length : Int)) = false := decide_eq_false c4;clear c4;obtain rfl := Option.some.inj H;go_wp2;go_ret;exact ⟨_, by first | rfl | (simp [errW_none, errW_some] <;> rfl) | (simp [*, errW_none, errW_some] <;> rfl), Kd.nm HO_3.out, bm HB.out⟩

/-! ### impl_hydra_sortedLit1: function 85 -/
def impl_hydra_sortedLit1.f (k : Nat) (l0 : List (S46)) (l1 : List (S46)) : Option (Int) := (impl_hydra_ord.f k l1).bind fun t209 => ((impl_hydra_ord.f k l0).bind fun t212 => ((impl_compare.f k t209 t212).bind fun t215 => (some t215)))
theorem impl_hydra_sortedLit1.mono : ∀ a0 a1 k, LeO (impl_hydra_sortedLit1.f k a0 a1) (impl_hydra_sortedLit1.f (k + 1) a0 a1) := by
 intro a0 a1 k;unfold impl_hydra_sortedLit1.f
 repeat' first | (with_reducible exact impl_compare.mono _ _ _) | (with_reducible exact impl_hydra_ord.mono _ _) | (with_reducible exact LeO.refl _) | (with_reducible exact LeO.none _) | (with_reducible refine LeO.ite ?_ ?_) | (with_reducible refine LeO.bind ?_ (fun _ => ?_))
set_option maxHeartbeats 8000000 in
set_option maxRecDepth 100000 in
theorem impl_hydra_sortedLit1.calls (k : Nat) (A0 : Option Addr) (c0 : Nat) (l0 : List (S46)) (A1 : Option Addr) (c1 : Nat) (l1 : List (S46)) (r : Int) (w : World) (hr0 : Kd.C k46 w A0 l0.length l0) (hc0 : l0.length ≤ c0) (hr1 : Kd.C k46 w A1 l1.length l1) (hc1 : l1.length ≤ c1) (h : impl_hydra_sortedLit1.f k l0 l1 = some r) :
  Calls Try.prog 85 #[.slice A0 l0.length c0, .slice A1 l1.length c1] w fun e w' => e = .returned (.int .i64 r) ∧ Below w.heap.size w w' := by
 have HR0 := am hr0;have HC0 := am hc0;clear hr0 hc0;have HR1 := am hr1;have HC1 := am hc1;clear hr1 hc1;have HB := am (Below.refl w.heap.size w);have H : ((impl_hydra_ord.f k l1).bind fun t209 => ((impl_hydra_ord.f k l0).bind fun t212 => ((impl_compare.f k t209 t212).bind fun t215 => (some t215)))) = some r := h;clear h;replace H := oE H;obtain ⟨t209, A3, H⟩ := H;replace H : ((impl_hydra_ord.f k l0).bind fun t212 => ((impl_compare.f k t209 t212).bind fun t215 => (some t215))) = some r := H;replace A3 := am A3;replace H := oE H;obtain ⟨t212, A4, H⟩ := H;replace H : ((impl_compare.f k t209 t212).bind fun t215 => (some t215)) = some r := H;replace A4 := am A4;replace H := oE H;obtain ⟨t215, A5, H⟩ := H;replace H : (some t215) = some r := H;replace A5 := am A5;obtain rfl := Option.some.inj H;go_enter Try.func85, Try.ntmps85;go_wp2_with (first | ((with_reducible refine gate_callee (f := 45) rfl ?_); refine goesL_ (some 6) rfl rfl Try.func45 (by kernel_rfl) rfl #[.slice A1 l1.length c1] rfl (by (try simp only [mA, mB, mC]); first | done | rfl) ?_; (with_reducible refine (impl_hydra_ord.calls k _ _ l1 t209 _ ?side1 ?side2 A3.out).mono ?_); (case side1 => exact Kd.cm HR1.out); (case side2 => exact HC1.out); rintro e w6 ⟨v210, rfl, ho0, hb⟩; refine ⟨_, rfl, ?_⟩; have HO211 := am (Kd.N_lower (Kd.N_mono (ok' := fun k_ => True) ho0 (fun k_ hk_ => trivial)) (below_size (bm HB.out)));replace HB := am (below_step (bm HB.out) hb); (try clear hb); (try clear ho0)) | ((with_reducible refine gate_callee (f := 45) rfl ?_); refine goesL_ (some 8) rfl rfl Try.func45 (by kernel_rfl) rfl #[.slice A0 l0.length c0] rfl (by (try simp only [mA, mB, mC]); first | done | rfl) ?_; (with_reducible refine (impl_hydra_ord.calls k _ _ l0 t212 _ ?side1 ?side2 A4.out).mono ?_); (case side1 => exact Kd.cm ((Kd.C_below HR0.out HB.out))); (case side2 => exact HC0.out); rintro e w7 ⟨v213, rfl, ho0, hb⟩; refine ⟨_, rfl, ?_⟩; have HO214 := am (Kd.N_lower (Kd.N_mono (ok' := fun k_ => some k_ ≠ (v210 : Value).ownBlock) ho0 (fun k_ hk_ => (Kd.fresh' (Kd.N_lt (Kd.nm HO211.out)) k_ hk_))) (below_size (bm HB.out)));replace HO211 := am (Kd.N_elder' (Kd.nm HO211.out) (Kd.N_base ho0) hb);replace HB := am (below_step (bm HB.out) hb); (try clear hb); (try clear ho0); obtain ⟨Ao8, co8, eo8⟩ := Kd.N_slice HO211.out; subst eo8; obtain ⟨Ao9, co9, eo9⟩ := Kd.N_slice HO214.out; subst eo9) | ((with_reducible refine gate_callee (f := 86) rfl ?_); refine goesL_ (some 9) rfl rfl Try.func86 (by kernel_rfl) rfl #[.slice Ao8 t209.length co8, .slice Ao9 t212.length co9] rfl (by (try simp only [mA, mB, mC]); first | done | rfl) ?_; (with_reducible refine (impl_compare.calls k _ _ t209 _ _ t212 t215 _ ?side1 ?side2 ?side3 ?side4 A5.out).mono ?_); (case side1 => exact Kd.cm ((Kd.N_reads' HO211.out).2.2)); (case side2 => exact (Kd.N_reads' HO211.out).2.1); (case side3 => exact Kd.cm ((Kd.N_reads' HO214.out).2.2)); (case side4 => exact (Kd.N_reads' HO214.out).2.1); rintro e w10 ⟨rfl, hb⟩; refine ⟨_, rfl, ?_⟩; replace HO211 := am (Kd.N_below (Kd.nm HO211.out) hb);replace HO214 := am (Kd.N_below (Kd.nm HO214.out) hb);replace HB := am (below_step (bm HB.out) hb); (try clear hb)));go_ret;exact ⟨by first | rfl | (simp [errW_none, errW_some] <;> rfl) | (simp [*, errW_none, errW_some] <;> rfl), bm HB.out⟩

/-! ### impl_hydra: function 84 -/
mutual
def impl_hydra.eqS : S46 → S46 → Bool
 | ⟨xs⟩, ⟨ys⟩ => impl_hydra.eqL xs ys
def impl_hydra.eqL : List S46 → List S46 → Bool
 | [], [] => true
 | x :: xs, y :: ys => impl_hydra.eqS x y && impl_hydra.eqL xs ys
 | [], _ :: _ => false
 | _ :: _, [] => false
end
mutual
theorem impl_hydra.eqS_eq : ∀ x y : S46, impl_hydra.eqS x y = true → x = y
 | ⟨xs⟩, ⟨ys⟩, h => by
  rw [impl_hydra.eqS] at h;rw [impl_hydra.eqL_eq xs ys h]
theorem impl_hydra.eqL_eq : ∀ xs ys : List S46, impl_hydra.eqL xs ys = true → xs = ys
 | [], [], _ => rfl
 | x :: xs, y :: ys, h => by
  rw [impl_hydra.eqL, Bool.and_eq_true] at h;rw [impl_hydra.eqS_eq x y h.1, impl_hydra.eqL_eq xs ys h.2]
 | [], _ :: _, h => by rw [impl_hydra.eqL] at h; cases h
 | _ :: _, [], h => by rw [impl_hydra.eqL] at h; cases h
end
/-- The comparison tells the first one less. -/
def impl_hydra.lt (k : Nat) (x y : S46) : Bool := match impl_hydra_sortedLit1.f k x.f0 y.f0 with | some c => decide (c < 0) | none => false
/-- The comparison ends for all of them, it is a strict weak order, and equals are one. -/
def impl_hydra.good (k : Nat) (l0 : List S46) : Bool :=
 decide (l0.length < 1152921504606846976) && (l0.all fun x => l0.all fun y => (impl_hydra_sortedLit1.f k x.f0 y.f0).isSome && (impl_hydra.lt k x y || impl_hydra.lt k y x || impl_hydra.eqS x y)) &&
 (l0.all fun x => !impl_hydra.lt k x x) && (l0.all fun x => l0.all fun y => l0.all fun z => (!(impl_hydra.lt k x y && impl_hydra.lt k y z) || impl_hydra.lt k x z) && (impl_hydra.lt k x y || impl_hydra.lt k y z || !impl_hydra.lt k x z))
structure impl_hydra.Good (k : Nat) (l0 : List S46) : Prop where
 len : l0.length < 1152921504606846976
 all : ∀ x ∈ l0, ∀ y ∈ l0, ∃ c, impl_hydra_sortedLit1.f k x.f0 y.f0 = some c
 same : ∀ x ∈ l0, ∀ y ∈ l0, impl_hydra.lt k x y = false → impl_hydra.lt k y x = false → x = y
 irr : ∀ x ∈ l0, impl_hydra.lt k x x = false
 trans : ∀ x ∈ l0, ∀ y ∈ l0, ∀ z ∈ l0, impl_hydra.lt k x y = true → impl_hydra.lt k y z = true → impl_hydra.lt k x z = true
 ntrans : ∀ x ∈ l0, ∀ y ∈ l0, ∀ z ∈ l0, impl_hydra.lt k x y = false → impl_hydra.lt k y z = false → impl_hydra.lt k x z = false
theorem impl_hydra.good_Good {k : Nat} {l0 : List S46} (h : impl_hydra.good k l0 = true) : impl_hydra.Good k l0 := by
 simp only [impl_hydra.good, Bool.and_eq_true, decide_eq_true_eq, List.all_eq_true, Bool.or_eq_true, Bool.not_eq_true'] at h;obtain ⟨⟨⟨h1, h2⟩, h3⟩, h4⟩ := h;refine ⟨h1, fun x hx y hy => Option.isSome_iff_exists.mp (h2 x hx y hy).1, fun x hx y hy e1 e2 => ?_, h3, fun x hx y hy z hz e1 e2 => ?_, fun x hx y hy z hz e1 e2 => ?_⟩
 ·
  rcases (h2 x hx y hy).2 with (h | h) | h
  ·
   rw [e1] at h; cases h
  ·
   rw [e2] at h; cases h
  ·
   exact impl_hydra.eqS_eq x y h
 ·
  rcases (h4 x hx y hy z hz).1 with h | h
  ·
   rw [e1, e2] at h; cases h
  ·
   exact h
 ·
  rcases (h4 x hx y hy z hz).2 with (h | h) | h
  ·
   rw [e1] at h; cases h
  ·
   rw [e2] at h; cases h
  ·
   exact h
theorem impl_hydra.Good_good {k : Nat} {l0 : List S46} (eqS_self : ∀ x ∈ l0, ∀ y ∈ l0, x = y → impl_hydra.eqS x y = true) (h : impl_hydra.Good k l0) : impl_hydra.good k l0 = true := by
 simp only [impl_hydra.good, Bool.and_eq_true, decide_eq_true_eq, List.all_eq_true, Bool.or_eq_true, Bool.not_eq_true'];refine ⟨⟨⟨h.len, fun x hx y hy => ⟨Option.isSome_iff_exists.mpr (h.all x hx y hy), ?_⟩⟩, h.irr⟩, fun x hx y hy z hz => ⟨?_, ?_⟩⟩
 ·
  cases e1 : impl_hydra.lt k x y with
  | true => exact .inl (.inl rfl)
  | false =>
   cases e2 : impl_hydra.lt k y x with
   | true => exact .inl (.inr rfl)
   | false => exact .inr (eqS_self x hx y hy (h.same x hx y hy e1 e2))
 ·
  cases e1 : impl_hydra.lt k x y with
  | false => exact .inl rfl
  | true =>
   cases e2 : impl_hydra.lt k y z with
   | false => exact .inl rfl
   | true => exact .inr (h.trans x hx y hy z hz e1 e2)
 ·
  cases e1 : impl_hydra.lt k x y with
  | true => exact .inl (.inl rfl)
  | false =>
   cases e2 : impl_hydra.lt k y z with
   | true => exact .inl (.inr rfl)
   | false => exact .inr (h.ntrans x hx y hy z hz e1 e2)
mutual
theorem impl_hydra.eqS_self : ∀ x : S46, impl_hydra.eqS x x = true
 | ⟨xs⟩ => by rw [impl_hydra.eqS]; exact impl_hydra.eqL_self xs
theorem impl_hydra.eqL_self : ∀ xs : List S46, impl_hydra.eqL xs xs = true
 | [] => by rw [impl_hydra.eqL]
 | x :: xs => by rw [impl_hydra.eqL, impl_hydra.eqS_self x, impl_hydra.eqL_self xs]; rfl
end
theorem impl_hydra.good_iff {k : Nat} {l0 : List S46} : impl_hydra.good k l0 = true ↔ impl_hydra.Good k l0 := ⟨impl_hydra.good_Good, impl_hydra.Good_good (fun x _ y _ e => e ▸ impl_hydra.eqS_self x)⟩
def impl_hydra.f (k : Nat) (l0 : List S46) : Option (List S46) := if impl_hydra.good k l0 = true then some (l0.mergeSort (fun x y => !impl_hydra.lt k y x)) else none
theorem impl_hydra.mono : ∀ a0 k, LeO (impl_hydra.f k a0) (impl_hydra.f (k + 1) a0) := by
 intro l0 k r h;unfold impl_hydra.f at h;by_cases hg : impl_hydra.good k l0 = true
 ·
  rw [if_pos hg] at h;have G := impl_hydra.good_iff.mp hg
  have hlt : ∀ x ∈ l0, ∀ y ∈ l0, impl_hydra_sortedLit1.f (k + 1) x.f0 y.f0 = impl_hydra_sortedLit1.f k x.f0 y.f0 := fun x hx y hy => by
   obtain ⟨c, hc⟩ := G.all x hx y hy;rw [hc];exact impl_hydra_sortedLit1.mono _ _ k c hc
  have hl2 : ∀ x ∈ l0, ∀ y ∈ l0, impl_hydra.lt (k + 1) x y = impl_hydra.lt k x y := fun x hx y hy => by unfold impl_hydra.lt; rw [hlt x hx y hy]
  have G2 : impl_hydra.Good (k + 1) l0 := ⟨G.len, fun x hx y hy => by rw [hlt x hx y hy]; exact G.all x hx y hy, fun x hx y hy => by rw [hl2 x hx y hy, hl2 y hy x hx]; exact G.same x hx y hy, fun x hx => by rw [hl2 x hx x hx]; exact G.irr x hx,
   fun x hx y hy z hz => by rw [hl2 x hx y hy, hl2 y hy z hz, hl2 x hx z hz]; exact G.trans x hx y hy z hz, fun x hx y hy z hz => by rw [hl2 x hx y hy, hl2 y hy z hz, hl2 x hx z hz]; exact G.ntrans x hx y hy z hz⟩
  unfold impl_hydra.f;rw [if_pos (impl_hydra.good_iff.mpr G2), ← h]
  congr 1
  have := List.map_mergeSort (f := id) (r := fun x y => !impl_hydra.lt (k + 1) y x) (s := fun x y => !impl_hydra.lt k y x) (l := l0) (fun a ha b hb => by simp only [id]; rw [hl2 b hb a ha])
  simpa using this
 ·
  rw [if_neg hg] at h; cases h
theorem impl_hydra.unique {lt : S46 → S46 → Bool} : ∀ {x y : List S46}, (∀ a ∈ x, ∀ b ∈ x, lt a b = false → lt b a = false → a = b) → x.Pairwise (fun a b => lt b a = false) → y.Pairwise (fun a b => lt b a = false) → x.Perm y → x = y
 | [], y, _, _, _, h => (List.Perm.nil_eq h)
 | a :: x, [], _, _, _, h => absurd h.length_eq (by simp)
 | a :: x, b :: y, he, hx, hy, h => by
  have hab : a = b := by
   have h1 : b ∈ a :: x := h.mem_iff.mpr List.mem_cons_self;have h2 : a ∈ b :: y := h.mem_iff.mp List.mem_cons_self
   rcases List.mem_cons.mp h1 with rfl | h1'
   ·
    rfl
   ·
    rcases List.mem_cons.mp h2 with rfl | h2'
    ·
     rfl
    ·
     exact he a List.mem_cons_self b h1 ((List.pairwise_cons.mp hy).1 a h2') ((List.pairwise_cons.mp hx).1 b h1')
  subst hab;rw [impl_hydra.unique (fun u hu v hv => he u (List.mem_cons_of_mem _ hu) v (List.mem_cons_of_mem _ hv)) (List.pairwise_cons.mp hx).2 (List.pairwise_cons.mp hy).2 (List.perm_cons a |>.mp h)]
/-- An element of the row: its value, and what it reads as. -/
structure impl_hydra.El (w : World) (base : Nat) (ok : Nat → Prop) (l0 : List S46) where
 val : Value
 tree : S46
 mem : k46.M w base ok tree [val]
 inn : tree ∈ l0
theorem impl_hydra.els {w : World} {base : Nat} {ok : Nat → Prop} {l0 : List S46} : ∀ (l : List S46) (inner : List Value), Reps (k46.M w base ok) 1 l inner → (∀ x ∈ l, x ∈ l0) → ∃ vs : List (impl_hydra.El w base ok l0), vs.map (·.val) = inner ∧ vs.map (·.tree) = l
 | [], inner, hr, _ => by
  have : inner = [] := List.length_eq_zero_iff.mp (by have := hr.1; simpa using this);subst this;exact ⟨[], rfl, rfl⟩
 | x :: xs, [], hr, _ => by have := hr.1; simp at this
 | x :: xs, u :: us, hr, hl => by
  have h0 := hr.2 0 x rfl;simp only [Nat.zero_mul, List.drop_zero, List.take_succ_cons, List.take_zero] at h0
  have ht : Reps (k46.M w base ok) 1 xs us := ⟨by have := hr.1; simp only [List.length_cons, Nat.mul_one] at this ⊢; omega, fun j p hp => by
   have h1 := hr.2 (j + 1) p (by simpa using hp);rw [Nat.mul_one] at h1 ⊢
   simpa using h1⟩
  obtain ⟨vs, h1, h2⟩ := impl_hydra.els xs us ht (fun y hy => hl y (List.mem_cons_of_mem _ hy));exact ⟨⟨u, x, h0, hl x List.mem_cons_self⟩ :: vs, by simp [h1], by simp [h2]⟩
theorem impl_hydra.grown {α : Type} [Inhabited α] {enc : α → Value} {w W : World} {g : Nat} {dk : Array α} (h : Stab.SD enc w g 0 dk W) : w.grownBy W (some g) := by
 obtain ⟨d, W0, ⟨n, os, rfl⟩, rfl⟩ := h
 exact ⟨rfl, rfl, rfl, by simp [Go.redrawn, Go.Proofs.sortWorld, Go.Sort.grow, Go.Sort.putRow, Go.Sort.mapBlock, Go.Sort.ahead], fun k hk hne => by
  have hg : g ≠ k := fun e => hne (by rw [e])
  simp only [Go.redrawn, Go.Proofs.sortWorld, Go.Sort.grow, Go.Sort.putRow, Go.Sort.mapBlock, Go.Sort.ahead]
  rw [Array.getElem?_append_left (by simpa using hk), Array.getElem?_modify, if_neg hg]⟩
theorem impl_hydra.block {α : Type} [Inhabited α] {enc : α → Value} {w W : World} {g : Nat} {dk : Array α} (h : Stab.SD enc w g 0 dk W) {cur : Array Value} {t : TypeId} {fr : Nat × Nat} (hb : w.heap[g]? = some (.cells cur t fr)) : W.heap[g]? = some (.cells (Go.Sort.putCells enc 0 dk cur) t fr) := by
 obtain ⟨d, W0, ⟨n, os, rfl⟩, rfl⟩ := h;have hg : g < w.heap.size := (Array.getElem?_eq_some_iff.1 hb).1;simp only [Go.redrawn, Go.Proofs.sortWorld, Go.Sort.grow, Go.Sort.putRow, Go.Sort.mapBlock, Go.Sort.ahead];rw [Array.getElem?_append_left (by simpa using hg), Array.getElem?_modify, if_pos rfl, hb];rfl
theorem impl_hydra.putCells_all {α : Type} [Inhabited α] (enc : α → Value) (ys : Array α) (cur : Array Value) (h : ys.size ≤ cur.size) : (Go.Sort.putCells enc 0 ys cur).size = cur.size ∧ (Go.Sort.putCells enc 0 ys cur).toList.take ys.size = ys.toList.map enc := by
 refine ⟨by simp [Go.Sort.putCells], ?_⟩
 refine List.ext_getElem (by simp [Go.Sort.putCells]; omega) fun i h1 h2 => ?_
 have hi : i < ys.size := by simpa using h2
 simp [Go.Sort.putCells, hi]
set_option maxHeartbeats 1000000 in
theorem impl_hydra.calls (k : Nat) (P0_ : Nat → Prop) (u : Value) (l0 : List S46) (r : List S46) (w0 w : World) (hB : Below w0.heap.size w0 w) (ho0 : Kd.R k46 46 w w0.heap.size P0_ u l0) (h : impl_hydra.f k l0 = some r) :
  Calls Try.prog 84 #[u, .func (.func 85) #[] #[]] w fun e w' => e = .returned (.tuple #[]) ∧ Kd.R k46 46 w' w0.heap.size P0_ u r ∧ Below w0.heap.size w0 w' ∧ Kept w w' (fun k_ => P0_ k_) := by
 unfold impl_hydra.f at h;by_cases hg : impl_hydra.good k l0 = true
 ·
  rw [if_pos hg] at h;obtain rfl := Option.some.inj h;have G := impl_hydra.good_iff.mp hg;clear hg h;obtain ⟨A, c, rfl⟩ := Kd.R_slice ho0;by_cases h0 : 0 < l0.length
  ·
   obtain ⟨g, cap, hv, hb0, hlt0, _⟩ := Kd.R_form ho0 h0
   injection hv with ha hn hc
   subst ha; subst hc;have hP : P0_ g := ho0.1 g rfl;obtain ⟨h1, inner, ho, hr⟩ := ho0;obtain ⟨hl2, ho2⟩ := ho
   rcases ho2 with ⟨hv, _⟩ | ⟨g', cap', cur, hv, hb, hh, hn2, hm, hs, ht⟩
   ·
    exact absurd hv (by simp)
   injection hv with ha hn' hc'
   injection ha with ha
   injection ha with ha _ _
   subst ha; subst hc';have hs1 : cur.size = c := hs.trans (Nat.mul_one c)
   have ht1 : cur.toList.take l0.length = inner := by have ht := ht; rw [show k46.sz = 1 from rfl, Nat.mul_one] at ht; exact ht
   obtain ⟨vs, hvs1, hvs2⟩ := impl_hydra.els l0 inner hr (fun x hx => hx)
   have hvl : vs.length = l0.length := by have := congrArg List.length hvs2; rw [List.length_map] at this; exact this
   obtain ⟨v0, hv0⟩ : ∃ v, v ∈ vs := List.exists_mem_of_length_pos (by omega)
   have hI : Inhabited (impl_hydra.El w w0.heap.size (fun k_ => P0_ k_ ∧ some k_ ≠ (Value.slice (some ⟨g, 0, none⟩) l0.length c).ownBlock) l0) := ⟨v0⟩
   -- the comparison
   have hlt2 : ∀ x y : impl_hydra.El w w0.heap.size (fun k_ => P0_ k_ ∧ some k_ ≠ (Value.slice (some ⟨g, 0, none⟩) l0.length c).ownBlock) l0, ltOf (fun x y : impl_hydra.El w w0.heap.size (fun k_ => P0_ k_ ∧ some k_ ≠ (Value.slice (some ⟨g, 0, none⟩) l0.length c).ownBlock) l0 => (impl_hydra_sortedLit1.f k x.tree.f0 y.tree.f0).getD 0) x y = impl_hydra.lt k x.tree y.tree := fun x y => by
    obtain ⟨q, hq⟩ := G.all _ x.inn _ y.inn;simp only [ltOf, impl_hydra.lt, hq, Option.getD_some]
   have hO : Go.Sort.SWO (ltOf (fun x y : impl_hydra.El w w0.heap.size (fun k_ => P0_ k_ ∧ some k_ ≠ (Value.slice (some ⟨g, 0, none⟩) l0.length c).ownBlock) l0 => (impl_hydra_sortedLit1.f k x.tree.f0 y.tree.f0).getD 0)) := ⟨fun x => by rw [hlt2]; exact G.irr _ x.inn,
    fun x y z => by rw [hlt2, hlt2, hlt2]; exact G.trans _ x.inn _ y.inn _ z.inn, fun x y z => by rw [hlt2, hlt2, hlt2]; exact G.ntrans _ x.inn _ y.inn _ z.inn⟩
   have hcmp : Stab.CmpB 85 #[] (·.val) (fun x y : impl_hydra.El w w0.heap.size (fun k_ => P0_ k_ ∧ some k_ ≠ (Value.slice (some ⟨g, 0, none⟩) l0.length c).ownBlock) l0 => (impl_hydra_sortedLit1.f k x.tree.f0 y.tree.f0).getD 0) g 0 vs.toArray.size w := by
    intro W dk _ hS x y;have hgr := impl_hydra.grown hS;obtain ⟨Ax, cx, ex, hx1, hx2⟩ := k46_open (k46.K_of_M (Kd.M_grown x.mem hgr (fun k hk e => hk.2 (by rw [e]; rfl))));obtain ⟨Ay, cy, ey, hy1, hy2⟩ := k46_open (k46.K_of_M (Kd.M_grown y.mem hgr (fun k hk e => hk.2 (by rw [e]; rfl))));obtain ⟨q, hq⟩ := G.all _ x.inn _ y.inn
    injection ex with ex _
    injection ey with ey _
    have e1 : (#[x.val, y.val] ++ #[] : Array Value) = #[.slice Ax x.tree.f0.length cx, .slice Ay y.tree.f0.length cy] := by rw [ex, ey]; rfl
    show Calls Try.prog 85 (#[x.val, y.val] ++ #[]) W _
    rw [e1];simp only [hq, Option.getD_some];exact impl_hydra_sortedLit1.calls k Ax cx _ Ay cy _ q W hx2 hx1 hy2 hy1 hq
   have R1 : Row1 (·.val) w g 0 vs.toArray := by
    refine ⟨fun x => k46.K_one (k46.K_of_M x.mem) _ List.mem_cons_self, fun j hj => ?_, (Array.getElem?_eq_some_iff.1 hh).1⟩
    have hj' : j < vs.length := by simpa using hj
    have hcj : cur[j]? = some vs[j].val := by
     have e1 : (cur.toList.take l0.length)[j]? = some vs[j].val := by
      rw [ht1, ← hvs1, List.getElem?_map, List.getElem?_eq_getElem hj']; rfl
     rw [List.getElem?_take, if_pos (by omega)] at e1
     simpa using e1
    have e2 : vs.toArray[j]! = vs[j] := by simp [hj']
    rw [e2, Nat.zero_add];exact ⟨by simp [World.cell?, hh, hcj], by simp [World.frozen?, hh]⟩
   have hc := Stab.sortStable (·.val) _ hO 85 #[] g 0 c vs.toArray w (enters_of Try.func85 (by kernel_rfl) rfl) hcmp R1 (by have := G.len; simp; omega)
   have hsz2 : vs.toArray.size = l0.length := by simp [hvl]
   rw [hsz2] at hc;refine Calls.mono hc ?_
   rintro e w' ⟨rfl, d', hS, hsrt, hperm⟩
   have hgr := impl_hydra.grown hS;have hblk := impl_hydra.block hS hh
   have hd1 : d'.size = l0.length := by rw [hperm.1, hsz2]
   have hp := impl_hydra.putCells_all (·.val) d' cur (by omega)
   have hpl : d'.toList.Perm vs := by
    have h5 := hperm.2.2
    have e1 : ∀ n, n = d'.size → d'.extract 0 n = d' := fun n h => by subst h; simp
    have e2 : ∀ n, n = vs.toArray.size → vs.toArray.extract 0 n = vs.toArray := fun n h => by subst h; simp
    rw [e1 _ hd1.symm, e2 _ hsz2.symm] at h5;exact h5
   -- the trees, sorted
   have hres : l0.mergeSort (fun x y => !impl_hydra.lt k y x) = d'.toList.map (·.tree) := by
    have m1 := List.map_mergeSort (f := fun x : impl_hydra.El w w0.heap.size (fun k_ => P0_ k_ ∧ some k_ ≠ (Value.slice (some ⟨g, 0, none⟩) l0.length c).ownBlock) l0 => x.tree) (r := fun x y => !impl_hydra.lt k y.tree x.tree) (s := fun x y => !impl_hydra.lt k y x) (l := vs) (fun _ _ _ _ => rfl);rw [hvs2] at m1;rw [← m1];have s1 := List.pairwise_mergeSort (le := fun x y : impl_hydra.El w w0.heap.size (fun k_ => P0_ k_ ∧ some k_ ≠ (Value.slice (some ⟨g, 0, none⟩) l0.length c).ownBlock) l0 => !impl_hydra.lt k y.tree x.tree)
     (fun a b c h1 h2 => by
      simp only [Bool.not_eq_true'] at h1 h2 ⊢
      exact G.ntrans _ c.inn _ b.inn _ a.inn h2 h1)
     (fun a b => by
      cases e1 : impl_hydra.lt k b.tree a.tree with
      | false => rfl
      | true =>
       cases e2 : impl_hydra.lt k a.tree b.tree with
       | false => rfl
       | true => have := G.trans _ a.inn _ b.inn _ a.inn e2 e1; rw [G.irr _ a.inn] at this; cases this) vs
    refine impl_hydra.unique (lt := impl_hydra.lt k) ?_ ?_ ?_ ?_
    ·
     intro a ha b hb;obtain ⟨x, _, rfl⟩ := List.mem_map.mp ha;obtain ⟨y, _, rfl⟩ := List.mem_map.mp hb;exact G.same _ x.inn _ y.inn
    ·
     exact List.pairwise_map.mpr (s1.imp (fun h => by simpa using h))
    ·
     refine List.pairwise_map.mpr (List.pairwise_iff_getElem.mpr (fun i j hi hj hij => ?_))
     have hi' : i < d'.size := by simpa using hi
     have hj' : j < d'.size := by simpa using hj
     have := hsrt i j (Nat.zero_le _) hij (by omega);rw [hlt2, getElem!_pos d' i hi', getElem!_pos d' j hj'] at this
     simpa using this
    ·
     exact ((List.mergeSort_perm vs _).trans hpl.symm).map _
   rw [hres]
   have hnew : (d'.toList.map (·.tree)).length = l0.length := by rw [List.length_map, Array.length_toList]; exact hd1
   have hnv : (d'.toList.map (·.val)).length = l0.length := by rw [List.length_map, Array.length_toList]; exact hd1
   have hown : w'.ownsRow w0.heap.size 46 1 (.slice (some ⟨g, 0, none⟩) l0.length c) (d'.toList.map (·.tree)).length (d'.toList.map (·.val)) := by
    rw [hnew];exact ⟨by rw [hnv, Nat.mul_one], .inr ⟨g, c, _, rfl, hb, hblk, hn2, hm, by rw [hp.1, hs1, Nat.mul_one], by rw [Nat.mul_one]; have := hp.2; rw [hd1] at this; exact this⟩⟩
   have hreps : Reps (k46.M w' w0.heap.size (fun k_ => P0_ k_ ∧ some k_ ≠ (Value.slice (some ⟨g, 0, none⟩) l0.length c).ownBlock)) 1 (d'.toList.map (·.tree)) (d'.toList.map (·.val)) := by
    refine ⟨by rw [hnv, hnew, Nat.mul_one], fun j p hp2 => ?_⟩;rw [List.getElem?_map] at hp2;obtain ⟨x, hx, rfl⟩ := Option.map_eq_some_iff.mp hp2;rw [Nat.mul_one]
    have hxl : j < (d'.toList.map (·.val)).length := by rw [List.length_map]; exact (List.getElem?_eq_some_iff.mp hx).1
    have hcell : ((d'.toList.map (·.val)).drop j).take 1 = [x.val] := by
     rw [List.drop_eq_getElem_cons hxl, List.take_succ_cons, List.take_zero, List.getElem_map];obtain ⟨h5, h6⟩ := List.getElem?_eq_some_iff.mp hx;rw [h6]
    rw [hcell];exact Kd.M_grown x.mem hgr (fun q hq e => hq.2 (by rw [e]; rfl))
   exact ⟨rfl, ⟨fun q hq => h1 q hq, _, hown, hreps⟩, Below.grown hB hgr hB.size (fun q hq => by cases hq; exact hb), Kept.of_grown hgr (Kept.refl w _) (fun q hq => by cases hq; exact .inl hP)⟩
  ·
   obtain rfl : l0 = [] := List.length_eq_zero_iff.1 (by omega);refine (Stab.sortStable_nil A c _ w).mono ?_
   rintro e w' ⟨rfl, hb⟩
   exact ⟨rfl, by simpa using Kd.R_below ho0 hb, hB.trans (hb.mono hB.size), Kept.of_grown (grown_of_below hb none) (Kept.refl w _) (fun q hq => by cases hq)⟩
 ·
  rw [if_neg hg] at h; cases h

/-! ### impl_hydra_sorted: function 54 -/
mutual
def impl_hydra_sorted.l0 : Nat → List (S46) → List (S46) → Int → Int → Option ((List (S46)))
 | 0, _, _, _, _ => none
 | k + 1, x3, x7, x8, x9 => if x9 < x8 then (if 0 ≤ x9 then (if x9 < (x7.length : Int) then ((impl_hydra_sorted.f k ((rd_T46 x7 x9).f0)).bind fun t220 => (if x3.length < 5864062014805 then (impl_hydra_sorted.l0 k (x3 ++ [(⟨t220⟩ : S46)]) x7 x8 (wrap64 (x9 + 1))) else (none))) else (none)) else (none)) else ((impl_hydra.f k x3).bind fun t226 => (some t226))
def impl_hydra_sorted.f : Nat → List (S46) → Option ((List (S46)))
 | 0, _ => none
 | k + 1, l0 => impl_hydra_sorted.l0 k (([] : List (S46))) l0 (l0.length : Int) 0
end
theorem impl_hydra_sorted.mono_l : ∀ k, (∀ y0, LeO (impl_hydra_sorted.f k y0) (impl_hydra_sorted.f (k + 1) y0)) ∧ (∀ y0 y1 y2 y3, LeO (impl_hydra_sorted.l0 k y0 y1 y2 y3) (impl_hydra_sorted.l0 (k + 1) y0 y1 y2 y3))
 | 0 => ⟨fun _ r h => by simp [impl_hydra_sorted.f] at h, fun _ _ _ _ r h => by simp [impl_hydra_sorted.l0] at h⟩
 | k + 1 => by
  obtain ⟨ih0, ih1⟩ := impl_hydra_sorted.mono_l k;refine ⟨?_, ?_⟩
  all_goals (intros; first | unfold impl_hydra_sorted.f | unfold impl_hydra_sorted.l0)
  all_goals repeat' first | (with_reducible exact ih0 _) | (with_reducible exact ih1 _ _ _ _) | (with_reducible exact impl_hydra.mono _ _) | (with_reducible exact LeO.refl _) | (with_reducible exact LeO.none _) | (with_reducible refine LeO.ite ?_ ?_) | (with_reducible refine LeO.bind ?_ (fun _ => ?_))
theorem impl_hydra_sorted.mono : ∀ a0 k, LeO (impl_hydra_sorted.f k a0) (impl_hydra_sorted.f (k + 1) a0) := by
 intro a0 k;obtain ⟨ih0, ih1⟩ := impl_hydra_sorted.mono_l k;exact ih0 a0
set_option maxHeartbeats 8000000 in
set_option maxRecDepth 100000 in
theorem impl_hydra_sorted.calls (k : Nat) : ∀ (A0 : Option Addr) (c0 : Nat) (l0 : List (S46)) (r : List (S46)) (w : World) (hr0 : Kd.C k46 w A0 l0.length l0) (hc0 : l0.length ≤ c0) (h : impl_hydra_sorted.f k l0 = some r),
  Calls Try.prog 54 #[.slice A0 l0.length c0] w fun e w' => ∃ v0_ : Value, e = .returned (v0_) ∧ Kd.R k46 46 w' w.heap.size (fun _ => True) v0_ r ∧ Below w.heap.size w w' := by
 induction k using Nat.strongRecOn with
 | _ k ih =>
 intro A0 c0 l0 r w hr0 hc0 h
 cases k with
 | zero => exact absurd h (by simp [impl_hydra_sorted.f])
 | succ k =>
 simp only [impl_hydra_sorted.f] at h;have HR0 := am hr0;have HC0 := am hc0;clear hr0 hc0;have HB := am (Below.refl w.heap.size w);have H : (impl_hydra_sorted.l0 k (([] : List (S46))) l0 (l0.length : Int) 0) = some r := h;clear h
 obtain ⟨y216, hy216⟩ : ∃ y_ : List (S46), y_ = (([] : List (S46))) := ⟨_, rfl⟩
 replace H : (impl_hydra_sorted.l0 k y216 l0 (l0.length : Int) 0) = some r := by first | (rw [hy216]; with_reducible exact H) | (have H2_ := oB H; rw [hy216]; with_reducible exact H2_) | (have H2_ := oB H; with_reducible exact H2_) | with_reducible exact H | (rw [hy216]; exact H) | exact H
 replace hy216 := am hy216;have H' := am H;clear H;go_enter Try.func54, Try.ntmps54;go_wp2_with (first | ((with_reducible refine gate_dst (N := 6) rfl ?_); refine Kd.R_lit k46 _ 46 ?hg (N := 6) ?hd (xs := ([] : List (S46))) (inner := []) (ok := fun _ => True) (okp := fun _ => True) ?hr ?hp (fun _ hk => hk) trivial (Below.refl _ _) (Nat.le_refl _) (by simp) ?_; (case hd => rfl); (case hg => rfl); (case hr => first | (go_simp; done) | (go_simp; rfl)); (case hp => exact (Reps.none _ _)); intro v217 w2 ho3 hb hg_ hnew_; clear hg_ hnew_; (first | rw [← hy216.out] at ho3 | (simp only [Int.reduceToNat] at ho3; rw [← hy216.out] at ho3)); have HO218 := am (Kd.R_lower ho3 (below_size (bm HB.out)));replace HB := am (below_step (bm HB.out) hb); clear hb ho3))
 go_loopg [3, 9] k (fun kq v3 v9 w' => ∃ (x3_1 : List (S46)) (x9_1 : Int), v9 = .int .i64 x9_1 ∧ Aside0 (impl_hydra_sorted.l0 kq x3_1 l0 (l0.length : Int) x9_1 = some r) ∧ Aside0 (kq ≤ k) ∧ Aside0 (Kd.R k46 46 w' w.heap.size (fun _ => True) v3 x3_1) ∧ Aside0 (Below w.heap.size w w'))
 case atStart => exact ⟨(y216), (0), (by first | rfl | (simp; done) | (simp [*]; done)), H', ⟨Nat.le_refl _⟩, ⟨Kd.rm HO218.out⟩, ⟨bm HB.out⟩⟩
 case round =>
  clear H';(try clear p2);(try clear HO_3);(try clear HB);obtain ⟨x3_1, x9_1, rfl, HA, HK1, HO_3, HB⟩ := hrel
  cases gk with
  | zero => exact absurd HA.out (by simp [impl_hydra_sorted.l0])
  | succ k1 =>
   have H := HA.out;clear HA;simp only [impl_hydra_sorted.l0] at H;by_cases c4 : x9_1 < (l0.length : Int)
   ·
    rw [if_pos c4] at H;have c4b0 : decide (x9_1 < (l0.length : Int)) = true := decide_eq_true c4;clear c4;by_cases c5 : 0 ≤ x9_1
    ·
     rw [if_pos c5] at H;have c5b0 : decide (0 ≤ x9_1) = true := decide_eq_true c5;clear c5;by_cases c6 : x9_1 < (l0.length : Int)
     ·
      rw [if_pos c6] at H;have c6b0 : decide (x9_1 < (l0.length : Int)) = true := decide_eq_true c6;clear c6;replace H := oE H;obtain ⟨t220, A7, H⟩ := H;replace H : (if x3_1.length < 5864062014805 then (impl_hydra_sorted.l0 k1 (x3_1 ++ [(⟨t220⟩ : S46)]) l0 (l0.length : Int) (wrap64 (x9_1 + 1))) else (none)) = some r := H;replace A7 := am A7;by_cases c8 : x3_1.length < 5864062014805
      ·
       rw [if_pos c8] at H;have LMc8 := am c8;clear c8
       obtain ⟨y223, hy223⟩ : ∃ y_ : List (S46), y_ = (x3_1 ++ [(⟨t220⟩ : S46)]) := ⟨_, rfl⟩
       replace H : (impl_hydra_sorted.l0 k1 y223 l0 (l0.length : Int) (wrap64 (x9_1 + 1))) = some r := by first | (rw [hy223]; with_reducible exact H) | (have H2_ := oB H; rw [hy223]; with_reducible exact H2_) | (have H2_ := oB H; with_reducible exact H2_) | with_reducible exact H | (rw [hy223]; exact H) | exact H
       replace hy223 := am hy223;have H' := am H;clear H;have p219 : 0 ≤ (x9_1 : Int) := of_decide_eq_true (by assumption);have q219 : x9_1 < (l0.length : Int) := of_decide_eq_true (by assumption);obtain ⟨ad219, A219_0, c219_0, e219, hx219_0, hl219_0, hi219_0⟩ := at_T46 HR0.out x9_1 p219 q219;cases e219
       replace hx219_0 := (HB.out.cell (World.block_lt_of_cell? w _ hx219_0)).trans hx219_0;have HR219_0 := am hi219_0;have HC219_0 := am hl219_0;clear hi219_0 hl219_0;replace p219 := eq_true p219;replace q219 := eq_true q219;go_wp2_with (first | ((with_reducible refine gate_callee (f := 54) rfl ?_); refine goesL_ (some 15) rfl rfl Try.func54 (by kernel_rfl) rfl #[.slice A219_0 ((rd_T46 l0 x9_1).f0).length c219_0] rfl (by (try simp only [mA, mB, mC]); first | done | rfl) ?_; (with_reducible refine (ih k1 (by have := HK1.out; omega) _ _ ((rd_T46 l0 x9_1).f0) t220 _ ?side1 ?side2 A7.out).mono ?_); (case side1 => exact Kd.cm ((Kd.C_below HR219_0.out HB.out))); (case side2 => exact HC219_0.out); rintro e w9 ⟨v221, rfl, ho0, hb⟩; refine ⟨_, rfl, ?_⟩; have HO222 := am (Kd.R_lower (Kd.R_new' ho0 (Kd.R_lt (Kd.rm HO_3.out))) (below_size (bm HB.out)));replace HO_3 := am (Kd.R_elder' (Kd.rm HO_3.out) (Kd.R_base ho0) hb);replace HB := am (below_step (bm HB.out) hb); (try clear hb); (try clear hk); (try clear ho0); obtain ⟨Ao11, co11, eo11⟩ := Kd.R_slice HO222.out; subst eo11) | ((with_reducible refine gate_builtin (b := .append) (xs := #[.tmp 13, .tmp 16]) rfl ?_); at_builtin; refine Kd.R_append k46 (w0 := w) w.heap.size rfl (.tmp 13) (.tmp 16) 46 46 (.slice none 0 0) 24 rfl Try.underlying46 info46 rfl (by decide) (by omega) u3 x3_1 (⟨t220⟩ : S46) [.slice Ao11 t220.length co11] (fun _ => True) (fun k_ => ((fun _ => True)) k_ ∧ some k_ ≠ (u3 : Value).ownBlock) rfl rfl ?aP (fun _ hk => hk) ?aF ?aO ?aB ?aS ?aL ?_; (case aP => exact k46_mkM _ _ _ (⟨t220⟩ : S46) (Kd.R_mono (HO222.out) (fun k_ hk => ⟨trivial, hk.2⟩))); (case aB => exact (bm HB.out)); (case aF => exact (fun _ _ => trivial)); (case aO => exact (Kd.rm (Kd.R_mono HO_3.out (fun _ hk => trivial)))); (case aS => exact (below_size (bm HB.out))); (case aL => have := LMc8.out; omega); intro v224 w10 ho hb hg hat; rw [← hy223.out] at ho; replace HB := am (hb);have HO225 := am (ho);clear HO_3 HO222; clear ho hb hg hat))
       go_roundg k1
       case measure => have := HK1.out; omega
       case rel => exact ⟨(y223), (wrap64 (x9_1 + 1)), (by first | rfl | (simp; done) | (simp [*]; done)), H', ⟨by have := HK1.out; omega⟩, ⟨Kd.rm HO225.out⟩, ⟨bm HB.out⟩⟩
      ·
       rw [if_neg c8] at H;exact absurd H (by simp)
     ·
      rw [if_neg c6] at H;exact absurd H (by simp)
    ·
     rw [if_neg c5] at H;exact absurd H (by simp)
   ·
    rw [if_neg c4] at H;have c4b0 : decide (x9_1 < (l0.length : Int)) = false := decide_eq_false c4;clear c4;replace H := oE H;obtain ⟨t226, A12, H⟩ := H;replace H : (some t226) = some r := H;replace A12 := am A12;obtain rfl := Option.some.inj H;obtain ⟨Ao13, co13, eo13⟩ := Kd.R_slice HO_3.out;subst eo13;go_wp2_with (first | (go_at_call 84; (with_reducible refine (impl_hydra.calls k1 ?p0 (.slice Ao13 x3_1.length co13) x3_1 t226 w _ ?side1 ?side2 A12.out).mono ?_); (case side1 => repeat (first | (with_reducible first | exact HB.out | apply below_alloc | apply pw_below_drewN | apply below_drew1) | exact HB.out)); (case side2 => exact HO_3.out); rintro e w14 ⟨rfl, hy0, hb, hkp⟩; replace HO_3 := am hy0;replace HB := am (hb); (try clear hb); (try clear hkp); (try clear hy0)));go_ret;exact ⟨_, by first | rfl | (simp [errW_none, errW_some] <;> rfl) | (simp [*, errW_none, errW_some] <;> rfl), Kd.rm HO_3.out, bm HB.out⟩

/-! ### impl_hydra_row: function 55 -/
mutual
def impl_hydra_row.l0 : Nat → List Int → List (S46) → Int → Int → Option (List Int)
 | 0, _, _, _, _ => none
 | k + 1, x3, x9, x10, x11 => if x11 < x10 then (if 0 ≤ x11 then (if x11 < (x9.length : Int) then ((impl_hydra_row.f k ((rd_T46 x9 x11).f0)).bind fun t231 => (if x3.length + t231.length < 17592186044416 then (impl_hydra_row.l0 k (x3 ++ t231) x9 x10 (wrap64 (x11 + 1))) else (none))) else (none)) else (none)) else (some x3)
def impl_hydra_row.f : Nat → List (S46) → Option (List Int)
 | 0, _ => none
 | k + 1, l0 => impl_hydra_row.l0 k (([(l0.length : Int)] : List Int)) l0 (l0.length : Int) 0
end
theorem impl_hydra_row.mono_l : ∀ k, (∀ y0, LeO (impl_hydra_row.f k y0) (impl_hydra_row.f (k + 1) y0)) ∧ (∀ y0 y1 y2 y3, LeO (impl_hydra_row.l0 k y0 y1 y2 y3) (impl_hydra_row.l0 (k + 1) y0 y1 y2 y3))
 | 0 => ⟨fun _ r h => by simp [impl_hydra_row.f] at h, fun _ _ _ _ r h => by simp [impl_hydra_row.l0] at h⟩
 | k + 1 => by
  obtain ⟨ih0, ih1⟩ := impl_hydra_row.mono_l k;refine ⟨?_, ?_⟩
  all_goals (intros; first | unfold impl_hydra_row.f | unfold impl_hydra_row.l0)
  all_goals repeat' first | (with_reducible exact ih0 _) | (with_reducible exact ih1 _ _ _ _) | (with_reducible exact LeO.refl _) | (with_reducible exact LeO.none _) | (with_reducible refine LeO.ite ?_ ?_) | (with_reducible refine LeO.bind ?_ (fun _ => ?_))
theorem impl_hydra_row.mono : ∀ a0 k, LeO (impl_hydra_row.f k a0) (impl_hydra_row.f (k + 1) a0) := by
 intro a0 k;obtain ⟨ih0, ih1⟩ := impl_hydra_row.mono_l k;exact ih0 a0
set_option maxHeartbeats 8000000 in
set_option maxRecDepth 100000 in
theorem impl_hydra_row.calls (k : Nat) : ∀ (A0 : Option Addr) (c0 : Nat) (l0 : List (S46)) (r : List Int) (w : World) (hr0 : Kd.C k46 w A0 l0.length l0) (hc0 : l0.length ≤ c0) (h : impl_hydra_row.f k l0 = some r),
  Calls Try.prog 55 #[.slice A0 l0.length c0] w fun e w' => ∃ v0_ : Value, e = .returned (v0_) ∧ Kd.R (Kd.int .i64) 3 w' w.heap.size (fun _ => True) v0_ r ∧ Below w.heap.size w w' := by
 induction k using Nat.strongRecOn with
 | _ k ih =>
 intro A0 c0 l0 r w hr0 hc0 h
 cases k with
 | zero => exact absurd h (by simp [impl_hydra_row.f])
 | succ k =>
 simp only [impl_hydra_row.f] at h;have HR0 := am hr0;have HC0 := am hc0;clear hr0 hc0;have HB := am (Below.refl w.heap.size w);have H : (impl_hydra_row.l0 k (([(l0.length : Int)] : List Int)) l0 (l0.length : Int) 0) = some r := h;clear h
 obtain ⟨y227, hy227⟩ : ∃ y_ : List Int, y_ = (([(l0.length : Int)] : List Int)) := ⟨_, rfl⟩
 replace H : (impl_hydra_row.l0 k y227 l0 (l0.length : Int) 0) = some r := by first | (rw [hy227]; with_reducible exact H) | (have H2_ := oB H; rw [hy227]; with_reducible exact H2_) | (have H2_ := oB H; with_reducible exact H2_) | with_reducible exact H | (rw [hy227]; exact H) | exact H
 replace hy227 := am hy227;have H' := am H;clear H;go_enter Try.func55, Try.ntmps55;go_wp2_with (first | ((with_reducible refine gate_dst (N := 8) rfl ?_); refine Kd.R_lit (Kd.int .i64) _ 3 ?hg (N := 8) ?hd (xs := ([(l0.length : Int)] : List Int)) (inner := [.int .i64 (l0.length : Int)]) (ok := fun _ => True) (okp := fun _ => True) ?hr ?hp (fun _ hk => hk) trivial (Below.refl _ _) (Nat.le_refl _) (by simp) ?_; (case hd => rfl); (case hg => rfl); (case hr => first | (go_simp; done) | (go_simp; rfl)); (case hp => exact (Reps.one (show Kd.M (Kd.int .i64) _ _ _ (l0.length : Int) [.int .i64 (l0.length : Int)] from rfl) (Reps.none _ _))); intro v228 w2 ho3 hb hg_ hnew_; clear hg_ hnew_; (first | rw [← hy227.out] at ho3 | (simp only [Int.reduceToNat] at ho3; rw [← hy227.out] at ho3)); have HO229 := am (Kd.R_lower ho3 (below_size (bm HB.out)));replace HB := am (below_step (bm HB.out) hb); clear hb ho3))
 go_loopg [3, 11] k (fun kq v3 v11 w' => ∃ (x3_1 : List Int) (x11_1 : Int), v11 = .int .i64 x11_1 ∧ Aside0 (impl_hydra_row.l0 kq x3_1 l0 (l0.length : Int) x11_1 = some r) ∧ Aside0 (kq ≤ k) ∧ Aside0 (Kd.R (Kd.int .i64) 3 w' w.heap.size (fun _ => True) v3 x3_1) ∧ Aside0 (Below w.heap.size w w'))
 case atStart => exact ⟨(y227), (0), (by first | rfl | (simp; done) | (simp [*]; done)), H', ⟨Nat.le_refl _⟩, ⟨Kd.rm HO229.out⟩, ⟨bm HB.out⟩⟩
 case round =>
  clear H';(try clear p2);(try clear HO_3);(try clear HB);obtain ⟨x3_1, x11_1, rfl, HA, HK1, HO_3, HB⟩ := hrel
  cases gk with
  | zero => exact absurd HA.out (by simp [impl_hydra_row.l0])
  | succ k1 =>
   have H := HA.out;clear HA;simp only [impl_hydra_row.l0] at H;by_cases c4 : x11_1 < (l0.length : Int)
   ·
    rw [if_pos c4] at H;have c4b0 : decide (x11_1 < (l0.length : Int)) = true := decide_eq_true c4;clear c4;by_cases c5 : 0 ≤ x11_1
    ·
     rw [if_pos c5] at H;have c5b0 : decide (0 ≤ x11_1) = true := decide_eq_true c5;clear c5;by_cases c6 : x11_1 < (l0.length : Int)
     ·
      rw [if_pos c6] at H;have c6b0 : decide (x11_1 < (l0.length : Int)) = true := decide_eq_true c6;clear c6;replace H := oE H;obtain ⟨t231, A7, H⟩ := H;replace H : (if x3_1.length + t231.length < 17592186044416 then (impl_hydra_row.l0 k1 (x3_1 ++ t231) l0 (l0.length : Int) (wrap64 (x11_1 + 1))) else (none)) = some r := H;replace A7 := am A7;by_cases c8 : x3_1.length + t231.length < 17592186044416
      ·
       rw [if_pos c8] at H;have LMc8 := am c8;clear c8
       obtain ⟨y234, hy234⟩ : ∃ y_ : List Int, y_ = (x3_1 ++ t231) := ⟨_, rfl⟩
       replace H : (impl_hydra_row.l0 k1 y234 l0 (l0.length : Int) (wrap64 (x11_1 + 1))) = some r := by first | (rw [hy234]; with_reducible exact H) | (have H2_ := oB H; rw [hy234]; with_reducible exact H2_) | (have H2_ := oB H; with_reducible exact H2_) | with_reducible exact H | (rw [hy234]; exact H) | exact H
       replace hy234 := am hy234;have H' := am H;clear H;have p230 : 0 ≤ (x11_1 : Int) := of_decide_eq_true (by assumption);have q230 : x11_1 < (l0.length : Int) := of_decide_eq_true (by assumption);obtain ⟨ad230, A230_0, c230_0, e230, hx230_0, hl230_0, hi230_0⟩ := at_T46 HR0.out x11_1 p230 q230;cases e230
       replace hx230_0 := (HB.out.cell (World.block_lt_of_cell? w _ hx230_0)).trans hx230_0;have HR230_0 := am hi230_0;have HC230_0 := am hl230_0;clear hi230_0 hl230_0;replace p230 := eq_true p230;replace q230 := eq_true q230;go_wp2_with (first | ((with_reducible refine gate_callee (f := 55) rfl ?_); refine goesL_ (some 17) rfl rfl Try.func55 (by kernel_rfl) rfl #[.slice A230_0 ((rd_T46 l0 x11_1).f0).length c230_0] rfl (by (try simp only [mA, mB, mC]); first | done | rfl) ?_; (with_reducible refine (ih k1 (by have := HK1.out; omega) _ _ ((rd_T46 l0 x11_1).f0) t231 _ ?side1 ?side2 A7.out).mono ?_); (case side1 => exact Kd.cm ((Kd.C_below HR230_0.out HB.out))); (case side2 => exact HC230_0.out); rintro e w9 ⟨v232, rfl, ho0, hb⟩; refine ⟨_, rfl, ?_⟩; have HO233 := am (Kd.R_lower (Kd.R_new' ho0 (Kd.R_lt (Kd.rm HO_3.out))) (below_size (bm HB.out)));replace HO_3 := am (Kd.R_elder' (Kd.rm HO_3.out) (Kd.R_base ho0) hb);replace HB := am (below_step (bm HB.out) hb); (try clear hb); (try clear hk); (try clear ho0); obtain ⟨Ao11, co11, eo11⟩ := Kd.R_slice HO233.out; subst eo11) | ((with_reducible refine gate_builtin (b := .append) (xs := #[.tmp 15, .tmp 17]) rfl ?_); at_builtin; refine Kd.R_append_rows (Kd.int .i64) (w0 := w) w.heap.size rfl (.tmp 15) (.tmp 17) 22 3 (.int .i64 0) 8 rfl Try.underlying22 info3 rfl (by decide) (by omega) u3 x3_1 t231 _ _ _ (fun k_ => some k_ ≠ (.slice Ao11 t231.length co11 : Value).ownBlock) (fun _ => False) rfl rfl ?aO ?aR (fun _ _ h => h) (fun _ h => h.elim) ?aF ?aB ?aS ?aL ?_; (case aR => exact Kd.cm ((Kd.R_reads' HO233.out).2.2)); (case aB => exact (bm HB.out)); (case aF => exact (fun k_ hk => Kd.fresh' (Kd.R_lt (Kd.rm HO233.out)) k_ hk)); (case aO => exact (Kd.rm (Kd.R_mono HO_3.out (fun _ hk => hk.2)))); (case aS => exact (below_size (bm HB.out))); (case aL => have := LMc8.out; omega); intro v235 w10 ho hb hg hat; rw [← hy234.out] at ho; replace HO233 := am (Kd.R_after (ok := (fun _ => True)) (Kd.rm HO233.out) hg hat);replace HB := am (hb);have HO236 := am (ho);clear HO_3; clear ho hb hg hat))
       go_roundg k1
       case measure => have := HK1.out; omega
       case rel => exact ⟨(y234), (wrap64 (x11_1 + 1)), (by first | rfl | (simp; done) | (simp [*]; done)), H', ⟨by have := HK1.out; omega⟩, ⟨Kd.rm (Kd.R_mono HO236.out (fun _ hk => trivial))⟩, ⟨bm HB.out⟩⟩
      ·
       rw [if_neg c8] at H;exact absurd H (by simp)
     ·
      rw [if_neg c6] at H;exact absurd H (by simp)
    ·
     rw [if_neg c5] at H;exact absurd H (by simp)
   ·
    rw [if_neg c4] at H;have c4b0 : decide (x11_1 < (l0.length : Int)) = false := decide_eq_false c4;clear c4;obtain rfl := Option.some.inj H;go_wp2;go_ret;exact ⟨_, by first | rfl | (simp [errW_none, errW_some] <;> rfl) | (simp [*, errW_none, errW_some] <;> rfl), Kd.rm HO_3.out, bm HB.out⟩

/-! ### impl_HydraSame: function 28 -/
def impl_HydraSame.f (k : Nat) (l0 : List Int) (l1 : List Int) : Option (Bool) := (impl_hydraOf.f k l0).bind fun bt237 => ((impl_hydraOf.f k l1).bind fun bt241 => (if bt237.2 = true then (if bt241.2 = true then ((impl_hydra_sorted.f k bt237.1).bind fun t245 => ((impl_hydra_row.f k t245).bind fun t248 => ((impl_hydra_sorted.f k bt241.1).bind fun t251 => ((impl_hydra_row.f k t251).bind fun t254 => ((slices_Equal_int_int.f k t248 t254).bind fun t257 => (some t257)))))) else (some false)) else (some false)))
theorem impl_HydraSame.mono : ∀ a0 a1 k, LeO (impl_HydraSame.f k a0 a1) (impl_HydraSame.f (k + 1) a0 a1) := by
 intro a0 a1 k;unfold impl_HydraSame.f
 repeat' first | (with_reducible exact impl_hydraOf.mono _ _) | (with_reducible exact impl_hydra_row.mono _ _) | (with_reducible exact impl_hydra_sorted.mono _ _) | (with_reducible exact slices_Equal_int_int.mono _ _ _) | (with_reducible exact LeO.refl _) | (with_reducible exact LeO.none _) | (with_reducible refine LeO.ite ?_ ?_) | (with_reducible refine LeO.bind ?_ (fun _ => ?_))
set_option maxHeartbeats 8000000 in
set_option maxRecDepth 100000 in
theorem impl_HydraSame.calls (k : Nat) (A0 : Option Addr) (c0 : Nat) (l0 : List Int) (A1 : Option Addr) (c1 : Nat) (l1 : List Int) (r : Bool) (w : World) (hr0 : Kd.C (Kd.int .i64) w A0 l0.length l0) (hc0 : l0.length ≤ c0) (hr1 : Kd.C (Kd.int .i64) w A1 l1.length l1) (hc1 : l1.length ≤ c1) (h : impl_HydraSame.f k l0 l1 = some r) :
  Calls Try.prog 28 #[.slice A0 l0.length c0, .slice A1 l1.length c1] w fun e w' => e = .returned (.bool r) ∧ Below w.heap.size w w' := by
 have HR0 := am hr0;have HC0 := am hc0;clear hr0 hc0;have HR1 := am hr1;have HC1 := am hc1;clear hr1 hc1;have HB := am (Below.refl w.heap.size w);have H : ((impl_hydraOf.f k l0).bind fun bt237 => ((impl_hydraOf.f k l1).bind fun bt241 => (if bt237.2 = true then (if bt241.2 = true then ((impl_hydra_sorted.f k bt237.1).bind fun t245 => ((impl_hydra_row.f k t245).bind fun t248 => ((impl_hydra_sorted.f k bt241.1).bind fun t251 => ((impl_hydra_row.f k t251).bind fun t254 => ((slices_Equal_int_int.f k t248 t254).bind fun t257 => (some t257)))))) else (some false)) else (some false)))) = some r := h;clear h;replace H := oE H;obtain ⟨⟨t237, t238⟩, A3, H⟩ := H;replace H : ((impl_hydraOf.f k l1).bind fun bt241 => (if t238 = true then (if bt241.2 = true then ((impl_hydra_sorted.f k t237).bind fun t245 => ((impl_hydra_row.f k t245).bind fun t248 => ((impl_hydra_sorted.f k bt241.1).bind fun t251 => ((impl_hydra_row.f k t251).bind fun t254 => ((slices_Equal_int_int.f k t248 t254).bind fun t257 => (some t257)))))) else (some false)) else (some false))) = some r := H;replace A3 := am A3;replace H := oE H;obtain ⟨⟨t241, t242⟩, A4, H⟩ := H;replace H : (if t238 = true then (if t242 = true then ((impl_hydra_sorted.f k t237).bind fun t245 => ((impl_hydra_row.f k t245).bind fun t248 => ((impl_hydra_sorted.f k t241).bind fun t251 => ((impl_hydra_row.f k t251).bind fun t254 => ((slices_Equal_int_int.f k t248 t254).bind fun t257 => (some t257)))))) else (some false)) else (some false)) = some r := H;replace A4 := am A4;by_cases c5 : t238 = true
 ·
  subst c5
  have H1 : (if t242 = true then ((impl_hydra_sorted.f k t237).bind fun t245 => ((impl_hydra_row.f k t245).bind fun t248 => ((impl_hydra_sorted.f k t241).bind fun t251 => ((impl_hydra_row.f k t251).bind fun t254 => ((slices_Equal_int_int.f k t248 t254).bind fun t257 => (some t257)))))) else (some false)) = some r := by rw [if_pos rfl] at H; exact H
  clear H;have H := H1;clear H1;by_cases c6 : t242 = true
  ·
   subst c6
   have H1 : ((impl_hydra_sorted.f k t237).bind fun t245 => ((impl_hydra_row.f k t245).bind fun t248 => ((impl_hydra_sorted.f k t241).bind fun t251 => ((impl_hydra_row.f k t251).bind fun t254 => ((slices_Equal_int_int.f k t248 t254).bind fun t257 => (some t257)))))) = some r := by rw [if_pos rfl] at H; exact H
   clear H;have H := H1;clear H1;replace H := oE H;obtain ⟨t245, A7, H⟩ := H;replace H : ((impl_hydra_row.f k t245).bind fun t248 => ((impl_hydra_sorted.f k t241).bind fun t251 => ((impl_hydra_row.f k t251).bind fun t254 => ((slices_Equal_int_int.f k t248 t254).bind fun t257 => (some t257))))) = some r := H;replace A7 := am A7;replace H := oE H;obtain ⟨t248, A8, H⟩ := H;replace H : ((impl_hydra_sorted.f k t241).bind fun t251 => ((impl_hydra_row.f k t251).bind fun t254 => ((slices_Equal_int_int.f k t248 t254).bind fun t257 => (some t257)))) = some r := H;replace A8 := am A8;replace H := oE H;obtain ⟨t251, A9, H⟩ := H;replace H : ((impl_hydra_row.f k t251).bind fun t254 => ((slices_Equal_int_int.f k t248 t254).bind fun t257 => (some t257))) = some r := H;replace A9 := am A9;replace H := oE H;obtain ⟨t254, A10, H⟩ := H;replace H : ((slices_Equal_int_int.f k t248 t254).bind fun t257 => (some t257)) = some r := H;replace A10 := am A10;replace H := oE H;obtain ⟨t257, A11, H⟩ := H;replace H : (some t257) = some r := H;replace A11 := am A11;obtain rfl := Option.some.inj H;go_enter Try.func28, Try.ntmps28;go_wp2_with (first | ((with_reducible refine gate_callee (f := 43) rfl ?_); refine goesL_ (some 11) rfl rfl Try.func43 (by kernel_rfl) rfl #[.slice A0 l0.length c0] rfl (by (try simp only [mA, mB, mC]); first | done | rfl) ?_; (with_reducible refine (impl_hydraOf.calls k _ _ l0 t237 true _ ?side1 ?side2 A3.out).mono ?_); (case side1 => exact Kd.cm HR0.out); (case side2 => exact HC0.out); rintro e w12 ⟨v239, rfl, ho0, hb⟩; refine ⟨_, rfl, ?_⟩; have HO240 := am (Kd.R_lower ho0 (below_size (bm HB.out)));replace HB := am (below_step (bm HB.out) hb); (try clear hb); (try clear ho0)) | ((with_reducible refine gate_callee (f := 43) rfl ?_); refine goesL_ (some 16) rfl rfl Try.func43 (by kernel_rfl) rfl #[.slice A1 l1.length c1] rfl (by (try simp only [mA, mB, mC]); first | done | rfl) ?_; (with_reducible refine (impl_hydraOf.calls k _ _ l1 t241 true _ ?side1 ?side2 A4.out).mono ?_); (case side1 => exact Kd.cm ((Kd.C_below HR1.out HB.out))); (case side2 => exact HC1.out); rintro e w13 ⟨v243, rfl, ho0, hb⟩; refine ⟨_, rfl, ?_⟩; have HO244 := am (Kd.R_lower (Kd.R_new' ho0 (Kd.R_lt (Kd.rm HO240.out))) (below_size (bm HB.out)));replace HO240 := am (Kd.R_elder' (Kd.rm HO240.out) (Kd.R_base ho0) hb);replace HB := am (below_step (bm HB.out) hb); (try clear hb); (try clear ho0); obtain ⟨Ao14, co14, eo14⟩ := Kd.R_slice HO240.out; subst eo14) | (go_at_call 54; (with_reducible refine (impl_hydra_sorted.calls k _ _ t237 t245 _ ?side1 ?side2 A7.out).mono ?_); (case side1 => exact Kd.cm ((Kd.R_reads' HO240.out).2.2)); (case side2 => exact (Kd.R_reads' HO240.out).2.1); rintro e w15 ⟨v246, rfl, ho0, hb⟩; have HO247 := am (Kd.R_lower (Kd.R_new' (Kd.R_new' ho0 (Kd.R_lt (Kd.rm HO240.out))) (Kd.R_lt (Kd.rm HO244.out))) (below_size (bm HB.out)));replace HO240 := am (Kd.R_elder' (Kd.rm HO240.out) (Kd.R_base ho0) hb);replace HO244 := am (Kd.R_elder' (Kd.rm HO244.out) (Kd.R_base ho0) hb);replace HB := am (below_step (bm HB.out) hb); (try clear hb); (try clear ho0); obtain ⟨Ao16, co16, eo16⟩ := Kd.R_slice HO247.out; subst eo16) | (go_at_call 55; (with_reducible refine (impl_hydra_row.calls k _ _ t245 t248 _ ?side1 ?side2 A8.out).mono ?_); (case side1 => exact Kd.cm ((Kd.R_reads' HO247.out).2.2)); (case side2 => exact (Kd.R_reads' HO247.out).2.1); rintro e w17 ⟨v249, rfl, ho0, hb⟩; replace HO240 := am (Kd.R_below (Kd.rm HO240.out) hb);replace HO244 := am (Kd.R_below (Kd.rm HO244.out) hb);replace HO247 := am (Kd.R_below (Kd.rm HO247.out) hb);have HO250 := am (Kd.R_lower ho0 (below_size (bm HB.out)));replace HB := am (below_step (bm HB.out) hb); (try clear hb); (try clear ho0); obtain ⟨Ao18, co18, eo18⟩ := Kd.R_slice HO244.out; subst eo18) | (go_at_call 54; (with_reducible refine (impl_hydra_sorted.calls k _ _ t241 t251 _ ?side1 ?side2 A9.out).mono ?_); (case side1 => exact Kd.cm ((Kd.R_reads' HO244.out).2.2)); (case side2 => exact (Kd.R_reads' HO244.out).2.1); rintro e w19 ⟨v252, rfl, ho0, hb⟩; replace HO250 := am (Kd.R_below (Kd.rm HO250.out) hb);have HO253 := am (Kd.R_lower (Kd.R_new' (Kd.R_new' (Kd.R_new' ho0 (Kd.R_lt (Kd.rm HO240.out))) (Kd.R_lt (Kd.rm HO244.out))) (Kd.R_lt (Kd.rm HO247.out))) (below_size (bm HB.out)));replace HO240 := am (Kd.R_elder' (Kd.rm HO240.out) (Kd.R_base ho0) hb);replace HO244 := am (Kd.R_elder' (Kd.rm HO244.out) (Kd.R_base ho0) hb);replace HO247 := am (Kd.R_elder' (Kd.rm HO247.out) (Kd.R_base ho0) hb);replace HB := am (below_step (bm HB.out) hb); (try clear hb); (try clear ho0); obtain ⟨Ao20, co20, eo20⟩ := Kd.R_slice HO253.out; subst eo20) | (go_at_call 55; (with_reducible refine (impl_hydra_row.calls k _ _ t251 t254 _ ?side1 ?side2 A10.out).mono ?_); (case side1 => exact Kd.cm ((Kd.R_reads' HO253.out).2.2)); (case side2 => exact (Kd.R_reads' HO253.out).2.1); rintro e w21 ⟨v255, rfl, ho0, hb⟩; replace HO240 := am (Kd.R_below (Kd.rm HO240.out) hb);replace HO244 := am (Kd.R_below (Kd.rm HO244.out) hb);replace HO247 := am (Kd.R_below (Kd.rm HO247.out) hb);replace HO253 := am (Kd.R_below (Kd.rm HO253.out) hb);have HO256 := am (Kd.R_lower (Kd.R_new' ho0 (Kd.R_lt (Kd.rm HO250.out))) (below_size (bm HB.out)));replace HO250 := am (Kd.R_elder' (Kd.rm HO250.out) (Kd.R_base ho0) hb);replace HB := am (below_step (bm HB.out) hb); (try clear hb); (try clear ho0); obtain ⟨Ao22, co22, eo22⟩ := Kd.R_slice HO250.out; subst eo22; obtain ⟨Ao23, co23, eo23⟩ := Kd.R_slice HO256.out; subst eo23) | (go_at_call 53; (with_reducible refine (slices_Equal_int_int.calls k _ _ t248 _ _ t254 t257 _ ?side1 ?side2 ?side3 ?side4 A11.out).mono ?_); (case side1 => exact Kd.cm ((Kd.R_reads' HO250.out).2.2)); (case side2 => exact (Kd.R_reads' HO250.out).2.1); (case side3 => exact Kd.cm ((Kd.R_reads' HO256.out).2.2)); (case side4 => exact (Kd.R_reads' HO256.out).2.1); rintro e w' ⟨rfl, ⟨nd, rfl⟩⟩));go_ret;exact ⟨by first | rfl | (simp [errW_none, errW_some] <;> rfl) | (simp [*, errW_none, errW_some] <;> rfl), bm HB.out⟩
  ·
   replace c6 := Bool.eq_false_iff.mpr c6;subst c6
   have H1 : (some false) = some r := by rw [if_neg (show ¬ (false = true) by decide)] at H; exact H
   clear H;have H := H1;clear H1;obtain rfl := Option.some.inj H;go_enter Try.func28, Try.ntmps28;go_wp2_with (first | ((with_reducible refine gate_callee (f := 43) rfl ?_); refine goesL_ (some 11) rfl rfl Try.func43 (by kernel_rfl) rfl #[.slice A0 l0.length c0] rfl (by (try simp only [mA, mB, mC]); first | done | rfl) ?_; (with_reducible refine (impl_hydraOf.calls k _ _ l0 t237 true _ ?side1 ?side2 A3.out).mono ?_); (case side1 => exact Kd.cm HR0.out); (case side2 => exact HC0.out); rintro e w24 ⟨v239, rfl, ho0, hb⟩; refine ⟨_, rfl, ?_⟩; have HO240 := am (Kd.R_lower ho0 (below_size (bm HB.out)));replace HB := am (below_step (bm HB.out) hb); (try clear hb); (try clear ho0)) | ((with_reducible refine gate_callee (f := 43) rfl ?_); refine goesL_ (some 16) rfl rfl Try.func43 (by kernel_rfl) rfl #[.slice A1 l1.length c1] rfl (by (try simp only [mA, mB, mC]); first | done | rfl) ?_; (with_reducible refine (impl_hydraOf.calls k _ _ l1 t241 false _ ?side1 ?side2 A4.out).mono ?_); (case side1 => exact Kd.cm ((Kd.C_below HR1.out HB.out))); (case side2 => exact HC1.out); rintro e w25 ⟨v243, rfl, ho0, hb⟩; refine ⟨_, rfl, ?_⟩; have HO244 := am (Kd.R_lower (Kd.R_new' ho0 (Kd.R_lt (Kd.rm HO240.out))) (below_size (bm HB.out)));replace HO240 := am (Kd.R_elder' (Kd.rm HO240.out) (Kd.R_base ho0) hb);replace HB := am (below_step (bm HB.out) hb); (try clear hb); (try clear ho0)));go_ret;exact ⟨by first | rfl | (simp [errW_none, errW_some] <;> rfl) | (simp [*, errW_none, errW_some] <;> rfl), bm HB.out⟩
 ·
  replace c5 := Bool.eq_false_iff.mpr c5;subst c5
  have H1 : (some false) = some r := by rw [if_neg (show ¬ (false = true) by decide)] at H; exact H
  clear H;have H := H1;clear H1;obtain rfl := Option.some.inj H;go_enter Try.func28, Try.ntmps28;go_wp2_with (first | ((with_reducible refine gate_callee (f := 43) rfl ?_); refine goesL_ (some 11) rfl rfl Try.func43 (by kernel_rfl) rfl #[.slice A0 l0.length c0] rfl (by (try simp only [mA, mB, mC]); first | done | rfl) ?_; (with_reducible refine (impl_hydraOf.calls k _ _ l0 t237 false _ ?side1 ?side2 A3.out).mono ?_); (case side1 => exact Kd.cm HR0.out); (case side2 => exact HC0.out); rintro e w26 ⟨v239, rfl, ho0, hb⟩; refine ⟨_, rfl, ?_⟩; have HO240 := am (Kd.R_lower ho0 (below_size (bm HB.out)));replace HB := am (below_step (bm HB.out) hb); (try clear hb); (try clear ho0)) | ((with_reducible refine gate_callee (f := 43) rfl ?_); refine goesL_ (some 16) rfl rfl Try.func43 (by kernel_rfl) rfl #[.slice A1 l1.length c1] rfl (by (try simp only [mA, mB, mC]); first | done | rfl) ?_; (with_reducible refine (impl_hydraOf.calls k _ _ l1 t241 t242 _ ?side1 ?side2 A4.out).mono ?_); (case side1 => exact Kd.cm ((Kd.C_below HR1.out HB.out))); (case side2 => exact HC1.out); rintro e w27 ⟨v243, rfl, ho0, hb⟩; refine ⟨_, rfl, ?_⟩; have HO244 := am (Kd.R_lower (Kd.R_new' ho0 (Kd.R_lt (Kd.rm HO240.out))) (below_size (bm HB.out)));replace HO240 := am (Kd.R_elder' (Kd.rm HO240.out) (Kd.R_base ho0) hb);replace HB := am (below_step (bm HB.out) hb); (try clear hb); (try clear ho0)));go_ret;exact ⟨by first | rfl | (simp [errW_none, errW_some] <;> rfl) | (simp [*, errW_none, errW_some] <;> rfl), bm HB.out⟩

end Go.Proofs.Ytahhdbjjfdjloaa.Je

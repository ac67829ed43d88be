-- half
-- Written by a program of this session's (wip/mp) out of the translation, over the kit's print with changes.
import Derived.Test.YtahhdbjjfdjloaaJfx0
import Derived.Test.YtahhdbjjfdjloaaJfx1
import Derived.Test.YtahhdbjjfdjloaaJfx3
namespace Go.Proofs.Ytahhdbjjfdjloaa.Jf
open Go.RowKit Go.Proofs.YtahhdbjjfdjloaaW.PrintWords Go.Proofs.YtahhdbjjfdjloaaW.PrintLast Go.Proofs.YtahhdbjjfdjloaaW.PrintMore
attribute [local go_sem] max2_int min2_int max_two min_two max_three min_three max_four min_four   -- for this text's walks alone
set_option linter.unusedVariables false
set_option linter.unusedSimpArgs false

/-! ### spec_l5Of: function 36 -/
mutual
def spec_l5Of.l0 : Nat -> List Int -> List (List Int) -> List (List Int) -> Int -> Int -> Option (List Int)
 | 0, _, _, _, _, _ => none
 | k + 1, x3, x4, x5, x6, x7 => if x7 < (x3.length : Int) then (if 0 <= x7 then (if x7 < (x4.length : Int) then ((spec_l5Of.f k (rd_L1 x4 x7)).bind fun t191 => (spec_l5Of.l1 k x3 x4 x5 x6 x7 t191 0)) else (none)) else (none)) else (if x6 > 60 then (some (([] : List Int))) else ((spec_l5Tree.f k x5).bind fun t187 => (some t187)))
def spec_l5Of.l1 : Nat -> List Int -> List (List Int) -> List (List Int) -> Int -> Int -> List Int -> Int -> Option (List Int)
 | 0, _, _, _, _, _, _, _ => none
 | k + 1, x3, x4, x5, x6, x7, x8, x9 => if 0 <= x7 then (if x7 < (x3.length : Int) then (if x9 < (rd x3 x7) then (if x6 <= 60 then (if x5.length < 5864062014805 then (spec_l5Of.l1 k x3 x4 (x5 ++ [x8]) (wrap64 (x6 + (mx (x8.length : Int) (60 * (1 - (mn (x8.length : Int) 1)))))) x7 x8 (wrap64 (x9 + 1))) else (none)) else (spec_l5Of.l0 k x3 x4 x5 x6 (wrap64 (x7 + 1)))) else (spec_l5Of.l0 k x3 x4 x5 x6 (wrap64 (x7 + 1)))) else (none)) else (none)
def spec_l5Of.f : Nat -> List Int -> Option (List Int)
 | 0, _ => none
 | k + 1, l0 => (spec_l1Terms.f k l0).bind fun bt175 => (spec_l5Of.l0 k bt175.1 bt175.2 (([] : List (List Int))) 1 0)
end
theorem spec_l5Of.mono_l : ∀ k, (∀ y0, LeO (spec_l5Of.f k y0) (spec_l5Of.f (k + 1) y0)) /\ (∀ y0 y1 y2 y3 y4, LeO (spec_l5Of.l0 k y0 y1 y2 y3 y4) (spec_l5Of.l0 (k + 1) y0 y1 y2 y3 y4)) /\ (∀ y0 y1 y2 y3 y4 y5 y6, LeO (spec_l5Of.l1 k y0 y1 y2 y3 y4 y5 y6) (spec_l5Of.l1 (k + 1) y0 y1 y2 y3 y4 y5 y6))
 | 0 => ⟨fun _ r h => by simp [spec_l5Of.f] at h, fun _ _ _ _ _ r h => by simp [spec_l5Of.l0] at h, fun _ _ _ _ _ _ _ r h => by simp [spec_l5Of.l1] at h⟩
 | k + 1 => by
  obtain ⟨ih0, ih1, ih2⟩ := spec_l5Of.mono_l k;refine ⟨?_, ?_, ?_⟩
  all_goals (intros; first | unfold spec_l5Of.f | unfold spec_l5Of.l0 | unfold spec_l5Of.l1)
  all_goals repeat' with_reducible first | exact ih0 _ | exact ih1 _ _ _ _ _ | exact ih2 _ _ _ _ _ _ _ | exact spec_l1Terms.mono _ _ | exact spec_l5Tree.mono _ _ | exact LeO.refl _ | refine LeO.ite ?_ ?_ | refine LeO.bind ?_ (fun _ => ?_)
theorem spec_l5Of.mono : ∀ a0 k, LeO (spec_l5Of.f k a0) (spec_l5Of.f (k + 1) a0) := by
 intro a0 k;obtain ⟨ih0, ih1, ih2⟩ := spec_l5Of.mono_l k;exact ih0 a0
set_option maxHeartbeats 8000000 in
set_option maxRecDepth 100000 in
theorem spec_l5Of.calls (k : Nat) : ∀ (A0 : Option Addr) (c0 : Nat) (l0 : List Int) (r : List Int) (w : World) (hr0 : Kd.C (Kd.int .i64) w A0 l0.length l0) (hc0 : l0.length <= c0) (h : spec_l5Of.f k l0 = some r),
  Calls Try.prog 36 #[.slice A0 l0.length c0] w fun e w' => ∃ v0_ : Value, e = .returned (v0_) /\ Kd.R (Kd.int .i64) 3 w' w.heap.size (fun _ => True) v0_ r /\ Below w.heap.size w w' := by
 induction k using Nat.strongRecOn with
 | _ k ih =>
 intro A0 c0 l0 r w hr0 hc0 h
 cases k with
 | zero => exact absurd h (by simp [spec_l5Of.f])
 | succ k =>
 simp only [spec_l5Of.f] at h;have HR0 := am hr0;have HC0 := am hc0;clear hr0 hc0;have HB := am (Below.refl w.heap.size w);have H : ((spec_l1Terms.f k l0).bind fun bt175 => (spec_l5Of.l0 k bt175.1 bt175.2 (([] : List (List Int))) 1 0)) = some r := h;clear h;replace H := oE H;obtain ⟨⟨t175, t178⟩, A2, H⟩ := H;replace H : (spec_l5Of.l0 k t175 t178 (([] : List (List Int))) 1 0) = some r := H;replace A2 := am A2
 obtain ⟨y181, hy181⟩ : ∃ y_ : List (List Int), y_ = (([] : List (List Int))) := ⟨_, rfl⟩
 replace H : (spec_l5Of.l0 k t175 t178 y181 1 0) = some r := by (rw [hy181]; with_reducible exact H)
 replace hy181 := am hy181;have H' := am H;clear H;go_enter Try.func36, Try.ntmps36;go_wp2_with (first | ((with_reducible refine gate_callee (f := 64) rfl ?_); refine goesL_ (some 12) rfl rfl Try.func64 (by kernel_rfl) rfl #[.slice A0 l0.length c0] rfl (by (try simp only [mA, mB, mC]); rfl) ?_; (with_reducible refine (spec_l1Terms.calls k (fun k_ => k_ < w.heap.size) _ _ l0 t175 t178 _ ?side1 A2.out).mono ?_); (case side1 => exact Kd.V_mk HC0.out (Kd.F_below (Kd.C_F (Kd.heap_int .i64) HR0.out) (bm HB.out))); rintro e w3 ⟨v176, v179, rfl, ho0, ho1, hb⟩; refine ⟨_, rfl, ?_⟩; have HO177 := am (Kd.R_lower (Kd.R_mono (ok' := fun k_ => True) ho0 (fun _ hk_ => trivial)) (below_size (bm HB.out)));have HO180 := am (Kd.N_lower (Kd.N_mono (ok' := fun k_ => some k_ ≠ v176.ownBlock) ho1 (fun k_ hk_ => hk_.2)) (below_size (bm HB.out)));replace HB := am (below_step (bm HB.out) hb); clear hb;clear ho0; clear ho1) | ((with_reducible refine gate_dst (N := 15) rfl ?_); refine Kd.N_lit (Kd.slice 3 (Kd.int .i64)) _ 22 ?hg (N' := 15) ?hd (xs := ([] : List (List Int))) (inner := []) (ok := (fun k_ => some k_ ≠ v176.ownBlock /\ some k_ ≠ v179.ownBlock)) (okp := (fun k_ => some k_ ≠ v176.ownBlock /\ some k_ ≠ v179.ownBlock)) ?hr ?hp (fun _ hk => hk) ((show ∀ k_, w3.heap.size <= k_ -> (fun k_ => some k_ ≠ v176.ownBlock /\ some k_ ≠ v179.ownBlock) k_ from fun k_ hk => ⟨Kd.fresh' (Kd.R_lt (Kd.rm HO177.out)) k_ hk, Kd.fresh' (Kd.N_lt (Kd.nm HO180.out)) k_ hk⟩) _ (Nat.le_refl _)) (Below.refl _ _) (Nat.le_refl _) (by simp) ?_; (case hd => rfl); (case hg => rfl); (case hr => (go_simp; done)); (case hp => exact (Reps.none _ _)); intro v182 w4 ho5 hb hg_ hnew_; clear hg_ hnew_; (rw [<- hy181.out] at ho5); replace HO177 := am (Kd.R_below (Kd.rm HO177.out) hb);replace HO180 := am (Kd.N_elder' (Kd.nm HO180.out) (Kd.N_base ho5) hb);have HO183 := am (Kd.N_lower ho5 (below_size (bm HB.out)));replace HB := am (below_step (bm HB.out) hb); clear hb ho5))
 go_loopg [5, 6, 7] k (fun kq v5 v6 v7 w' => ∃ (x5_1 : List (List Int)) (x6_1 : Int) (x7_1 : Int), v6 = .int .i64 x6_1 /\ v7 = .int .i64 x7_1 /\ Aside0 (spec_l5Of.l0 kq t175 t178 x5_1 x6_1 x7_1 = some r) /\ Aside0 (kq <= k) /\ Aside0 (Kd.R (Kd.int .i64) 3 w' w.heap.size (fun _ => True) v176 t175) /\ Aside0 (Kd.N (Kd.slice 3 (Kd.int .i64)) 22 w' w.heap.size (fun k_ => some k_ ≠ v176.ownBlock /\ some k_ ≠ v5.ownBlock) v179 t178) /\ Aside0 (Kd.N (Kd.slice 3 (Kd.int .i64)) 22 w' w.heap.size (fun k_ => some k_ ≠ v176.ownBlock /\ some k_ ≠ v179.ownBlock) v5 x5_1) /\ Aside0 (Below w.heap.size w w'))
 case atStart => exact ⟨(y181), (1), (0), (by rfl), (by rfl), H', ⟨Nat.le_refl _⟩, ⟨Kd.rm HO177.out⟩, ⟨Kd.nm HO180.out⟩, ⟨Kd.nm HO183.out⟩, ⟨bm HB.out⟩⟩
 case round =>
  clear H';clear HB;obtain ⟨x5_1, x6_1, x7_1, rfl, rfl, HA, HK1, HO_3, HO_4, HO_5, HB⟩ := hrel
  cases gk with
  | zero => exact absurd HA.out (by simp [spec_l5Of.l0])
  | succ k1 =>
   have H := HA.out;clear HA;simp only [spec_l5Of.l0] at H;by_cases c6 : x7_1 < (t175.length : Int)
   ·
    rw [if_pos c6] at H;have c6b0 : decide (x7_1 < (t175.length : Int)) = true := decide_eq_true c6;clear c6;by_cases c7 : 0 <= x7_1
    ·
     rw [if_pos c7] at H;have c7b0 : decide (0 <= x7_1) = true := decide_eq_true c7;clear c7;by_cases c8 : x7_1 < (t178.length : Int)
     ·
      rw [if_pos c8] at H;have c8b0 : decide (x7_1 < (t178.length : Int)) = true := decide_eq_true c8;clear c8;replace H := oE H;obtain ⟨t191, A9, H⟩ := H;replace H : (spec_l5Of.l1 k1 t175 t178 x5_1 x6_1 x7_1 t191 0) = some r := H;replace A9 := am A9;have H' := am H;clear H;obtain ⟨Ao10, co10, eo10⟩ := Kd.R_slice HO_3.out;subst eo10;obtain ⟨Ao11, co11, eo11⟩ := Kd.N_slice HO_4.out;subst eo11;have p190 : 0 <= (x7_1 : Int) := of_decide_eq_true (by assumption);have q190 : x7_1 < (t178.length : Int) := of_decide_eq_true (by assumption);obtain ⟨ad190, A190_0, c190_0, e190, hx190_0, hl190_0, hi190_0⟩ := at_L1 (Kd.N_reads' HO_4.out).2.2 x7_1 p190 q190;cases e190
      obtain ⟨ce190, hce190, hMe190, hcc190⟩ := Kd.N_get HO_4.out [] x7_1 p190 (by exact q190);obtain ⟨ua190_0, uc190_0, rfl, ul190_0, ge190_0⟩ := Kd.FK_slice_open hMe190;have hv190_0 := hcc190 0 _ rfl;rw [Nat.add_zero, show ((Kd.slice 3 (Kd.int .i64))).sz = 1 from rfl, Nat.mul_one] at hv190_0;replace hv190_0 := Option.some.inj (hv190_0.symm.trans hx190_0)
      injection hv190_0 with hva_ hvn_ hvc_
      rw [hva_] at ge190_0;rw [hvc_] at ul190_0;have HL190_0 := am (show Kd.V (Kd.int .i64) 3 _ w.heap.size _ _ (rd_L1 t178 x7_1) from Kd.V_mk ul190_0 ge190_0);clear hva_ hvn_ hvc_ ge190_0 ul190_0;clear hcc190 hce190;have HR190_0 := am hi190_0;have HC190_0 := am hl190_0;clear hi190_0 hl190_0;replace p190 := eq_true p190;replace q190 := eq_true q190;go_wp2_with (((with_reducible refine gate_callee (f := 36) rfl ?_); refine goesL_ (some 26) rfl rfl Try.func36 (by kernel_rfl) rfl #[.slice A190_0 (rd_L1 t178 x7_1).length c190_0] rfl (by (try simp only [mA, mB, mC]); rfl) ?_; (with_reducible refine (ih k1 (by have := HK1.out; omega) _ _ (rd_L1 t178 x7_1) t191 _ ?side1 ?side2 A9.out).mono ?_); (case side1 => exact Kd.cm ((by repeat ((with_reducible exact HR190_0.out))))); (case side2 => exact HC190_0.out); rintro e w12 ⟨v192, rfl, ho0, hb⟩; refine ⟨_, rfl, ?_⟩; replace HO_4 := am (Kd.N_elder' (Kd.nm HO_4.out) (Kd.R_base ho0) hb);replace HO_5 := am (Kd.N_elder' (Kd.nm HO_5.out) (Kd.R_base ho0) hb);replace HL190_0 := am (Kd.V_elder' (Kd.vm HL190_0.out) (Kd.R_base ho0) hb);have HO193 := am (Kd.R_lower (Kd.R_new' ho0 (Kd.R_lt (Kd.rm HO_3.out))) (below_size (bm HB.out)));replace HO_3 := am (Kd.R_elder' (Kd.rm HO_3.out) (Kd.R_base ho0) hb);replace HR190_0 := am (Kd.V_reads' HL190_0.out).2.2;replace HB := am (below_step (bm HB.out) hb); clear hb; clear ho0))
      go_loopg [5, 6, 9] k1 (fun kq v5 v6 v9 w' => ∃ (x5_2 : List (List Int)) (x6_2 : Int) (x9_2 : Int), v6 = .int .i64 x6_2 /\ v9 = .int .i64 x9_2 /\ Aside0 (spec_l5Of.l1 kq t175 t178 x5_2 x6_2 x7_1 t191 x9_2 = some r) /\ Aside0 (kq <= k1) /\ Aside0 (Kd.R (Kd.int .i64) 3 w' w.heap.size (fun _ => True) (.slice Ao10 t175.length co10) t175) /\ Aside0 (Kd.N (Kd.slice 3 (Kd.int .i64)) 22 w' w.heap.size (fun k_ => some k_ ≠ ((.slice Ao10 t175.length co10) : Value).ownBlock /\ some k_ ≠ v5.ownBlock) (.slice (some ad190) t178.length co11) t178) /\ Aside0 (Kd.N (Kd.slice 3 (Kd.int .i64)) 22 w' w.heap.size (fun k_ => some k_ ≠ ((.slice Ao10 t175.length co10) : Value).ownBlock /\ some k_ ≠ ((.slice (some ad190) t178.length co11) : Value).ownBlock) v5 x5_2) /\ Aside0 (Kd.V (Kd.int .i64) 3 w' w.heap.size (fun k_ => some k_ ≠ ((.slice Ao10 t175.length co10) : Value).ownBlock /\ some k_ ≠ ((.slice (some ad190) t178.length co11) : Value).ownBlock /\ some k_ ≠ v5.ownBlock) v192 t191) /\ Aside0 (Below w.heap.size w w'))
      case atStart => exact ⟨(x5_1), (x6_1), (0), (by rfl), (by rfl), H', ⟨Nat.le_refl _⟩, ⟨Kd.rm (Kd.R_mono HO_3.out (fun _ hk => trivial))⟩, ⟨Kd.nm (Kd.N_mono HO_4.out (fun _ hk => ⟨hk.1.1, hk.1.2⟩))⟩, ⟨Kd.nm (Kd.N_mono HO_5.out (fun _ hk => ⟨hk.1.1, hk.1.2⟩))⟩, ⟨Kd.R_V (Kd.rm (Kd.R_mono (Kd.R_apart' (Kd.R_apart' HO193.out (Kd.N_typed HO_4.out) (by decide)) (Kd.N_typed HO_5.out) (by decide)) (fun _ hk => ⟨hk.1.1.2, ⟨hk.1.2, hk.2⟩⟩)))⟩, ⟨bm HB.out⟩⟩
      case round =>
       clear H';clear c6b0;clear c7b0;clear c8b0;clear hx190_0;clear p190;clear q190;clear HO_3;clear HO_4;clear HO_5;clear HB;obtain ⟨x5_2, x6_2, x9_2, rfl, rfl, HA, HK2, HO_3, HO_4, HO_5, HO_8, HB⟩ := hrel
       cases gk with
       | zero => exact absurd HA.out (by simp [spec_l5Of.l1])
       | succ k2 =>
        have H := HA.out;clear HA;simp only [spec_l5Of.l1] at H;by_cases c13 : 0 <= x7_1
        ·
         rw [if_pos c13] at H;have c13b0 : decide (0 <= x7_1) = true := decide_eq_true c13;clear c13;by_cases c14 : x7_1 < (t175.length : Int)
         ·
          rw [if_pos c14] at H;have c14b0 : decide (x7_1 < (t175.length : Int)) = true := decide_eq_true c14;clear c14;by_cases c15 : x9_2 < (rd t175 x7_1)
          ·
           rw [if_pos c15] at H;have c15b0 : decide (x9_2 < (rd t175 x7_1)) = true := decide_eq_true c15;clear c15;by_cases c16 : x6_2 <= 60
           ·
            rw [if_pos c16] at H;have c16b0 : decide (x6_2 <= 60) = true := decide_eq_true c16;clear c16;by_cases c17 : x5_2.length < 5864062014805
            ·
             rw [if_pos c17] at H;have LMc17 := am c17;clear c17
             obtain ⟨y195, hy195⟩ : ∃ y_ : List (List Int), y_ = (x5_2 ++ [t191]) := ⟨_, rfl⟩
             replace H : (spec_l5Of.l1 k2 t175 t178 y195 (wrap64 (x6_2 + (mx (t191.length : Int) (60 * (1 - (mn (t191.length : Int) 1)))))) x7_1 t191 (wrap64 (x9_2 + 1))) = some r := by (rw [hy195]; with_reducible exact H)
             replace hy195 := am hy195
             obtain ⟨ji18, hji18⟩ : ∃ j_ : Int, (mn (t191.length : Int) 1) = j_ := ⟨_, rfl⟩
             replace H : (spec_l5Of.l1 k2 t175 t178 y195 (wrap64 (x6_2 + (mx (t191.length : Int) (60 * (1 - (ji18)))))) x7_1 t191 (wrap64 (x9_2 + 1))) = some r := by (rw [hji18] at H; exact H)
             have hji18_ : (if 1 < (t191.length : Int) then 1 else (t191.length : Int)) = ji18 := hji18
             obtain ⟨ji19, hji19⟩ : ∃ j_ : Int, (mx (t191.length : Int) (60 * (1 - (ji18)))) = j_ := ⟨_, rfl⟩
             replace H : (spec_l5Of.l1 k2 t175 t178 y195 (wrap64 (x6_2 + (ji19))) x7_1 t191 (wrap64 (x9_2 + 1))) = some r := by (rw [hji19] at H; exact H)
             have hji19_ : (if (t191.length : Int) < (60 * (1 - (ji18))) then (60 * (1 - (ji18))) else (t191.length : Int)) = ji19 := hji19;have H' := am H;clear H;have p194 : 0 <= (x7_1 : Int) := of_decide_eq_true (by assumption);have q194 : x7_1 < (t175.length : Int) := of_decide_eq_true (by assumption);obtain ⟨ad194, e194, hx194_0⟩ := Kd.at_int (Kd.R_reads' HO_3.out).2.2 x7_1 p194 q194;cases e194
             replace p194 := eq_true p194;replace q194 := eq_true q194;obtain ⟨Ao21, co21, eo21⟩ := Kd.V_slice HO_8.out;subst eo21;go_wp2_with (((with_reducible refine gate_builtin (b := .append) (xs := #[.tmp 39, .tmp 41]) rfl ?_); at_builtin; refine Kd.N_append (Kd.slice 3 (Kd.int .i64)) (w0 := w) w.heap.size rfl (.tmp 39) (.tmp 41) 64 22 (.slice none 0 0) 24 rfl Try.underlying64 info22 rfl (by decide) (by omega) u5 x5_2 t191 [.slice Ao21 t191.length co21] (fun k_ => some k_ ≠ (.slice (some ad194) t175.length co10 : Value).ownBlock /\ some k_ ≠ (.slice (some ad190) t178.length co11 : Value).ownBlock) (fun k_ => ((fun k_ => some k_ ≠ (.slice (some ad194) t175.length co10 : Value).ownBlock /\ some k_ ≠ (.slice (some ad190) t178.length co11 : Value).ownBlock)) k_ /\ some k_ ≠ (u5 : Value).ownBlock) rfl rfl ?aP (fun _ hk => hk) ?aF ?aO ?aB ?aS ?aL ?_; (case aP => exact (Kd.FK_slice_mk (Kd.V_reads' (Kd.V_mono (ok' := (fun k_ => ((fun k_ => some k_ ≠ (.slice (some ad194) t175.length co10 : Value).ownBlock /\ some k_ ≠ (.slice (some ad190) t178.length co11 : Value).ownBlock)) k_ /\ some k_ ≠ (u5 : Value).ownBlock)) (HO_8.out) (fun k_ hk => ⟨⟨hk.1, hk.2.1⟩, hk.2.2⟩))).2.1 (Kd.V_F (Kd.V_mono (ok' := (fun k_ => ((fun k_ => some k_ ≠ (.slice (some ad194) t175.length co10 : Value).ownBlock /\ some k_ ≠ (.slice (some ad190) t178.length co11 : Value).ownBlock)) k_ /\ some k_ ≠ (u5 : Value).ownBlock)) (HO_8.out) (fun k_ hk => ⟨⟨hk.1, hk.2.1⟩, hk.2.2⟩))))); (case aB => exact (bm HB.out)); (case aF => exact (fun k_ hk => ⟨Kd.fresh' (Kd.R_lt (Kd.rm HO_3.out)) k_ hk, Kd.fresh' (Kd.N_lt (Kd.nm HO_4.out)) k_ hk⟩)); (case aO => exact (Kd.nm HO_5.out)); (case aS => exact (below_size (bm HB.out))); (case aL => have := LMc17.out; omega); intro v196 w20 ho hb hg hat; rw [<- hy195.out] at ho; replace HO_3 := am (Kd.R_over' (Kd.rm HO_3.out) (Kd.N_typed (Kd.nm HO_5.out)) (by decide) hg);replace HO_4 := am (Kd.N_afterv (ok := (fun k_ => some k_ ≠ (.slice (some ad194) t175.length co10 : Value).ownBlock)) (Kd.nm HO_4.out) hg hat);replace HO_8 := am (Kd.V_afterv (ok := (fun k_ => some k_ ≠ (.slice (some ad194) t175.length co10 : Value).ownBlock /\ some k_ ≠ (.slice (some ad190) t178.length co11 : Value).ownBlock)) (Kd.vm (Kd.V_mono HO_8.out (fun _ hk => ⟨⟨hk.1, hk.2.1⟩, hk.2.2⟩))) hg hat);replace HB := am (hb);have HO197 := am (ho);clear HO_5; clear ho hb hg hat))
             go_roundg k2
             case measure => have := HK1.out; have := HK2.out; omega
             case rel => exact ⟨(y195), (wrap64 (x6_2 + (ji19))), (wrap64 (x9_2 + 1)), (by rfl), (by rfl), H', ⟨by have := HK1.out; have := HK2.out; omega⟩, ⟨Kd.rm HO_3.out⟩, ⟨Kd.nm HO_4.out⟩, ⟨Kd.nm HO197.out⟩, ⟨Kd.vm (Kd.V_mono HO_8.out (fun _ hk => ⟨hk.1.1, ⟨hk.1.2, hk.2⟩⟩))⟩, ⟨bm HB.out⟩⟩
            · rw [if_neg c17] at H;exact absurd H (by simp)
           ·
            rw [if_neg c16] at H;have c16b0 : decide (x6_2 <= 60) = false := decide_eq_false c16;clear c16;have H' := am H;clear H;have p194 : 0 <= (x7_1 : Int) := of_decide_eq_true (by assumption);have q194 : x7_1 < (t175.length : Int) := of_decide_eq_true (by assumption);obtain ⟨ad194, e194, hx194_0⟩ := Kd.at_int (Kd.R_reads' HO_3.out).2.2 x7_1 p194 q194;cases e194
            replace p194 := eq_true p194;replace q194 := eq_true q194;go_wp2
            go_roundg k2
            case measure => have := HK1.out; have := HK2.out; omega
            case rel => exact ⟨(x5_2), (x6_2), (wrap64 (x7_1 + 1)), (by rfl), (by rfl), H', ⟨by have := HK1.out; have := HK2.out; omega⟩, ⟨Kd.rm HO_3.out⟩, ⟨Kd.nm HO_4.out⟩, ⟨Kd.nm HO_5.out⟩, ⟨bm HB.out⟩⟩
          ·
           rw [if_neg c15] at H;have c15b0 : decide (x9_2 < (rd t175 x7_1)) = false := decide_eq_false c15;clear c15;have H' := am H;clear H;have p194 : 0 <= (x7_1 : Int) := of_decide_eq_true (by assumption);have q194 : x7_1 < (t175.length : Int) := of_decide_eq_true (by assumption);obtain ⟨ad194, e194, hx194_0⟩ := Kd.at_int (Kd.R_reads' HO_3.out).2.2 x7_1 p194 q194;cases e194
           replace p194 := eq_true p194;replace q194 := eq_true q194;go_wp2
           go_roundg k2
           case measure => have := HK1.out; have := HK2.out; omega
           case rel => exact ⟨(x5_2), (x6_2), (wrap64 (x7_1 + 1)), (by rfl), (by rfl), H', ⟨by have := HK1.out; have := HK2.out; omega⟩, ⟨Kd.rm HO_3.out⟩, ⟨Kd.nm HO_4.out⟩, ⟨Kd.nm HO_5.out⟩, ⟨bm HB.out⟩⟩
         · rw [if_neg c14] at H;exact absurd H (by simp)
        · rw [if_neg c13] at H;exact absurd H (by simp)
     · rw [if_neg c8] at H;exact absurd H (by simp)
    · rw [if_neg c7] at H;exact absurd H (by simp)
   ·
    rw [if_neg c6] at H;have c6b0 : decide (x7_1 < (t175.length : Int)) = false := decide_eq_false c6;clear c6;by_cases c22 : x6_1 > 60
    ·
     rw [if_pos c22] at H;have c22b0 : decide (60 < x6_1) = true := decide_eq_true c22;clear c22
     obtain ⟨y184, hy184⟩ : ∃ y_ : List Int, y_ = (([] : List Int)) := ⟨_, rfl⟩
     replace H : (some y184) = some r := by (rw [hy184]; with_reducible exact H)
     replace hy184 := am hy184;obtain rfl := Option.some.inj H;obtain ⟨Ao23, co23, eo23⟩ := Kd.R_slice HO_3.out;subst eo23;go_wp2_with (((with_reducible refine gate_dst (N := 55) rfl ?_); refine Kd.R_lit (Kd.int .i64) _ 3 ?hg (N := 55) ?hd (xs := ([] : List Int)) (inner := []) (ok := fun _ => True) (okp := fun _ => True) ?hr ?hp (fun _ hk => hk) trivial (Below.refl _ _) (Nat.le_refl _) (by simp) ?_; (case hd => rfl); (case hg => rfl); (case hr => (go_simp; done)); (case hp => exact (Reps.none _ _)); intro v185 w24 ho25 hb hg_ hnew_; clear hg_ hnew_; (rw [<- hy184.out] at ho25); replace HO_4 := am (Kd.N_elder' (Kd.nm HO_4.out) (Kd.R_base ho25) hb);replace HO_5 := am (Kd.N_elder' (Kd.nm HO_5.out) (Kd.R_base ho25) hb);have HO186 := am (Kd.R_lower (Kd.R_new' ho25 (Kd.R_lt (Kd.rm HO_3.out))) (below_size (bm HB.out)));replace HO_3 := am (Kd.R_elder' (Kd.rm HO_3.out) (Kd.R_base ho25) hb);replace HB := am (below_step (bm HB.out) hb); clear hb ho25));go_ret;exact ⟨_, by rfl, Kd.rm (Kd.R_mono HO186.out (fun _ hk => trivial)), bm HB.out⟩
    · rw [if_neg c22] at H;have c22b0 : decide (60 < x6_1) = false := decide_eq_false c22;clear c22;replace H := oE H;obtain ⟨t187, A26, H⟩ := H;replace H : (some t187) = some r := H;replace A26 := am A26;obtain rfl := Option.some.inj H;obtain ⟨Ao27, co27, eo27⟩ := Kd.R_slice HO_3.out;subst eo27;obtain ⟨Ao28, co28, eo28⟩ := Kd.N_slice HO_5.out;subst eo28;go_wp2_with (((with_reducible refine gate_callee (f := 62) rfl ?_); refine goesL_ (some 57) rfl rfl Try.func62 (by kernel_rfl) rfl #[.slice Ao28 x5_1.length co28] rfl (by (try simp only [mA, mB, mC]); rfl) ?_; (with_reducible refine (spec_l5Tree.calls k1 _ _ x5_1 t187 _ ?side1 ?side2 A26.out).mono ?_); (case side1 => exact Kd.cm ((Kd.N_reads' HO_5.out).2.2)); (case side2 => exact (Kd.N_reads' HO_5.out).2.1); rintro e w29 ⟨v188, rfl, ho0, hb⟩; refine ⟨_, rfl, ?_⟩; replace HO_4 := am (Kd.N_elder' (Kd.nm HO_4.out) (Kd.R_base ho0) hb);replace HO_5 := am (Kd.N_elder' (Kd.nm HO_5.out) (Kd.R_base ho0) hb);have HO189 := am (Kd.R_lower (Kd.R_new' ho0 (Kd.R_lt (Kd.rm HO_3.out))) (below_size (bm HB.out)));replace HO_3 := am (Kd.R_elder' (Kd.rm HO_3.out) (Kd.R_base ho0) hb);replace HB := am (below_step (bm HB.out) hb); clear hb;clear ho0));go_ret;exact ⟨_, by rfl, Kd.rm (Kd.R_mono HO189.out (fun _ hk => trivial)), bm HB.out⟩

/-! ### spec_HydraOf: function 11 -/
def spec_HydraOf.f (k : Nat) (l0 : List Int) : Option (List Int × Bool) := (spec_OrdValid.f k l0).bind fun t198 => (if t198 = true then ((spec_l5Of.f k l0).bind fun t199 => (if (t199.length : Int) = 0 then (some ((([] : List Int)), false)) else ((spec_l5Of.f k l0).bind fun t205 => (some (t205, true))))) else (some ((([] : List Int)), false)))
theorem spec_HydraOf.mono : ∀ a0 k, LeO (spec_HydraOf.f k a0) (spec_HydraOf.f (k + 1) a0) := by
 intro a0 k;unfold spec_HydraOf.f
 repeat' with_reducible first | exact spec_OrdValid.mono _ _ | exact spec_l5Of.mono _ _ | exact LeO.refl _ | refine LeO.ite ?_ ?_ | refine LeO.bind ?_ (fun _ => ?_)
set_option maxHeartbeats 8000000 in
set_option maxRecDepth 100000 in
theorem spec_HydraOf.calls (k : Nat) (A0 : Option Addr) (c0 : Nat) (l0 : List Int) (r1 : List Int) (r2 : Bool) (w : World) (hr0 : Kd.C (Kd.int .i64) w A0 l0.length l0) (hc0 : l0.length <= c0) (h : spec_HydraOf.f k l0 = some (r1, r2)) :
  Calls Try.prog 11 #[.slice A0 l0.length c0] w fun e w' => ∃ v0_ : Value, e = .returned (.tuple #[v0_, .bool r2]) /\ Kd.R (Kd.int .i64) 3 w' w.heap.size (fun _ => True) v0_ r1 /\ Below w.heap.size w w' := by
 have HR0 := am hr0;have HC0 := am hc0;clear hr0 hc0;have HB := am (Below.refl w.heap.size w);have H : ((spec_OrdValid.f k l0).bind fun t198 => (if t198 = true then ((spec_l5Of.f k l0).bind fun t199 => (if (t199.length : Int) = 0 then (some ((([] : List Int)), false)) else ((spec_l5Of.f k l0).bind fun t205 => (some (t205, true))))) else (some ((([] : List Int)), false)))) = some (r1, r2) := h;clear h;replace H := oE H;obtain ⟨t198, A2, H⟩ := H;replace H : (if t198 = true then ((spec_l5Of.f k l0).bind fun t199 => (if (t199.length : Int) = 0 then (some ((([] : List Int)), false)) else ((spec_l5Of.f k l0).bind fun t205 => (some (t205, true))))) else (some ((([] : List Int)), false))) = some (r1, r2) := H;replace A2 := am A2;by_cases c3 : t198 = true
 ·
  subst c3
  have H1 : ((spec_l5Of.f k l0).bind fun t199 => (if (t199.length : Int) = 0 then (some ((([] : List Int)), false)) else ((spec_l5Of.f k l0).bind fun t205 => (some (t205, true))))) = some (r1, r2) := by rw [if_pos rfl] at H; exact H
  clear H;have H := H1;clear H1;replace H := oE H;obtain ⟨t199, A4, H⟩ := H;replace H : (if (t199.length : Int) = 0 then (some ((([] : List Int)), false)) else ((spec_l5Of.f k l0).bind fun t205 => (some (t205, true)))) = some (r1, r2) := H;replace A4 := am A4;by_cases c5 : (t199.length : Int) = 0
  ·
   rw [if_pos c5] at H;have c5b0 : ((t199.length : Int) == 0) = true := beq_iff_eq.mpr c5;have c5b1 : ((t199.length : Int) != 0) = false := bne_eq_false_iff_eq.mpr c5;clear c5
   obtain ⟨y202, hy202⟩ : ∃ y_ : List Int, y_ = (([] : List Int)) := ⟨_, rfl⟩
   replace H : (some (y202, false)) = some (r1, r2) := by (rw [hy202]; with_reducible exact H)
   replace hy202 := am hy202;simp only [Option.some.injEq, Prod.mk.injEq] at H;obtain ⟨rfl, rfl⟩ := H;go_enter Try.func11, Try.ntmps11;go_wp2_with (first | ((with_reducible refine gate_callee (f := 35) rfl ?_); refine goesL_ (some 5) rfl rfl Try.func35 (by kernel_rfl) rfl #[.slice A0 l0.length c0] rfl (by (try simp only [mA, mB, mC]); rfl) ?_; (with_reducible refine (spec_OrdValid.calls k _ _ l0 true _ ?side1 ?side2 A2.out).mono ?_); (case side1 => exact Kd.cm HR0.out); (case side2 => exact HC0.out); rintro e w6 ⟨rfl, hb⟩; refine ⟨_, rfl, ?_⟩; replace HB := am (below_step (bm HB.out) hb); clear hb) | (go_at_call 36; (with_reducible refine (spec_l5Of.calls k _ _ l0 t199 _ ?side1 ?side2 A4.out).mono ?_); (case side1 => exact Kd.cm ((Kd.C_below HR0.out HB.out))); (case side2 => exact HC0.out); rintro e w7 ⟨v200, rfl, ho0, hb⟩; have HO201 := am (Kd.R_lower ho0 (below_size (bm HB.out)));replace HB := am (below_step (bm HB.out) hb); clear hb;clear ho0; obtain ⟨Ao8, co8, eo8⟩ := Kd.R_slice HO201.out; subst eo8) | ((with_reducible refine gate_dst (N := 13) rfl ?_); (refine gate_guard (by rfl) ?_; dsimp only); refine Kd.R_lit (Kd.int .i64) _ 3 ?hg (N := 13) ?hd (xs := ([] : List Int)) (inner := []) (ok := fun _ => True) (okp := fun _ => True) ?hr ?hp (fun _ hk => hk) trivial (Below.refl _ _) (Nat.le_refl _) (by simp) ?_; (case hd => rfl); (case hg => rfl); (case hr => (go_simp; done)); (case hp => exact (Reps.none _ _)); intro v203 w9 ho10 hb hg_ hnew_; clear hg_ hnew_; (rw [<- hy202.out] at ho10); have HO204 := am (Kd.R_lower (Kd.R_new' ho10 (Kd.R_lt (Kd.rm HO201.out))) (below_size (bm HB.out)));replace HO201 := am (Kd.R_elder' (Kd.rm HO201.out) (Kd.R_base ho10) hb);replace HB := am (below_step (bm HB.out) hb); clear hb ho10));go_ret2;exact ⟨_, by rfl, Kd.rm (Kd.R_mono HO204.out (fun _ hk => trivial)), bm HB.out⟩
  ·
   rw [if_neg c5] at H;have c5b0 : ((t199.length : Int) == 0) = false := beq_eq_false_iff_ne.mpr c5;have c5b1 : ((t199.length : Int) != 0) = true := bne_iff_ne.mpr c5
   have c5b2 : ¬ (t199 = []) := fun h_ => c5 (by rw [h_]; rfl)
   replace H := oE H;obtain ⟨t205, A11, H⟩ := H;replace H : (some (t205, true)) = some (r1, r2) := H;replace A11 := am A11;simp only [Option.some.injEq, Prod.mk.injEq] at H;obtain ⟨rfl, rfl⟩ := H;go_enter Try.func11, Try.ntmps11;go_wp2_with (first | ((with_reducible refine gate_callee (f := 35) rfl ?_); refine goesL_ (some 5) rfl rfl Try.func35 (by kernel_rfl) rfl #[.slice A0 l0.length c0] rfl (by (try simp only [mA, mB, mC]); rfl) ?_; (with_reducible refine (spec_OrdValid.calls k _ _ l0 true _ ?side1 ?side2 A2.out).mono ?_); (case side1 => exact Kd.cm HR0.out); (case side2 => exact HC0.out); rintro e w12 ⟨rfl, hb⟩; refine ⟨_, rfl, ?_⟩; replace HB := am (below_step (bm HB.out) hb); clear hb) | (go_at_call 36; (with_reducible refine (spec_l5Of.calls k _ _ l0 t199 _ ?side1 ?side2 A4.out).mono ?_); (case side1 => exact Kd.cm ((Kd.C_below HR0.out HB.out))); (case side2 => exact HC0.out); rintro e w13 ⟨v200, rfl, ho0, hb⟩; have HO201 := am (Kd.R_lower ho0 (below_size (bm HB.out)));replace HB := am (below_step (bm HB.out) hb); clear hb;clear ho0; obtain ⟨Ao14, co14, eo14⟩ := Kd.R_slice HO201.out; subst eo14) | ((with_reducible refine gate_callee (f := 36) rfl ?_); refine goesL_ (some 15) rfl rfl Try.func36 (by kernel_rfl) rfl #[.slice A0 l0.length c0] rfl (by (try simp only [mA, mB, mC]); rfl) ?_; (with_reducible refine (spec_l5Of.calls k _ _ l0 t205 _ ?side1 ?side2 A11.out).mono ?_); (case side1 => exact Kd.cm ((Kd.C_below HR0.out HB.out))); (case side2 => exact HC0.out); rintro e w15 ⟨v206, rfl, ho0, hb⟩; refine ⟨_, rfl, ?_⟩; have HO207 := am (Kd.R_lower (Kd.R_new' ho0 (Kd.R_lt (Kd.rm HO201.out))) (below_size (bm HB.out)));replace HO201 := am (Kd.R_elder' (Kd.rm HO201.out) (Kd.R_base ho0) hb);replace HB := am (below_step (bm HB.out) hb); clear hb;clear ho0));go_ret2;exact ⟨_, by rfl, Kd.rm (Kd.R_mono HO207.out (fun _ hk => trivial)), bm HB.out⟩
 ·
  replace c3 := Bool.eq_false_iff.mpr c3;subst c3
  have H1 : (some ((([] : List Int)), false)) = some (r1, r2) := by rw [if_neg (show ¬ (false = true) by decide)] at H; exact H
  clear H;have H := H1;clear H1
  obtain ⟨y208, hy208⟩ : ∃ y_ : List Int, y_ = (([] : List Int)) := ⟨_, rfl⟩
  replace H : (some (y208, false)) = some (r1, r2) := by (rw [hy208]; with_reducible exact H)
  replace hy208 := am hy208;simp only [Option.some.injEq, Prod.mk.injEq] at H;obtain ⟨rfl, rfl⟩ := H;go_enter Try.func11, Try.ntmps11;go_wp2_with (first | ((with_reducible refine gate_callee (f := 35) rfl ?_); refine goesL_ (some 5) rfl rfl Try.func35 (by kernel_rfl) rfl #[.slice A0 l0.length c0] rfl (by (try simp only [mA, mB, mC]); rfl) ?_; (with_reducible refine (spec_OrdValid.calls k _ _ l0 false _ ?side1 ?side2 A2.out).mono ?_); (case side1 => exact Kd.cm HR0.out); (case side2 => exact HC0.out); rintro e w16 ⟨rfl, hb⟩; refine ⟨_, rfl, ?_⟩; replace HB := am (below_step (bm HB.out) hb); clear hb) | ((with_reducible refine gate_dst (N := 13) rfl ?_); (refine gate_guard (by rfl) ?_; dsimp only); refine Kd.R_lit (Kd.int .i64) _ 3 ?hg (N := 13) ?hd (xs := ([] : List Int)) (inner := []) (ok := fun _ => True) (okp := fun _ => True) ?hr ?hp (fun _ hk => hk) trivial (Below.refl _ _) (Nat.le_refl _) (by simp) ?_; (case hd => rfl); (case hg => rfl); (case hr => (go_simp; done)); (case hp => exact (Reps.none _ _)); intro v209 w17 ho18 hb hg_ hnew_; clear hg_ hnew_; (rw [<- hy208.out] at ho18); have HO210 := am (Kd.R_lower ho18 (below_size (bm HB.out)));replace HB := am (below_step (bm HB.out) hb); clear hb ho18));go_ret2;exact ⟨_, by rfl, Kd.rm HO210.out, bm HB.out⟩

/-! ### cmp_isNaN_int: function 96 -/
def cmp_isNaN_int.f (a0 : Int) : Option (Bool) := some (a0 != a0)
set_option maxHeartbeats 8000000 in
set_option maxRecDepth 100000 in
theorem cmp_isNaN_int.calls (a0 : Int) (r : Bool) (w : World) (h : cmp_isNaN_int.f a0 = some r) :
  Calls Try.prog 96 #[.int .i64 a0] w fun e w' => e = .returned (.bool r) /\ Drawn0 w w' := by
 have H : (some (a0 != a0)) = some r := h;clear h;obtain rfl := Option.some.inj H;go_enter Try.func96, Try.ntmps96;go_wp2;go_ret;exact ⟨by rfl, by repeat (exact Drawn0.refl _)⟩

/-! ### cmp_Compare_int: function 93 -/
def cmp_Compare_int.f (a0 : Int) (a1 : Int) : Option (Int) := (cmp_isNaN_int.f a0).bind fun t211 => ((cmp_isNaN_int.f a1).bind fun t212 => (if t211 = true then (if t212 = true then (some 0) else (some (-1))) else (if t212 = true then (some 1) else (if a0 < a1 then (some (-1)) else (if a0 > a1 then (some 1) else (some 0))))))
set_option maxHeartbeats 8000000 in
set_option maxRecDepth 100000 in
theorem cmp_Compare_int.calls (a0 : Int) (a1 : Int) (r : Int) (w : World) (h : cmp_Compare_int.f a0 a1 = some r) :
  Calls Try.prog 93 #[.int .i64 a0, .int .i64 a1] w fun e w' => e = .returned (.int .i64 r) /\ Drawn0 w w' := by
 have H : ((cmp_isNaN_int.f a0).bind fun t211 => ((cmp_isNaN_int.f a1).bind fun t212 => (if t211 = true then (if t212 = true then (some 0) else (some (-1))) else (if t212 = true then (some 1) else (if a0 < a1 then (some (-1)) else (if a0 > a1 then (some 1) else (some 0))))))) = some r := h;clear h;replace H := oE H;obtain ⟨t211, A3, H⟩ := H;replace H : ((cmp_isNaN_int.f a1).bind fun t212 => (if t211 = true then (if t212 = true then (some 0) else (some (-1))) else (if t212 = true then (some 1) else (if a0 < a1 then (some (-1)) else (if a0 > a1 then (some 1) else (some 0)))))) = some r := H;replace A3 := am A3;replace H := oE H;obtain ⟨t212, A4, H⟩ := H;replace H : (if t211 = true then (if t212 = true then (some 0) else (some (-1))) else (if t212 = true then (some 1) else (if a0 < a1 then (some (-1)) else (if a0 > a1 then (some 1) else (some 0))))) = some r := H;replace A4 := am A4;by_cases c5 : t211 = true
 ·
  subst c5
  have H1 : (if t212 = true then (some 0) else (some (-1))) = some r := by rw [if_pos rfl] at H; exact H
  clear H;have H := H1;clear H1;by_cases c6 : t212 = true
  ·
   subst c6
   have H1 : (some 0) = some r := by rw [if_pos rfl] at H; exact H
   clear H;have H := H1;clear H1;obtain rfl := Option.some.inj H;go_enter Try.func93, Try.ntmps93;go_wp2_with (first | ((with_reducible refine gate_callee (f := 96) rfl ?_); refine goesL_ (some 8) rfl rfl Try.func96 (by kernel_rfl) rfl #[.int .i64 a0] rfl (by (try simp only [mA, mB, mC]); rfl) ?_; (with_reducible refine (cmp_isNaN_int.calls a0 true _ A3.out).mono ?_); rintro e w' ⟨rfl, ⟨nd, rfl⟩⟩; refine ⟨_, rfl, ?_⟩) | ((with_reducible refine gate_callee (f := 96) rfl ?_); refine goesL_ (some 10) rfl rfl Try.func96 (by kernel_rfl) rfl #[.int .i64 a1] rfl (by (try simp only [mA, mB, mC]); rfl) ?_; (with_reducible refine (cmp_isNaN_int.calls a1 true _ A4.out).mono ?_); rintro e w' ⟨rfl, ⟨nd, rfl⟩⟩; refine ⟨_, rfl, ?_⟩));go_ret;exact ⟨by rfl, by repeat (first | exact Drawn0.refl _ | apply Drawn0.step)⟩
  ·
   replace c6 := Bool.eq_false_iff.mpr c6;subst c6
   have H1 : (some (-1)) = some r := by rw [if_neg (show ¬ (false = true) by decide)] at H; exact H
   clear H;have H := H1;clear H1;obtain rfl := Option.some.inj H;go_enter Try.func93, Try.ntmps93;go_wp2_with (first | ((with_reducible refine gate_callee (f := 96) rfl ?_); refine goesL_ (some 8) rfl rfl Try.func96 (by kernel_rfl) rfl #[.int .i64 a0] rfl (by (try simp only [mA, mB, mC]); rfl) ?_; (with_reducible refine (cmp_isNaN_int.calls a0 true _ A3.out).mono ?_); rintro e w' ⟨rfl, ⟨nd, rfl⟩⟩; refine ⟨_, rfl, ?_⟩) | ((with_reducible refine gate_callee (f := 96) rfl ?_); refine goesL_ (some 10) rfl rfl Try.func96 (by kernel_rfl) rfl #[.int .i64 a1] rfl (by (try simp only [mA, mB, mC]); rfl) ?_; (with_reducible refine (cmp_isNaN_int.calls a1 false _ A4.out).mono ?_); rintro e w' ⟨rfl, ⟨nd, rfl⟩⟩; refine ⟨_, rfl, ?_⟩));go_ret;exact ⟨by rfl, by repeat (first | exact Drawn0.refl _ | apply Drawn0.step)⟩
 ·
  replace c5 := Bool.eq_false_iff.mpr c5;subst c5
  have H1 : (if t212 = true then (some 1) else (if a0 < a1 then (some (-1)) else (if a0 > a1 then (some 1) else (some 0)))) = some r := by rw [if_neg (show ¬ (false = true) by decide)] at H; exact H
  clear H;have H := H1;clear H1;by_cases c7 : t212 = true
  ·
   subst c7
   have H1 : (some 1) = some r := by rw [if_pos rfl] at H; exact H
   clear H;have H := H1;clear H1;obtain rfl := Option.some.inj H;go_enter Try.func93, Try.ntmps93;go_wp2_with (first | ((with_reducible refine gate_callee (f := 96) rfl ?_); refine goesL_ (some 8) rfl rfl Try.func96 (by kernel_rfl) rfl #[.int .i64 a0] rfl (by (try simp only [mA, mB, mC]); rfl) ?_; (with_reducible refine (cmp_isNaN_int.calls a0 false _ A3.out).mono ?_); rintro e w' ⟨rfl, ⟨nd, rfl⟩⟩; refine ⟨_, rfl, ?_⟩) | ((with_reducible refine gate_callee (f := 96) rfl ?_); refine goesL_ (some 10) rfl rfl Try.func96 (by kernel_rfl) rfl #[.int .i64 a1] rfl (by (try simp only [mA, mB, mC]); rfl) ?_; (with_reducible refine (cmp_isNaN_int.calls a1 true _ A4.out).mono ?_); rintro e w' ⟨rfl, ⟨nd, rfl⟩⟩; refine ⟨_, rfl, ?_⟩));go_ret;exact ⟨by rfl, by repeat (first | exact Drawn0.refl _ | apply Drawn0.step)⟩
  ·
   replace c7 := Bool.eq_false_iff.mpr c7;subst c7
   have H1 : (if a0 < a1 then (some (-1)) else (if a0 > a1 then (some 1) else (some 0))) = some r := by rw [if_neg (show ¬ (false = true) by decide)] at H; exact H
   clear H;have H := H1;clear H1;by_cases c8 : a0 < a1
   · rw [if_pos c8] at H;have c8b0 : decide (a0 < a1) = true := decide_eq_true c8;clear c8;obtain rfl := Option.some.inj H;go_enter Try.func93, Try.ntmps93;go_wp2_with (first | ((with_reducible refine gate_callee (f := 96) rfl ?_); refine goesL_ (some 8) rfl rfl Try.func96 (by kernel_rfl) rfl #[.int .i64 a0] rfl (by (try simp only [mA, mB, mC]); rfl) ?_; (with_reducible refine (cmp_isNaN_int.calls a0 false _ A3.out).mono ?_); rintro e w' ⟨rfl, ⟨nd, rfl⟩⟩; refine ⟨_, rfl, ?_⟩) | ((with_reducible refine gate_callee (f := 96) rfl ?_); refine goesL_ (some 10) rfl rfl Try.func96 (by kernel_rfl) rfl #[.int .i64 a1] rfl (by (try simp only [mA, mB, mC]); rfl) ?_; (with_reducible refine (cmp_isNaN_int.calls a1 false _ A4.out).mono ?_); rintro e w' ⟨rfl, ⟨nd, rfl⟩⟩; refine ⟨_, rfl, ?_⟩));go_ret;exact ⟨by rfl, by repeat (first | exact Drawn0.refl _ | apply Drawn0.step)⟩
   ·
    rw [if_neg c8] at H;have c8b0 : decide (a0 < a1) = false := decide_eq_false c8;clear c8;by_cases c9 : a0 > a1
    · rw [if_pos c9] at H;have c9b0 : decide (a1 < a0) = true := decide_eq_true c9;clear c9;obtain rfl := Option.some.inj H;go_enter Try.func93, Try.ntmps93;go_wp2_with (first | ((with_reducible refine gate_callee (f := 96) rfl ?_); refine goesL_ (some 8) rfl rfl Try.func96 (by kernel_rfl) rfl #[.int .i64 a0] rfl (by (try simp only [mA, mB, mC]); rfl) ?_; (with_reducible refine (cmp_isNaN_int.calls a0 false _ A3.out).mono ?_); rintro e w' ⟨rfl, ⟨nd, rfl⟩⟩; refine ⟨_, rfl, ?_⟩) | ((with_reducible refine gate_callee (f := 96) rfl ?_); refine goesL_ (some 10) rfl rfl Try.func96 (by kernel_rfl) rfl #[.int .i64 a1] rfl (by (try simp only [mA, mB, mC]); rfl) ?_; (with_reducible refine (cmp_isNaN_int.calls a1 false _ A4.out).mono ?_); rintro e w' ⟨rfl, ⟨nd, rfl⟩⟩; refine ⟨_, rfl, ?_⟩));go_ret;exact ⟨by rfl, by repeat (first | exact Drawn0.refl _ | apply Drawn0.step)⟩
    · rw [if_neg c9] at H;have c9b0 : decide (a1 < a0) = false := decide_eq_false c9;clear c9;obtain rfl := Option.some.inj H;go_enter Try.func93, Try.ntmps93;go_wp2_with (first | ((with_reducible refine gate_callee (f := 96) rfl ?_); refine goesL_ (some 8) rfl rfl Try.func96 (by kernel_rfl) rfl #[.int .i64 a0] rfl (by (try simp only [mA, mB, mC]); rfl) ?_; (with_reducible refine (cmp_isNaN_int.calls a0 false _ A3.out).mono ?_); rintro e w' ⟨rfl, ⟨nd, rfl⟩⟩; refine ⟨_, rfl, ?_⟩) | ((with_reducible refine gate_callee (f := 96) rfl ?_); refine goesL_ (some 10) rfl rfl Try.func96 (by kernel_rfl) rfl #[.int .i64 a1] rfl (by (try simp only [mA, mB, mC]); rfl) ?_; (with_reducible refine (cmp_isNaN_int.calls a1 false _ A4.out).mono ?_); rintro e w' ⟨rfl, ⟨nd, rfl⟩⟩; refine ⟨_, rfl, ?_⟩));go_ret;exact ⟨by rfl, by repeat (first | exact Drawn0.refl _ | apply Drawn0.step)⟩

end Go.Proofs.Ytahhdbjjfdjloaa.Jf

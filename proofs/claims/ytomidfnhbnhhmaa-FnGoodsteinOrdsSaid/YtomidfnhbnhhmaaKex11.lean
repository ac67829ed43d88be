-- half
-- Written by a program of this session's (wip/mp) out of the translation, over the kit's print with changes.
import Derived.Test.YtomidfnhbnhhmaaKex0
import Derived.Test.YtomidfnhbnhhmaaKex5
import Derived.Test.YtomidfnhbnhhmaaKex6
import Derived.Test.YtomidfnhbnhhmaaKex8
import Derived.Test.YtomidfnhbnhhmaaKex9
import Derived.Test.YtomidfnhbnhhmaaKex10
namespace Go.Proofs.Ytomidfnhbnhhmaa.Ke
open Go.RowKit Go.Proofs.YtomidfnhbnhhmaaW.PrintWords Go.Proofs.YtomidfnhbnhhmaaW.PrintLast Go.Proofs.YtomidfnhbnhhmaaW.PrintMore
attribute [local go_sem] max2_int min2_int max_two min_two max_three min_three max_four min_four   -- for this text's walks alone
set_option linter.unusedVariables false
set_option linter.unusedSimpArgs false

/-! ### laws_FnGoodsteinOrds: function 7 -/
def laws_FnGoodsteinOrds.l0 : Nat → Int → List (List Int) → List Int → Int → Option (Bool)
 | 0, _, _, _, _ => none
 | k + 1, x3, x4, x5, x6 => if x6 < (x4.length : Int) then (if 0 ≤ x6 then (if 0 ≤ (wrap64 (x6 - 1)) then (if (wrap64 (x6 - 1)) < (x4.length : Int) then ((impl_OrdCompare.f k (rd_L2 x4 x6) (rd_L2 x4 (wrap64 (x6 - 1)))).bind fun t427 => (if t427 = (-1) then (laws_FnGoodsteinOrds.l0 k x3 x4 x5 (wrap64 (x6 + 1))) else (some false))) else (none)) else (none)) else (none)) else (if (x4.length : Int) ≤ (x5.length : Int) then (if (x4.length : Int) = 0 then ((laws_alive.f k).bind fun t428 => (some t428)) else (if 0 < (x4.length : Int) then ((impl_OrdInBase.f k x3 2).bind fun t430 => ((laws_sameInts.f k (rd_L2 x4 0) t430).bind fun t433 => (if t433 = true then ((laws_alive.f k).bind fun t434 => (some t434)) else (some false)))) else (none))) else (some false))
def laws_FnGoodsteinOrds.f (k : Nat) (l0 : List Int) : Option (Bool) := if (l0.length : Int) > 1048576 then (some true) else ((spec_DrawGoodsteinOrds.f k l0).bind fun t414 => ((impl_GoodsteinOrds.f k t414).bind fun t415 => ((spec_GoodsteinOrds.f k t414).bind fun t418 => ((laws_sameLists.f k t415 t418).bind fun t421 => (if t421 = true then ((impl_GoodsteinRun.f k t414).bind fun t422 => (laws_FnGoodsteinOrds.l0 k t414 t415 t422 1)) else (some false))))))
theorem laws_FnGoodsteinOrds.mono_l : ∀ k, (∀ y0 y1 y2 y3, LeO (laws_FnGoodsteinOrds.l0 k y0 y1 y2 y3) (laws_FnGoodsteinOrds.l0 (k + 1) y0 y1 y2 y3))
 | 0 => fun _ _ _ _ r h => by simp [laws_FnGoodsteinOrds.l0] at h
 | k + 1 => by
  have ih0 := laws_FnGoodsteinOrds.mono_l k
  ·
   intro y0 y1 y2 y3;unfold laws_FnGoodsteinOrds.l0
   repeat' first | (with_reducible exact ih0 _ _ _ _) | (with_reducible exact impl_GoodsteinOrds.mono _ _) | (with_reducible exact impl_GoodsteinRun.mono _ _) | (with_reducible exact impl_OrdCompare.mono _ _ _) | (with_reducible exact impl_OrdInBase.mono _ _ _) | (with_reducible exact laws_alive.mono _) | (with_reducible exact laws_sameInts.mono _ _ _) | (with_reducible exact laws_sameLists.mono _ _ _) | (with_reducible exact spec_DrawGoodsteinOrds.mono _ _) | (with_reducible exact spec_GoodsteinOrds.mono _ _) | (with_reducible exact LeO.refl _) | (with_reducible exact LeO.none _) | (with_reducible refine LeO.ite ?_ ?_) | (with_reducible refine LeO.bind ?_ (fun _ => ?_))
theorem laws_FnGoodsteinOrds.mono : ∀ a0 k, LeO (laws_FnGoodsteinOrds.f k a0) (laws_FnGoodsteinOrds.f (k + 1) a0) := by
 intro a0 k;have ih0 := laws_FnGoodsteinOrds.mono_l k;unfold laws_FnGoodsteinOrds.f
 repeat' first | (with_reducible exact ih0 _ _ _ _) | (with_reducible exact impl_GoodsteinOrds.mono _ _) | (with_reducible exact impl_GoodsteinRun.mono _ _) | (with_reducible exact impl_OrdCompare.mono _ _ _) | (with_reducible exact impl_OrdInBase.mono _ _ _) | (with_reducible exact laws_alive.mono _) | (with_reducible exact laws_sameInts.mono _ _ _) | (with_reducible exact laws_sameLists.mono _ _ _) | (with_reducible exact spec_DrawGoodsteinOrds.mono _ _) | (with_reducible exact spec_GoodsteinOrds.mono _ _) | (with_reducible exact LeO.refl _) | (with_reducible exact LeO.none _) | (with_reducible refine LeO.ite ?_ ?_) | (with_reducible refine LeO.bind ?_ (fun _ => ?_))
def laws_FnGoodsteinOrds.T11 : Bool × List (List Nat × List Nat) := (true, [([], []), ([], []), ([0, 1], [0, 1]), ([2], [2]), ([], []), ([], []), ([5], [5]), ([4, 6], [4, 6]), ([7], [7]), ([3, 8], [3, 8]), ([9], [9])])
def laws_FnGoodsteinOrds.B11 : List Nat := [0, 0, 3, 7, 0, 0, 32, 112, 240, 511, 1023]
theorem laws_FnGoodsteinOrds.tab11 : rtab .any (opsOf Try.f7 11) = laws_FnGoodsteinOrds.T11 := by kernel_rfl
theorem laws_FnGoodsteinOrds.bits11 : waitsOk laws_FnGoodsteinOrds.T11.2 laws_FnGoodsteinOrds.B11 = true := by kernel_rfl
def laws_FnGoodsteinOrds.T13 : Bool × List (List Nat × List Nat) := (true, [([], []), ([0], [0]), ([], []), ([2], [2]), ([1, 3], [1, 3]), ([4], [4]), ([5], [5]), ([6, 5], [5, 6]), ([7, 5], [5, 7]), ([8, 5, 5], [5, 8]), ([9], [9]), ([10, 9], [9, 10]), ([11, 9], [9, 11]), ([9], [9]), ([13, 9, 9], [9, 13]), ([12, 14, 14, 9], [9, 12, 14]), ([9, 15, 5], [5, 9, 15]), ([5, 16], [5, 16]), ([17, 15], [17]), ([18, 18], [18]), ([18, 19], [18, 19]), ([20, 19, 0, 1, 2, 3, 4, 5, 6, 7, 8, 9, 10, 11, 12, 13, 14, 15, 16, 17, 18, 19, 20], [20])])
def laws_FnGoodsteinOrds.B13 : List Nat := [0, 1, 0, 4, 15, 31, 63, 127, 255, 511, 1023, 2047, 4095, 1023, 9215, 32767, 65535, 131071, 262143, 524287, 1048575, 2097151]
theorem laws_FnGoodsteinOrds.tab13 : rtab .any (opsOf Try.f7 13) = laws_FnGoodsteinOrds.T13 := by kernel_rfl
theorem laws_FnGoodsteinOrds.bits13 : waitsOk laws_FnGoodsteinOrds.T13.2 laws_FnGoodsteinOrds.B13 = true := by kernel_rfl
set_option maxHeartbeats 8000000 in
set_option maxRecDepth 100000 in
theorem laws_FnGoodsteinOrds.calls (k : Nat) (A0 : Option Addr) (c0 : Nat) (l0 : List Int) (r : Bool) (w : World) (hr0 : Kd.C (Kd.int .u8) w A0 l0.length l0) (hc0 : l0.length ≤ c0) (h : laws_FnGoodsteinOrds.f k l0 = some r) :
  Calls Try.prog 7 #[.slice A0 l0.length c0] w fun e w' => e = .returned (.bool r) ∧ Below w.heap.size w w' := by
 have HR0 := am hr0;have HC0 := am hc0;clear hr0 hc0;have HB := am (Below.refl w.heap.size w);have H : (if (l0.length : Int) > 1048576 then (some true) else ((spec_DrawGoodsteinOrds.f k l0).bind fun t414 => ((impl_GoodsteinOrds.f k t414).bind fun t415 => ((spec_GoodsteinOrds.f k t414).bind fun t418 => ((laws_sameLists.f k t415 t418).bind fun t421 => (if t421 = true then ((impl_GoodsteinRun.f k t414).bind fun t422 => (laws_FnGoodsteinOrds.l0 k t414 t415 t422 1)) else (some false))))))) = some r := h;clear h;by_cases c2 : (l0.length : Int) > 1048576
 ·
  rw [if_pos c2] at H;have c2b0 : decide (1048576 < (l0.length : Int)) = true := decide_eq_true c2;have c2b1 : decide (1048576 < l0.length) = true := decide_eq_true (by omega);clear c2;obtain rfl := Option.some.inj H;go_enter Try.func7, Try.ntmps7;go_wp2;go_ret;exact ⟨by first | rfl | (simp [errW_none, errW_some] <;> rfl) | (simp [*, errW_none, errW_some] <;> rfl), bm HB.out⟩
 ·
  rw [if_neg c2] at H;have c2b0 : decide (1048576 < (l0.length : Int)) = false := decide_eq_false c2;have c2b1 : decide (1048576 < l0.length) = false := decide_eq_false (by omega);clear c2;replace H := oE H;obtain ⟨t414, A3, H⟩ := H;replace H : ((impl_GoodsteinOrds.f k t414).bind fun t415 => ((spec_GoodsteinOrds.f k t414).bind fun t418 => ((laws_sameLists.f k t415 t418).bind fun t421 => (if t421 = true then ((impl_GoodsteinRun.f k t414).bind fun t422 => (laws_FnGoodsteinOrds.l0 k t414 t415 t422 1)) else (some false))))) = some r := H;replace A3 := am A3;replace H := oE H;obtain ⟨t415, A4, H⟩ := H;replace H : ((spec_GoodsteinOrds.f k t414).bind fun t418 => ((laws_sameLists.f k t415 t418).bind fun t421 => (if t421 = true then ((impl_GoodsteinRun.f k t414).bind fun t422 => (laws_FnGoodsteinOrds.l0 k t414 t415 t422 1)) else (some false)))) = some r := H;replace A4 := am A4;replace H := oE H;obtain ⟨t418, A5, H⟩ := H;replace H : ((laws_sameLists.f k t415 t418).bind fun t421 => (if t421 = true then ((impl_GoodsteinRun.f k t414).bind fun t422 => (laws_FnGoodsteinOrds.l0 k t414 t415 t422 1)) else (some false))) = some r := H;replace A5 := am A5;replace H := oE H;obtain ⟨t421, A6, H⟩ := H;replace H : (if t421 = true then ((impl_GoodsteinRun.f k t414).bind fun t422 => (laws_FnGoodsteinOrds.l0 k t414 t415 t422 1)) else (some false)) = some r := H;replace A6 := am A6;by_cases c7 : t421 = true
  ·
   subst c7
   have H1 : ((impl_GoodsteinRun.f k t414).bind fun t422 => (laws_FnGoodsteinOrds.l0 k t414 t415 t422 1)) = some r := by rw [if_pos rfl] at H; exact H
   clear H;have H := H1;clear H1;replace H := oE H;obtain ⟨t422, A8, H⟩ := H;replace H : (laws_FnGoodsteinOrds.l0 k t414 t415 t422 1) = some r := H;replace A8 := am A8;have H' := am H;clear H;go_enter Try.func7, Try.ntmps7;go_wp2_with (first | ((with_reducible refine gate_callee (f := 27) rfl ?_); refine goesL_ (some 11) rfl rfl Try.func27 (by kernel_rfl) rfl #[.slice A0 l0.length c0] rfl (by (try simp only [mA, mB, mC]); first | done | rfl) ?_; (with_reducible refine (spec_DrawGoodsteinOrds.calls k _ _ l0 t414 _ ?side1 ?side2 A3.out).mono ?_); (case side1 => exact Kd.cm HR0.out); (case side2 => exact HC0.out); rintro e w9 ⟨rfl, hb⟩; refine ⟨_, rfl, ?_⟩; replace HB := am (below_step (bm HB.out) hb); (try clear hb)) | ((with_reducible refine gate_callee (f := 23) rfl ?_); refine goesL_ (some 13) rfl rfl Try.func23 (by kernel_rfl) rfl #[.int .i64 t414] rfl (by (try simp only [mA, mB, mC]); first | done | rfl) ?_; (with_reducible refine (impl_GoodsteinOrds.calls k t414 t415 _ A4.out).mono ?_); rintro e w10 ⟨v416, rfl, ho0, hb⟩; refine ⟨_, rfl, ?_⟩; have HO417 := am (Kd.N_lower (Kd.N_mono (ok' := fun k_ => True) ho0 (fun k_ hk_ => trivial)) (below_size (bm HB.out)));replace HB := am (below_step (bm HB.out) hb); (try clear hb); (try clear ho0)) | ((with_reducible refine gate_callee (f := 22) rfl ?_); refine goesL_ (some 16) rfl rfl Try.func22 (by kernel_rfl) rfl #[.int .i64 t414] rfl (by (try simp only [mA, mB, mC]); first | done | rfl) ?_; (with_reducible refine (spec_GoodsteinOrds.calls k t414 t418 _ A5.out).mono ?_); rintro e w11 ⟨v419, rfl, ho0, hb⟩; refine ⟨_, rfl, ?_⟩; have HO420 := am (Kd.N_lower (Kd.N_mono (ok' := fun k_ => some k_ ≠ (v416 : Value).ownBlock) (Kd.S_N (Kd.S_bound ho0)) (fun k_ hk_ => (Kd.fresh' (Kd.N_lt (Kd.nm HO417.out)) k_ hk_.2.1))) (below_size (bm HB.out)));replace HO417 := am (Kd.N_elder' (Kd.nm HO417.out) (Kd.N_base (Kd.S_N ho0)) hb);replace HB := am (below_step (bm HB.out) hb); (try clear hb); (try clear ho0); obtain ⟨Ao12, co12, eo12⟩ := Kd.N_slice HO417.out; subst eo12; obtain ⟨Ao13, co13, eo13⟩ := Kd.N_slice HO420.out; subst eo13) | ((with_reducible refine gate_callee (f := 28) rfl ?_); refine goesL_ (some 17) rfl rfl Try.func28 (by kernel_rfl) rfl #[.slice Ao12 t415.length co12, .slice Ao13 t418.length co13] rfl (by (try simp only [mA, mB, mC]); first | done | rfl) ?_; (with_reducible refine (laws_sameLists.calls k _ _ t415 _ _ t418 true _ ?side1 ?side2 ?side3 ?side4 A6.out).mono ?_); (case side1 => exact Kd.cm ((Kd.N_reads' HO417.out).2.2)); (case side2 => exact (Kd.N_reads' HO417.out).2.1); (case side3 => exact Kd.cm ((Kd.N_reads' HO420.out).2.2)); (case side4 => exact (Kd.N_reads' HO420.out).2.1); rintro e w' ⟨rfl, ⟨nd, rfl⟩⟩; refine ⟨_, rfl, ?_⟩) | ((with_reducible refine gate_callee (f := 11) rfl ?_); refine goesL_ (some 20) rfl rfl Try.func11 (by kernel_rfl) rfl #[.int .i64 t414] rfl (by (try simp only [mA, mB, mC]); first | done | rfl) ?_; (with_reducible refine (impl_GoodsteinRun.calls k t414 t422 _ A8.out).mono ?_); rintro e w14 ⟨v423, rfl, ho0, hb⟩; refine ⟨_, rfl, ?_⟩; replace HO417 := am (Kd.N_elder' (Kd.nm HO417.out) (Kd.R_base ho0) hb);replace HO420 := am (Kd.N_elder' (Kd.nm HO420.out) (Kd.R_base ho0) hb);have HO424 := am (Kd.R_lower ho0 (below_size (bm HB.out)));replace HB := am (below_step (bm HB.out) hb); (try clear hb); (try clear ho0)))
   go_loopg [6] k (fun kq v6 w' => ∃ (x6_1 : Int), v6 = .int .i64 x6_1 ∧ Aside0 (laws_FnGoodsteinOrds.l0 kq t414 t415 t422 x6_1 = some r) ∧ Aside0 (kq ≤ k) ∧ Aside0 (Kd.N (Kd.slice 3 (Kd.int .i64)) 25 w' w.heap.size (fun k_ => some k_ ≠ (v423 : Value).ownBlock) (.slice Ao12 t415.length co12) t415) ∧ Aside0 (Kd.R (Kd.int .i64) 3 w' w.heap.size (fun _ => True) v423 t422) ∧ Aside0 (Below w.heap.size w w'))
   case atStart => exact ⟨(1), (by first | rfl | (simp; done) | (simp [*]; done)), H', ⟨Nat.le_refl _⟩, ⟨Kd.nm (Kd.N_mono HO417.out (fun _ hk => hk.2))⟩, ⟨Kd.rm HO424.out⟩, ⟨bm HB.out⟩⟩
   case round =>
    clear H';(try clear c1);(try clear c2);(try clear c2b0);(try clear c2b1);(try clear p2);(try clear c7);(try clear c11);(try clear HO_4);(try clear HO_5);(try clear HB);obtain ⟨x6_1, rfl, HA, HK1, HO_4, HO_5, HB⟩ := hrel
    cases gk with
    | zero => exact absurd HA.out (by simp [laws_FnGoodsteinOrds.l0])
    | succ k1 =>
     have H := HA.out;clear HA;simp only [laws_FnGoodsteinOrds.l0] at H;by_cases c15 : x6_1 < (t415.length : Int)
     ·
      rw [if_pos c15] at H;have c15b0 : decide (x6_1 < (t415.length : Int)) = true := decide_eq_true c15;clear c15;by_cases c16 : 0 ≤ x6_1
      ·
       rw [if_pos c16] at H;have c16b0 : decide (0 ≤ x6_1) = true := decide_eq_true c16;clear c16
       obtain ⟨ji17, hji17⟩ : ∃ j_ : Int, (wrap64 (x6_1 - 1)) = j_ := ⟨_, rfl⟩
       replace H : (if 0 ≤ (ji17) then (if (ji17) < (t415.length : Int) then ((impl_OrdCompare.f k1 (rd_L2 t415 x6_1) (rd_L2 t415 (ji17))).bind fun t427 => (if t427 = (-1) then (laws_FnGoodsteinOrds.l0 k1 t414 t415 t422 (wrap64 (x6_1 + 1))) else (some false))) else (none)) else (none)) = some r := by first | (rw [hji17] at H; exact H) | (simp only [hji17] at H ⊢; exact H)
       have hji17w : (IntKind.i64.wrap (x6_1 - 1)) = ji17 := (i64_w _).trans hji17;by_cases c18 : 0 ≤ (ji17)
       ·
        rw [if_pos c18] at H;have c18b0 : decide (0 ≤ (ji17)) = true := decide_eq_true c18;clear c18;by_cases c19 : (ji17) < (t415.length : Int)
        ·
         rw [if_pos c19] at H;have c19b0 : decide ((ji17) < (t415.length : Int)) = true := decide_eq_true c19;clear c19;replace H := oE H;obtain ⟨t427, A20, H⟩ := H;replace H : (if t427 = (-1) then (laws_FnGoodsteinOrds.l0 k1 t414 t415 t422 (wrap64 (x6_1 + 1))) else (some false)) = some r := H;replace A20 := am A20;by_cases c21 : t427 = (-1)
         ·
          rw [if_pos c21] at H;have c21b0 : (t427 == (-1)) = true := beq_iff_eq.mpr c21;have c21b1 : (t427 != (-1)) = false := bne_eq_false_iff_eq.mpr c21;clear c21;have H' := am H;clear H;(try go_wp2);replace HO_4 := am (Kd.N_drew HO_4.out);replace HO_5 := am (Kd.R_drew HO_5.out);replace HB := am (below_drew1 HB.out);have p425 : 0 ≤ (x6_1 : Int) := of_decide_eq_true (by assumption);have q425 : x6_1 < (t415.length : Int) := of_decide_eq_true (by assumption);obtain ⟨ad425, A425_0, c425_0, e425, hx425_0, hl425_0, hi425_0⟩ := at_L2 (Kd.N_reads' HO_4.out).2.2 x6_1 p425 q425;cases e425
          obtain ⟨ce425, hce425, hMe425, hcc425⟩ := Kd.N_get HO_4.out [] x6_1 p425 (by first | exact q425 | exact of_decide_eq_true (by assumption) | (have e_ := (Kd.N_reads' HO_4.out).1; omega));obtain ⟨ua425_0, uc425_0, rfl, ul425_0, ge425_0⟩ := Kd.FK_slice_open hMe425;have hv425_0 := hcc425 0 _ rfl;rw [Nat.add_zero, show ((Kd.slice 3 (Kd.int .i64))).sz = 1 from rfl, Nat.mul_one] at hv425_0;replace hv425_0 := Option.some.inj (hv425_0.symm.trans hx425_0)
          injection hv425_0 with hva_ hvn_ hvc_
          rw [hva_] at ge425_0;rw [hvc_] at ul425_0;have HL425_0 := am (show Kd.V (Kd.int .i64) 3 _ w.heap.size _ _ (rd_L2 t415 x6_1) from Kd.V_mk ul425_0 ge425_0);clear hva_ hvn_ hvc_ ge425_0 ul425_0;clear hcc425 hce425;have HR425_0 := am hi425_0;have HC425_0 := am hl425_0;clear hi425_0 hl425_0;replace p425 := eq_true p425;replace q425 := eq_true q425;have p426 : 0 ≤ ((ji17) : Int) := of_decide_eq_true (by assumption);have q426 : (ji17) < (t415.length : Int) := of_decide_eq_true (by assumption);obtain ⟨ad426, A426_0, c426_0, e426, hx426_0, hl426_0, hi426_0⟩ := at_L2 (Kd.N_reads' HO_4.out).2.2 (ji17) p426 q426;obtain rfl : ad425 = ad426 := (by injection e426);obtain ⟨ce426, hce426, hMe426, hcc426⟩ := Kd.N_get HO_4.out [] (ji17) p426 (by first | exact q426 | exact of_decide_eq_true (by assumption) | (have e_ := (Kd.N_reads' HO_4.out).1; omega));obtain ⟨ua426_0, uc426_0, rfl, ul426_0, ge426_0⟩ := Kd.FK_slice_open hMe426;have hv426_0 := hcc426 0 _ rfl;rw [Nat.add_zero, show ((Kd.slice 3 (Kd.int .i64))).sz = 1 from rfl, Nat.mul_one] at hv426_0;replace hv426_0 := Option.some.inj (hv426_0.symm.trans hx426_0)
          injection hv426_0 with hva_ hvn_ hvc_
          rw [hva_] at ge426_0;rw [hvc_] at ul426_0;have HL426_0 := am (show Kd.V (Kd.int .i64) 3 _ w.heap.size _ _ (rd_L2 t415 (ji17)) from Kd.V_mk ul426_0 ge426_0);clear hva_ hvn_ hvc_ ge426_0 ul426_0;clear hcc426 hce426;have HR426_0 := am hi426_0;have HC426_0 := am hl426_0;clear hi426_0 hl426_0;replace p426 := eq_true p426;replace q426 := eq_true q426;refine start_ (n := 11) (S := fun w' => w'.cell? (ad425.add (x6_1).toNat) = some (.slice A425_0 (rd_L2 t415 x6_1).length c425_0) ∧ w'.cell? (ad425.add ((ji17)).toNat) = some (.slice A426_0 (rd_L2 t415 (ji17)).length c426_0)) (ds := []) #[false, false, false, false, false, false, false, false, false, false, false] (by kernel_rfl) rfl rfl ⟨hx425_0, hx426_0⟩ (fun hHeld => ?_); refine with_tabW laws_FnGoodsteinOrds.tab11 laws_FnGoodsteinOrds.bits11 (fun HT_ HW_ => ?_);generalize wr.drew = w22 at HO_4 HO_5 HB HL425_0 HL426_0 HR425_0 HR426_0 hx425_0 hx426_0 hHeld ⊢;refine pure_ (i := 0) (N := some 27) (v := ?_) (a' := ?_) #[true, false, false, false, false, false, false, false, false, false, false] rfl rfl (any_of HT_.out (by kernel_rfl)) (fun _ _ _ h => h) (Or.inl ⟨by rfl, ?_⟩) ?_ ?_;rotate_left
          ·
           intro w';go_simp;with_reducible rfl
          rotate_left
          ·
           simp only [Act.put, sA, sB, sC, i64_w, i32_w];rfl
          refine pure_ (i := 1) (N := some 28) (v := ?_) (a' := ?_) #[true, true, false, false, false, false, false, false, false, false, false] rfl rfl (any_of HT_.out (by kernel_rfl)) (fun _ _ _ h => h) (Or.inl ⟨by rfl, ?_⟩) ?_ ?_;rotate_left
          ·
           intro w';go_simp;with_reducible rfl
          rotate_left
          ·
           simp only [Act.put, sA, sB, sC, i64_w, i32_w];rfl
          refine pure_ (i := 2) (N := some 29) (v := ?_) (a' := ?_) #[true, true, true, false, false, false, false, false, false, false, false] rfl rfl (any_of HT_.out (by kernel_rfl)) (fun _ _ _ h => h) (Or.inl ⟨by rfl, ?_⟩) ?_ ?_;rotate_left
          ·
           intro w';go_simp;with_reducible rfl
          rotate_left
          ·
           simp only [Act.put, sA, sB, sC, i64_w, i32_w];rfl
          refine pure_ (i := 4) (N := some 31) (v := ?_) (a' := ?_) #[true, true, true, false, true, false, false, false, false, false, false] rfl rfl (any_of HT_.out (by kernel_rfl)) (fun _ _ _ h => h) (Or.inl ⟨by rfl, ?_⟩) ?_ ?_;rotate_left
          ·
           intro w';go_simp;with_reducible rfl
          rotate_left
          ·
           simp only [Act.put, sA, sB, sC, i64_w, i32_w];rfl
          refine pure_ (i := 5) (N := some 32) (v := ?_) (a' := ?_) #[true, true, true, false, true, true, false, false, false, false, false] rfl rfl (any_of HT_.out (by kernel_rfl)) (fun _ _ _ h => h) (Or.inl ⟨by rfl, ?_⟩) ?_ ?_;rotate_left
          ·
           intro w';go_simp;with_reducible rfl
          rotate_left
          ·
           simp only [Act.put, sA, sB, sC, i64_w, i32_w];rfl
          refine pure_ (i := 6) (N := some 33) (v := ?_) (a' := ?_) #[true, true, true, false, true, true, true, false, false, false, false] rfl rfl (any_of HT_.out (by kernel_rfl)) (fun _ _ _ h => h) (Or.inl ⟨by rfl, ?_⟩) ?_ ?_;rotate_left
          ·
           intro w';go_simp;with_reducible rfl
          rotate_left
          ·
           simp only [Act.put, sA, sB, sC, i64_w, i32_w];rfl
          refine pure_ (i := 7) (N := some 34) (v := ?_) (a' := ?_) #[true, true, true, false, true, true, true, true, false, false, false] rfl rfl (any_of HT_.out (by kernel_rfl)) (fun _ _ _ h => h) (Or.inl ⟨by rfl, ?_⟩) ?_ ?_;rotate_left
          ·
           intro w';go_simp;with_reducible rfl
          rotate_left
          ·
           simp only [Act.put, sA, sB, sC, i64_w, i32_w];rfl
          refine take_ (i := 3) (N := some 30) (v := ?_) (a' := ?_) #[true, true, true, true, true, true, true, true, false, false, false] rfl rfl (take_ofW HT_.out HW_.out (by kernel_rfl)) (fun _ _ _ h => h) (Or.inl ⟨by rfl, ?_⟩) hHeld ?_ ?_;rotate_left
          ·
           rintro w' ⟨s0, s1⟩
           go_simp;with_reducible rfl
          rotate_left
          ·
           simp only [Act.put, sA, sB, sC, i64_w, i32_w];rfl
          refine take_ (i := 8) (N := some 35) (v := ?_) (a' := ?_) #[true, true, true, true, true, true, true, true, true, false, false] rfl rfl (take_ofW HT_.out HW_.out (by kernel_rfl)) (fun _ _ _ h => h) (Or.inl ⟨by rfl, ?_⟩) hHeld ?_ ?_;rotate_left
          ·
           rintro w' ⟨s0, s1⟩
           go_simp;with_reducible rfl
          rotate_left
          ·
           simp only [Act.put, sA, sB, sC, i64_w, i32_w];rfl
          refine one_ (i := 9) (N := some 36) #[true, true, true, true, true, true, true, true, true, true, false] rfl rfl (one_of HT_.out (by kernel_rfl)) (by decide) (fun K hK => ?_);refine goes_ Try.func29 (by kernel_rfl) rfl #[.slice A425_0 (rd_L2 t415 x6_1).length c425_0, .slice A426_0 (rd_L2 t415 (ji17)).length c426_0] (by rfl) rfl rfl (by (try simp only [List.map_toArray, List.map_cons, List.map_nil]); first | done | (simp only [hji17]; rfl) | rfl | (simp only [List.length_drop, List.length_take]; rfl)) ?_
          with_reducible refine (impl_OrdCompare.calls k1 _ _ (rd_L2 t415 x6_1) _ _ (rd_L2 t415 (ji17)) t427 _ ?side1 ?side2 ?side3 ?side4 A20.out).mono ?_
          (case side1 => exact Kd.cm ((by repeat (first | (with_reducible exact HR425_0.out) | (with_reducible refine Kd.C_alloc ?_ _) | (with_reducible refine Kd.C_drewN ?_ _) | (with_reducible refine Kd.C_drew ?_) | exact HR425_0.out))));(case side2 => exact HC425_0.out);(case side3 => exact Kd.cm ((by repeat (first | (with_reducible exact HR426_0.out) | (with_reducible refine Kd.C_alloc ?_ _) | (with_reducible refine Kd.C_drewN ?_ _) | (with_reducible refine Kd.C_drew ?_) | exact HR426_0.out))));(case side4 => exact HC426_0.out)
          rintro e w23 ⟨rfl, hb⟩
          have HS0_ := (hb.cell (World.block_lt_of_cell? _ _ (hHeld.1))).trans (hHeld.1);have HS1_ := (hb.cell (World.block_lt_of_cell? _ _ (hHeld.2))).trans (hHeld.2);refine ⟨_, rfl, ?_⟩;replace HO_4 := am (Kd.N_below (Kd.nm HO_4.out) hb);replace HO_5 := am (Kd.R_below (Kd.rm HO_5.out) hb);replace HL425_0 := am (Kd.V_below (Kd.vm HL425_0.out) hb);replace HL426_0 := am (Kd.V_below (Kd.vm HL426_0.out) hb);replace HR425_0 := am (Kd.C_below (by repeat (first | (with_reducible exact HR425_0.out) | (with_reducible refine Kd.C_alloc ?_ _) | (with_reducible refine Kd.C_drewN ?_ _) | (with_reducible refine Kd.C_drew ?_) | exact HR425_0.out)) hb);replace HR426_0 := am (Kd.C_below (by repeat (first | (with_reducible exact HR426_0.out) | (with_reducible refine Kd.C_alloc ?_ _) | (with_reducible refine Kd.C_drewN ?_ _) | (with_reducible refine Kd.C_drew ?_) | exact HR426_0.out)) hb);replace HB := am (below_step (bm HB.out) hb);(try clear hb);refine hK.out _ _ ⟨HS0_, HS1_⟩ (fun hHeld => ?_);clear hK K;refine norm_ (a' := ?_) ?_ ?_;rotate_left
          ·
           show Act.put _ (some 36) _ = _
           simp only [Act.put, sA, sB, sC, i64_w, i32_w];rfl
          refine pure_ (i := 10) (N := some 37) (v := ?_) (a' := ?_) #[true, true, true, true, true, true, true, true, true, true, true] rfl rfl (any_of HT_.out (by kernel_rfl)) (fun _ _ _ h => h) (Or.inl ⟨by rfl, ?_⟩) ?_ ?_;rotate_left
          ·
           intro w';go_simp;with_reducible rfl
          rotate_left
          ·
           simp only [Act.put, sA, sB, sC, i64_w, i32_w];rfl
          refine done_ (done_of HT_.out (by kernel_rfl)) ?_;(try go_wp2)
          go_roundg k1
          case measure => have := HK1.out; omega
          case rel => exact ⟨(wrap64 (x6_1 + 1)), (by first | rfl | (simp; done) | (simp [*]; done)), H', ⟨by have := HK1.out; omega⟩, ⟨Kd.nm HO_4.out⟩, ⟨Kd.rm HO_5.out⟩, ⟨bm HB.out⟩⟩
         ·
          rw [if_neg c21] at H;have c21b0 : (t427 == (-1)) = false := beq_eq_false_iff_ne.mpr c21;have c21b1 : (t427 != (-1)) = true := bne_iff_ne.mpr c21;obtain rfl := Option.some.inj H;(try go_wp2);replace HO_4 := am (Kd.N_drew HO_4.out);replace HO_5 := am (Kd.R_drew HO_5.out);replace HB := am (below_drew1 HB.out);have p425 : 0 ≤ (x6_1 : Int) := of_decide_eq_true (by assumption);have q425 : x6_1 < (t415.length : Int) := of_decide_eq_true (by assumption);obtain ⟨ad425, A425_0, c425_0, e425, hx425_0, hl425_0, hi425_0⟩ := at_L2 (Kd.N_reads' HO_4.out).2.2 x6_1 p425 q425;cases e425
          obtain ⟨ce425, hce425, hMe425, hcc425⟩ := Kd.N_get HO_4.out [] x6_1 p425 (by first | exact q425 | exact of_decide_eq_true (by assumption) | (have e_ := (Kd.N_reads' HO_4.out).1; omega));obtain ⟨ua425_0, uc425_0, rfl, ul425_0, ge425_0⟩ := Kd.FK_slice_open hMe425;have hv425_0 := hcc425 0 _ rfl;rw [Nat.add_zero, show ((Kd.slice 3 (Kd.int .i64))).sz = 1 from rfl, Nat.mul_one] at hv425_0;replace hv425_0 := Option.some.inj (hv425_0.symm.trans hx425_0)
          injection hv425_0 with hva_ hvn_ hvc_
          rw [hva_] at ge425_0;rw [hvc_] at ul425_0;have HL425_0 := am (show Kd.V (Kd.int .i64) 3 _ w.heap.size _ _ (rd_L2 t415 x6_1) from Kd.V_mk ul425_0 ge425_0);clear hva_ hvn_ hvc_ ge425_0 ul425_0;clear hcc425 hce425;have HR425_0 := am hi425_0;have HC425_0 := am hl425_0;clear hi425_0 hl425_0;replace p425 := eq_true p425;replace q425 := eq_true q425;have p426 : 0 ≤ ((ji17) : Int) := of_decide_eq_true (by assumption);have q426 : (ji17) < (t415.length : Int) := of_decide_eq_true (by assumption);obtain ⟨ad426, A426_0, c426_0, e426, hx426_0, hl426_0, hi426_0⟩ := at_L2 (Kd.N_reads' HO_4.out).2.2 (ji17) p426 q426;obtain rfl : ad425 = ad426 := (by injection e426);obtain ⟨ce426, hce426, hMe426, hcc426⟩ := Kd.N_get HO_4.out [] (ji17) p426 (by first | exact q426 | exact of_decide_eq_true (by assumption) | (have e_ := (Kd.N_reads' HO_4.out).1; omega));obtain ⟨ua426_0, uc426_0, rfl, ul426_0, ge426_0⟩ := Kd.FK_slice_open hMe426;have hv426_0 := hcc426 0 _ rfl;rw [Nat.add_zero, show ((Kd.slice 3 (Kd.int .i64))).sz = 1 from rfl, Nat.mul_one] at hv426_0;replace hv426_0 := Option.some.inj (hv426_0.symm.trans hx426_0)
          injection hv426_0 with hva_ hvn_ hvc_
          rw [hva_] at ge426_0;rw [hvc_] at ul426_0;have HL426_0 := am (show Kd.V (Kd.int .i64) 3 _ w.heap.size _ _ (rd_L2 t415 (ji17)) from Kd.V_mk ul426_0 ge426_0);clear hva_ hvn_ hvc_ ge426_0 ul426_0;clear hcc426 hce426;have HR426_0 := am hi426_0;have HC426_0 := am hl426_0;clear hi426_0 hl426_0;replace p426 := eq_true p426;replace q426 := eq_true q426;refine start_ (n := 11) (S := fun w' => w'.cell? (ad425.add (x6_1).toNat) = some (.slice A425_0 (rd_L2 t415 x6_1).length c425_0) ∧ w'.cell? (ad425.add ((ji17)).toNat) = some (.slice A426_0 (rd_L2 t415 (ji17)).length c426_0)) (ds := []) #[false, false, false, false, false, false, false, false, false, false, false] (by kernel_rfl) rfl rfl ⟨hx425_0, hx426_0⟩ (fun hHeld => ?_); refine with_tabW laws_FnGoodsteinOrds.tab11 laws_FnGoodsteinOrds.bits11 (fun HT_ HW_ => ?_);generalize wr.drew = w24 at HO_4 HO_5 HB HL425_0 HL426_0 HR425_0 HR426_0 hx425_0 hx426_0 hHeld ⊢;refine pure_ (i := 0) (N := some 27) (v := ?_) (a' := ?_) #[true, false, false, false, false, false, false, false, false, false, false] rfl rfl (any_of HT_.out (by kernel_rfl)) (fun _ _ _ h => h) (Or.inl ⟨by rfl, ?_⟩) ?_ ?_;rotate_left
          ·
           intro w';go_simp;with_reducible rfl
          rotate_left
          ·
           simp only [Act.put, sA, sB, sC, i64_w, i32_w];rfl
          refine pure_ (i := 1) (N := some 28) (v := ?_) (a' := ?_) #[true, true, false, false, false, false, false, false, false, false, false] rfl rfl (any_of HT_.out (by kernel_rfl)) (fun _ _ _ h => h) (Or.inl ⟨by rfl, ?_⟩) ?_ ?_;rotate_left
          ·
           intro w';go_simp;with_reducible rfl
          rotate_left
          ·
           simp only [Act.put, sA, sB, sC, i64_w, i32_w];rfl
          refine pure_ (i := 2) (N := some 29) (v := ?_) (a' := ?_) #[true, true, true, false, false, false, false, false, false, false, false] rfl rfl (any_of HT_.out (by kernel_rfl)) (fun _ _ _ h => h) (Or.inl ⟨by rfl, ?_⟩) ?_ ?_;rotate_left
          ·
           intro w';go_simp;with_reducible rfl
          rotate_left
          ·
           simp only [Act.put, sA, sB, sC, i64_w, i32_w];rfl
          refine pure_ (i := 4) (N := some 31) (v := ?_) (a' := ?_) #[true, true, true, false, true, false, false, false, false, false, false] rfl rfl (any_of HT_.out (by kernel_rfl)) (fun _ _ _ h => h) (Or.inl ⟨by rfl, ?_⟩) ?_ ?_;rotate_left
          ·
           intro w';go_simp;with_reducible rfl
          rotate_left
          ·
           simp only [Act.put, sA, sB, sC, i64_w, i32_w];rfl
          refine pure_ (i := 5) (N := some 32) (v := ?_) (a' := ?_) #[true, true, true, false, true, true, false, false, false, false, false] rfl rfl (any_of HT_.out (by kernel_rfl)) (fun _ _ _ h => h) (Or.inl ⟨by rfl, ?_⟩) ?_ ?_;rotate_left
          ·
           intro w';go_simp;with_reducible rfl
          rotate_left
          ·
           simp only [Act.put, sA, sB, sC, i64_w, i32_w];rfl
          refine pure_ (i := 6) (N := some 33) (v := ?_) (a' := ?_) #[true, true, true, false, true, true, true, false, false, false, false] rfl rfl (any_of HT_.out (by kernel_rfl)) (fun _ _ _ h => h) (Or.inl ⟨by rfl, ?_⟩) ?_ ?_;rotate_left
          ·
           intro w';go_simp;with_reducible rfl
          rotate_left
          ·
           simp only [Act.put, sA, sB, sC, i64_w, i32_w];rfl
          refine pure_ (i := 7) (N := some 34) (v := ?_) (a' := ?_) #[true, true, true, false, true, true, true, true, false, false, false] rfl rfl (any_of HT_.out (by kernel_rfl)) (fun _ _ _ h => h) (Or.inl ⟨by rfl, ?_⟩) ?_ ?_;rotate_left
          ·
           intro w';go_simp;with_reducible rfl
          rotate_left
          ·
           simp only [Act.put, sA, sB, sC, i64_w, i32_w];rfl
          refine take_ (i := 3) (N := some 30) (v := ?_) (a' := ?_) #[true, true, true, true, true, true, true, true, false, false, false] rfl rfl (take_ofW HT_.out HW_.out (by kernel_rfl)) (fun _ _ _ h => h) (Or.inl ⟨by rfl, ?_⟩) hHeld ?_ ?_;rotate_left
          ·
           rintro w' ⟨s0, s1⟩
           go_simp;with_reducible rfl
          rotate_left
          ·
           simp only [Act.put, sA, sB, sC, i64_w, i32_w];rfl
          refine take_ (i := 8) (N := some 35) (v := ?_) (a' := ?_) #[true, true, true, true, true, true, true, true, true, false, false] rfl rfl (take_ofW HT_.out HW_.out (by kernel_rfl)) (fun _ _ _ h => h) (Or.inl ⟨by rfl, ?_⟩) hHeld ?_ ?_;rotate_left
          ·
           rintro w' ⟨s0, s1⟩
           go_simp;with_reducible rfl
          rotate_left
          ·
           simp only [Act.put, sA, sB, sC, i64_w, i32_w];rfl
          refine one_ (i := 9) (N := some 36) #[true, true, true, true, true, true, true, true, true, true, false] rfl rfl (one_of HT_.out (by kernel_rfl)) (by decide) (fun K hK => ?_);refine goes_ Try.func29 (by kernel_rfl) rfl #[.slice A425_0 (rd_L2 t415 x6_1).length c425_0, .slice A426_0 (rd_L2 t415 (ji17)).length c426_0] (by rfl) rfl rfl (by (try simp only [List.map_toArray, List.map_cons, List.map_nil]); first | done | (simp only [hji17]; rfl) | rfl | (simp only [List.length_drop, List.length_take]; rfl)) ?_
          with_reducible refine (impl_OrdCompare.calls k1 _ _ (rd_L2 t415 x6_1) _ _ (rd_L2 t415 (ji17)) t427 _ ?side1 ?side2 ?side3 ?side4 A20.out).mono ?_
          (case side1 => exact Kd.cm ((by repeat (first | (with_reducible exact HR425_0.out) | (with_reducible refine Kd.C_alloc ?_ _) | (with_reducible refine Kd.C_drewN ?_ _) | (with_reducible refine Kd.C_drew ?_) | exact HR425_0.out))));(case side2 => exact HC425_0.out);(case side3 => exact Kd.cm ((by repeat (first | (with_reducible exact HR426_0.out) | (with_reducible refine Kd.C_alloc ?_ _) | (with_reducible refine Kd.C_drewN ?_ _) | (with_reducible refine Kd.C_drew ?_) | exact HR426_0.out))));(case side4 => exact HC426_0.out)
          rintro e w25 ⟨rfl, hb⟩
          have HS0_ := (hb.cell (World.block_lt_of_cell? _ _ (hHeld.1))).trans (hHeld.1);have HS1_ := (hb.cell (World.block_lt_of_cell? _ _ (hHeld.2))).trans (hHeld.2);refine ⟨_, rfl, ?_⟩;replace HO_4 := am (Kd.N_below (Kd.nm HO_4.out) hb);replace HO_5 := am (Kd.R_below (Kd.rm HO_5.out) hb);replace HL425_0 := am (Kd.V_below (Kd.vm HL425_0.out) hb);replace HL426_0 := am (Kd.V_below (Kd.vm HL426_0.out) hb);replace HR425_0 := am (Kd.C_below (by repeat (first | (with_reducible exact HR425_0.out) | (with_reducible refine Kd.C_alloc ?_ _) | (with_reducible refine Kd.C_drewN ?_ _) | (with_reducible refine Kd.C_drew ?_) | exact HR425_0.out)) hb);replace HR426_0 := am (Kd.C_below (by repeat (first | (with_reducible exact HR426_0.out) | (with_reducible refine Kd.C_alloc ?_ _) | (with_reducible refine Kd.C_drewN ?_ _) | (with_reducible refine Kd.C_drew ?_) | exact HR426_0.out)) hb);replace HB := am (below_step (bm HB.out) hb);(try clear hb);refine hK.out _ _ ⟨HS0_, HS1_⟩ (fun hHeld => ?_);clear hK K;refine norm_ (a' := ?_) ?_ ?_;rotate_left
          ·
           show Act.put _ (some 36) _ = _
           simp only [Act.put, sA, sB, sC, i64_w, i32_w];rfl
          refine pure_ (i := 10) (N := some 37) (v := ?_) (a' := ?_) #[true, true, true, true, true, true, true, true, true, true, true] rfl rfl (any_of HT_.out (by kernel_rfl)) (fun _ _ _ h => h) (Or.inl ⟨by rfl, ?_⟩) ?_ ?_;rotate_left
          ·
           intro w';go_simp;with_reducible rfl
          rotate_left
          ·
           simp only [Act.put, sA, sB, sC, i64_w, i32_w];rfl
          refine done_ (done_of HT_.out (by kernel_rfl)) ?_;(try go_wp2);go_ret;exact ⟨by first | rfl | (simp [errW_none, errW_some] <;> rfl) | (simp only [← hji17]; first | rfl | (simp [errW_none, errW_some] <;> rfl)) | (simp [*, errW_none, errW_some] <;> rfl), bm HB.out⟩
        ·
         rw [if_neg c19] at H;exact absurd H (by simp)
       ·
        rw [if_neg c18] at H;exact absurd H (by simp)
      ·
       rw [if_neg c16] at H;exact absurd H (by simp)
     ·
      rw [if_neg c15] at H;have c15b0 : decide (x6_1 < (t415.length : Int)) = false := decide_eq_false c15;clear c15;by_cases c26 : (t415.length : Int) ≤ (t422.length : Int)
      ·
       rw [if_pos c26] at H;have c26b0 : decide ((t415.length : Int) ≤ (t422.length : Int)) = true := decide_eq_true c26;have c26b1 : decide (t415.length ≤ t422.length) = true := decide_eq_true (Int.ofNat_le.mp c26);clear c26;by_cases c27 : (t415.length : Int) = 0
       ·
        rw [if_pos c27] at H;have c27b0 : ((t415.length : Int) == 0) = true := beq_iff_eq.mpr c27;have c27b1 : ((t415.length : Int) != 0) = false := bne_eq_false_iff_eq.mpr c27;clear c27;replace H := oE H;obtain ⟨t428, A28, H⟩ := H;replace H : (some t428) = some r := H;replace A28 := am A28;obtain rfl := Option.some.inj H;(try go_wp2);replace HO_4 := am (Kd.N_drew HO_4.out);replace HO_5 := am (Kd.R_drew HO_5.out);replace HB := am (below_drew1 HB.out);obtain ⟨Ao30, co30, eo30⟩ := Kd.R_slice HO_5.out
        (first | subst eo30 | (injection eo30 with f1_ f2_ f3_; have f4_ := f1_.symm; have f5_ := f3_.symm; clear f1_ f2_ f3_; subst f4_; subst f5_))
        refine start_ (n := 22) (S := fun w' => True) (ds := []) #[false, false, false, false, false, false, false, false, false, false, false, false, false, false, false, false, false, false, false, false, false, false] (by kernel_rfl) rfl rfl trivial (fun hHeld => ?_); refine with_tabW laws_FnGoodsteinOrds.tab13 laws_FnGoodsteinOrds.bits13 (fun HT_ HW_ => ?_);generalize wr.drew = w29 at HO_4 HO_5 HB hHeld ⊢;refine pure_ (i := 0) (N := some 38) (v := ?_) (a' := ?_) #[true, false, false, false, false, false, false, false, false, false, false, false, false, false, false, false, false, false, false, false, false, false] rfl rfl (any_of HT_.out (by kernel_rfl)) (fun _ _ _ h => h) (Or.inl ⟨by rfl, ?_⟩) ?_ ?_;rotate_left
        ·
         intro w';go_simp;with_reducible rfl
        rotate_left
        ·
         simp only [Act.put, sA, sB, sC, i64_w, i32_w];rfl
        refine pure_ (i := 1) (N := some 39) (v := ?_) (a' := ?_) #[true, true, false, false, false, false, false, false, false, false, false, false, false, false, false, false, false, false, false, false, false, false] rfl rfl (any_of HT_.out (by kernel_rfl)) (fun _ _ _ h => h) (Or.inl ⟨by rfl, ?_⟩) ?_ ?_;rotate_left
        ·
         intro w';go_simp;with_reducible rfl
        rotate_left
        ·
         simp only [Act.put, sA, sB, sC, i64_w, i32_w];rfl
        refine pure_ (i := 2) (N := some 40) (v := ?_) (a' := ?_) #[true, true, true, false, false, false, false, false, false, false, false, false, false, false, false, false, false, false, false, false, false, false] rfl rfl (any_of HT_.out (by kernel_rfl)) (fun _ _ _ h => h) (Or.inl ⟨by rfl, ?_⟩) ?_ ?_;rotate_left
        ·
         intro w';go_simp;with_reducible rfl
        rotate_left
        ·
         simp only [Act.put, sA, sB, sC, i64_w, i32_w];rfl
        refine pure_ (i := 3) (N := some 41) (v := ?_) (a' := ?_) #[true, true, true, true, false, false, false, false, false, false, false, false, false, false, false, false, false, false, false, false, false, false] rfl rfl (any_of HT_.out (by kernel_rfl)) (fun _ _ _ h => h) (Or.inl ⟨by rfl, ?_⟩) ?_ ?_;rotate_left
        ·
         intro w';go_simp;with_reducible rfl
        rotate_left
        ·
         simp only [Act.put, sA, sB, sC, i64_w, i32_w];rfl
        refine pure_ (i := 4) (N := some 42) (v := ?_) (a' := ?_) #[true, true, true, true, true, false, false, false, false, false, false, false, false, false, false, false, false, false, false, false, false, false] rfl rfl (any_of HT_.out (by kernel_rfl)) (fun _ _ _ h => h) (Or.inl ⟨by rfl, ?_⟩) ?_ ?_;rotate_left
        ·
         intro w';go_simp;with_reducible rfl
        rotate_left
        ·
         simp only [Act.put, sA, sB, sC, i64_w, i32_w];rfl
        refine pure_ (i := 5) (N := some 43) (v := ?_) (a' := ?_) #[true, true, true, true, true, true, false, false, false, false, false, false, false, false, false, false, false, false, false, false, false, false] rfl rfl (any_of HT_.out (by kernel_rfl)) (fun _ _ _ h => h) (Or.inl ⟨by rfl, ?_⟩) ?_ ?_;rotate_left
        ·
         intro w';go_simp;with_reducible rfl
        rotate_left
        ·
         simp only [Act.put, sA, sB, sC, i64_w, i32_w];rfl
        refine pure_ (i := 6) (N := some 44) (v := ?_) (a' := ?_) #[true, true, true, true, true, true, true, false, false, false, false, false, false, false, false, false, false, false, false, false, false, false] rfl rfl (any_of HT_.out (by kernel_rfl)) (fun _ _ _ h => h) (Or.inl ⟨by rfl, ?_⟩) ?_ ?_;rotate_left
        ·
         intro w';go_simp;with_reducible rfl
        rotate_left
        ·
         simp only [Act.put, sA, sB, sC, i64_w, i32_w];rfl
        refine pure_ (i := 7) (N := some 45) (v := ?_) (a' := ?_) #[true, true, true, true, true, true, true, true, false, false, false, false, false, false, false, false, false, false, false, false, false, false] rfl rfl (any_of HT_.out (by kernel_rfl)) (fun _ _ _ h => h) (Or.inl ⟨by rfl, ?_⟩) ?_ ?_;rotate_left
        ·
         intro w';go_simp;with_reducible rfl
        rotate_left
        ·
         simp only [Act.put, sA, sB, sC, i64_w, i32_w];rfl
        refine pure_ (i := 8) (N := some 46) (v := ?_) (a' := ?_) #[true, true, true, true, true, true, true, true, true, false, false, false, false, false, false, false, false, false, false, false, false, false] rfl rfl (any_of HT_.out (by kernel_rfl)) (fun _ _ _ h => h) (Or.inl ⟨by rfl, ?_⟩) ?_ ?_;rotate_left
        ·
         intro w';go_simp;with_reducible rfl
        rotate_left
        ·
         simp only [Act.put, sA, sB, sC, i64_w, i32_w];rfl
        refine pure_ (i := 9) (N := some 47) (v := ?_) (a' := ?_) #[true, true, true, true, true, true, true, true, true, true, false, false, false, false, false, false, false, false, false, false, false, false] rfl rfl (any_of HT_.out (by kernel_rfl)) (fun _ _ _ h => h) (Or.inl ⟨by rfl, ?_⟩) ?_ ?_;rotate_left
        ·
         intro w';go_simp;with_reducible rfl
        rotate_left
        ·
         simp only [Act.put, sA, sB, sC, i64_w, i32_w];rfl
        refine pure_ (i := 10) (N := some 48) (v := undef) (a' := ?_) #[true, true, true, true, true, true, true, true, true, true, true, false, false, false, false, false, false, false, false, false, false, false] rfl rfl (any_of HT_.out (by kernel_rfl)) (fun _ _ _ h => h) (Or.inr ⟨by rfl, rfl⟩) ?_ ?_;rotate_left
        ·
         simp only [Act.put, sA, sB, sC, i64_w, i32_w];rfl
        refine pure_ (i := 11) (N := some 49) (v := undef) (a' := ?_) #[true, true, true, true, true, true, true, true, true, true, true, true, false, false, false, false, false, false, false, false, false, false] rfl rfl (any_of HT_.out (by kernel_rfl)) (fun _ _ _ h => h) (Or.inr ⟨by rfl, rfl⟩) ?_ ?_;rotate_left
        ·
         simp only [Act.put, sA, sB, sC, i64_w, i32_w];rfl
        refine pure_ (i := 12) (N := some 50) (v := undef) (a' := ?_) #[true, true, true, true, true, true, true, true, true, true, true, true, true, false, false, false, false, false, false, false, false, false] rfl rfl (any_of HT_.out (by kernel_rfl)) (fun _ _ _ h => h) (Or.inr ⟨by rfl, rfl⟩) ?_ ?_;rotate_left
        ·
         simp only [Act.put, sA, sB, sC, i64_w, i32_w];rfl
        refine pure_ (i := 13) (N := some 51) (v := undef) (a' := ?_) #[true, true, true, true, true, true, true, true, true, true, true, true, true, true, false, false, false, false, false, false, false, false] rfl rfl (any_of HT_.out (by kernel_rfl)) (fun _ _ _ h => h) (Or.inr ⟨by rfl, rfl⟩) ?_ ?_;rotate_left
        ·
         simp only [Act.put, sA, sB, sC, i64_w, i32_w];rfl
        refine pure_ (i := 14) (N := some 52) (v := undef) (a' := ?_) #[true, true, true, true, true, true, true, true, true, true, true, true, true, true, true, false, false, false, false, false, false, false] rfl rfl (any_of HT_.out (by kernel_rfl)) (fun _ _ _ h => h) (Or.inr ⟨by rfl, rfl⟩) ?_ ?_;rotate_left
        ·
         simp only [Act.put, sA, sB, sC, i64_w, i32_w];rfl
        refine pure_ (i := 15) (N := some 53) (v := undef) (a' := ?_) #[true, true, true, true, true, true, true, true, true, true, true, true, true, true, true, true, false, false, false, false, false, false] rfl rfl (any_of HT_.out (by kernel_rfl)) (fun _ _ _ h => h) (Or.inr ⟨by rfl, rfl⟩) ?_ ?_;rotate_left
        ·
         simp only [Act.put, sA, sB, sC, i64_w, i32_w];rfl
        refine pure_ (i := 16) (N := some 54) (v := ?_) (a' := ?_) #[true, true, true, true, true, true, true, true, true, true, true, true, true, true, true, true, true, false, false, false, false, false] rfl rfl (any_of HT_.out (by kernel_rfl)) (fun _ _ _ h => h) (Or.inl ⟨by rfl, ?_⟩) ?_ ?_;rotate_left
        ·
         intro w';go_simp;with_reducible rfl
        rotate_left
        ·
         simp only [Act.put, sA, sB, sC, i64_w, i32_w];rfl
        refine pure_ (i := 17) (N := some 55) (v := ?_) (a' := ?_) #[true, true, true, true, true, true, true, true, true, true, true, true, true, true, true, true, true, true, false, false, false, false] rfl rfl (any_of HT_.out (by kernel_rfl)) (fun _ _ _ h => h) (Or.inl ⟨by rfl, ?_⟩) ?_ ?_;rotate_left
        ·
         intro w';go_simp;with_reducible rfl
        rotate_left
        ·
         simp only [Act.put, sA, sB, sC, i64_w, i32_w];rfl
        refine pure_ (i := 18) (N := some 56) (v := ?_) (a' := ?_) #[true, true, true, true, true, true, true, true, true, true, true, true, true, true, true, true, true, true, true, false, false, false] rfl rfl (any_of HT_.out (by kernel_rfl)) (fun _ _ _ h => h) (Or.inl ⟨by rfl, ?_⟩) ?_ ?_;rotate_left
        ·
         intro w';go_simp;with_reducible rfl
        rotate_left
        ·
         simp only [Act.put, sA, sB, sC, i64_w, i32_w];rfl
        refine one_ (i := 19) (N := some 57) #[true, true, true, true, true, true, true, true, true, true, true, true, true, true, true, true, true, true, true, true, false, false] rfl rfl (one_of HT_.out (by kernel_rfl)) (by decide) (fun K hK => ?_);refine goes_ Try.func12 (by kernel_rfl) rfl #[] (by rfl) rfl rfl (by (try simp only [mA, mB, mC]); first | done | rfl) ?_
        with_reducible refine (laws_alive.calls k1  t428 _ A28.out).mono ?_
        rintro e w31 ⟨rfl, hb⟩
        refine ⟨_, rfl, ?_⟩;replace HO_4 := am (Kd.N_below (Kd.nm HO_4.out) hb);replace HO_5 := am (Kd.R_below (Kd.rm HO_5.out) hb);replace HB := am (below_step (bm HB.out) hb);(try clear hb);refine hK.out _ _ trivial (fun hHeld => ?_);clear hK K;refine norm_ (a' := ?_) ?_ ?_;rotate_left
        ·
         show Act.put _ (some 57) _ = _
         simp only [Act.put, sA, sB, sC, i64_w, i32_w];rfl
        refine pure_ (i := 20) (N := some 58) (v := ?_) (a' := ?_) #[true, true, true, true, true, true, true, true, true, true, true, true, true, true, true, true, true, true, true, true, true, false] rfl rfl (any_of HT_.out (by kernel_rfl)) (fun _ _ _ h => h) (Or.inl ⟨by rfl, ?_⟩) ?_ ?_;rotate_left
        ·
         intro w';go_simp;with_reducible rfl
        rotate_left
        ·
         simp only [Act.put, sA, sB, sC, i64_w, i32_w];rfl
        refine pure_ (i := 21) (N := some 2) (v := ?_) (a' := ?_) #[true, true, true, true, true, true, true, true, true, true, true, true, true, true, true, true, true, true, true, true, true, true] rfl rfl (any_of HT_.out (by kernel_rfl)) (fun _ _ _ h => h) (Or.inl ⟨by rfl, ?_⟩) ?_ ?_;rotate_left
        ·
         intro w';go_simp;with_reducible rfl
        rotate_left
        ·
         simp only [Act.put, sA, sB, sC, i64_w, i32_w];rfl
        refine done_ (done_of HT_.out (by kernel_rfl)) ?_;(try go_wp2);go_ret;exact ⟨by first | rfl | (simp [errW_none, errW_some] <;> rfl) | (simp [*, errW_none, errW_some] <;> rfl), bm HB.out⟩
       ·
        rw [if_neg c27] at H;have c27b0 : ((t415.length : Int) == 0) = false := beq_eq_false_iff_ne.mpr c27;have c27b1 : ((t415.length : Int) != 0) = true := bne_iff_ne.mpr c27
        have c27b2 : ¬ (t415 = []) := fun h_ => c27 (by rw [h_]; rfl)
        by_cases c32 : 0 < (t415.length : Int)
        ·
         rw [if_pos c32] at H;have c32b0 : decide (0 < (t415.length : Int)) = true := decide_eq_true c32;have c32b1 : decide (0 < t415.length) = true := decide_eq_true (by omega);clear c32;replace H := oE H;obtain ⟨t430, A33, H⟩ := H;replace H : ((laws_sameInts.f k1 (rd_L2 t415 0) t430).bind fun t433 => (if t433 = true then ((laws_alive.f k1).bind fun t434 => (some t434)) else (some false))) = some r := H;replace A33 := am A33;replace H := oE H;obtain ⟨t433, A34, H⟩ := H;replace H : (if t433 = true then ((laws_alive.f k1).bind fun t434 => (some t434)) else (some false)) = some r := H;replace A34 := am A34;by_cases c35 : t433 = true
         ·
          subst c35
          have H1 : ((laws_alive.f k1).bind fun t434 => (some t434)) = some r := by rw [if_pos rfl] at H; exact H
          clear H;have H := H1;clear H1;replace H := oE H;obtain ⟨t434, A36, H⟩ := H;replace H : (some t434) = some r := H;replace A36 := am A36;obtain rfl := Option.some.inj H;(try go_wp2);replace HO_4 := am (Kd.N_drew HO_4.out);replace HO_5 := am (Kd.R_drew HO_5.out);replace HB := am (below_drew1 HB.out);obtain ⟨Ao38, co38, eo38⟩ := Kd.R_slice HO_5.out
          (first | subst eo38 | (injection eo38 with f1_ f2_ f3_; have f4_ := f1_.symm; have f5_ := f3_.symm; clear f1_ f2_ f3_; subst f4_; subst f5_))
          have p429 : 0 ≤ (0 : Int) := (by omega);have q429 : 0 < (t415.length : Int) := of_decide_eq_true (by assumption);obtain ⟨ad429, A429_0, c429_0, e429, hx429_0, hl429_0, hi429_0⟩ := at_L2 (Kd.N_reads' HO_4.out).2.2 0 p429 q429;cases e429
          obtain ⟨ce429, hce429, hMe429, hcc429⟩ := Kd.N_get HO_4.out [] 0 p429 (by first | exact q429 | exact of_decide_eq_true (by assumption) | (have e_ := (Kd.N_reads' HO_4.out).1; omega));obtain ⟨ua429_0, uc429_0, rfl, ul429_0, ge429_0⟩ := Kd.FK_slice_open hMe429;have hv429_0 := hcc429 0 _ rfl;rw [Nat.add_zero, show ((Kd.slice 3 (Kd.int .i64))).sz = 1 from rfl, Nat.mul_one] at hv429_0;replace hv429_0 := Option.some.inj (hv429_0.symm.trans hx429_0)
          injection hv429_0 with hva_ hvn_ hvc_
          rw [hva_] at ge429_0;rw [hvc_] at ul429_0;have HL429_0 := am (show Kd.V (Kd.int .i64) 3 _ w.heap.size _ _ (rd_L2 t415 0) from Kd.V_mk ul429_0 ge429_0);clear hva_ hvn_ hvc_ ge429_0 ul429_0;clear hcc429 hce429;have qi429 : (0 < t415.length) = True := eq_true (by omega);(try rw [show ((0 : Int)).toNat = 0 from rfl] at hx429_0);(try rw [Addr.add_zero'] at hx429_0);have HR429_0 := am hi429_0;have HC429_0 := am hl429_0;clear hi429_0 hl429_0;replace p429 := eq_true p429;replace q429 := eq_true q429;refine start_ (n := 22) (S := fun w' => w'.cell? ad429 = some (.slice A429_0 (rd_L2 t415 0).length c429_0)) (ds := []) #[false, false, false, false, false, false, false, false, false, false, false, false, false, false, false, false, false, false, false, false, false, false] (by kernel_rfl) rfl rfl (hx429_0) (fun hHeld => ?_); refine with_tabW laws_FnGoodsteinOrds.tab13 laws_FnGoodsteinOrds.bits13 (fun HT_ HW_ => ?_);generalize wr.drew = w37 at HO_4 HO_5 HB HL429_0 HR429_0 hx429_0 hHeld ⊢;refine pure_ (i := 0) (N := some 38) (v := ?_) (a' := ?_) #[true, false, false, false, false, false, false, false, false, false, false, false, false, false, false, false, false, false, false, false, false, false] rfl rfl (any_of HT_.out (by kernel_rfl)) (fun _ _ _ h => h) (Or.inl ⟨by rfl, ?_⟩) ?_ ?_;rotate_left
          ·
           intro w';go_simp;with_reducible rfl
          rotate_left
          ·
           simp only [Act.put, sA, sB, sC, i64_w, i32_w];rfl
          refine pure_ (i := 1) (N := some 39) (v := ?_) (a' := ?_) #[true, true, false, false, false, false, false, false, false, false, false, false, false, false, false, false, false, false, false, false, false, false] rfl rfl (any_of HT_.out (by kernel_rfl)) (fun _ _ _ h => h) (Or.inl ⟨by rfl, ?_⟩) ?_ ?_;rotate_left
          ·
           intro w';go_simp;with_reducible rfl
          rotate_left
          ·
           simp only [Act.put, sA, sB, sC, i64_w, i32_w];rfl
          refine pure_ (i := 2) (N := some 40) (v := ?_) (a' := ?_) #[true, true, true, false, false, false, false, false, false, false, false, false, false, false, false, false, false, false, false, false, false, false] rfl rfl (any_of HT_.out (by kernel_rfl)) (fun _ _ _ h => h) (Or.inl ⟨by rfl, ?_⟩) ?_ ?_;rotate_left
          ·
           intro w';go_simp;with_reducible rfl
          rotate_left
          ·
           simp only [Act.put, sA, sB, sC, i64_w, i32_w];rfl
          refine pure_ (i := 3) (N := some 41) (v := ?_) (a' := ?_) #[true, true, true, true, false, false, false, false, false, false, false, false, false, false, false, false, false, false, false, false, false, false] rfl rfl (any_of HT_.out (by kernel_rfl)) (fun _ _ _ h => h) (Or.inl ⟨by rfl, ?_⟩) ?_ ?_;rotate_left
          ·
           intro w';go_simp;with_reducible rfl
          rotate_left
          ·
           simp only [Act.put, sA, sB, sC, i64_w, i32_w];rfl
          refine pure_ (i := 4) (N := some 42) (v := ?_) (a' := ?_) #[true, true, true, true, true, false, false, false, false, false, false, false, false, false, false, false, false, false, false, false, false, false] rfl rfl (any_of HT_.out (by kernel_rfl)) (fun _ _ _ h => h) (Or.inl ⟨by rfl, ?_⟩) ?_ ?_;rotate_left
          ·
           intro w';go_simp;with_reducible rfl
          rotate_left
          ·
           simp only [Act.put, sA, sB, sC, i64_w, i32_w];rfl
          refine pure_ (i := 5) (N := some 43) (v := ?_) (a' := ?_) #[true, true, true, true, true, true, false, false, false, false, false, false, false, false, false, false, false, false, false, false, false, false] rfl rfl (any_of HT_.out (by kernel_rfl)) (fun _ _ _ h => h) (Or.inl ⟨by rfl, ?_⟩) ?_ ?_;rotate_left
          ·
           intro w';go_simp;with_reducible rfl
          rotate_left
          ·
           simp only [Act.put, sA, sB, sC, i64_w, i32_w];rfl
          refine pure_ (i := 6) (N := some 44) (v := ?_) (a' := ?_) #[true, true, true, true, true, true, true, false, false, false, false, false, false, false, false, false, false, false, false, false, false, false] rfl rfl (any_of HT_.out (by kernel_rfl)) (fun _ _ _ h => h) (Or.inl ⟨by rfl, ?_⟩) ?_ ?_;rotate_left
          ·
           intro w';go_simp;with_reducible rfl
          rotate_left
          ·
           simp only [Act.put, sA, sB, sC, i64_w, i32_w];rfl
          refine pure_ (i := 7) (N := some 45) (v := ?_) (a' := ?_) #[true, true, true, true, true, true, true, true, false, false, false, false, false, false, false, false, false, false, false, false, false, false] rfl rfl (any_of HT_.out (by kernel_rfl)) (fun _ _ _ h => h) (Or.inl ⟨by rfl, ?_⟩) ?_ ?_;rotate_left
          ·
           intro w';go_simp;with_reducible rfl
          rotate_left
          ·
           simp only [Act.put, sA, sB, sC, i64_w, i32_w];rfl
          refine pure_ (i := 8) (N := some 46) (v := ?_) (a' := ?_) #[true, true, true, true, true, true, true, true, true, false, false, false, false, false, false, false, false, false, false, false, false, false] rfl rfl (any_of HT_.out (by kernel_rfl)) (fun _ _ _ h => h) (Or.inl ⟨by rfl, ?_⟩) ?_ ?_;rotate_left
          ·
           intro w';go_simp;with_reducible rfl
          rotate_left
          ·
           simp only [Act.put, sA, sB, sC, i64_w, i32_w];rfl
          refine pure_ (i := 9) (N := some 47) (v := ?_) (a' := ?_) #[true, true, true, true, true, true, true, true, true, true, false, false, false, false, false, false, false, false, false, false, false, false] rfl rfl (any_of HT_.out (by kernel_rfl)) (fun _ _ _ h => h) (Or.inl ⟨by rfl, ?_⟩) ?_ ?_;rotate_left
          ·
           intro w';go_simp;with_reducible rfl
          rotate_left
          ·
           simp only [Act.put, sA, sB, sC, i64_w, i32_w];rfl
          refine pure_ (i := 10) (N := some 48) (v := ?_) (a' := ?_) #[true, true, true, true, true, true, true, true, true, true, true, false, false, false, false, false, false, false, false, false, false, false] rfl rfl (any_of HT_.out (by kernel_rfl)) (fun _ _ _ h => h) (Or.inl ⟨by rfl, ?_⟩) ?_ ?_;rotate_left
          ·
           intro w';go_simp;with_reducible rfl
          rotate_left
          ·
           simp only [Act.put, sA, sB, sC, i64_w, i32_w];rfl
          refine pure_ (i := 11) (N := some 49) (v := ?_) (a' := ?_) #[true, true, true, true, true, true, true, true, true, true, true, true, false, false, false, false, false, false, false, false, false, false] rfl rfl (any_of HT_.out (by kernel_rfl)) (fun _ _ _ h => h) (Or.inl ⟨by rfl, ?_⟩) ?_ ?_;rotate_left
          ·
           intro w';go_simp;with_reducible rfl
          rotate_left
          ·
           simp only [Act.put, sA, sB, sC, i64_w, i32_w];rfl
          refine pure_ (i := 13) (N := some 51) (v := ?_) (a' := ?_) #[true, true, true, true, true, true, true, true, true, true, true, true, false, true, false, false, false, false, false, false, false, false] rfl rfl (any_of HT_.out (by kernel_rfl)) (fun _ _ _ h => h) (Or.inl ⟨by rfl, ?_⟩) ?_ ?_;rotate_left
          ·
           intro w';go_simp;with_reducible rfl
          rotate_left
          ·
           simp only [Act.put, sA, sB, sC, i64_w, i32_w];rfl
          refine take_ (i := 12) (N := some 50) (v := ?_) (a' := ?_) #[true, true, true, true, true, true, true, true, true, true, true, true, true, true, false, false, false, false, false, false, false, false] rfl rfl (take_ofW HT_.out HW_.out (by kernel_rfl)) (fun _ _ _ h => h) (Or.inl ⟨by rfl, ?_⟩) hHeld ?_ ?_;rotate_left
          ·
           intro w' s0;go_simp;with_reducible rfl
          rotate_left
          ·
           simp only [Act.put, sA, sB, sC, i64_w, i32_w];rfl
          refine one_ (i := 14) (N := some 52) #[true, true, true, true, true, true, true, true, true, true, true, true, true, true, true, false, false, false, false, false, false, false] rfl rfl (one_of HT_.out (by kernel_rfl)) (by decide) (fun K hK => ?_);refine goes_ Try.func18 (by kernel_rfl) rfl #[.int .i64 t414, .int .i64 2] (by rfl) rfl rfl (by (try simp only [mA, mB, mC]); first | done | rfl) ?_
          with_reducible refine (impl_OrdInBase.calls k1 t414 2 t430 _ A33.out).mono ?_
          rintro e w39 ⟨v431, rfl, ⟨ho0, _⟩, hb⟩
          have HS0_ := (hb.cell (World.block_lt_of_cell? _ _ (hHeld))).trans (hHeld);refine ⟨_, rfl, ?_⟩;replace HO_4 := am (Kd.N_elder' (Kd.nm HO_4.out) (Kd.Y_base ho0) hb);replace HL429_0 := am (Kd.V_elder' (Kd.vm HL429_0.out) (Kd.Y_base ho0) hb);have HO432 := am (Kd.Y_lower (Kd.Y_new' ho0 (Kd.R_lt (Kd.rm HO_5.out))) (below_size (bm HB.out)));replace HO_5 := am (Kd.R_elder' (Kd.rm HO_5.out) (Kd.Y_base ho0) hb);replace HR429_0 := am (Kd.C_below (by repeat (first | (with_reducible exact HR429_0.out) | (with_reducible refine Kd.C_alloc ?_ _) | (with_reducible refine Kd.C_drewN ?_ _) | (with_reducible refine Kd.C_drew ?_) | exact HR429_0.out)) hb);replace HB := am (below_step (bm HB.out) hb);(try clear hb);(try clear ho0);obtain ⟨Ao40, co40, eo40, _⟩ := Kd.Y_slice HO432.out
          (first | subst eo40 | (injection eo40 with f1_ f2_ f3_; have f4_ := f1_.symm; have f5_ := f3_.symm; clear f1_ f2_ f3_; subst f4_; subst f5_))
          refine hK.out _ _ (HS0_) (fun hHeld => ?_);clear hK K;refine norm_ (a' := ?_) ?_ ?_;rotate_left
          ·
           show Act.put _ (some 52) _ = _
           simp only [Act.put, sA, sB, sC, i64_w, i32_w];rfl
          refine one_ (i := 15) (N := some 53) #[true, true, true, true, true, true, true, true, true, true, true, true, true, true, true, true, false, false, false, false, false, false] rfl rfl (one_of HT_.out (by kernel_rfl)) (by decide) (fun K hK => ?_);refine goes_ Try.func17 (by kernel_rfl) rfl #[.slice A429_0 (rd_L2 t415 0).length c429_0, .slice Ao40 t430.length co40] (by rfl) rfl rfl (by (try simp only [mA, mB, mC]); first | done | rfl) ?_
          with_reducible refine (laws_sameInts.calls k1 _ _ (rd_L2 t415 0) _ _ t430 true _ ?side1 ?side2 ?side3 ?side4 A34.out).mono ?_
          (case side1 => exact Kd.cm ((by repeat (first | (with_reducible exact HR429_0.out) | (with_reducible refine Kd.C_alloc ?_ _) | (with_reducible refine Kd.C_drewN ?_ _) | (with_reducible refine Kd.C_drew ?_) | exact HR429_0.out))));(case side2 => exact HC429_0.out);(case side3 => exact Kd.cm ((Kd.Y_reads' HO432.out).2.2));(case side4 => exact (Kd.Y_reads' HO432.out).2.1)
          rintro e w' ⟨rfl, ⟨nd, rfl⟩⟩
          refine ⟨_, rfl, ?_⟩;refine hK.out _ _ (hHeld) (fun hHeld => ?_);clear hK K;refine norm_ (a' := ?_) ?_ ?_;rotate_left
          ·
           show Act.put _ (some 53) _ = _
           simp only [Act.put, sA, sB, sC, i64_w, i32_w];rfl
          refine pure_ (i := 16) (N := some 54) (v := ?_) (a' := ?_) #[true, true, true, true, true, true, true, true, true, true, true, true, true, true, true, true, true, false, false, false, false, false] rfl rfl (any_of HT_.out (by kernel_rfl)) (fun _ _ _ h => h) (Or.inl ⟨by rfl, ?_⟩) ?_ ?_;rotate_left
          ·
           intro w';go_simp;with_reducible rfl
          rotate_left
          ·
           simp only [Act.put, sA, sB, sC, i64_w, i32_w];rfl
          refine pure_ (i := 17) (N := some 55) (v := ?_) (a' := ?_) #[true, true, true, true, true, true, true, true, true, true, true, true, true, true, true, true, true, true, false, false, false, false] rfl rfl (any_of HT_.out (by kernel_rfl)) (fun _ _ _ h => h) (Or.inl ⟨by rfl, ?_⟩) ?_ ?_;rotate_left
          ·
           intro w';go_simp;with_reducible rfl
          rotate_left
          ·
           simp only [Act.put, sA, sB, sC, i64_w, i32_w];rfl
          refine pure_ (i := 18) (N := some 56) (v := ?_) (a' := ?_) #[true, true, true, true, true, true, true, true, true, true, true, true, true, true, true, true, true, true, true, false, false, false] rfl rfl (any_of HT_.out (by kernel_rfl)) (fun _ _ _ h => h) (Or.inl ⟨by rfl, ?_⟩) ?_ ?_;rotate_left
          ·
           intro w';go_simp;with_reducible rfl
          rotate_left
          ·
           simp only [Act.put, sA, sB, sC, i64_w, i32_w];rfl
          refine one_ (i := 19) (N := some 57) #[true, true, true, true, true, true, true, true, true, true, true, true, true, true, true, true, true, true, true, true, false, false] rfl rfl (one_of HT_.out (by kernel_rfl)) (by decide) (fun K hK => ?_);refine goes_ Try.func12 (by kernel_rfl) rfl #[] (by rfl) rfl rfl (by (try simp only [mA, mB, mC]); first | done | rfl) ?_
          with_reducible refine (laws_alive.calls k1  t434 _ A36.out).mono ?_
          rintro e w41 ⟨rfl, hb⟩
          have HS0_ := (hb.cell (World.block_lt_of_cell? _ _ (hHeld))).trans (hHeld);refine ⟨_, rfl, ?_⟩;replace HO_4 := am (Kd.N_below (Kd.nm HO_4.out) hb);replace HO_5 := am (Kd.R_below (Kd.rm HO_5.out) hb);replace HL429_0 := am (Kd.V_below (Kd.vm HL429_0.out) hb);replace HO432 := am (Kd.Y_below (Kd.ym HO432.out) hb);replace HR429_0 := am (Kd.C_below (by repeat (first | (with_reducible exact HR429_0.out) | (with_reducible refine Kd.C_alloc ?_ _) | (with_reducible refine Kd.C_drewN ?_ _) | (with_reducible refine Kd.C_drew ?_) | exact HR429_0.out)) hb);replace HB := am (below_step (bm HB.out) hb);(try clear hb);refine hK.out _ _ (HS0_) (fun hHeld => ?_);clear hK K;refine norm_ (a' := ?_) ?_ ?_;rotate_left
          ·
           show Act.put _ (some 57) _ = _
           simp only [Act.put, sA, sB, sC, i64_w, i32_w];rfl
          refine pure_ (i := 20) (N := some 58) (v := ?_) (a' := ?_) #[true, true, true, true, true, true, true, true, true, true, true, true, true, true, true, true, true, true, true, true, true, false] rfl rfl (any_of HT_.out (by kernel_rfl)) (fun _ _ _ h => h) (Or.inl ⟨by rfl, ?_⟩) ?_ ?_;rotate_left
          ·
           intro w';go_simp;with_reducible rfl
          rotate_left
          ·
           simp only [Act.put, sA, sB, sC, i64_w, i32_w];rfl
          refine pure_ (i := 21) (N := some 2) (v := ?_) (a' := ?_) #[true, true, true, true, true, true, true, true, true, true, true, true, true, true, true, true, true, true, true, true, true, true] rfl rfl (any_of HT_.out (by kernel_rfl)) (fun _ _ _ h => h) (Or.inl ⟨by rfl, ?_⟩) ?_ ?_;rotate_left
          ·
           intro w';go_simp;with_reducible rfl
          rotate_left
          ·
           simp only [Act.put, sA, sB, sC, i64_w, i32_w];rfl
          refine done_ (done_of HT_.out (by kernel_rfl)) ?_;(try go_wp2);go_ret;exact ⟨by first | rfl | (simp [errW_none, errW_some] <;> rfl) | (simp [*, errW_none, errW_some] <;> rfl), bm HB.out⟩
         ·
          replace c35 := Bool.eq_false_iff.mpr c35;subst c35
          have H1 : (some false) = some r := by rw [if_neg (show ¬ (false = true) by decide)] at H; exact H
          clear H;have H := H1;clear H1;obtain rfl := Option.some.inj H;(try go_wp2);replace HO_4 := am (Kd.N_drew HO_4.out);replace HO_5 := am (Kd.R_drew HO_5.out);replace HB := am (below_drew1 HB.out);obtain ⟨Ao43, co43, eo43⟩ := Kd.R_slice HO_5.out
          (first | subst eo43 | (injection eo43 with f1_ f2_ f3_; have f4_ := f1_.symm; have f5_ := f3_.symm; clear f1_ f2_ f3_; subst f4_; subst f5_))
          have p429 : 0 ≤ (0 : Int) := (by omega);have q429 : 0 < (t415.length : Int) := of_decide_eq_true (by assumption);obtain ⟨ad429, A429_0, c429_0, e429, hx429_0, hl429_0, hi429_0⟩ := at_L2 (Kd.N_reads' HO_4.out).2.2 0 p429 q429;cases e429
          obtain ⟨ce429, hce429, hMe429, hcc429⟩ := Kd.N_get HO_4.out [] 0 p429 (by first | exact q429 | exact of_decide_eq_true (by assumption) | (have e_ := (Kd.N_reads' HO_4.out).1; omega));obtain ⟨ua429_0, uc429_0, rfl, ul429_0, ge429_0⟩ := Kd.FK_slice_open hMe429;have hv429_0 := hcc429 0 _ rfl;rw [Nat.add_zero, show ((Kd.slice 3 (Kd.int .i64))).sz = 1 from rfl, Nat.mul_one] at hv429_0;replace hv429_0 := Option.some.inj (hv429_0.symm.trans hx429_0)
          injection hv429_0 with hva_ hvn_ hvc_
          rw [hva_] at ge429_0;rw [hvc_] at ul429_0;have HL429_0 := am (show Kd.V (Kd.int .i64) 3 _ w.heap.size _ _ (rd_L2 t415 0) from Kd.V_mk ul429_0 ge429_0);clear hva_ hvn_ hvc_ ge429_0 ul429_0;clear hcc429 hce429;have qi429 : (0 < t415.length) = True := eq_true (by omega);(try rw [show ((0 : Int)).toNat = 0 from rfl] at hx429_0);(try rw [Addr.add_zero'] at hx429_0);have HR429_0 := am hi429_0;have HC429_0 := am hl429_0;clear hi429_0 hl429_0;replace p429 := eq_true p429;replace q429 := eq_true q429;refine start_ (n := 22) (S := fun w' => w'.cell? ad429 = some (.slice A429_0 (rd_L2 t415 0).length c429_0)) (ds := []) #[false, false, false, false, false, false, false, false, false, false, false, false, false, false, false, false, false, false, false, false, false, false] (by kernel_rfl) rfl rfl (hx429_0) (fun hHeld => ?_); refine with_tabW laws_FnGoodsteinOrds.tab13 laws_FnGoodsteinOrds.bits13 (fun HT_ HW_ => ?_);generalize wr.drew = w42 at HO_4 HO_5 HB HL429_0 HR429_0 hx429_0 hHeld ⊢;refine pure_ (i := 0) (N := some 38) (v := ?_) (a' := ?_) #[true, false, false, false, false, false, false, false, false, false, false, false, false, false, false, false, false, false, false, false, false, false] rfl rfl (any_of HT_.out (by kernel_rfl)) (fun _ _ _ h => h) (Or.inl ⟨by rfl, ?_⟩) ?_ ?_;rotate_left
          ·
           intro w';go_simp;with_reducible rfl
          rotate_left
          ·
           simp only [Act.put, sA, sB, sC, i64_w, i32_w];rfl
          refine pure_ (i := 1) (N := some 39) (v := ?_) (a' := ?_) #[true, true, false, false, false, false, false, false, false, false, false, false, false, false, false, false, false, false, false, false, false, false] rfl rfl (any_of HT_.out (by kernel_rfl)) (fun _ _ _ h => h) (Or.inl ⟨by rfl, ?_⟩) ?_ ?_;rotate_left
          ·
           intro w';go_simp;with_reducible rfl
          rotate_left
          ·
           simp only [Act.put, sA, sB, sC, i64_w, i32_w];rfl
          refine pure_ (i := 2) (N := some 40) (v := ?_) (a' := ?_) #[true, true, true, false, false, false, false, false, false, false, false, false, false, false, false, false, false, false, false, false, false, false] rfl rfl (any_of HT_.out (by kernel_rfl)) (fun _ _ _ h => h) (Or.inl ⟨by rfl, ?_⟩) ?_ ?_;rotate_left
          ·
           intro w';go_simp;with_reducible rfl
          rotate_left
          ·
           simp only [Act.put, sA, sB, sC, i64_w, i32_w];rfl
          refine pure_ (i := 3) (N := some 41) (v := ?_) (a' := ?_) #[true, true, true, true, false, false, false, false, false, false, false, false, false, false, false, false, false, false, false, false, false, false] rfl rfl (any_of HT_.out (by kernel_rfl)) (fun _ _ _ h => h) (Or.inl ⟨by rfl, ?_⟩) ?_ ?_;rotate_left
          ·
           intro w';go_simp;with_reducible rfl
          rotate_left
          ·
           simp only [Act.put, sA, sB, sC, i64_w, i32_w];rfl
          refine pure_ (i := 4) (N := some 42) (v := ?_) (a' := ?_) #[true, true, true, true, true, false, false, false, false, false, false, false, false, false, false, false, false, false, false, false, false, false] rfl rfl (any_of HT_.out (by kernel_rfl)) (fun _ _ _ h => h) (Or.inl ⟨by rfl, ?_⟩) ?_ ?_;rotate_left
          ·
           intro w';go_simp;with_reducible rfl
          rotate_left
          ·
           simp only [Act.put, sA, sB, sC, i64_w, i32_w];rfl
          refine pure_ (i := 5) (N := some 43) (v := ?_) (a' := ?_) #[true, true, true, true, true, true, false, false, false, false, false, false, false, false, false, false, false, false, false, false, false, false] rfl rfl (any_of HT_.out (by kernel_rfl)) (fun _ _ _ h => h) (Or.inl ⟨by rfl, ?_⟩) ?_ ?_;rotate_left
          ·
           intro w';go_simp;with_reducible rfl
          rotate_left
          ·
           simp only [Act.put, sA, sB, sC, i64_w, i32_w];rfl
          refine pure_ (i := 6) (N := some 44) (v := ?_) (a' := ?_) #[true, true, true, true, true, true, true, false, false, false, false, false, false, false, false, false, false, false, false, false, false, false] rfl rfl (any_of HT_.out (by kernel_rfl)) (fun _ _ _ h => h) (Or.inl ⟨by rfl, ?_⟩) ?_ ?_;rotate_left
          ·
           intro w';go_simp;with_reducible rfl
          rotate_left
          ·
           simp only [Act.put, sA, sB, sC, i64_w, i32_w];rfl
          refine pure_ (i := 7) (N := some 45) (v := ?_) (a' := ?_) #[true, true, true, true, true, true, true, true, false, false, false, false, false, false, false, false, false, false, false, false, false, false] rfl rfl (any_of HT_.out (by kernel_rfl)) (fun _ _ _ h => h) (Or.inl ⟨by rfl, ?_⟩) ?_ ?_;rotate_left
          ·
           intro w';go_simp;with_reducible rfl
          rotate_left
          ·
           simp only [Act.put, sA, sB, sC, i64_w, i32_w];rfl
          refine pure_ (i := 8) (N := some 46) (v := ?_) (a' := ?_) #[true, true, true, true, true, true, true, true, true, false, false, false, false, false, false, false, false, false, false, false, false, false] rfl rfl (any_of HT_.out (by kernel_rfl)) (fun _ _ _ h => h) (Or.inl ⟨by rfl, ?_⟩) ?_ ?_;rotate_left
          ·
           intro w';go_simp;with_reducible rfl
          rotate_left
          ·
           simp only [Act.put, sA, sB, sC, i64_w, i32_w];rfl
          refine pure_ (i := 9) (N := some 47) (v := ?_) (a' := ?_) #[true, true, true, true, true, true, true, true, true, true, false, false, false, false, false, false, false, false, false, false, false, false] rfl rfl (any_of HT_.out (by kernel_rfl)) (fun _ _ _ h => h) (Or.inl ⟨by rfl, ?_⟩) ?_ ?_;rotate_left
          ·
           intro w';go_simp;with_reducible rfl
          rotate_left
          ·
           simp only [Act.put, sA, sB, sC, i64_w, i32_w];rfl
          refine pure_ (i := 10) (N := some 48) (v := ?_) (a' := ?_) #[true, true, true, true, true, true, true, true, true, true, true, false, false, false, false, false, false, false, false, false, false, false] rfl rfl (any_of HT_.out (by kernel_rfl)) (fun _ _ _ h => h) (Or.inl ⟨by rfl, ?_⟩) ?_ ?_;rotate_left
          ·
           intro w';go_simp;with_reducible rfl
          rotate_left
          ·
           simp only [Act.put, sA, sB, sC, i64_w, i32_w];rfl
          refine pure_ (i := 11) (N := some 49) (v := ?_) (a' := ?_) #[true, true, true, true, true, true, true, true, true, true, true, true, false, false, false, false, false, false, false, false, false, false] rfl rfl (any_of HT_.out (by kernel_rfl)) (fun _ _ _ h => h) (Or.inl ⟨by rfl, ?_⟩) ?_ ?_;rotate_left
          ·
           intro w';go_simp;with_reducible rfl
          rotate_left
          ·
           simp only [Act.put, sA, sB, sC, i64_w, i32_w];rfl
          refine pure_ (i := 13) (N := some 51) (v := ?_) (a' := ?_) #[true, true, true, true, true, true, true, true, true, true, true, true, false, true, false, false, false, false, false, false, false, false] rfl rfl (any_of HT_.out (by kernel_rfl)) (fun _ _ _ h => h) (Or.inl ⟨by rfl, ?_⟩) ?_ ?_;rotate_left
          ·
           intro w';go_simp;with_reducible rfl
          rotate_left
          ·
           simp only [Act.put, sA, sB, sC, i64_w, i32_w];rfl
          refine take_ (i := 12) (N := some 50) (v := ?_) (a' := ?_) #[true, true, true, true, true, true, true, true, true, true, true, true, true, true, false, false, false, false, false, false, false, false] rfl rfl (take_ofW HT_.out HW_.out (by kernel_rfl)) (fun _ _ _ h => h) (Or.inl ⟨by rfl, ?_⟩) hHeld ?_ ?_;rotate_left
          ·
           intro w' s0;go_simp;with_reducible rfl
          rotate_left
          ·
           simp only [Act.put, sA, sB, sC, i64_w, i32_w];rfl
          refine one_ (i := 14) (N := some 52) #[true, true, true, true, true, true, true, true, true, true, true, true, true, true, true, false, false, false, false, false, false, false] rfl rfl (one_of HT_.out (by kernel_rfl)) (by decide) (fun K hK => ?_);refine goes_ Try.func18 (by kernel_rfl) rfl #[.int .i64 t414, .int .i64 2] (by rfl) rfl rfl (by (try simp only [mA, mB, mC]); first | done | rfl) ?_
          with_reducible refine (impl_OrdInBase.calls k1 t414 2 t430 _ A33.out).mono ?_
          rintro e w44 ⟨v431, rfl, ⟨ho0, _⟩, hb⟩
          have HS0_ := (hb.cell (World.block_lt_of_cell? _ _ (hHeld))).trans (hHeld);refine ⟨_, rfl, ?_⟩;replace HO_4 := am (Kd.N_elder' (Kd.nm HO_4.out) (Kd.Y_base ho0) hb);replace HL429_0 := am (Kd.V_elder' (Kd.vm HL429_0.out) (Kd.Y_base ho0) hb);have HO432 := am (Kd.Y_lower (Kd.Y_new' ho0 (Kd.R_lt (Kd.rm HO_5.out))) (below_size (bm HB.out)));replace HO_5 := am (Kd.R_elder' (Kd.rm HO_5.out) (Kd.Y_base ho0) hb);replace HR429_0 := am (Kd.C_below (by repeat (first | (with_reducible exact HR429_0.out) | (with_reducible refine Kd.C_alloc ?_ _) | (with_reducible refine Kd.C_drewN ?_ _) | (with_reducible refine Kd.C_drew ?_) | exact HR429_0.out)) hb);replace HB := am (below_step (bm HB.out) hb);(try clear hb);(try clear ho0);obtain ⟨Ao45, co45, eo45, _⟩ := Kd.Y_slice HO432.out
          (first | subst eo45 | (injection eo45 with f1_ f2_ f3_; have f4_ := f1_.symm; have f5_ := f3_.symm; clear f1_ f2_ f3_; subst f4_; subst f5_))
          refine hK.out _ _ (HS0_) (fun hHeld => ?_);clear hK K;refine norm_ (a' := ?_) ?_ ?_;rotate_left
          ·
           show Act.put _ (some 52) _ = _
           simp only [Act.put, sA, sB, sC, i64_w, i32_w];rfl
          refine one_ (i := 15) (N := some 53) #[true, true, true, true, true, true, true, true, true, true, true, true, true, true, true, true, false, false, false, false, false, false] rfl rfl (one_of HT_.out (by kernel_rfl)) (by decide) (fun K hK => ?_);refine goes_ Try.func17 (by kernel_rfl) rfl #[.slice A429_0 (rd_L2 t415 0).length c429_0, .slice Ao45 t430.length co45] (by rfl) rfl rfl (by (try simp only [mA, mB, mC]); first | done | rfl) ?_
          with_reducible refine (laws_sameInts.calls k1 _ _ (rd_L2 t415 0) _ _ t430 false _ ?side1 ?side2 ?side3 ?side4 A34.out).mono ?_
          (case side1 => exact Kd.cm ((by repeat (first | (with_reducible exact HR429_0.out) | (with_reducible refine Kd.C_alloc ?_ _) | (with_reducible refine Kd.C_drewN ?_ _) | (with_reducible refine Kd.C_drew ?_) | exact HR429_0.out))));(case side2 => exact HC429_0.out);(case side3 => exact Kd.cm ((Kd.Y_reads' HO432.out).2.2));(case side4 => exact (Kd.Y_reads' HO432.out).2.1)
          rintro e w' ⟨rfl, ⟨nd, rfl⟩⟩
          refine ⟨_, rfl, ?_⟩;refine hK.out _ _ (hHeld) (fun hHeld => ?_);clear hK K;refine norm_ (a' := ?_) ?_ ?_;rotate_left
          ·
           show Act.put _ (some 53) _ = _
           simp only [Act.put, sA, sB, sC, i64_w, i32_w];rfl
          refine pure_ (i := 16) (N := some 54) (v := ?_) (a' := ?_) #[true, true, true, true, true, true, true, true, true, true, true, true, true, true, true, true, true, false, false, false, false, false] rfl rfl (any_of HT_.out (by kernel_rfl)) (fun _ _ _ h => h) (Or.inl ⟨by rfl, ?_⟩) ?_ ?_;rotate_left
          ·
           intro w';go_simp;with_reducible rfl
          rotate_left
          ·
           simp only [Act.put, sA, sB, sC, i64_w, i32_w];rfl
          refine pure_ (i := 17) (N := some 55) (v := ?_) (a' := ?_) #[true, true, true, true, true, true, true, true, true, true, true, true, true, true, true, true, true, true, false, false, false, false] rfl rfl (any_of HT_.out (by kernel_rfl)) (fun _ _ _ h => h) (Or.inl ⟨by rfl, ?_⟩) ?_ ?_;rotate_left
          ·
           intro w';go_simp;with_reducible rfl
          rotate_left
          ·
           simp only [Act.put, sA, sB, sC, i64_w, i32_w];rfl
          refine pure_ (i := 18) (N := some 56) (v := ?_) (a' := ?_) #[true, true, true, true, true, true, true, true, true, true, true, true, true, true, true, true, true, true, true, false, false, false] rfl rfl (any_of HT_.out (by kernel_rfl)) (fun _ _ _ h => h) (Or.inl ⟨by rfl, ?_⟩) ?_ ?_;rotate_left
          ·
           intro w';go_simp;with_reducible rfl
          rotate_left
          ·
           simp only [Act.put, sA, sB, sC, i64_w, i32_w];rfl
          refine pure_ (i := 19) (N := some 57) (v := undef) (a' := ?_) #[true, true, true, true, true, true, true, true, true, true, true, true, true, true, true, true, true, true, true, true, false, false] rfl rfl (any_of HT_.out (by kernel_rfl)) (fun _ _ _ h => h) (Or.inr ⟨by rfl, rfl⟩) ?_ ?_;rotate_left
          ·
           simp only [Act.put, sA, sB, sC, i64_w, i32_w];rfl
          refine pure_ (i := 20) (N := some 58) (v := ?_) (a' := ?_) #[true, true, true, true, true, true, true, true, true, true, true, true, true, true, true, true, true, true, true, true, true, false] rfl rfl (any_of HT_.out (by kernel_rfl)) (fun _ _ _ h => h) (Or.inl ⟨by rfl, ?_⟩) ?_ ?_;rotate_left
          ·
           intro w';go_simp;with_reducible rfl
          rotate_left
          ·
           simp only [Act.put, sA, sB, sC, i64_w, i32_w];rfl
          refine pure_ (i := 21) (N := some 2) (v := ?_) (a' := ?_) #[true, true, true, true, true, true, true, true, true, true, true, true, true, true, true, true, true, true, true, true, true, true] rfl rfl (any_of HT_.out (by kernel_rfl)) (fun _ _ _ h => h) (Or.inl ⟨by rfl, ?_⟩) ?_ ?_;rotate_left
          ·
           intro w';go_simp;with_reducible rfl
          rotate_left
          ·
           simp only [Act.put, sA, sB, sC, i64_w, i32_w];rfl
          refine done_ (done_of HT_.out (by kernel_rfl)) ?_;(try go_wp2);go_ret;exact ⟨by first | rfl | (simp [errW_none, errW_some] <;> rfl) | (simp [*, errW_none, errW_some] <;> rfl), bm HB.out⟩
        ·
         rw [if_neg c32] at H;exact absurd H (by simp)
      ·
       rw [if_neg c26] at H;have c26b0 : decide ((t415.length : Int) ≤ (t422.length : Int)) = false := decide_eq_false c26;have c26b1 : decide (t415.length ≤ t422.length) = false := decide_eq_false (fun h => c26 (Int.ofNat_le.mpr h));clear c26;obtain rfl := Option.some.inj H;(try go_wp2);replace HO_4 := am (Kd.N_drew HO_4.out);replace HO_5 := am (Kd.R_drew HO_5.out);replace HB := am (below_drew1 HB.out);obtain ⟨Ao47, co47, eo47⟩ := Kd.R_slice HO_5.out
       (first | subst eo47 | (injection eo47 with f1_ f2_ f3_; have f4_ := f1_.symm; have f5_ := f3_.symm; clear f1_ f2_ f3_; subst f4_; subst f5_))
       refine start_ (n := 22) (S := fun w' => True) (ds := []) #[false, false, false, false, false, false, false, false, false, false, false, false, false, false, false, false, false, false, false, false, false, false] (by kernel_rfl) rfl rfl trivial (fun hHeld => ?_); refine with_tabW laws_FnGoodsteinOrds.tab13 laws_FnGoodsteinOrds.bits13 (fun HT_ HW_ => ?_);generalize wr.drew = w46 at HO_4 HO_5 HB hHeld ⊢;refine pure_ (i := 0) (N := some 38) (v := ?_) (a' := ?_) #[true, false, false, false, false, false, false, false, false, false, false, false, false, false, false, false, false, false, false, false, false, false] rfl rfl (any_of HT_.out (by kernel_rfl)) (fun _ _ _ h => h) (Or.inl ⟨by rfl, ?_⟩) ?_ ?_;rotate_left
       ·
        intro w';go_simp;with_reducible rfl
       rotate_left
       ·
        simp only [Act.put, sA, sB, sC, i64_w, i32_w];rfl
       refine pure_ (i := 1) (N := some 39) (v := ?_) (a' := ?_) #[true, true, false, false, false, false, false, false, false, false, false, false, false, false, false, false, false, false, false, false, false, false] rfl rfl (any_of HT_.out (by kernel_rfl)) (fun _ _ _ h => h) (Or.inl ⟨by rfl, ?_⟩) ?_ ?_;rotate_left
       ·
        intro w';go_simp;with_reducible rfl
       rotate_left
       ·
        simp only [Act.put, sA, sB, sC, i64_w, i32_w];rfl
       refine pure_ (i := 2) (N := some 40) (v := ?_) (a' := ?_) #[true, true, true, false, false, false, false, false, false, false, false, false, false, false, false, false, false, false, false, false, false, false] rfl rfl (any_of HT_.out (by kernel_rfl)) (fun _ _ _ h => h) (Or.inl ⟨by rfl, ?_⟩) ?_ ?_;rotate_left
       ·
        intro w';go_simp;with_reducible rfl
       rotate_left
       ·
        simp only [Act.put, sA, sB, sC, i64_w, i32_w];rfl
       refine pure_ (i := 3) (N := some 41) (v := ?_) (a' := ?_) #[true, true, true, true, false, false, false, false, false, false, false, false, false, false, false, false, false, false, false, false, false, false] rfl rfl (any_of HT_.out (by kernel_rfl)) (fun _ _ _ h => h) (Or.inl ⟨by rfl, ?_⟩) ?_ ?_;rotate_left
       ·
        intro w';go_simp;with_reducible rfl
       rotate_left
       ·
        simp only [Act.put, sA, sB, sC, i64_w, i32_w];rfl
       refine pure_ (i := 4) (N := some 42) (v := ?_) (a' := ?_) #[true, true, true, true, true, false, false, false, false, false, false, false, false, false, false, false, false, false, false, false, false, false] rfl rfl (any_of HT_.out (by kernel_rfl)) (fun _ _ _ h => h) (Or.inl ⟨by rfl, ?_⟩) ?_ ?_;rotate_left
       ·
        intro w';go_simp;with_reducible rfl
       rotate_left
       ·
        simp only [Act.put, sA, sB, sC, i64_w, i32_w];rfl
       refine pure_ (i := 5) (N := some 43) (v := ?_) (a' := ?_) #[true, true, true, true, true, true, false, false, false, false, false, false, false, false, false, false, false, false, false, false, false, false] rfl rfl (any_of HT_.out (by kernel_rfl)) (fun _ _ _ h => h) (Or.inl ⟨by rfl, ?_⟩) ?_ ?_;rotate_left
       ·
        intro w';go_simp;with_reducible rfl
       rotate_left
       ·
        simp only [Act.put, sA, sB, sC, i64_w, i32_w];rfl
       refine pure_ (i := 6) (N := some 44) (v := undef) (a' := ?_) #[true, true, true, true, true, true, true, false, false, false, false, false, false, false, false, false, false, false, false, false, false, false] rfl rfl (any_of HT_.out (by kernel_rfl)) (fun _ _ _ h => h) (Or.inr ⟨by rfl, rfl⟩) ?_ ?_;rotate_left
       ·
        simp only [Act.put, sA, sB, sC, i64_w, i32_w];rfl
       refine pure_ (i := 7) (N := some 45) (v := undef) (a' := ?_) #[true, true, true, true, true, true, true, true, false, false, false, false, false, false, false, false, false, false, false, false, false, false] rfl rfl (any_of HT_.out (by kernel_rfl)) (fun _ _ _ h => h) (Or.inr ⟨by rfl, rfl⟩) ?_ ?_;rotate_left
       ·
        simp only [Act.put, sA, sB, sC, i64_w, i32_w];rfl
       refine pure_ (i := 8) (N := some 46) (v := undef) (a' := ?_) #[true, true, true, true, true, true, true, true, true, false, false, false, false, false, false, false, false, false, false, false, false, false] rfl rfl (any_of HT_.out (by kernel_rfl)) (fun _ _ _ h => h) (Or.inr ⟨by rfl, rfl⟩) ?_ ?_;rotate_left
       ·
        simp only [Act.put, sA, sB, sC, i64_w, i32_w];rfl
       refine pure_ (i := 9) (N := some 47) (v := undef) (a' := ?_) #[true, true, true, true, true, true, true, true, true, true, false, false, false, false, false, false, false, false, false, false, false, false] rfl rfl (any_of HT_.out (by kernel_rfl)) (fun _ _ _ h => h) (Or.inr ⟨by rfl, rfl⟩) ?_ ?_;rotate_left
       ·
        simp only [Act.put, sA, sB, sC, i64_w, i32_w];rfl
       refine pure_ (i := 10) (N := some 48) (v := undef) (a' := ?_) #[true, true, true, true, true, true, true, true, true, true, true, false, false, false, false, false, false, false, false, false, false, false] rfl rfl (any_of HT_.out (by kernel_rfl)) (fun _ _ _ h => h) (Or.inr ⟨by rfl, rfl⟩) ?_ ?_;rotate_left
       ·
        simp only [Act.put, sA, sB, sC, i64_w, i32_w];rfl
       refine pure_ (i := 11) (N := some 49) (v := undef) (a' := ?_) #[true, true, true, true, true, true, true, true, true, true, true, true, false, false, false, false, false, false, false, false, false, false] rfl rfl (any_of HT_.out (by kernel_rfl)) (fun _ _ _ h => h) (Or.inr ⟨by rfl, rfl⟩) ?_ ?_;rotate_left
       ·
        simp only [Act.put, sA, sB, sC, i64_w, i32_w];rfl
       refine pure_ (i := 12) (N := some 50) (v := undef) (a' := ?_) #[true, true, true, true, true, true, true, true, true, true, true, true, true, false, false, false, false, false, false, false, false, false] rfl rfl (any_of HT_.out (by kernel_rfl)) (fun _ _ _ h => h) (Or.inr ⟨by rfl, rfl⟩) ?_ ?_;rotate_left
       ·
        simp only [Act.put, sA, sB, sC, i64_w, i32_w];rfl
       refine pure_ (i := 13) (N := some 51) (v := undef) (a' := ?_) #[true, true, true, true, true, true, true, true, true, true, true, true, true, true, false, false, false, false, false, false, false, false] rfl rfl (any_of HT_.out (by kernel_rfl)) (fun _ _ _ h => h) (Or.inr ⟨by rfl, rfl⟩) ?_ ?_;rotate_left
       ·
        simp only [Act.put, sA, sB, sC, i64_w, i32_w];rfl
       refine pure_ (i := 14) (N := some 52) (v := undef) (a' := ?_) #[true, true, true, true, true, true, true, true, true, true, true, true, true, true, true, false, false, false, false, false, false, false] rfl rfl (any_of HT_.out (by kernel_rfl)) (fun _ _ _ h => h) (Or.inr ⟨by rfl, rfl⟩) ?_ ?_;rotate_left
       ·
        simp only [Act.put, sA, sB, sC, i64_w, i32_w];rfl
       refine pure_ (i := 15) (N := some 53) (v := undef) (a' := ?_) #[true, true, true, true, true, true, true, true, true, true, true, true, true, true, true, true, false, false, false, false, false, false] rfl rfl (any_of HT_.out (by kernel_rfl)) (fun _ _ _ h => h) (Or.inr ⟨by rfl, rfl⟩) ?_ ?_;rotate_left
       ·
        simp only [Act.put, sA, sB, sC, i64_w, i32_w];rfl
       refine pure_ (i := 16) (N := some 54) (v := undef) (a' := ?_) #[true, true, true, true, true, true, true, true, true, true, true, true, true, true, true, true, true, false, false, false, false, false] rfl rfl (any_of HT_.out (by kernel_rfl)) (fun _ _ _ h => h) (Or.inr ⟨by rfl, rfl⟩) ?_ ?_;rotate_left
       ·
        simp only [Act.put, sA, sB, sC, i64_w, i32_w];rfl
       refine pure_ (i := 17) (N := some 55) (v := ?_) (a' := ?_) #[true, true, true, true, true, true, true, true, true, true, true, true, true, true, true, true, true, true, false, false, false, false] rfl rfl (any_of HT_.out (by kernel_rfl)) (fun _ _ _ h => h) (Or.inl ⟨by rfl, ?_⟩) ?_ ?_;rotate_left
       ·
        intro w';go_simp;with_reducible rfl
       rotate_left
       ·
        simp only [Act.put, sA, sB, sC, i64_w, i32_w];rfl
       refine pure_ (i := 18) (N := some 56) (v := ?_) (a' := ?_) #[true, true, true, true, true, true, true, true, true, true, true, true, true, true, true, true, true, true, true, false, false, false] rfl rfl (any_of HT_.out (by kernel_rfl)) (fun _ _ _ h => h) (Or.inl ⟨by rfl, ?_⟩) ?_ ?_;rotate_left
       ·
        intro w';go_simp;with_reducible rfl
       rotate_left
       ·
        simp only [Act.put, sA, sB, sC, i64_w, i32_w];rfl
       refine pure_ (i := 19) (N := some 57) (v := undef) (a' := ?_) #[true, true, true, true, true, true, true, true, true, true, true, true, true, true, true, true, true, true, true, true, false, false] rfl rfl (any_of HT_.out (by kernel_rfl)) (fun _ _ _ h => h) (Or.inr ⟨by rfl, rfl⟩) ?_ ?_;rotate_left
       ·
        simp only [Act.put, sA, sB, sC, i64_w, i32_w];rfl
       refine pure_ (i := 20) (N := some 58) (v := ?_) (a' := ?_) #[true, true, true, true, true, true, true, true, true, true, true, true, true, true, true, true, true, true, true, true, true, false] rfl rfl (any_of HT_.out (by kernel_rfl)) (fun _ _ _ h => h) (Or.inl ⟨by rfl, ?_⟩) ?_ ?_;rotate_left
       ·
        intro w';go_simp;with_reducible rfl
       rotate_left
       ·
        simp only [Act.put, sA, sB, sC, i64_w, i32_w];rfl
       refine pure_ (i := 21) (N := some 2) (v := ?_) (a' := ?_) #[true, true, true, true, true, true, true, true, true, true, true, true, true, true, true, true, true, true, true, true, true, true] rfl rfl (any_of HT_.out (by kernel_rfl)) (fun _ _ _ h => h) (Or.inl ⟨by rfl, ?_⟩) ?_ ?_;rotate_left
       ·
        intro w';go_simp;with_reducible rfl
       rotate_left
       ·
        simp only [Act.put, sA, sB, sC, i64_w, i32_w];rfl
       refine done_ (done_of HT_.out (by kernel_rfl)) ?_;(try go_wp2);go_ret;exact ⟨by first | rfl | (simp [errW_none, errW_some] <;> rfl) | (simp [*, errW_none, errW_some] <;> rfl), bm HB.out⟩
  ·
   replace c7 := Bool.eq_false_iff.mpr c7;subst c7
   have H1 : (some false) = some r := by rw [if_neg (show ¬ (false = true) by decide)] at H; exact H
   clear H;have H := H1;clear H1;obtain rfl := Option.some.inj H;go_enter Try.func7, Try.ntmps7;go_wp2_with (first | ((with_reducible refine gate_callee (f := 27) rfl ?_); refine goesL_ (some 11) rfl rfl Try.func27 (by kernel_rfl) rfl #[.slice A0 l0.length c0] rfl (by (try simp only [mA, mB, mC]); first | done | rfl) ?_; (with_reducible refine (spec_DrawGoodsteinOrds.calls k _ _ l0 t414 _ ?side1 ?side2 A3.out).mono ?_); (case side1 => exact Kd.cm HR0.out); (case side2 => exact HC0.out); rintro e w48 ⟨rfl, hb⟩; refine ⟨_, rfl, ?_⟩; replace HB := am (below_step (bm HB.out) hb); (try clear hb)) | ((with_reducible refine gate_callee (f := 23) rfl ?_); refine goesL_ (some 13) rfl rfl Try.func23 (by kernel_rfl) rfl #[.int .i64 t414] rfl (by (try simp only [mA, mB, mC]); first | done | rfl) ?_; (with_reducible refine (impl_GoodsteinOrds.calls k t414 t415 _ A4.out).mono ?_); rintro e w49 ⟨v416, rfl, ho0, hb⟩; refine ⟨_, rfl, ?_⟩; have HO417 := am (Kd.N_lower (Kd.N_mono (ok' := fun k_ => True) ho0 (fun k_ hk_ => trivial)) (below_size (bm HB.out)));replace HB := am (below_step (bm HB.out) hb); (try clear hb); (try clear ho0)) | ((with_reducible refine gate_callee (f := 22) rfl ?_); refine goesL_ (some 16) rfl rfl Try.func22 (by kernel_rfl) rfl #[.int .i64 t414] rfl (by (try simp only [mA, mB, mC]); first | done | rfl) ?_; (with_reducible refine (spec_GoodsteinOrds.calls k t414 t418 _ A5.out).mono ?_); rintro e w50 ⟨v419, rfl, ho0, hb⟩; refine ⟨_, rfl, ?_⟩; have HO420 := am (Kd.N_lower (Kd.N_mono (ok' := fun k_ => some k_ ≠ (v416 : Value).ownBlock) (Kd.S_N (Kd.S_bound ho0)) (fun k_ hk_ => (Kd.fresh' (Kd.N_lt (Kd.nm HO417.out)) k_ hk_.2.1))) (below_size (bm HB.out)));replace HO417 := am (Kd.N_elder' (Kd.nm HO417.out) (Kd.N_base (Kd.S_N ho0)) hb);replace HB := am (below_step (bm HB.out) hb); (try clear hb); (try clear ho0); obtain ⟨Ao51, co51, eo51⟩ := Kd.N_slice HO417.out; subst eo51; obtain ⟨Ao52, co52, eo52⟩ := Kd.N_slice HO420.out; subst eo52) | ((with_reducible refine gate_callee (f := 28) rfl ?_); refine goesL_ (some 17) rfl rfl Try.func28 (by kernel_rfl) rfl #[.slice Ao51 t415.length co51, .slice Ao52 t418.length co52] rfl (by (try simp only [mA, mB, mC]); first | done | rfl) ?_; (with_reducible refine (laws_sameLists.calls k _ _ t415 _ _ t418 false _ ?side1 ?side2 ?side3 ?side4 A6.out).mono ?_); (case side1 => exact Kd.cm ((Kd.N_reads' HO417.out).2.2)); (case side2 => exact (Kd.N_reads' HO417.out).2.1); (case side3 => exact Kd.cm ((Kd.N_reads' HO420.out).2.2)); (case side4 => exact (Kd.N_reads' HO420.out).2.1); rintro e w' ⟨rfl, ⟨nd, rfl⟩⟩; refine ⟨_, rfl, ?_⟩));go_ret;exact ⟨by first | rfl | (simp [errW_none, errW_some] <;> rfl) | (simp [*, errW_none, errW_some] <;> rfl), bm HB.out⟩

/-- THE ONE PURE STATEMENT of laws_FnGoodsteinOrds: yours. -/
def laws_FnGoodsteinOrds.Pure : Prop := ∀ (l0 : List Int), l0.length ≤ maxLen → l0.length * 1 ≤ 140737488351232 → (∀ x ∈ l0, (Lit.int .u8 x).wf = true) → ∃ k, laws_FnGoodsteinOrds.f k l0 = some true
theorem laws_FnGoodsteinOrds.walk (P : laws_FnGoodsteinOrds.Pure) (a0 : Option Addr) (len0 cap0 : Nat) (z0 : List Int) (w : World) (w0 : (a0 = none ∧ len0 = 0 ∧ cap0 = 0 ∧ z0 = []) ∨ ∃ x, a0 = some x ∧ len0 ≤ cap0 ∧ cap0 ≤ maxLen ∧ z0.length = cap0 ∧ (∀ i, i < z0.length → w.cell? (x.add i) = some (.int .u8 (z0.getD i 0))) ∧ ∀ n ∈ z0, (Lit.int .u8 n).wf = true) (y0 : len0 * 1 ≤ 140737488351232) :
  Calls Try.prog 7 #[.slice a0 len0 cap0] w fun e w' => e = .returned (.bool true) ∧ Below w.heap.size w w' := by
 obtain ⟨l0, rfl, hr0, hm0, hw0, hc0⟩ := ReadsInt.ofRowC w0;obtain ⟨k, h⟩ := P l0 hm0 y0 hw0;refine (laws_FnGoodsteinOrds.calls k _ _ l0 true w (Kd.C_of_reads (d := (0 : Int)) (h1 := fun _ => rfl) hr0) hc0 h).mono ?_
 rintro e w' ⟨rfl, hd⟩
 exact ⟨rfl, hd⟩

end Go.Proofs.Ytomidfnhbnhhmaa.Ke

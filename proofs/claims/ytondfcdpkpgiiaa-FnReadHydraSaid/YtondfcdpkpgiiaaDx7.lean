-- Written by a program of this session's (wip/mp) out of the translation, over the kit's print with changes.
import Derived.Test.YtondfcdpkpgiiaaDx0
import Derived.Test.YtondfcdpkpgiiaaDx1
import Derived.Test.YtondfcdpkpgiiaaDx2
import Derived.Test.YtondfcdpkpgiiaaDx3
import Derived.Test.YtondfcdpkpgiiaaDx4
import Derived.Test.YtondfcdpkpgiiaaDx5
import Derived.Test.YtondfcdpkpgiiaaDx6
namespace Go.Proofs.Ytondfcdpkpgiiaa.D
open Go.RowKit Go.Proofs.YtondfcdpkpgiiaaW.PrintWords Go.Proofs.YtondfcdpkpgiiaaW.PrintLast Go.Proofs.YtondfcdpkpgiiaaW.PrintMore
attribute [local go_sem] max2_int min2_int max_two min_two max_three min_three max_four min_four   -- for this text's walks alone
set_option linter.unusedVariables false
set_option linter.unusedSimpArgs false

/-! ### spec_DrawReadHydra: function 28 -/
def spec_DrawReadHydra.j0 : Nat → ByteArray → Bool → List Int → Int → Option (ByteArray)
  | 0, _, _, _, _ => none
  | k + 1, x4, x18, x337000, x337001 => if x18 = true then ((spec_l20Rd_pick.f k x337000 x337001 (x4.size : Int)).bind fun bt344 => (if 0 ≤ bt344.1 then (if bt344.1 ≤ (x4.size : Int) then ((some (([(⟨#[]⟩ : ByteArray), (⟨#[40]⟩ : ByteArray), (⟨#[41]⟩ : ByteArray), (⟨#[40, 41]⟩ : ByteArray), (⟨#[120]⟩ : ByteArray)] : List ByteArray) : List ByteArray)).bind fun y346 => ((spec_l20Rd_pick.f k x337000 bt344.2 5).bind fun bt349 => (if 0 ≤ bt349.1 then (if bt349.1 < (y346.length : Int) then (if (x4.extract 0 (bt344.1 : Int).toNat).size + (rdOf ByteArray.empty y346 bt349.1).size ≤ 9223372036854775807 then (if 0 ≤ (wrap64 (bt344.1 + 1)) then (if (wrap64 (bt344.1 + 1)) ≤ (x4.size : Int) then (if ((x4.extract 0 (bt344.1 : Int).toNat) ++ (rdOf ByteArray.empty y346 bt349.1)).size + (x4.extract ((wrap64 (bt344.1 + 1)) : Int).toNat x4.size).size ≤ 9223372036854775807 then (some (((x4.extract 0 (bt344.1 : Int).toNat) ++ (rdOf ByteArray.empty y346 bt349.1)) ++ (x4.extract ((wrap64 (bt344.1 + 1)) : Int).toNat x4.size))) else (none)) else (none)) else (none)) else (none)) else (none)) else (none)))) else (none)) else (none))) else (some x4)
def spec_DrawReadHydra.f (k : Nat) (l0 : List Int) : Option (ByteArray) := (spec_l20Open.f l0).bind fun bt334 => ((spec_l20Hydra.f k bt334.1 bt334.2 0).bind fun bt337 => ((spec_HydraText.f k bt337.1).bind fun t341 => ((spec_l20Rd_pick.f k bt334.1 bt337.2 3).bind fun bt342 => (if bt342.1 = 0 then (spec_DrawReadHydra.j0 k t341 (decide ((t341.size : Int) > 0)) bt334.1 bt342.2) else (spec_DrawReadHydra.j0 k t341 false bt334.1 bt342.2)))))
theorem spec_DrawReadHydra.mono_l : ∀ k, (∀ y0 y1 y2 y3, LeO (spec_DrawReadHydra.j0 k y0 y1 y2 y3) (spec_DrawReadHydra.j0 (k + 1) y0 y1 y2 y3))
  | 0 => fun _ _ _ _ r h => by simp [spec_DrawReadHydra.j0] at h
  | k + 1 => by
    have ih0 := spec_DrawReadHydra.mono_l k
    · intro y0 y1 y2 y3
      unfold spec_DrawReadHydra.j0
      repeat' first
      | (with_reducible exact ih0 _ _ _ _)
      | (with_reducible exact spec_HydraText.mono _ _)
      | (with_reducible exact spec_l20Hydra.mono _ _ _ _)
      | (with_reducible exact spec_l20Rd_pick.mono _ _ _ _)
      | (with_reducible exact LeO.refl _)
      | (with_reducible exact LeO.none _)
      | (with_reducible refine LeO.ite ?_ ?_)
      | (with_reducible refine LeO.bind ?_ (fun _ => ?_))
      | exact ih0 _ _ _ _
      | exact spec_HydraText.mono _ _
      | exact spec_l20Hydra.mono _ _ _ _
      | exact spec_l20Rd_pick.mono _ _ _ _
      | exact LeO.none _
      | refine LeO.ite ?_ ?_
      | refine LeO.bind ?_ (fun _ => ?_)
theorem spec_DrawReadHydra.mono : ∀ a0 k, LeO (spec_DrawReadHydra.f k a0) (spec_DrawReadHydra.f (k + 1) a0) := by
  intro a0 k
  have ih0 := spec_DrawReadHydra.mono_l k
  unfold spec_DrawReadHydra.f
  repeat' first
      | (with_reducible exact ih0 _ _ _ _)
      | (with_reducible exact spec_HydraText.mono _ _)
      | (with_reducible exact spec_l20Hydra.mono _ _ _ _)
      | (with_reducible exact spec_l20Rd_pick.mono _ _ _ _)
      | (with_reducible exact LeO.refl _)
      | (with_reducible exact LeO.none _)
      | (with_reducible refine LeO.ite ?_ ?_)
      | (with_reducible refine LeO.bind ?_ (fun _ => ?_))
      | exact ih0 _ _ _ _
      | exact spec_HydraText.mono _ _
      | exact spec_l20Hydra.mono _ _ _ _
      | exact spec_l20Rd_pick.mono _ _ _ _
      | exact LeO.none _
      | refine LeO.ite ?_ ?_
      | refine LeO.bind ?_ (fun _ => ?_)
def spec_DrawReadHydra.T5 : Bool × List (List Nat × List Nat) := (true, [([], []), ([], []), ([0, 1], [0, 1]), ([], []), ([], []), ([4], [4]), ([3, 5], [3, 5]), ([6], [6]), ([2, 7], [2, 7]), ([], []), ([], []), ([10], [10]), ([9, 11], [9, 11]), ([8, 12], [8, 12]), ([13, 5, 0, 1, 2, 3, 4, 5, 6, 7, 8, 9, 10, 11, 12, 13], [13])])
def spec_DrawReadHydra.B5 : List Nat := [0, 0, 3, 0, 0, 16, 56, 120, 255, 0, 0, 1024, 3584, 8191, 16383]
theorem spec_DrawReadHydra.tab5 : rtab .any (opsOf Try.f28 5) = spec_DrawReadHydra.T5 := by kernel_rfl
theorem spec_DrawReadHydra.bits5 : waitsOk spec_DrawReadHydra.T5.2 spec_DrawReadHydra.B5 = true := by kernel_rfl
set_option maxHeartbeats 8000000 in
set_option maxRecDepth 100000 in
theorem spec_DrawReadHydra.calls (k : Nat) (A0 : Option Addr) (c0 : Nat) (l0 : List Int) (r : ByteArray) (w : World) (hr0 : Kd.C (Kd.int .u8) w A0 l0.length l0) (hc0 : l0.length ≤ c0) (h : spec_DrawReadHydra.f k l0 = some r) :
    Calls Try.prog 28 #[.slice A0 l0.length c0] w fun e w' => e = .returned (.string r) ∧ Below w.heap.size w w' := by
  have HR0 := Aside0.mk hr0
  have HC0 := Aside0.mk hc0
  clear hr0 hc0
  have HB := Aside0.mk (Below.refl w.heap.size w)
  have H : ((spec_l20Open.f l0).bind fun bt334 => ((spec_l20Hydra.f k bt334.1 bt334.2 0).bind fun bt337 => ((spec_HydraText.f k bt337.1).bind fun t341 => ((spec_l20Rd_pick.f k bt334.1 bt337.2 3).bind fun bt342 => (if bt342.1 = 0 then (spec_DrawReadHydra.j0 k t341 (decide ((t341.size : Int) > 0)) bt334.1 bt342.2) else (spec_DrawReadHydra.j0 k t341 false bt334.1 bt342.2)))))) = some r := h
  clear h
  replace H := Option.bind_eq_some_iff.mp H
  obtain ⟨⟨t334, t335⟩, A20, H⟩ := H
  replace H : ((spec_l20Hydra.f k t334 t335 0).bind fun bt337 => ((spec_HydraText.f k bt337.1).bind fun t341 => ((spec_l20Rd_pick.f k t334 bt337.2 3).bind fun bt342 => (if bt342.1 = 0 then (spec_DrawReadHydra.j0 k t341 (decide ((t341.size : Int) > 0)) t334 bt342.2) else (spec_DrawReadHydra.j0 k t341 false t334 bt342.2))))) = some r := H
  have A2 := Aside0.mk A20
  clear A20
  replace H := Option.bind_eq_some_iff.mp H
  obtain ⟨⟨t337, t340⟩, A30, H⟩ := H
  replace H : ((spec_HydraText.f k t337).bind fun t341 => ((spec_l20Rd_pick.f k t334 t340 3).bind fun bt342 => (if bt342.1 = 0 then (spec_DrawReadHydra.j0 k t341 (decide ((t341.size : Int) > 0)) t334 bt342.2) else (spec_DrawReadHydra.j0 k t341 false t334 bt342.2)))) = some r := H
  have A3 := Aside0.mk A30
  clear A30
  replace H := Option.bind_eq_some_iff.mp H
  obtain ⟨t341, A40, H⟩ := H
  replace H : ((spec_l20Rd_pick.f k t334 t340 3).bind fun bt342 => (if bt342.1 = 0 then (spec_DrawReadHydra.j0 k t341 (decide ((t341.size : Int) > 0)) t334 bt342.2) else (spec_DrawReadHydra.j0 k t341 false t334 bt342.2))) = some r := H
  have A4 := Aside0.mk A40
  clear A40
  have HC5 := Aside0.mk H
  clear H
  go_enter Try.func28, Try.ntmps28
  go_upto_region 3 with (first | ((with_reducible refine gate_callee (f := 36) rfl ?_); refine goesL_ (some 7) rfl rfl Try.func36 (by kernel_rfl) rfl #[.slice A0 l0.length c0] rfl (by (try simp only [List.map_toArray, List.map_cons, List.map_nil]); first | done | rfl | (simp only [List.length_drop, List.length_take]; rfl)) ?_; (with_reducible refine (spec_l20Open.calls _ _ l0 t334 t335 w _ ?side1 ?side2 ?side3 A2.out).mono ?_); (case side1 => repeat (first | (with_reducible first | exact HB.out | apply below_alloc | apply pw_below_drewN | apply below_drew1) | exact HB.out)); (case side2 => exact HR0.out); (case side3 => exact HC0.out); rintro e w6 ⟨g336, rfl, hi, hb, hb2⟩; refine ⟨_, rfl, ?_⟩; have n0_ := Aside0.mk (hb); have n1_ := Aside0.mk (hi); clear HB; have HB := n0_; have HI336 := n1_; clear n0_ n1_; (try clear hb); (try clear hb2); (try clear hk); (try clear hi)) | ((with_reducible refine gate_callee (f := 35) rfl ?_); refine goesL_ (some 9) rfl rfl Try.func35 (by kernel_rfl) rfl #[.pointer (some ⟨g336, 0, none⟩), .int .i64 0] rfl (by (try simp only [List.map_toArray, List.map_cons, List.map_nil]); first | done | rfl | (simp only [List.length_drop, List.length_take]; rfl)) ?_; (with_reducible refine (spec_l20Hydra.calls k g336 t334 t335 0 t337 t340 w _ ?side1 ?side2 A3.out).mono ?_); (case side1 => repeat (first | (with_reducible first | exact HI336.out | apply IsS59.alloc | apply IsS59.drewN | apply IsS59.drew | apply IsS59.set_1) | exact HI336.out)); (case side2 => repeat (first | (with_reducible first | exact HB.out | apply below_alloc | apply pw_below_drewN | apply below_drew1 | refine below_set ?_ (IsS59.ge HI336.out)) | exact HB.out)); rintro e w7 ⟨v338, rfl, ho0, hi, hb, hk⟩; refine ⟨_, rfl, ?_⟩; have n0_ := Aside0.mk (Kd.R_lower ho0 (below_size (by repeat (first | (with_reducible first | exact HB.out | apply below_alloc | apply pw_below_drewN | apply below_drew1 | refine below_set ?_ (IsS59.ge HI336.out)) | exact HB.out)))); have n1_ := Aside0.mk (hb); have n2_ := Aside0.mk (hi); clear HB; clear HI336; have HO339 := n0_; have HB := n1_; have HI336 := n2_; clear n0_ n1_ n2_; (try clear hb); (try clear hb2); (try clear hk); (try clear hi); (try clear ho0); obtain ⟨Ao8, co8, eo8⟩ := Kd.R_slice HO339.out; subst eo8) | ((with_reducible refine gate_callee (f := 17) rfl ?_); refine goesL_ (some 10) rfl rfl Try.func17 (by kernel_rfl) rfl #[.slice Ao8 t337.length co8] rfl (by (try simp only [List.map_toArray, List.map_cons, List.map_nil]); first | done | rfl | (simp only [List.length_drop, List.length_take]; rfl)) ?_; (with_reducible refine (spec_HydraText.calls k _ _ t337 t341 _ ?side1 ?side2 A4.out).mono ?_); (case side1 => repeat (first | exact (Kd.R_reads' HO339.out).2.2 | (with_reducible refine Kd.C_alloc ?_ _) | (with_reducible refine Kd.C_drewN ?_ _) | (with_reducible refine Kd.C_drew ?_))); (case side2 => exact (Kd.R_reads' HO339.out).2.1); rintro e w9 ⟨rfl, hb⟩; refine ⟨_, rfl, ?_⟩; have n0_ := Aside0.mk (Kd.R_below (by (with_reducible repeat (first | apply Kd.R_alloc | apply Kd.R_drewN | apply Kd.R_drew)); exact HO339.out) hb); have n1_ := Aside0.mk (IsS59.below (by repeat (first | (with_reducible first | exact HI336.out | apply IsS59.alloc | apply IsS59.drewN | apply IsS59.drew | apply IsS59.set_1) | exact HI336.out)) hb); have n2_ := Aside0.mk (below_step (by repeat (first | (with_reducible first | exact HB.out | apply below_alloc | apply pw_below_drewN | apply below_drew1 | refine below_set ?_ (IsS59.ge HI336.out)) | exact HB.out)) hb); clear HO339; clear HI336; clear HB; have HO339 := n0_; have HI336 := n1_; have HB := n2_; clear n0_ n1_ n2_; (try clear hb); (try clear hb2); (try clear hk); (try clear hi)))
  (try simp only [Act.put, List.setIfInBounds_toArray, List.set_cons_zero, List.set_cons_succ])
  go_cut [18] (fun v18 wc => ∃ (kq : Nat) (x18_4 : Bool) (x337001_4 : Int), v18 = .bool x18_4 ∧ Aside0 (spec_DrawReadHydra.j0 kq t341 x18_4 t334 x337001_4 = some r) ∧ Aside0 (kq ≤ k) ∧ Aside0 (IsS59 w wc g336 t334 x337001_4) ∧ Aside0 (Below w.heap.size w wc))
  case first =>
    have H := HC5.out
    clear HC5
    replace H := Option.bind_eq_some_iff.mp H
    obtain ⟨⟨t342, t343⟩, A100, H⟩ := H
    replace H : (if t342 = 0 then (spec_DrawReadHydra.j0 k t341 (decide ((t341.size : Int) > 0)) t334 t343) else (spec_DrawReadHydra.j0 k t341 false t334 t343)) = some r := H
    have A10 := Aside0.mk A100
    clear A100
    by_cases c11 : t342 = 0
    · rw [if_pos c11] at H
      have c11b0 : (t342 == 0) = true := beq_iff_eq.mpr c11
      have c11b1 : (t342 != 0) = false := bne_eq_false_iff_eq.mpr c11
      clear c11
      (first | rw [c11b0] | (simp only [i64_w, i32_w]; rw [c11b0]) | skip)
      have H' := Aside0.mk H
      clear H
      go_wp2_with (first | ((with_reducible refine gate_callee (f := 40) rfl ?_); refine goesL_ (some 12) rfl rfl Try.func40 (by kernel_rfl) rfl #[.pointer (some ⟨g336, 0, none⟩), .int .i64 3] rfl (by (try simp only [List.map_toArray, List.map_cons, List.map_nil]); first | done | rfl | (simp only [List.length_drop, List.length_take]; rfl)) ?_; (with_reducible refine (spec_l20Rd_pick.calls k g336 t334 t340 3 t342 t343 w _ ?side1 ?side2 A10.out).mono ?_); (case side1 => repeat (first | (with_reducible first | exact HI336.out | apply IsS59.alloc | apply IsS59.drewN | apply IsS59.drew | apply IsS59.set_1) | exact HI336.out)); (case side2 => repeat (first | (with_reducible first | exact HB.out | apply below_alloc | apply pw_below_drewN | apply below_drew1 | refine below_set ?_ (IsS59.ge HI336.out)) | exact HB.out)); rintro e w12 ⟨rfl, hi, hb, hk⟩; refine ⟨_, rfl, ?_⟩; have n0_ := Aside0.mk (Kd.R_mono (Kd.R_keep (IsS59.apart (show IsS59 w _ g336 t334 t340 from by repeat (first | (with_reducible first | exact HI336.out | apply IsS59.alloc | apply IsS59.drewN | apply IsS59.drew | apply IsS59.set_1) | exact HI336.out)) (by (with_reducible repeat (first | apply Kd.R_alloc | apply Kd.R_drewN | apply Kd.R_drew)); exact HO339.out) (by decide)) hk (fun _ h => h.2)) (fun _ h => h.1)); have n1_ := Aside0.mk (hb); have n2_ := Aside0.mk (hi); clear HO339; clear HB; clear HI336; have HO339 := n0_; have HB := n1_; have HI336 := n2_; clear n0_ n1_ n2_; (try clear hb); (try clear hb2); (try clear hk); (try clear hi)))
      go_meet
      case rel => exact ⟨_, (decide ((t341.size : Int) > 0)), (t343), (by first | rfl | (simp; done) | (simp [*]; done)), H', ⟨by first | omega | exact Nat.le_refl _⟩, ⟨by repeat (first | (with_reducible first | exact HI336.out | apply IsS59.alloc | apply IsS59.drewN | apply IsS59.drew | apply IsS59.set_1) | exact HI336.out)⟩, ⟨by repeat (first | (with_reducible first | exact HB.out | apply below_alloc | apply pw_below_drewN | apply below_drew1 | refine below_set ?_ (IsS59.ge HI336.out)) | exact HB.out)⟩⟩
    · rw [if_neg c11] at H
      have c11b0 : (t342 == 0) = false := beq_eq_false_iff_ne.mpr c11
      have c11b1 : (t342 != 0) = true := bne_iff_ne.mpr c11
      (first | rw [c11b0] | (simp only [i64_w, i32_w]; rw [c11b0]) | skip)
      have H' := Aside0.mk H
      clear H
      go_wp2_with (first | ((with_reducible refine gate_callee (f := 40) rfl ?_); refine goesL_ (some 12) rfl rfl Try.func40 (by kernel_rfl) rfl #[.pointer (some ⟨g336, 0, none⟩), .int .i64 3] rfl (by (try simp only [List.map_toArray, List.map_cons, List.map_nil]); first | done | rfl | (simp only [List.length_drop, List.length_take]; rfl)) ?_; (with_reducible refine (spec_l20Rd_pick.calls k g336 t334 t340 3 t342 t343 w _ ?side1 ?side2 A10.out).mono ?_); (case side1 => repeat (first | (with_reducible first | exact HI336.out | apply IsS59.alloc | apply IsS59.drewN | apply IsS59.drew | apply IsS59.set_1) | exact HI336.out)); (case side2 => repeat (first | (with_reducible first | exact HB.out | apply below_alloc | apply pw_below_drewN | apply below_drew1 | refine below_set ?_ (IsS59.ge HI336.out)) | exact HB.out)); rintro e w13 ⟨rfl, hi, hb, hk⟩; refine ⟨_, rfl, ?_⟩; have n0_ := Aside0.mk (Kd.R_mono (Kd.R_keep (IsS59.apart (show IsS59 w _ g336 t334 t340 from by repeat (first | (with_reducible first | exact HI336.out | apply IsS59.alloc | apply IsS59.drewN | apply IsS59.drew | apply IsS59.set_1) | exact HI336.out)) (by (with_reducible repeat (first | apply Kd.R_alloc | apply Kd.R_drewN | apply Kd.R_drew)); exact HO339.out) (by decide)) hk (fun _ h => h.2)) (fun _ h => h.1)); have n1_ := Aside0.mk (hb); have n2_ := Aside0.mk (hi); clear HO339; clear HB; clear HI336; have HO339 := n0_; have HB := n1_; have HI336 := n2_; clear n0_ n1_ n2_; (try clear hb); (try clear hb2); (try clear hk); (try clear hi)))
      go_meet
      case rel => exact ⟨_, (false), (t343), (by first | rfl | (simp; done) | (simp [*]; done)), H', ⟨by first | omega | exact Nat.le_refl _⟩, ⟨by repeat (first | (with_reducible first | exact HI336.out | apply IsS59.alloc | apply IsS59.drewN | apply IsS59.drew | apply IsS59.set_1) | exact HI336.out)⟩, ⟨by repeat (first | (with_reducible first | exact HB.out | apply below_alloc | apply pw_below_drewN | apply below_drew1 | refine below_set ?_ (IsS59.ge HI336.out)) | exact HB.out)⟩⟩
  case rest =>
    clear HC5
    try clear c1
    try clear c2
    try clear p2
    try clear c3
    try clear c4
    try clear c11
    try clear c11b0
    try clear c11b1
    obtain ⟨kq, x18_4, x337001_4, rfl, HA, HJ4, HI336, HB⟩ := hcut
    cases kq with
    | zero => exact absurd HA.out (by simp [spec_DrawReadHydra.j0])
    | succ kj4 =>
      have H := HA.out
      clear HA
      simp only [spec_DrawReadHydra.j0] at H
      by_cases c14 : x18_4 = true
      · subst c14
        have H1 : ((spec_l20Rd_pick.f kj4 t334 x337001_4 (t341.size : Int)).bind fun bt344 => (if 0 ≤ bt344.1 then (if bt344.1 ≤ (t341.size : Int) then ((some (([(⟨#[]⟩ : ByteArray), (⟨#[40]⟩ : ByteArray), (⟨#[41]⟩ : ByteArray), (⟨#[40, 41]⟩ : ByteArray), (⟨#[120]⟩ : ByteArray)] : List ByteArray) : List ByteArray)).bind fun y346 => ((spec_l20Rd_pick.f kj4 t334 bt344.2 5).bind fun bt349 => (if 0 ≤ bt349.1 then (if bt349.1 < (y346.length : Int) then (if (t341.extract 0 (bt344.1 : Int).toNat).size + (rdOf ByteArray.empty y346 bt349.1).size ≤ 9223372036854775807 then (if 0 ≤ (wrap64 (bt344.1 + 1)) then (if (wrap64 (bt344.1 + 1)) ≤ (t341.size : Int) then (if ((t341.extract 0 (bt344.1 : Int).toNat) ++ (rdOf ByteArray.empty y346 bt349.1)).size + (t341.extract ((wrap64 (bt344.1 + 1)) : Int).toNat t341.size).size ≤ 9223372036854775807 then (some (((t341.extract 0 (bt344.1 : Int).toNat) ++ (rdOf ByteArray.empty y346 bt349.1)) ++ (t341.extract ((wrap64 (bt344.1 + 1)) : Int).toNat t341.size))) else (none)) else (none)) else (none)) else (none)) else (none)) else (none)))) else (none)) else (none))) = some r := by rw [if_pos rfl] at H; exact H
        clear H
        have H := H1
        clear H1
        replace H := Option.bind_eq_some_iff.mp H
        obtain ⟨⟨t344, t345⟩, A150, H⟩ := H
        replace H : (if 0 ≤ t344 then (if t344 ≤ (t341.size : Int) then ((some (([(⟨#[]⟩ : ByteArray), (⟨#[40]⟩ : ByteArray), (⟨#[41]⟩ : ByteArray), (⟨#[40, 41]⟩ : ByteArray), (⟨#[120]⟩ : ByteArray)] : List ByteArray) : List ByteArray)).bind fun y346 => ((spec_l20Rd_pick.f kj4 t334 t345 5).bind fun bt349 => (if 0 ≤ bt349.1 then (if bt349.1 < (y346.length : Int) then (if (t341.extract 0 (t344 : Int).toNat).size + (rdOf ByteArray.empty y346 bt349.1).size ≤ 9223372036854775807 then (if 0 ≤ (wrap64 (t344 + 1)) then (if (wrap64 (t344 + 1)) ≤ (t341.size : Int) then (if ((t341.extract 0 (t344 : Int).toNat) ++ (rdOf ByteArray.empty y346 bt349.1)).size + (t341.extract ((wrap64 (t344 + 1)) : Int).toNat t341.size).size ≤ 9223372036854775807 then (some (((t341.extract 0 (t344 : Int).toNat) ++ (rdOf ByteArray.empty y346 bt349.1)) ++ (t341.extract ((wrap64 (t344 + 1)) : Int).toNat t341.size))) else (none)) else (none)) else (none)) else (none)) else (none)) else (none)))) else (none)) else (none)) = some r := H
        have A15 := Aside0.mk A150
        clear A150
        by_cases c16 : 0 ≤ t344
        · rw [if_pos c16] at H
          have c16b0 := eq_true c16
          have c16b1 : decide (0 ≤ t344) = true := decide_eq_true c16
          clear c16
          by_cases c17 : t344 ≤ (t341.size : Int)
          · rw [if_pos c17] at H
            have c17b0 := eq_true c17
            have c17b1 : decide (t344 ≤ (t341.size : Int)) = true := decide_eq_true c17
            clear c17
            obtain ⟨y346, hy346⟩ : ∃ y_ : List ByteArray, y_ = (([(⟨#[]⟩ : ByteArray), (⟨#[40]⟩ : ByteArray), (⟨#[41]⟩ : ByteArray), (⟨#[40, 41]⟩ : ByteArray), (⟨#[120]⟩ : ByteArray)] : List ByteArray)) := ⟨_, rfl⟩
            replace H : ((spec_l20Rd_pick.f kj4 t334 t345 5).bind fun bt349 => (if 0 ≤ bt349.1 then (if bt349.1 < (y346.length : Int) then (if (t341.extract 0 (t344 : Int).toNat).size + (rdOf ByteArray.empty y346 bt349.1).size ≤ 9223372036854775807 then (if 0 ≤ (wrap64 (t344 + 1)) then (if (wrap64 (t344 + 1)) ≤ (t341.size : Int) then (if ((t341.extract 0 (t344 : Int).toNat) ++ (rdOf ByteArray.empty y346 bt349.1)).size + (t341.extract ((wrap64 (t344 + 1)) : Int).toNat t341.size).size ≤ 9223372036854775807 then (some (((t341.extract 0 (t344 : Int).toNat) ++ (rdOf ByteArray.empty y346 bt349.1)) ++ (t341.extract ((wrap64 (t344 + 1)) : Int).toNat t341.size))) else (none)) else (none)) else (none)) else (none)) else (none)) else (none))) = some r := by first | (rw [hy346]; with_reducible exact H) | (have H2_ := (Option.bind_some _ _).symm.trans H; rw [hy346]; with_reducible exact H2_) | (have H2_ := (Option.bind_some _ _).symm.trans H; with_reducible exact H2_) | with_reducible exact H | (rw [hy346]; exact H) | exact H
            have Ny346 := Aside0.mk hy346
            clear hy346
            replace H := Option.bind_eq_some_iff.mp H
            obtain ⟨⟨t349, t350⟩, A180, H⟩ := H
            replace H : (if 0 ≤ t349 then (if t349 < (y346.length : Int) then (if (t341.extract 0 (t344 : Int).toNat).size + (rdOf ByteArray.empty y346 t349).size ≤ 9223372036854775807 then (if 0 ≤ (wrap64 (t344 + 1)) then (if (wrap64 (t344 + 1)) ≤ (t341.size : Int) then (if ((t341.extract 0 (t344 : Int).toNat) ++ (rdOf ByteArray.empty y346 t349)).size + (t341.extract ((wrap64 (t344 + 1)) : Int).toNat t341.size).size ≤ 9223372036854775807 then (some (((t341.extract 0 (t344 : Int).toNat) ++ (rdOf ByteArray.empty y346 t349)) ++ (t341.extract ((wrap64 (t344 + 1)) : Int).toNat t341.size))) else (none)) else (none)) else (none)) else (none)) else (none)) else (none)) = some r := H
            have A18 := Aside0.mk A180
            clear A180
            by_cases c19 : 0 ≤ t349
            · rw [if_pos c19] at H
              have c19b0 : decide (0 ≤ t349) = true := decide_eq_true c19
              clear c19
              by_cases c20 : t349 < (y346.length : Int)
              · rw [if_pos c20] at H
                have c20b0 : decide (t349 < (y346.length : Int)) = true := decide_eq_true c20
                clear c20
                by_cases c21 : (t341.extract 0 (t344 : Int).toNat).size + (rdOf ByteArray.empty y346 t349).size ≤ 9223372036854775807
                · rw [if_pos c21] at H
                  have c21b0 := eq_true c21
                  have c21b1 : decide ((t341.extract 0 (t344 : Int).toNat).size + (rdOf ByteArray.empty y346 t349).size ≤ 9223372036854775807) = true := decide_eq_true c21
                  try have c21b2 : (9223372036854775807 < (t341.extract 0 (t344 : Int).toNat).size + (rdOf ByteArray.empty y346 t349).size) = False := eq_false (Nat.not_lt.2 c21)
                  obtain ⟨ji22, hji22⟩ : ∃ j_ : Int, (wrap64 (t344 + 1)) = j_ := ⟨_, rfl⟩
                  replace H : (if 0 ≤ (ji22) then (if (ji22) ≤ (t341.size : Int) then (if ((t341.extract 0 (t344 : Int).toNat) ++ (rdOf ByteArray.empty y346 t349)).size + (t341.extract ((ji22) : Int).toNat t341.size).size ≤ 9223372036854775807 then (some (((t341.extract 0 (t344 : Int).toNat) ++ (rdOf ByteArray.empty y346 t349)) ++ (t341.extract ((ji22) : Int).toNat t341.size))) else (none)) else (none)) else (none)) = some r := by first | (rw [hji22] at H; exact H) | (simp only [hji22] at H ⊢; exact H)
                  (try rw [hji22] at A15)
                  (try rw [hji22] at A18)
                  have hji22w : (IntKind.i64.wrap (t344 + 1)) = ji22 := (i64_w _).trans hji22
                  by_cases c23 : 0 ≤ (ji22)
                  · rw [if_pos c23] at H
                    have c23b0 := eq_true c23
                    have c23b1 : decide (0 ≤ (ji22)) = true := decide_eq_true c23
                    clear c23
                    by_cases c24 : (ji22) ≤ (t341.size : Int)
                    · rw [if_pos c24] at H
                      have c24b0 := eq_true c24
                      have c24b1 : decide ((ji22) ≤ (t341.size : Int)) = true := decide_eq_true c24
                      clear c24
                      by_cases c25 : ((t341.extract 0 (t344 : Int).toNat) ++ (rdOf ByteArray.empty y346 t349)).size + (t341.extract ((ji22) : Int).toNat t341.size).size ≤ 9223372036854775807
                      · rw [if_pos c25] at H
                        have c25b0 := eq_true c25
                        have c25b1 : decide (((t341.extract 0 (t344 : Int).toNat) ++ (rdOf ByteArray.empty y346 t349)).size + (t341.extract ((ji22) : Int).toNat t341.size).size ≤ 9223372036854775807) = true := decide_eq_true c25
                        try have c25b2 : (9223372036854775807 < ((t341.extract 0 (t344 : Int).toNat) ++ (rdOf ByteArray.empty y346 t349)).size + (t341.extract ((ji22) : Int).toNat t341.size).size) = False := eq_false (Nat.not_lt.2 c25)
                        obtain rfl := Option.some.inj H
                        try go_wp2_with (first | ((with_reducible refine gate_callee (f := 40) rfl ?_); refine goesL_ (some 22) rfl rfl Try.func40 (by kernel_rfl) rfl #[.pointer (some ⟨g336, 0, none⟩), .int .i64 (t341.size : Int)] rfl (by (try simp only [List.map_toArray, List.map_cons, List.map_nil]); first | done | rfl | (simp only [List.length_drop, List.length_take]; rfl)) ?_; (with_reducible refine (spec_l20Rd_pick.calls kj4 g336 t334 x337001_4 (t341.size : Int) t344 t345 w _ ?side1 ?side2 A15.out).mono ?_); (case side1 => repeat (first | (with_reducible first | exact HI336.out | apply IsS59.alloc | apply IsS59.drewN | apply IsS59.drew | apply IsS59.set_1) | exact HI336.out)); (case side2 => repeat (first | (with_reducible first | exact HB.out | apply below_alloc | apply pw_below_drewN | apply below_drew1 | refine below_set ?_ (IsS59.ge HI336.out)) | exact HB.out)); rintro e w26 ⟨rfl, hi, hb, hk⟩; refine ⟨_, rfl, ?_⟩; have n0_ := Aside0.mk (hb); have n1_ := Aside0.mk (hi); clear HB; clear HI336; have HB := n0_; have HI336 := n1_; clear n0_ n1_; (try clear hb); (try clear hb2); (try clear hk); (try clear hi)))
                        have pi351 : (0 ≤ (t349 : Int)) = True := eq_true (of_decide_eq_true (by first | (with_reducible assumption) | assumption))
                        have qi351 : (t349 < (y346.length : Int)) = True := eq_true (of_decide_eq_true (by first | (with_reducible assumption) | assumption))
                        have n0_ := Aside0.mk (IsS59.drew HI336.out)
                        have n1_ := Aside0.mk (below_drew1 HB.out)
                        clear HI336
                        clear HB
                        have HI336 := n0_
                        have HB := n1_
                        clear n0_ n1_
                        refine start_ (n := 15) (S := fun w' => True) (ds := []) #[false, false, false, false, false, false, false, false, false, false, false, false, false, false, false] (by kernel_rfl) rfl rfl trivial (fun hHeld => ?_); refine with_tabW spec_DrawReadHydra.tab5 spec_DrawReadHydra.bits5 (fun HT_ HW_ => ?_)
                        generalize w26.drew = w27 at HI336 HB hHeld ⊢
                        refine pure_ (i := 0) (N := some 23) (v := ?_) (a' := ?_) #[true, false, false, false, false, false, false, false, false, false, false, false, false, false, false] rfl rfl (any_of HT_.out (by kernel_rfl)) (fun _ _ _ h => h) (Or.inl ⟨by rfl, ?_⟩) ?_ ?_
                        rotate_left
                        · intro w'
                          go_simp
                          with_reducible rfl
                        rotate_left
                        · simp only [Act.put, List.setIfInBounds_toArray, List.set_cons_zero, List.set_cons_succ, i64_w, i32_w]
                          rfl
                        refine pure_ (i := 1) (N := some 24) (v := ?_) (a' := ?_) #[true, true, false, false, false, false, false, false, false, false, false, false, false, false, false] rfl rfl (any_of HT_.out (by kernel_rfl)) (fun _ _ _ h => h) (Or.inl ⟨by rfl, ?_⟩) ?_ ?_
                        rotate_left
                        · intro w'
                          go_simp
                          with_reducible rfl
                        rotate_left
                        · simp only [Act.put, List.setIfInBounds_toArray, List.set_cons_zero, List.set_cons_succ, i64_w, i32_w]
                          rfl
                        refine pure_ (i := 4) (N := some 27) (v := ?_) (a' := ?_) #[true, true, false, false, true, false, false, false, false, false, false, false, false, false, false] rfl rfl (any_of HT_.out (by kernel_rfl)) (fun _ _ _ h => h) (Or.inl ⟨by rfl, ?_⟩) ?_ ?_
                        rotate_left
                        · intro w'
                          go_simp
                          with_reducible rfl
                        rotate_left
                        · simp only [Act.put, List.setIfInBounds_toArray, List.set_cons_zero, List.set_cons_succ, i64_w, i32_w]
                          rfl
                        refine pure_ (i := 9) (N := some 32) (v := ?_) (a' := ?_) #[true, true, false, false, true, false, false, false, false, true, false, false, false, false, false] rfl rfl (any_of HT_.out (by kernel_rfl)) (fun _ _ _ h => h) (Or.inl ⟨by rfl, ?_⟩) ?_ ?_
                        rotate_left
                        · intro w'
                          go_simp
                          with_reducible rfl
                        rotate_left
                        · simp only [Act.put, List.setIfInBounds_toArray, List.set_cons_zero, List.set_cons_succ, i64_w, i32_w]
                          rfl
                        refine pure_ (i := 10) (N := some 33) (v := ?_) (a' := ?_) #[true, true, false, false, true, false, false, false, false, true, true, false, false, false, false] rfl rfl (any_of HT_.out (by kernel_rfl)) (fun _ _ _ h => h) (Or.inl ⟨by rfl, ?_⟩) ?_ ?_
                        rotate_left
                        · intro w'
                          go_simp
                          with_reducible rfl
                        rotate_left
                        · simp only [Act.put, List.setIfInBounds_toArray, List.set_cons_zero, List.set_cons_succ, i64_w, i32_w]
                          rfl
                        refine inv_at [2, 3, 5, 6, 7, 8, 11, 12, 13, 14] (fun a0_ b a w' => ∃ (v347 : Value) (adz_v347 : Addr) (m6_ : Value), a = putSel a0_ b [(2, 25, .string (t341.extract 0 (t344 : Int).toNat)), (3, 26, v347), (5, 28, .int .i64 t349), (6, 29, m6_), (7, 30, .string (rdOf ByteArray.empty y346 t349)), (8, 31, .string ((t341.extract 0 (t344 : Int).toNat) ++ (rdOf ByteArray.empty y346 t349))), (11, 34, .int .i64 ji22), (12, 35, .string (t341.extract ((ji22) : Int).toNat t341.size)), (13, 36, .string (((t341.extract 0 (t344 : Int).toNat) ++ (rdOf ByteArray.empty y346 t349)) ++ (t341.extract ((ji22) : Int).toNat t341.size))), (14, 2, .string (((t341.extract 0 (t344 : Int).toNat) ++ (rdOf ByteArray.empty y346 t349)) ++ (t341.extract ((ji22) : Int).toNat t341.size)))] ∧ (b 5 = false → IsS59 w w' g336 t334 t345) ∧ (Below w.heap.size w w') ∧ (b 3 = true → Kd.R Kd.string 9 w' w.heap.size (fun _ => True) v347 y346) ∧ (b 3 = true → ∃ c_, (v347 : Value) = .slice (some adz_v347) y346.length c_) ∧ (b 5 = true → IsS59 w w' g336 t334 t350) ∧ (b 6 = true → (m6_ : Value) = .pointer (some (adz_v347.add (t349).toNat)))) HT_.out HW_.out (by kernel_rfl) (by kernel_rfl) ?_ ?_ ?_
                        · exact ⟨.bool false, ⟨0, 0, none⟩, .bool false, by simp only [putSel, Bool.false_eq_true, if_false], fun _ => HI336.out, HB.out, fun h_ => absurd h_ (by decide), fun h_ => absurd h_ (by decide), fun h_ => absurd h_ (by decide), fun h_ => absurd h_ (by decide)⟩
                        · skip
                          clear HB HI336
                          refine steps_cons ?_ ?_
                          · rintro b a w' ⟨v347, adz_v347, m6_, ha, Q_HI336, Q_HB, Q_HO348, Q_HA_HO348, Q_HI336_e5, Q_X6_⟩ hb_ hon hoff
                            refine ⟨_, rfl, fun K hK => ?_⟩
                            have e23 : a.tmps[23]? = some (.string t341) := by rw [ha]; exact (putSel_off rfl).trans rfl
                            have e24 : a.tmps[24]? = some (.int .i64 t344) := by rw [ha]; exact (putSel_off rfl).trans rfl
                            replace ha := Aside0.mk ha
                            have HB := Aside0.mk Q_HB
                            refine value_ (w1 := w') (v := .string (t341.extract 0 (t344 : Int).toNat)) (by rfl) rfl ?_ ?_
                            · go_simp
                              (try simp only [i64_w])
                              try rfl
                            refine hK.out _ _ ⟨v347, adz_v347, m6_, (by rw [ha.out]; exact putSel_upk 0 hb_ rfl rfl rfl), Q_HI336, Q_HB, Q_HO348, Q_HA_HO348, Q_HI336_e5, Q_X6_⟩
                          refine steps_cons ?_ ?_
                          · rintro b a w' ⟨v347, adz_v347, m6_, ha, Q_HI336, Q_HB, Q_HO348, Q_HA_HO348, Q_HI336_e5, Q_X6_⟩ hb_ hon hoff
                            refine ⟨_, rfl, fun K hK => ?_⟩
                            replace ha := Aside0.mk ha
                            have HB := Aside0.mk Q_HB
                            refine Kd.R_lit_step Kd.string _ 9 ?hg (N := 26) ?hd (xs := ([(⟨#[]⟩ : ByteArray), (⟨#[40]⟩ : ByteArray), (⟨#[41]⟩ : ByteArray), (⟨#[40, 41]⟩ : ByteArray), (⟨#[120]⟩ : ByteArray)] : List ByteArray)) (inner := [.string (⟨#[]⟩ : ByteArray), .string (⟨#[40]⟩ : ByteArray), .string (⟨#[41]⟩ : ByteArray), .string (⟨#[40, 41]⟩ : ByteArray), .string (⟨#[120]⟩ : ByteArray)]) (ok := fun _ => True) (okp := fun _ => True) ?hr ?hp (fun _ hk => hk) trivial (Below.refl _ _) (Nat.le_refl _) (by simp) ?_; (case hd => rfl); (case hg => rfl); (case hr => first | (go_simp; done) | (go_simp; rfl)); (case hp => exact (Reps.one (show Kd.M Kd.string _ _ _ (⟨#[]⟩ : ByteArray) [.string (⟨#[]⟩ : ByteArray)] from rfl) (Reps.one (show Kd.M Kd.string _ _ _ (⟨#[40]⟩ : ByteArray) [.string (⟨#[40]⟩ : ByteArray)] from rfl) (Reps.one (show Kd.M Kd.string _ _ _ (⟨#[41]⟩ : ByteArray) [.string (⟨#[41]⟩ : ByteArray)] from rfl) (Reps.one (show Kd.M Kd.string _ _ _ (⟨#[40, 41]⟩ : ByteArray) [.string (⟨#[40, 41]⟩ : ByteArray)] from rfl) (Reps.one (show Kd.M Kd.string _ _ _ (⟨#[120]⟩ : ByteArray) [.string (⟨#[120]⟩ : ByteArray)] from rfl) (Reps.none _ _)))))))
                            intro v347 w28 ho29 hb hg_ hnew_
                            clear hg_ hnew_
                            (first | rw [← Ny346.out] at ho29 | (simp only [Int.reduceToNat] at ho29; rw [← Ny346.out] at ho29))
                            have n0_ := Aside0.mk (Kd.R_lower ho29 (below_size (by repeat (first | (with_reducible first | exact HB.out | apply below_alloc | apply pw_below_drewN | apply below_drew1) | exact HB.out))))
                            have n2_ := Aside0.mk (below_step (by repeat (first | (with_reducible first | exact HB.out | apply below_alloc | apply pw_below_drewN | apply below_drew1) | exact HB.out)) hb)
                            have z_HI336 := fun (h0_ : b 5 = false) => (show IsS59 w w28 g336 t334 t345 from by first | exact (IsS59.below (by repeat (first | (with_reducible first | exact (Q_HI336 h0_) | apply IsS59.alloc | apply IsS59.drewN | apply IsS59.drew | apply IsS59.set_1) | exact (Q_HI336 h0_))) hb))
                            have z_HI336_e5 := fun (h0_ : b 5 = true) => (show IsS59 w w28 g336 t334 t350 from by first | exact (IsS59.below (by repeat (first | (with_reducible first | exact (Q_HI336_e5 h0_) | apply IsS59.alloc | apply IsS59.drewN | apply IsS59.drew | apply IsS59.set_1) | exact (Q_HI336_e5 h0_))) hb))
                            clear HB
                            have HO348 := n0_
                            have HB := n2_
                            clear n0_ n2_
                            clear hb ho29
                            obtain ⟨Ao30, co30, eo30⟩ := Kd.R_slice HO348.out
                            subst eo30
                            obtain ⟨ado30, fo30, _⟩ := Kd.at_string (Kd.R_reads' HO348.out).2.2 0 (by decide) (by rw [Ny346.out]; simp)
                            cases fo30
                            refine hK.out _ _ ⟨.slice (some ado30) y346.length co30, ado30, m6_, (by rw [ha.out]; exact putSel_upk 1 hb_ rfl rfl rfl), z_HI336, (by repeat (first | (with_reducible first | exact HB.out | apply below_alloc | apply pw_below_drewN | apply below_drew1) | exact HB.out)), fun _ => (by (with_reducible repeat (first | apply Kd.R_alloc | apply Kd.R_drewN | apply Kd.R_drew)); exact HO348.out), fun _ => ⟨_, rfl⟩, z_HI336_e5, fun h0_ => absurd ((hoff 6 (by kernel_rfl)).symm.trans h0_) (by decide)⟩
                          refine steps_cons ?_ ?_
                          · rintro b a w' ⟨v347, adz_v347, m6_, ha, Q_HI336, Q_HB, Q_HO348, Q_HA_HO348, Q_HI336_e5, Q_X6_⟩ hb_ hon hoff
                            refine ⟨_, rfl, fun K hK => ?_⟩
                            have e27 : a.tmps[27]? = some (.pointer (some ⟨g336, 0, none⟩)) := by rw [ha]; exact (putSel_off rfl).trans rfl
                            replace ha := Aside0.mk ha
                            have HI336 := Aside0.mk (Q_HI336 hb_)
                            have HB := Aside0.mk Q_HB
                            refine goes_ Try.func40 (by kernel_rfl) rfl #[.pointer (some ⟨g336, 0, none⟩), .int .i64 5] (by rfl) rfl rfl (by first | (simp only [List.map_toArray, List.map_cons, List.map_nil, Act.eval, Array.getD_eq_getD_getElem?, Option.getD_some, e27]; done) | (simp only [List.map_toArray, List.map_cons, List.map_nil, Act.eval, Array.getD_eq_getD_getElem?, Option.getD_some, e27]; rfl)) ?_
                            with_reducible refine (spec_l20Rd_pick.calls kj4 g336 t334 t345 5 t349 t350 w _ ?side1 ?side2 A18.out).mono ?_
                            (case side1 => repeat (first | (with_reducible first | exact HI336.out | apply IsS59.alloc | apply IsS59.drewN | apply IsS59.drew | apply IsS59.set_1) | exact HI336.out))
                            (case side2 => repeat (first | (with_reducible first | exact HB.out | apply below_alloc | apply pw_below_drewN | apply below_drew1 | refine below_set ?_ (IsS59.ge HI336.out)) | exact HB.out))
                            rintro e w28 ⟨rfl, hi, hb, hk⟩
                            refine ⟨_, rfl, ?_⟩
                            have n0_ := Aside0.mk (hb)
                            have n1_ := Aside0.mk (hi)
                            have z_HO348 := fun (h0_ : b 3 = true) => (show Kd.R Kd.string 9 w28 w.heap.size (fun _ => True) v347 y346 from by first | exact (Kd.R_mono (Kd.R_keep (IsS59.apart (show IsS59 w _ g336 t334 t345 from by repeat (first | (with_reducible first | exact HI336.out | apply IsS59.alloc | apply IsS59.drewN | apply IsS59.drew | apply IsS59.set_1) | exact HI336.out)) (by (with_reducible repeat (first | apply Kd.R_alloc | apply Kd.R_drewN | apply Kd.R_drew)); exact (Q_HO348 h0_)) (by decide)) hk (fun _ h => h.2)) (fun _ h => h.1)) | exact Kd.R_mono (Kd.R_mono (Kd.R_keep (IsS59.apart (show IsS59 w _ g336 t334 t345 from by repeat (first | (with_reducible first | exact HI336.out | apply IsS59.alloc | apply IsS59.drewN | apply IsS59.drew | apply IsS59.set_1) | exact HI336.out)) (by (with_reducible repeat (first | apply Kd.R_alloc | apply Kd.R_drewN | apply Kd.R_drew)); exact (Q_HO348 h0_)) (by decide)) hk (fun _ h => h.2)) (fun _ h => h.1)) (fun _ h_ => by first | trivial | exact h_ | exact h_.1))
                            clear HB
                            clear HI336
                            have HB := n0_
                            have HI336 := n1_
                            clear n0_ n1_
                            (try clear hb)
                            (try clear hb2)
                            (try clear hk)
                            (try clear hi)
                            refine hK.out _ _ ⟨v347, adz_v347, m6_, (by rw [ha.out]; exact putSel_upk 2 hb_ rfl rfl rfl), fun h0_ => absurd ((up_self b 5).symm.trans h0_) (by decide), (by repeat (first | (with_reducible first | exact HB.out | apply below_alloc | apply pw_below_drewN | apply below_drew1 | refine below_set ?_ (IsS59.ge HI336.out)) | exact HB.out)), z_HO348, Q_HA_HO348, fun _ => (by repeat (first | (with_reducible first | exact HI336.out | apply IsS59.alloc | apply IsS59.drewN | apply IsS59.drew | apply IsS59.set_1) | exact HI336.out)), fun h0_ => absurd ((hoff 6 (by kernel_rfl)).symm.trans h0_) (by decide)⟩
                          refine steps_cons ?_ ?_
                          · rintro b a w' ⟨v347, adz_v347, m6_, ha, Q_HI336, Q_HB, Q_HO348, Q_HA_HO348, Q_HI336_e5, Q_X6_⟩ hb_ hon hoff
                            refine ⟨_, rfl, fun K hK => ?_⟩
                            have e26 : a.tmps[26]? = some (v347) := by rw [ha]; exact putSel_on (e := (3, 26, v347)) 1 rfl rfl (hon 3 (by kernel_rfl)) rfl
                            have e28 : a.tmps[28]? = some (.int .i64 t349) := by rw [ha]; exact putSel_on (e := (5, 28, .int .i64 t349)) 2 rfl rfl (hon 5 (by kernel_rfl)) rfl
                            replace ha := Aside0.mk ha
                            have HB := Aside0.mk Q_HB
                            have HO348 := Aside0.mk (Q_HO348 (hon 3 (by kernel_rfl)))
                            have HA_HO348 := Aside0.mk (Q_HA_HO348 (hon 3 (by kernel_rfl)))
                            have HI336 := Aside0.mk (Q_HI336_e5 (hon 5 (by kernel_rfl)))
                            obtain ⟨c_, hv_⟩ := HA_HO348.out
                            rw [hv_] at e26
                            refine value_ (w1 := w') (v := .pointer (some (adz_v347.add (t349).toNat))) (by rfl) rfl ?_ ?_
                            · go_simp
                              (try simp only [i64_w])
                              try rfl
                            refine hK.out _ _ ⟨v347, adz_v347, (.pointer (some (adz_v347.add (t349).toNat))), (by rw [ha.out]; exact putSel_upk 3 hb_ rfl rfl rfl), fun h0_ => absurd ((hon 5 (by kernel_rfl)).symm.trans h0_) (by decide), Q_HB, Q_HO348, Q_HA_HO348, Q_HI336_e5, fun _ => rfl⟩
                          refine steps_cons ?_ ?_
                          · rintro b a w' ⟨v347, adz_v347, m6_, ha, Q_HI336, Q_HB, Q_HO348, Q_HA_HO348, Q_HI336_e5, Q_X6_⟩ hb_ hon hoff
                            refine ⟨_, rfl, fun K hK => ?_⟩
                            have e29 : a.tmps[29]? = some (m6_) := by rw [ha]; exact putSel_on (e := (6, 29, m6_)) 3 rfl rfl (hon 6 (by kernel_rfl)) rfl
                            rw [Q_X6_ (hon 6 (by kernel_rfl))] at e29
                            replace ha := Aside0.mk ha
                            have HB := Aside0.mk Q_HB
                            have HO348 := Aside0.mk (Q_HO348 (hon 3 (by kernel_rfl)))
                            have HA_HO348 := Aside0.mk (Q_HA_HO348 (hon 3 (by kernel_rfl)))
                            have HI336 := Aside0.mk (Q_HI336_e5 (hon 5 (by kernel_rfl)))
                            obtain ⟨c_, hv_⟩ := HA_HO348.out
                            have hF_ := HO348.out
                            rw [hv_] at hF_
                            obtain ⟨ad_, ea_, hx_⟩ := Kd.at_string (Kd.R_reads' hF_).2.2 t349 (of_eq_true pi351) (of_eq_true qi351)
                            cases ea_
                            refine value_ (w1 := w') (v := .string (rdOf ByteArray.empty y346 t349)) (by rfl) rfl ?_ ?_
                            · go_simp
                              (try simp only [i64_w])
                              try rfl
                            refine hK.out _ _ ⟨v347, adz_v347, m6_, (by rw [ha.out]; exact putSel_upk 4 hb_ rfl rfl rfl), fun h0_ => absurd ((hon 5 (by kernel_rfl)).symm.trans h0_) (by decide), Q_HB, Q_HO348, Q_HA_HO348, Q_HI336_e5, Q_X6_⟩
                          refine steps_cons ?_ ?_
                          · rintro b a w' ⟨v347, adz_v347, m6_, ha, Q_HI336, Q_HB, Q_HO348, Q_HA_HO348, Q_HI336_e5, Q_X6_⟩ hb_ hon hoff
                            refine ⟨_, rfl, fun K hK => ?_⟩
                            have e25 : a.tmps[25]? = some (.string (t341.extract 0 (t344 : Int).toNat)) := by rw [ha]; exact putSel_on (e := (2, 25, .string (t341.extract 0 (t344 : Int).toNat))) 0 rfl rfl (hon 2 (by kernel_rfl)) rfl
                            have e30 : a.tmps[30]? = some (.string (rdOf ByteArray.empty y346 t349)) := by rw [ha]; exact putSel_on (e := (7, 30, .string (rdOf ByteArray.empty y346 t349))) 4 rfl rfl (hon 7 (by kernel_rfl)) rfl
                            replace ha := Aside0.mk ha
                            have HB := Aside0.mk Q_HB
                            have HO348 := Aside0.mk (Q_HO348 (hon 3 (by kernel_rfl)))
                            have HA_HO348 := Aside0.mk (Q_HA_HO348 (hon 3 (by kernel_rfl)))
                            have HI336 := Aside0.mk (Q_HI336_e5 (hon 5 (by kernel_rfl)))
                            refine value_ (w1 := w') (v := .string ((t341.extract 0 (t344 : Int).toNat) ++ (rdOf ByteArray.empty y346 t349))) (by rfl) rfl ?_ ?_
                            · go_simp
                              (try simp only [i64_w])
                              try rfl
                              (try ((try have zc17_ := of_decide_eq_true c17b1); (try simp only [ByteArray.size_extract, ByteArray.size_append] at zc17_); (try have zc21_ := of_decide_eq_true c21b1); (try simp only [ByteArray.size_extract, ByteArray.size_append] at zc21_); (try have zc24_ := of_decide_eq_true c24b1); (try simp only [ByteArray.size_extract, ByteArray.size_append] at zc24_); (try have zc25_ := of_decide_eq_true c25b1); (try simp only [ByteArray.size_extract, ByteArray.size_append] at zc25_); (try simp only [ByteArray.size_extract, ByteArray.size_append]); omega))
                            refine hK.out _ _ ⟨v347, adz_v347, m6_, (by rw [ha.out]; exact putSel_upk 5 hb_ rfl rfl rfl), fun h0_ => absurd ((hon 5 (by kernel_rfl)).symm.trans h0_) (by decide), Q_HB, Q_HO348, Q_HA_HO348, Q_HI336_e5, Q_X6_⟩
                          refine steps_cons ?_ ?_
                          · rintro b a w' ⟨v347, adz_v347, m6_, ha, Q_HI336, Q_HB, Q_HO348, Q_HA_HO348, Q_HI336_e5, Q_X6_⟩ hb_ hon hoff
                            refine ⟨_, rfl, fun K hK => ?_⟩
                            have e33 : a.tmps[33]? = some (.int .i64 t344) := by rw [ha]; exact (putSel_off rfl).trans rfl
                            replace ha := Aside0.mk ha
                            have HB := Aside0.mk Q_HB
                            refine value_ (w1 := w') (v := .int .i64 ji22) (by rfl) rfl ?_ ?_
                            · go_simp
                              (try simp only [i64_w])
                              try rfl
                            refine hK.out _ _ ⟨v347, adz_v347, m6_, (by rw [ha.out]; exact putSel_upk 6 hb_ rfl rfl rfl), Q_HI336, Q_HB, Q_HO348, Q_HA_HO348, Q_HI336_e5, Q_X6_⟩
                          refine steps_cons ?_ ?_
                          · rintro b a w' ⟨v347, adz_v347, m6_, ha, Q_HI336, Q_HB, Q_HO348, Q_HA_HO348, Q_HI336_e5, Q_X6_⟩ hb_ hon hoff
                            refine ⟨_, rfl, fun K hK => ?_⟩
                            have e32 : a.tmps[32]? = some (.string t341) := by rw [ha]; exact (putSel_off rfl).trans rfl
                            have e34 : a.tmps[34]? = some (.int .i64 ji22) := by rw [ha]; exact putSel_on (e := (11, 34, .int .i64 ji22)) 6 rfl rfl (hon 11 (by kernel_rfl)) rfl
                            replace ha := Aside0.mk ha
                            have HB := Aside0.mk Q_HB
                            refine value_ (w1 := w') (v := .string (t341.extract ((ji22) : Int).toNat t341.size)) (by rfl) rfl ?_ ?_
                            · go_simp
                              (try simp only [i64_w])
                              try rfl
                            refine hK.out _ _ ⟨v347, adz_v347, m6_, (by rw [ha.out]; exact putSel_upk 7 hb_ rfl rfl rfl), Q_HI336, Q_HB, Q_HO348, Q_HA_HO348, Q_HI336_e5, Q_X6_⟩
                          refine steps_cons ?_ ?_
                          · rintro b a w' ⟨v347, adz_v347, m6_, ha, Q_HI336, Q_HB, Q_HO348, Q_HA_HO348, Q_HI336_e5, Q_X6_⟩ hb_ hon hoff
                            refine ⟨_, rfl, fun K hK => ?_⟩
                            have e31 : a.tmps[31]? = some (.string ((t341.extract 0 (t344 : Int).toNat) ++ (rdOf ByteArray.empty y346 t349))) := by rw [ha]; exact putSel_on (e := (8, 31, .string ((t341.extract 0 (t344 : Int).toNat) ++ (rdOf ByteArray.empty y346 t349)))) 5 rfl rfl (hon 8 (by kernel_rfl)) rfl
                            have e35 : a.tmps[35]? = some (.string (t341.extract ((ji22) : Int).toNat t341.size)) := by rw [ha]; exact putSel_on (e := (12, 35, .string (t341.extract ((ji22) : Int).toNat t341.size))) 7 rfl rfl (hon 12 (by kernel_rfl)) rfl
                            replace ha := Aside0.mk ha
                            have HB := Aside0.mk Q_HB
                            have HO348 := Aside0.mk (Q_HO348 (hon 3 (by kernel_rfl)))
                            have HA_HO348 := Aside0.mk (Q_HA_HO348 (hon 3 (by kernel_rfl)))
                            have HI336 := Aside0.mk (Q_HI336_e5 (hon 5 (by kernel_rfl)))
                            refine value_ (w1 := w') (v := .string (((t341.extract 0 (t344 : Int).toNat) ++ (rdOf ByteArray.empty y346 t349)) ++ (t341.extract ((ji22) : Int).toNat t341.size))) (by rfl) rfl ?_ ?_
                            · go_simp
                              (try simp only [i64_w])
                              try rfl
                              (try ((try have zc17_ := of_decide_eq_true c17b1); (try simp only [ByteArray.size_extract, ByteArray.size_append] at zc17_); (try have zc21_ := of_decide_eq_true c21b1); (try simp only [ByteArray.size_extract, ByteArray.size_append] at zc21_); (try have zc24_ := of_decide_eq_true c24b1); (try simp only [ByteArray.size_extract, ByteArray.size_append] at zc24_); (try have zc25_ := of_decide_eq_true c25b1); (try simp only [ByteArray.size_extract, ByteArray.size_append] at zc25_); (try simp only [ByteArray.size_extract, ByteArray.size_append]); omega))
                            refine hK.out _ _ ⟨v347, adz_v347, m6_, (by rw [ha.out]; exact putSel_upk 8 hb_ rfl rfl rfl), fun h0_ => absurd ((hon 5 (by kernel_rfl)).symm.trans h0_) (by decide), Q_HB, Q_HO348, Q_HA_HO348, Q_HI336_e5, Q_X6_⟩
                          refine steps_cons ?_ ?_
                          · rintro b a w' ⟨v347, adz_v347, m6_, ha, Q_HI336, Q_HB, Q_HO348, Q_HA_HO348, Q_HI336_e5, Q_X6_⟩ hb_ hon hoff
                            refine ⟨_, rfl, fun K hK => ?_⟩
                            have e36 : a.tmps[36]? = some (.string (((t341.extract 0 (t344 : Int).toNat) ++ (rdOf ByteArray.empty y346 t349)) ++ (t341.extract ((ji22) : Int).toNat t341.size))) := by rw [ha]; exact putSel_on (e := (13, 36, .string (((t341.extract 0 (t344 : Int).toNat) ++ (rdOf ByteArray.empty y346 t349)) ++ (t341.extract ((ji22) : Int).toNat t341.size)))) 8 rfl rfl (hon 13 (by kernel_rfl)) rfl
                            replace ha := Aside0.mk ha
                            have HB := Aside0.mk Q_HB
                            have HO348 := Aside0.mk (Q_HO348 (hon 3 (by kernel_rfl)))
                            have HA_HO348 := Aside0.mk (Q_HA_HO348 (hon 3 (by kernel_rfl)))
                            have HI336 := Aside0.mk (Q_HI336_e5 (hon 5 (by kernel_rfl)))
                            refine value_ (w1 := w') (v := .string (((t341.extract 0 (t344 : Int).toNat) ++ (rdOf ByteArray.empty y346 t349)) ++ (t341.extract ((ji22) : Int).toNat t341.size))) (by rfl) rfl ?_ ?_
                            · go_simp
                              (try simp only [i64_w])
                              try rfl
                              (try ((try have zc17_ := of_decide_eq_true c17b1); (try simp only [ByteArray.size_extract, ByteArray.size_append] at zc17_); (try have zc21_ := of_decide_eq_true c21b1); (try simp only [ByteArray.size_extract, ByteArray.size_append] at zc21_); (try have zc24_ := of_decide_eq_true c24b1); (try simp only [ByteArray.size_extract, ByteArray.size_append] at zc24_); (try have zc25_ := of_decide_eq_true c25b1); (try simp only [ByteArray.size_extract, ByteArray.size_append] at zc25_); (try simp only [ByteArray.size_extract, ByteArray.size_append]); omega))
                            refine hK.out _ _ ⟨v347, adz_v347, m6_, (by rw [ha.out]; exact putSel_upk 9 hb_ rfl rfl rfl), fun h0_ => absurd ((hon 5 (by kernel_rfl)).symm.trans h0_) (by decide), Q_HB, Q_HO348, Q_HA_HO348, Q_HI336_e5, Q_X6_⟩
                          exact steps_nil
                        rintro b a w32 hall ⟨v347, adz_v347, m6_, ha, Q_HI336, Q_HB, Q_HO348, Q_HA_HO348, Q_HI336_e5, Q_X6_⟩
                        clear HB HI336
                        have hb2_ := hall 2 (by kernel_rfl)
                        have hb3_ := hall 3 (by kernel_rfl)
                        have hb5_ := hall 5 (by kernel_rfl)
                        have hb6_ := hall 6 (by kernel_rfl)
                        have hb7_ := hall 7 (by kernel_rfl)
                        have hb8_ := hall 8 (by kernel_rfl)
                        have hb11_ := hall 11 (by kernel_rfl)
                        have hb12_ := hall 12 (by kernel_rfl)
                        have hb13_ := hall 13 (by kernel_rfl)
                        have hb14_ := hall 14 (by kernel_rfl)
                        subst ha
                        obtain rfl := Q_X6_ hb6_
                        simp only [putSel, hb2_, hb3_, hb5_, hb6_, hb7_, hb8_, hb11_, hb12_, hb13_, hb14_, if_true, Act.put, List.setIfInBounds_toArray, List.set_cons_zero, List.set_cons_succ]
                        clear Q_HI336
                        have HB := Aside0.mk Q_HB
                        clear Q_HB
                        have HO348 := Aside0.mk (Q_HO348 hb3_)
                        clear Q_HO348
                        have HA_HO348 := Aside0.mk (Q_HA_HO348 hb3_)
                        clear Q_HA_HO348
                        have HI336 := Aside0.mk (Q_HI336_e5 hb5_)
                        clear Q_HI336_e5
                        clear hall hb2_ hb3_ hb5_ hb6_ hb7_ hb8_ hb11_ hb12_ hb13_ hb14_
                        obtain ⟨co33, eo33⟩ := HA_HO348.out
                        clear HA_HO348
                        subst eo33
                        try go_wp2
                        go_ret
                        exact ⟨by first | rfl | (simp [errW_none, errW_some] <;> rfl) | (simp only [← hji22]; first | rfl | (simp [errW_none, errW_some] <;> rfl)) | (simp [*, errW_none, errW_some] <;> rfl), by repeat (first | (with_reducible first | exact HB.out | apply below_alloc | apply pw_below_drewN | apply below_drew1 | refine below_set ?_ (IsS59.ge HI336.out)) | exact HB.out)⟩
                      · rw [if_neg c25] at H
                        exact absurd H (by simp)
                    · rw [if_neg c24] at H
                      exact absurd H (by simp)
                  · rw [if_neg c23] at H
                    exact absurd H (by simp)
                · rw [if_neg c21] at H
                  exact absurd H (by simp)
              · rw [if_neg c20] at H
                exact absurd H (by simp)
            · rw [if_neg c19] at H
              exact absurd H (by simp)
          · rw [if_neg c17] at H
            exact absurd H (by simp)
        · rw [if_neg c16] at H
          exact absurd H (by simp)
      · replace c14 := Bool.eq_false_iff.mpr c14
        subst c14
        have H1 : (some t341) = some r := by rw [if_neg (show ¬ (false = true) by decide)] at H; exact H
        clear H
        have H := H1
        clear H1
        obtain rfl := Option.some.inj H
        go_wp2
        go_ret
        exact ⟨by first | rfl | (simp [errW_none, errW_some] <;> rfl) | (simp [*, errW_none, errW_some] <;> rfl), by repeat (first | (with_reducible first | exact HB.out | apply below_alloc | apply pw_below_drewN | apply below_drew1 | refine below_set ?_ (IsS59.ge HI336.out)) | exact HB.out)⟩

/-! ### laws_FnReadHydra: function 10 -/
def laws_FnReadHydra.j0 : Nat → ByteArray → List Int → Bool → Bool → Option (Bool)
  | 0, _, _, _, _ => none
  | k + 1, x3, x4, x5, x33 => if x33 = true then (some false) else (if x5 = true then (if x3.size + 1 ≤ 9223372036854775807 then ((impl_ReadHydra.f k (x3 ++ (⟨#[40]⟩ : ByteArray))).bind fun bt362 => ((impl_HydraText.f k x4).bind fun t366 => (if t366.toList = x3.toList then (some (!bt362.2)) else (some false)))) else (none)) else (if (x4.length : Int) = 0 then ((laws_alive.f k).bind fun t367 => (some t367)) else (some false)))
def laws_FnReadHydra.f (k : Nat) (l0 : List Int) : Option (Bool) := if (l0.length : Int) > 1048576 then (some true) else ((spec_DrawReadHydra.f k l0).bind fun t352 => ((impl_ReadHydra.f k t352).bind fun bt353 => ((spec_ReadHydra.f k t352).bind fun bt357 => ((laws_sameInts.f k bt353.1 bt357.1).bind fun t361 => (if t361 = true then (laws_FnReadHydra.j0 k t352 bt353.1 bt353.2 (bt353.2 != bt357.2)) else (laws_FnReadHydra.j0 k t352 bt353.1 bt353.2 true))))))
theorem laws_FnReadHydra.mono_l : ∀ k, (∀ y0 y1 y2 y3, LeO (laws_FnReadHydra.j0 k y0 y1 y2 y3) (laws_FnReadHydra.j0 (k + 1) y0 y1 y2 y3))
  | 0 => fun _ _ _ _ r h => by simp [laws_FnReadHydra.j0] at h
  | k + 1 => by
    have ih0 := laws_FnReadHydra.mono_l k
    · intro y0 y1 y2 y3
      unfold laws_FnReadHydra.j0
      repeat' first
      | (with_reducible exact ih0 _ _ _ _)
      | (with_reducible exact impl_HydraText.mono _ _)
      | (with_reducible exact impl_ReadHydra.mono _ _)
      | (with_reducible exact laws_alive.mono _)
      | (with_reducible exact laws_sameInts.mono _ _ _)
      | (with_reducible exact spec_DrawReadHydra.mono _ _)
      | (with_reducible exact spec_ReadHydra.mono _ _)
      | (with_reducible exact LeO.refl _)
      | (with_reducible exact LeO.none _)
      | (with_reducible refine LeO.ite ?_ ?_)
      | (with_reducible refine LeO.bind ?_ (fun _ => ?_))
      | exact ih0 _ _ _ _
      | exact impl_HydraText.mono _ _
      | exact impl_ReadHydra.mono _ _
      | exact laws_alive.mono _
      | exact laws_sameInts.mono _ _ _
      | exact spec_DrawReadHydra.mono _ _
      | exact spec_ReadHydra.mono _ _
      | exact LeO.none _
      | refine LeO.ite ?_ ?_
      | refine LeO.bind ?_ (fun _ => ?_)
theorem laws_FnReadHydra.mono : ∀ a0 k, LeO (laws_FnReadHydra.f k a0) (laws_FnReadHydra.f (k + 1) a0) := by
  intro a0 k
  have ih0 := laws_FnReadHydra.mono_l k
  unfold laws_FnReadHydra.f
  repeat' first
      | (with_reducible exact ih0 _ _ _ _)
      | (with_reducible exact impl_HydraText.mono _ _)
      | (with_reducible exact impl_ReadHydra.mono _ _)
      | (with_reducible exact laws_alive.mono _)
      | (with_reducible exact laws_sameInts.mono _ _ _)
      | (with_reducible exact spec_DrawReadHydra.mono _ _)
      | (with_reducible exact spec_ReadHydra.mono _ _)
      | (with_reducible exact LeO.refl _)
      | (with_reducible exact LeO.none _)
      | (with_reducible refine LeO.ite ?_ ?_)
      | (with_reducible refine LeO.bind ?_ (fun _ => ?_))
      | exact ih0 _ _ _ _
      | exact impl_HydraText.mono _ _
      | exact impl_ReadHydra.mono _ _
      | exact laws_alive.mono _
      | exact laws_sameInts.mono _ _ _
      | exact spec_DrawReadHydra.mono _ _
      | exact spec_ReadHydra.mono _ _
      | exact LeO.none _
      | refine LeO.ite ?_ ?_
      | refine LeO.bind ?_ (fun _ => ?_)
set_option maxHeartbeats 8000000 in
set_option maxRecDepth 100000 in
theorem laws_FnReadHydra.calls (k : Nat) (A0 : Option Addr) (c0 : Nat) (l0 : List Int) (r : Bool) (w : World) (hr0 : Kd.C (Kd.int .u8) w A0 l0.length l0) (hc0 : l0.length ≤ c0) (h : laws_FnReadHydra.f k l0 = some r) :
    Calls Try.prog 10 #[.slice A0 l0.length c0] w fun e w' => e = .returned (.bool r) ∧ Below w.heap.size w w' := by
  have HR0 := Aside0.mk hr0
  have HC0 := Aside0.mk hc0
  clear hr0 hc0
  have HB := Aside0.mk (Below.refl w.heap.size w)
  have H : (if (l0.length : Int) > 1048576 then (some true) else ((spec_DrawReadHydra.f k l0).bind fun t352 => ((impl_ReadHydra.f k t352).bind fun bt353 => ((spec_ReadHydra.f k t352).bind fun bt357 => ((laws_sameInts.f k bt353.1 bt357.1).bind fun t361 => (if t361 = true then (laws_FnReadHydra.j0 k t352 bt353.1 bt353.2 (bt353.2 != bt357.2)) else (laws_FnReadHydra.j0 k t352 bt353.1 bt353.2 true))))))) = some r := h
  clear h
  by_cases c2 : (l0.length : Int) > 1048576
  · rw [if_pos c2] at H
    have c2b0 : decide (1048576 < (l0.length : Int)) = true := decide_eq_true c2
    have c2b1 : decide (1048576 < l0.length) = true := decide_eq_true (by omega)
    clear c2
    obtain rfl := Option.some.inj H
    go_enter Try.func10, Try.ntmps10
    go_wp2
    go_ret
    exact ⟨by first | rfl | (simp [errW_none, errW_some] <;> rfl) | (simp [*, errW_none, errW_some] <;> rfl), by repeat (first | (with_reducible first | exact HB.out | apply below_alloc | apply pw_below_drewN | apply below_drew1) | exact HB.out)⟩
  · rw [if_neg c2] at H
    have c2b0 : decide (1048576 < (l0.length : Int)) = false := decide_eq_false c2
    have c2b1 : decide (1048576 < l0.length) = false := decide_eq_false (by omega)
    clear c2
    replace H := Option.bind_eq_some_iff.mp H
    obtain ⟨t352, A30, H⟩ := H
    replace H : ((impl_ReadHydra.f k t352).bind fun bt353 => ((spec_ReadHydra.f k t352).bind fun bt357 => ((laws_sameInts.f k bt353.1 bt357.1).bind fun t361 => (if t361 = true then (laws_FnReadHydra.j0 k t352 bt353.1 bt353.2 (bt353.2 != bt357.2)) else (laws_FnReadHydra.j0 k t352 bt353.1 bt353.2 true))))) = some r := H
    have A3 := Aside0.mk A30
    clear A30
    replace H := Option.bind_eq_some_iff.mp H
    obtain ⟨⟨t353, t354⟩, A40, H⟩ := H
    replace H : ((spec_ReadHydra.f k t352).bind fun bt357 => ((laws_sameInts.f k t353 bt357.1).bind fun t361 => (if t361 = true then (laws_FnReadHydra.j0 k t352 t353 t354 (t354 != bt357.2)) else (laws_FnReadHydra.j0 k t352 t353 t354 true)))) = some r := H
    have A4 := Aside0.mk A40
    clear A40
    replace H := Option.bind_eq_some_iff.mp H
    obtain ⟨⟨t357, t358⟩, A50, H⟩ := H
    replace H : ((laws_sameInts.f k t353 t357).bind fun t361 => (if t361 = true then (laws_FnReadHydra.j0 k t352 t353 t354 (t354 != t358)) else (laws_FnReadHydra.j0 k t352 t353 t354 true))) = some r := H
    have A5 := Aside0.mk A50
    clear A50
    have HC6 := Aside0.mk H
    clear H
    go_enter Try.func10, Try.ntmps10
    go_upto_region 6 with (first | ((with_reducible refine gate_callee (f := 28) rfl ?_); refine goesL_ (some 14) rfl rfl Try.func28 (by kernel_rfl) rfl #[.slice A0 l0.length c0] rfl (by (try simp only [List.map_toArray, List.map_cons, List.map_nil]); first | done | rfl | (simp only [List.length_drop, List.length_take]; rfl)) ?_; (with_reducible refine (spec_DrawReadHydra.calls k _ _ l0 t352 _ ?side1 ?side2 A3.out).mono ?_); (case side1 => repeat (first | exact HR0.out | (with_reducible refine Kd.C_alloc ?_ _) | (with_reducible refine Kd.C_drewN ?_ _) | (with_reducible refine Kd.C_drew ?_))); (case side2 => exact HC0.out); rintro e w7 ⟨rfl, hb⟩; refine ⟨_, rfl, ?_⟩; have n0_ := Aside0.mk (below_step (by repeat (first | (with_reducible first | exact HB.out | apply below_alloc | apply pw_below_drewN | apply below_drew1) | exact HB.out)) hb); clear HB; have HB := n0_; clear n0_; (try clear hb); (try clear hb2); (try clear hk); (try clear hi)) | ((with_reducible refine gate_callee (f := 23) rfl ?_); refine goesL_ (some 17) rfl rfl Try.func23 (by kernel_rfl) rfl #[.string t352] rfl (by (try simp only [List.map_toArray, List.map_cons, List.map_nil]); first | done | rfl | (simp only [List.length_drop, List.length_take]; rfl)) ?_; (with_reducible refine (impl_ReadHydra.calls k t352 t353 t354 _ A4.out).mono ?_); rintro e w8 ⟨v355, rfl, ho0, hb⟩; refine ⟨_, rfl, ?_⟩; have n0_ := Aside0.mk (Kd.Y_lower ho0 (below_size (by repeat (first | (with_reducible first | exact HB.out | apply below_alloc | apply pw_below_drewN | apply below_drew1) | exact HB.out)))); have n1_ := Aside0.mk (below_step (by repeat (first | (with_reducible first | exact HB.out | apply below_alloc | apply pw_below_drewN | apply below_drew1) | exact HB.out)) hb); clear HB; have HO356 := n0_; have HB := n1_; clear n0_ n1_; (try clear hb); (try clear hb2); (try clear hk); (try clear hi); (try clear ho0)) | ((with_reducible refine gate_callee (f := 22) rfl ?_); refine goesL_ (some 22) rfl rfl Try.func22 (by kernel_rfl) rfl #[.string t352] rfl (by (try simp only [List.map_toArray, List.map_cons, List.map_nil]); first | done | rfl | (simp only [List.length_drop, List.length_take]; rfl)) ?_; (with_reducible refine (spec_ReadHydra.calls k t352 t357 t358 _ A5.out).mono ?_); rintro e w9 ⟨v359, rfl, ho0, hb⟩; refine ⟨_, rfl, ?_⟩; have n0_ := Aside0.mk (Kd.Y_elder' (by (with_reducible repeat (first | apply Kd.Y_alloc | apply Kd.Y_drewN | apply Kd.Y_drew)); exact HO356.out) (Kd.R_base ho0) hb); have n1_ := Aside0.mk (Kd.R_lower (Kd.R_new' ho0 (Kd.Y_lt (by (with_reducible repeat (first | apply Kd.Y_alloc | apply Kd.Y_drewN | apply Kd.Y_drew)); exact HO356.out))) (below_size (by repeat (first | (with_reducible first | exact HB.out | apply below_alloc | apply pw_below_drewN | apply below_drew1) | exact HB.out)))); have n2_ := Aside0.mk (below_step (by repeat (first | (with_reducible first | exact HB.out | apply below_alloc | apply pw_below_drewN | apply below_drew1) | exact HB.out)) hb); clear HO356; clear HB; have HO356 := n0_; have HO360 := n1_; have HB := n2_; clear n0_ n1_ n2_; (try clear hb); (try clear hb2); (try clear hk); (try clear hi); (try clear ho0)))
    (try simp only [Act.put, List.setIfInBounds_toArray, List.set_cons_zero, List.set_cons_succ])
    go_cut [33] (fun v33 wc => ∃ (kq : Nat) (x33_5 : Bool), v33 = .bool x33_5 ∧ Aside0 (laws_FnReadHydra.j0 kq t352 t353 t354 x33_5 = some r) ∧ Aside0 (kq ≤ k) ∧ Aside0 (Kd.Y (Kd.int .i64) 3 wc w.heap.size (fun _ => True) v355 t353) ∧ Aside0 (Below w.heap.size w wc))
    case first =>
      have H := HC6.out
      clear HC6
      replace H := Option.bind_eq_some_iff.mp H
      obtain ⟨t361, A100, H⟩ := H
      replace H : (if t361 = true then (laws_FnReadHydra.j0 k t352 t353 t354 (t354 != t358)) else (laws_FnReadHydra.j0 k t352 t353 t354 true)) = some r := H
      have A10 := Aside0.mk A100
      clear A100
      by_cases c11 : t361 = true
      · subst c11
        have H1 : (laws_FnReadHydra.j0 k t352 t353 t354 (t354 != t358)) = some r := by rw [if_pos rfl] at H; exact H
        clear H
        have H := H1
        clear H1
        have H' := Aside0.mk H
        clear H
        obtain ⟨Ao12, co12, eo12, _⟩ := Kd.Y_slice HO356.out
        subst eo12
        obtain ⟨Ao13, co13, eo13⟩ := Kd.R_slice HO360.out
        subst eo13
        go_wp2_with (first | ((with_reducible refine gate_callee (f := 27) rfl ?_); refine goesL_ (some 27) rfl rfl Try.func27 (by kernel_rfl) rfl #[.slice Ao12 t353.length co12, .slice Ao13 t357.length co13] rfl (by (try simp only [List.map_toArray, List.map_cons, List.map_nil]); first | done | rfl | (simp only [List.length_drop, List.length_take]; rfl)) ?_; (with_reducible refine (laws_sameInts.calls k _ _ t353 _ _ t357 true _ ?side1 ?side2 ?side3 ?side4 A10.out).mono ?_); (case side1 => repeat (first | exact (Kd.Y_reads' HO356.out).2.2 | (with_reducible refine Kd.C_alloc ?_ _) | (with_reducible refine Kd.C_drewN ?_ _) | (with_reducible refine Kd.C_drew ?_))); (case side2 => exact (Kd.Y_reads' HO356.out).2.1); (case side3 => repeat (first | exact (Kd.R_reads' HO360.out).2.2 | (with_reducible refine Kd.C_alloc ?_ _) | (with_reducible refine Kd.C_drewN ?_ _) | (with_reducible refine Kd.C_drew ?_))); (case side4 => exact (Kd.R_reads' HO360.out).2.1); rintro e w' ⟨rfl, ⟨nd, rfl⟩⟩; refine ⟨_, rfl, ?_⟩))
        go_meet
        case rel => exact ⟨_, ((t354 != t358)), (by first | rfl | (simp; done) | (simp [*]; done)), H', ⟨by first | omega | exact Nat.le_refl _⟩, ⟨by (with_reducible repeat (first | apply Kd.Y_alloc | apply Kd.Y_drewN | apply Kd.Y_drew)); exact Kd.Y_mono HO356.out (fun _ hk => trivial)⟩, ⟨by repeat (first | (with_reducible first | exact HB.out | apply below_alloc | apply pw_below_drewN | apply below_drew1) | exact HB.out)⟩⟩
      · replace c11 := Bool.eq_false_iff.mpr c11
        subst c11
        have H1 : (laws_FnReadHydra.j0 k t352 t353 t354 true) = some r := by rw [if_neg (show ¬ (false = true) by decide)] at H; exact H
        clear H
        have H := H1
        clear H1
        have H' := Aside0.mk H
        clear H
        obtain ⟨Ao14, co14, eo14, _⟩ := Kd.Y_slice HO356.out
        subst eo14
        obtain ⟨Ao15, co15, eo15⟩ := Kd.R_slice HO360.out
        subst eo15
        go_wp2_with (first | ((with_reducible refine gate_callee (f := 27) rfl ?_); refine goesL_ (some 27) rfl rfl Try.func27 (by kernel_rfl) rfl #[.slice Ao14 t353.length co14, .slice Ao15 t357.length co15] rfl (by (try simp only [List.map_toArray, List.map_cons, List.map_nil]); first | done | rfl | (simp only [List.length_drop, List.length_take]; rfl)) ?_; (with_reducible refine (laws_sameInts.calls k _ _ t353 _ _ t357 false _ ?side1 ?side2 ?side3 ?side4 A10.out).mono ?_); (case side1 => repeat (first | exact (Kd.Y_reads' HO356.out).2.2 | (with_reducible refine Kd.C_alloc ?_ _) | (with_reducible refine Kd.C_drewN ?_ _) | (with_reducible refine Kd.C_drew ?_))); (case side2 => exact (Kd.Y_reads' HO356.out).2.1); (case side3 => repeat (first | exact (Kd.R_reads' HO360.out).2.2 | (with_reducible refine Kd.C_alloc ?_ _) | (with_reducible refine Kd.C_drewN ?_ _) | (with_reducible refine Kd.C_drew ?_))); (case side4 => exact (Kd.R_reads' HO360.out).2.1); rintro e w' ⟨rfl, ⟨nd, rfl⟩⟩; refine ⟨_, rfl, ?_⟩))
        go_meet
        case rel => exact ⟨_, (true), (by first | rfl | (simp; done) | (simp [*]; done)), H', ⟨by first | omega | exact Nat.le_refl _⟩, ⟨by (with_reducible repeat (first | apply Kd.Y_alloc | apply Kd.Y_drewN | apply Kd.Y_drew)); exact Kd.Y_mono HO356.out (fun _ hk => trivial)⟩, ⟨by repeat (first | (with_reducible first | exact HB.out | apply below_alloc | apply pw_below_drewN | apply below_drew1) | exact HB.out)⟩⟩
    case rest =>
      clear HC6
      try clear c1
      try clear c2
      try clear c2b0
      try clear c2b1
      try clear p2
      try clear c10
      try clear c11
      obtain ⟨kq, x33_5, rfl, HA, HJ5, HO_4, HB⟩ := hcut
      cases kq with
      | zero => exact absurd HA.out (by simp [laws_FnReadHydra.j0])
      | succ kj5 =>
        have H := HA.out
        clear HA
        simp only [laws_FnReadHydra.j0] at H
        by_cases c16 : x33_5 = true
        · subst c16
          have H1 : (some false) = some r := by rw [if_pos rfl] at H; exact H
          clear H
          have H := H1
          clear H1
          obtain rfl := Option.some.inj H
          go_wp2
          go_ret
          exact ⟨by first | rfl | (simp [errW_none, errW_some] <;> rfl) | (simp [*, errW_none, errW_some] <;> rfl), by repeat (first | (with_reducible first | exact HB.out | apply below_alloc | apply pw_below_drewN | apply below_drew1) | exact HB.out)⟩
        · replace c16 := Bool.eq_false_iff.mpr c16
          subst c16
          have H1 : (if t354 = true then (if t352.size + 1 ≤ 9223372036854775807 then ((impl_ReadHydra.f kj5 (t352 ++ (⟨#[40]⟩ : ByteArray))).bind fun bt362 => ((impl_HydraText.f kj5 t353).bind fun t366 => (if t366.toList = t352.toList then (some (!bt362.2)) else (some false)))) else (none)) else (if (t353.length : Int) = 0 then ((laws_alive.f kj5).bind fun t367 => (some t367)) else (some false))) = some r := by rw [if_neg (show ¬ (false = true) by decide)] at H; exact H
          clear H
          have H := H1
          clear H1
          by_cases c17 : t354 = true
          · subst c17
            have H1 : (if t352.size + 1 ≤ 9223372036854775807 then ((impl_ReadHydra.f kj5 (t352 ++ (⟨#[40]⟩ : ByteArray))).bind fun bt362 => ((impl_HydraText.f kj5 t353).bind fun t366 => (if t366.toList = t352.toList then (some (!bt362.2)) else (some false)))) else (none)) = some r := by rw [if_pos rfl] at H; exact H
            clear H
            have H := H1
            clear H1
            by_cases c18 : t352.size + 1 ≤ 9223372036854775807
            · rw [if_pos c18] at H
              have c18b0 := eq_true c18
              have c18b1 : decide (t352.size + 1 ≤ 9223372036854775807) = true := decide_eq_true c18
              try have c18b2 : (9223372036854775807 < t352.size + 1) = False := eq_false (Nat.not_lt.2 c18)
              replace H := Option.bind_eq_some_iff.mp H
              obtain ⟨⟨t362, t363⟩, A190, H⟩ := H
              replace H : ((impl_HydraText.f kj5 t353).bind fun t366 => (if t366.toList = t352.toList then (some (!t363)) else (some false))) = some r := H
              have A19 := Aside0.mk A190
              clear A190
              replace H := Option.bind_eq_some_iff.mp H
              obtain ⟨t366, A200, H⟩ := H
              replace H : (if t366.toList = t352.toList then (some (!t363)) else (some false)) = some r := H
              have A20 := Aside0.mk A200
              clear A200
              by_cases c21 : t366.toList = t352.toList
              · rw [if_pos c21] at H
                have c21b0 : (t366.toList == t352.toList) = true := beq_iff_eq.mpr c21
                have c21b1 : (t366.toList != t352.toList) = false := bne_eq_false_iff_eq.mpr c21
                clear c21
                obtain rfl := Option.some.inj H
                go_wp2_with (first | ((with_reducible refine gate_callee (f := 23) rfl ?_); refine goesL_ (some 45) rfl rfl Try.func23 (by kernel_rfl) rfl #[.string (t352 ++ (⟨#[40]⟩ : ByteArray))] rfl (by (try simp only [List.map_toArray, List.map_cons, List.map_nil]); first | done | rfl | (simp only [List.length_drop, List.length_take]; rfl)) ?_; (with_reducible refine (impl_ReadHydra.calls kj5 (t352 ++ (⟨#[40]⟩ : ByteArray)) t362 t363 _ A19.out).mono ?_); rintro e w22 ⟨v364, rfl, ho0, hb⟩; refine ⟨_, rfl, ?_⟩; have n0_ := Aside0.mk (Kd.Y_elder' (by (with_reducible repeat (first | apply Kd.Y_alloc | apply Kd.Y_drewN | apply Kd.Y_drew)); exact HO_4.out) (Kd.Y_base ho0) hb); have n1_ := Aside0.mk (Kd.Y_lower (Kd.Y_new' ho0 (Kd.Y_lt (by (with_reducible repeat (first | apply Kd.Y_alloc | apply Kd.Y_drewN | apply Kd.Y_drew)); exact HO_4.out))) (below_size (by repeat (first | (with_reducible first | exact HB.out | apply below_alloc | apply pw_below_drewN | apply below_drew1) | exact HB.out)))); have n2_ := Aside0.mk (below_step (by repeat (first | (with_reducible first | exact HB.out | apply below_alloc | apply pw_below_drewN | apply below_drew1) | exact HB.out)) hb); clear HO_4; clear HB; have HO_4 := n0_; have HO365 := n1_; have HB := n2_; clear n0_ n1_ n2_; (try clear hb); (try clear hb2); (try clear hk); (try clear hi); (try clear ho0); obtain ⟨Ao23, co23, eo23, _⟩ := Kd.Y_slice HO_4.out; subst eo23) | ((with_reducible refine gate_callee (f := 18) rfl ?_); refine goesL_ (some 49) rfl rfl Try.func18 (by kernel_rfl) rfl #[.slice Ao23 t353.length co23] rfl (by (try simp only [List.map_toArray, List.map_cons, List.map_nil]); first | done | rfl | (simp only [List.length_drop, List.length_take]; rfl)) ?_; (with_reducible refine (impl_HydraText.calls kj5 _ _ t353 t366 _ ?side1 ?side2 A20.out).mono ?_); (case side1 => repeat (first | exact (Kd.Y_reads' HO_4.out).2.2 | (with_reducible refine Kd.C_alloc ?_ _) | (with_reducible refine Kd.C_drewN ?_ _) | (with_reducible refine Kd.C_drew ?_))); (case side2 => exact (Kd.Y_reads' HO_4.out).2.1); rintro e w24 ⟨rfl, hb⟩; refine ⟨_, rfl, ?_⟩; have n0_ := Aside0.mk (Kd.Y_below (by (with_reducible repeat (first | apply Kd.Y_alloc | apply Kd.Y_drewN | apply Kd.Y_drew)); exact HO_4.out) hb); have n1_ := Aside0.mk (Kd.Y_below (by (with_reducible repeat (first | apply Kd.Y_alloc | apply Kd.Y_drewN | apply Kd.Y_drew)); exact HO365.out) hb); have n2_ := Aside0.mk (below_step (by repeat (first | (with_reducible first | exact HB.out | apply below_alloc | apply pw_below_drewN | apply below_drew1) | exact HB.out)) hb); clear HO_4; clear HO365; clear HB; have HO_4 := n0_; have HO365 := n1_; have HB := n2_; clear n0_ n1_ n2_; (try clear hb); (try clear hb2); (try clear hk); (try clear hi)))
                go_ret
                exact ⟨by first | rfl | (simp [errW_none, errW_some] <;> rfl) | (simp [*, errW_none, errW_some] <;> rfl), by repeat (first | (with_reducible first | exact HB.out | apply below_alloc | apply pw_below_drewN | apply below_drew1) | exact HB.out)⟩
              · rw [if_neg c21] at H
                have c21b0 : (t366.toList == t352.toList) = false := beq_eq_false_iff_ne.mpr c21
                have c21b1 : (t366.toList != t352.toList) = true := bne_iff_ne.mpr c21
                obtain rfl := Option.some.inj H
                go_wp2_with (first | ((with_reducible refine gate_callee (f := 23) rfl ?_); refine goesL_ (some 45) rfl rfl Try.func23 (by kernel_rfl) rfl #[.string (t352 ++ (⟨#[40]⟩ : ByteArray))] rfl (by (try simp only [List.map_toArray, List.map_cons, List.map_nil]); first | done | rfl | (simp only [List.length_drop, List.length_take]; rfl)) ?_; (with_reducible refine (impl_ReadHydra.calls kj5 (t352 ++ (⟨#[40]⟩ : ByteArray)) t362 t363 _ A19.out).mono ?_); rintro e w25 ⟨v364, rfl, ho0, hb⟩; refine ⟨_, rfl, ?_⟩; have n0_ := Aside0.mk (Kd.Y_elder' (by (with_reducible repeat (first | apply Kd.Y_alloc | apply Kd.Y_drewN | apply Kd.Y_drew)); exact HO_4.out) (Kd.Y_base ho0) hb); have n1_ := Aside0.mk (Kd.Y_lower (Kd.Y_new' ho0 (Kd.Y_lt (by (with_reducible repeat (first | apply Kd.Y_alloc | apply Kd.Y_drewN | apply Kd.Y_drew)); exact HO_4.out))) (below_size (by repeat (first | (with_reducible first | exact HB.out | apply below_alloc | apply pw_below_drewN | apply below_drew1) | exact HB.out)))); have n2_ := Aside0.mk (below_step (by repeat (first | (with_reducible first | exact HB.out | apply below_alloc | apply pw_below_drewN | apply below_drew1) | exact HB.out)) hb); clear HO_4; clear HB; have HO_4 := n0_; have HO365 := n1_; have HB := n2_; clear n0_ n1_ n2_; (try clear hb); (try clear hb2); (try clear hk); (try clear hi); (try clear ho0); obtain ⟨Ao26, co26, eo26, _⟩ := Kd.Y_slice HO_4.out; subst eo26) | ((with_reducible refine gate_callee (f := 18) rfl ?_); refine goesL_ (some 49) rfl rfl Try.func18 (by kernel_rfl) rfl #[.slice Ao26 t353.length co26] rfl (by (try simp only [List.map_toArray, List.map_cons, List.map_nil]); first | done | rfl | (simp only [List.length_drop, List.length_take]; rfl)) ?_; (with_reducible refine (impl_HydraText.calls kj5 _ _ t353 t366 _ ?side1 ?side2 A20.out).mono ?_); (case side1 => repeat (first | exact (Kd.Y_reads' HO_4.out).2.2 | (with_reducible refine Kd.C_alloc ?_ _) | (with_reducible refine Kd.C_drewN ?_ _) | (with_reducible refine Kd.C_drew ?_))); (case side2 => exact (Kd.Y_reads' HO_4.out).2.1); rintro e w27 ⟨rfl, hb⟩; refine ⟨_, rfl, ?_⟩; have n0_ := Aside0.mk (Kd.Y_below (by (with_reducible repeat (first | apply Kd.Y_alloc | apply Kd.Y_drewN | apply Kd.Y_drew)); exact HO_4.out) hb); have n1_ := Aside0.mk (Kd.Y_below (by (with_reducible repeat (first | apply Kd.Y_alloc | apply Kd.Y_drewN | apply Kd.Y_drew)); exact HO365.out) hb); have n2_ := Aside0.mk (below_step (by repeat (first | (with_reducible first | exact HB.out | apply below_alloc | apply pw_below_drewN | apply below_drew1) | exact HB.out)) hb); clear HO_4; clear HO365; clear HB; have HO_4 := n0_; have HO365 := n1_; have HB := n2_; clear n0_ n1_ n2_; (try clear hb); (try clear hb2); (try clear hk); (try clear hi)))
                go_ret
                exact ⟨by first | rfl | (simp [errW_none, errW_some] <;> rfl) | (simp [*, errW_none, errW_some] <;> rfl), by repeat (first | (with_reducible first | exact HB.out | apply below_alloc | apply pw_below_drewN | apply below_drew1) | exact HB.out)⟩
            · rw [if_neg c18] at H
              exact absurd H (by simp)
          · replace c17 := Bool.eq_false_iff.mpr c17
            subst c17
            have H1 : (if (t353.length : Int) = 0 then ((laws_alive.f kj5).bind fun t367 => (some t367)) else (some false)) = some r := by rw [if_neg (show ¬ (false = true) by decide)] at H; exact H
            clear H
            have H := H1
            clear H1
            by_cases c28 : (t353.length : Int) = 0
            · rw [if_pos c28] at H
              have c28b0 : ((t353.length : Int) == 0) = true := beq_iff_eq.mpr c28
              have c28b1 : ((t353.length : Int) != 0) = false := bne_eq_false_iff_eq.mpr c28
              clear c28
              replace H := Option.bind_eq_some_iff.mp H
              obtain ⟨t367, A290, H⟩ := H
              replace H : (some t367) = some r := H
              have A29 := Aside0.mk A290
              clear A290
              obtain rfl := Option.some.inj H
              obtain ⟨Ao30, co30, eo30, _⟩ := Kd.Y_slice HO_4.out
              subst eo30
              go_wp2_with (first | (go_at_call 20; (with_reducible refine (laws_alive.calls kj5  t367 _ A29.out).mono ?_); rintro e w31 ⟨rfl, hb⟩; have n0_ := Aside0.mk (Kd.Y_below (by (with_reducible repeat (first | apply Kd.Y_alloc | apply Kd.Y_drewN | apply Kd.Y_drew)); exact HO_4.out) hb); have n1_ := Aside0.mk (below_step (by repeat (first | (with_reducible first | exact HB.out | apply below_alloc | apply pw_below_drewN | apply below_drew1) | exact HB.out)) hb); clear HO_4; clear HB; have HO_4 := n0_; have HB := n1_; clear n0_ n1_; (try clear hb); (try clear hb2); (try clear hk); (try clear hi)))
              go_ret
              exact ⟨by first | rfl | (simp [errW_none, errW_some] <;> rfl) | (simp [*, errW_none, errW_some] <;> rfl), by repeat (first | (with_reducible first | exact HB.out | apply below_alloc | apply pw_below_drewN | apply below_drew1) | exact HB.out)⟩
            · rw [if_neg c28] at H
              have c28b0 : ((t353.length : Int) == 0) = false := beq_eq_false_iff_ne.mpr c28
              have c28b1 : ((t353.length : Int) != 0) = true := bne_iff_ne.mpr c28
              have c28b2 : ¬ (t353 = []) := fun h_ => c28 (by rw [h_]; rfl)
              obtain rfl := Option.some.inj H
              obtain ⟨Ao32, co32, eo32, _⟩ := Kd.Y_slice HO_4.out
              subst eo32
              go_wp2
              go_ret
              exact ⟨by first | rfl | (simp [errW_none, errW_some] <;> rfl) | (simp [*, errW_none, errW_some] <;> rfl), by repeat (first | (with_reducible first | exact HB.out | apply below_alloc | apply pw_below_drewN | apply below_drew1) | exact HB.out)⟩

/-- THE ONE PURE STATEMENT of laws_FnReadHydra: yours. -/
def laws_FnReadHydra.Pure : Prop := ∀ (l0 : List Int), l0.length ≤ maxLen → l0.length * 1 ≤ 140737488351232 → (∀ x ∈ l0, (Lit.int .u8 x).wf = true) → ∃ k, laws_FnReadHydra.f k l0 = some true
theorem laws_FnReadHydra.walk (P : laws_FnReadHydra.Pure) (a0 : Option Addr) (len0 cap0 : Nat) (z0 : List Int) (w : World) (w0 : (a0 = none ∧ len0 = 0 ∧ cap0 = 0 ∧ z0 = []) ∨ ∃ x, a0 = some x ∧ len0 ≤ cap0 ∧ cap0 ≤ maxLen ∧ z0.length = cap0 ∧ (∀ i, i < z0.length → w.cell? (x.add i) = some (.int .u8 (z0.getD i 0))) ∧ ∀ n ∈ z0, (Lit.int .u8 n).wf = true) (y0 : len0 * 1 ≤ 140737488351232) :
    Calls Try.prog 10 #[.slice a0 len0 cap0] w fun e w' => e = .returned (.bool true) ∧ Below w.heap.size w w' := by
  obtain ⟨l0, rfl, hr0, hm0, hw0, hc0⟩ := ReadsInt.ofRowC w0
  obtain ⟨k, h⟩ := P l0 hm0 y0 hw0
  refine (laws_FnReadHydra.calls k _ _ l0 true w (Kd.C_of_reads (d := (0 : Int)) (h1 := fun _ => rfl) hr0) hc0 h).mono ?_
  rintro e w' ⟨rfl, hd⟩
  exact ⟨rfl, hd⟩

end Go.Proofs.Ytondfcdpkpgiiaa.D

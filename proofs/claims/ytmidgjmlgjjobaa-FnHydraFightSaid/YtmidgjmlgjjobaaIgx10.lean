-- half
-- Written by a program of this session's (wip/mp) out of the translation, over the kit's print with changes.
import Derived.Test.YtmidgjmlgjjobaaIgx0
import Derived.Test.YtmidgjmlgjjobaaIgx7
import Derived.Test.YtmidgjmlgjjobaaIgx9
namespace Go.Proofs.Ytmidgjmlgjjobaa.Ig
open Go.RowKit Go.Proofs.YtmidgjmlgjjobaaW.PrintWords Go.Proofs.YtmidgjmlgjjobaaW.PrintLast Go.Proofs.YtmidgjmlgjjobaaW.PrintMore
attribute [local go_sem] max2_int min2_int max_two min_two max_three min_three max_four min_four   -- for this text's walks alone
set_option linter.unusedVariables false
set_option linter.unusedSimpArgs false

/-! ### spec_l20Hydra: function 40 -/
mutual
def spec_l20Hydra.l0 : Nat → Int → List Int → Int → List Int → Int → Option (List Int × Int)
 | 0, _, _, _, _, _ => none
 | k + 1, x1, x5, x6, x1000, x1001 => if x6 < 5 then (if (x5.length : Int) > 20 then (spec_l20Hydra.j1 k x1 x5 x6 true x1000 x1001) else (spec_l20Hydra.j1 k x1 x5 x6 (decide ((x5.length : Int) < 3)) x1000 x1001)) else (spec_l20Hydra.j1 k x1 x5 x6 false x1000 x1001)
def spec_l20Hydra.j1 : Nat → Int → List Int → Int → Bool → List Int → Int → Option (List Int × Int)
 | 0, _, _, _, _, _, _ => none
 | k + 1, x1, x5, x6, x20, x1000, x1001 => if x20 = true then ((spec_l20Rd_pick.f k x1000 x1001 3).bind fun bt424 => ((spec_l20Tree.f k x1000 bt424.2 (wrap64 (1 + bt424.1))).bind fun bt426 => (spec_l20Hydra.l0 k x1 bt426.1 (wrap64 (x6 + 1)) x1000 bt426.2))) else (if (x5.length : Int) > 60 then (spec_l20Hydra.j2 k x1 (([1, 1, 0] : List Int)) x1000 x1001) else (spec_l20Hydra.j2 k x1 x5 x1000 x1001))
def spec_l20Hydra.j2 : Nat → Int → List Int → List Int → Int → Option (List Int × Int)
 | 0, _, _, _, _ => none
 | k + 1, x1, x5, x1000, x1001 => (spec_l20Rd_odd.f k x1000 x1001 x1).bind fun bt433 => (if bt433.1 = true then ((spec_l20Rd_pick.f k x1000 bt433.2 4).bind fun bt435 => (if bt435.1 = 0 then (some ((([] : List Int)), bt435.2)) else (if bt435.1 = 1 then ((some (([] : List Int) : List Int)).bind fun y440 => (if y440.length + x5.length < 17592186044416 then ((some (y440 ++ x5 : List Int)).bind fun y443 => (if y443.length < 17592186044416 then (some ((y443 ++ [0]), bt435.2)) else (none))) else (none))) else (if bt435.1 = 2 then (some ((([1] : List Int)), bt435.2)) else (some ((([(-1)] : List Int)), bt435.2)))))) else (some (x5, bt433.2)))
end
def spec_l20Hydra.f (k : Nat) (s0_0 : List Int) (s0_1 : Int) (a1 : Int) : Option (List Int × Int) := (spec_l20Tree.f k s0_0 s0_1 3).bind fun bt420 => (spec_l20Hydra.l0 k a1 bt420.1 0 s0_0 bt420.2)
theorem spec_l20Hydra.mono_l : ∀ k, (∀ y0 y1 y2 y3 y4, LeO (spec_l20Hydra.l0 k y0 y1 y2 y3 y4) (spec_l20Hydra.l0 (k + 1) y0 y1 y2 y3 y4)) ∧ (∀ y0 y1 y2 y3 y4 y5, LeO (spec_l20Hydra.j1 k y0 y1 y2 y3 y4 y5) (spec_l20Hydra.j1 (k + 1) y0 y1 y2 y3 y4 y5)) ∧ (∀ y0 y1 y2 y3, LeO (spec_l20Hydra.j2 k y0 y1 y2 y3) (spec_l20Hydra.j2 (k + 1) y0 y1 y2 y3))
 | 0 => ⟨fun _ _ _ _ _ r h => by simp [spec_l20Hydra.l0] at h, fun _ _ _ _ _ _ r h => by simp [spec_l20Hydra.j1] at h, fun _ _ _ _ r h => by simp [spec_l20Hydra.j2] at h⟩
 | k + 1 => by
  obtain ⟨ih0, ih1, ih2⟩ := spec_l20Hydra.mono_l k;refine ⟨?_, ?_, ?_⟩
  all_goals (intros; first | unfold spec_l20Hydra.l0 | unfold spec_l20Hydra.j1 | unfold spec_l20Hydra.j2)
  all_goals repeat' first | (with_reducible exact ih0 _ _ _ _ _) | (with_reducible exact ih1 _ _ _ _ _ _) | (with_reducible exact ih2 _ _ _ _) | (with_reducible exact spec_l20Rd_odd.mono _ _ _ _) | (with_reducible exact spec_l20Rd_pick.mono _ _ _ _) | (with_reducible exact spec_l20Tree.mono _ _ _ _) | (with_reducible exact LeO.refl _) | (with_reducible exact LeO.none _) | (with_reducible refine LeO.ite ?_ ?_) | (with_reducible refine LeO.bind ?_ (fun _ => ?_))
theorem spec_l20Hydra.mono : ∀ a0 a1 a2 k, LeO (spec_l20Hydra.f k a0 a1 a2) (spec_l20Hydra.f (k + 1) a0 a1 a2) := by
 intro a0 a1 a2 k;obtain ⟨ih0, ih1, ih2⟩ := spec_l20Hydra.mono_l k;unfold spec_l20Hydra.f
 repeat' first | (with_reducible exact ih0 _ _ _ _ _) | (with_reducible exact ih1 _ _ _ _ _ _) | (with_reducible exact ih2 _ _ _ _) | (with_reducible exact spec_l20Rd_odd.mono _ _ _ _) | (with_reducible exact spec_l20Rd_pick.mono _ _ _ _) | (with_reducible exact spec_l20Tree.mono _ _ _ _) | (with_reducible exact LeO.refl _) | (with_reducible exact LeO.none _) | (with_reducible refine LeO.ite ?_ ?_) | (with_reducible refine LeO.bind ?_ (fun _ => ?_))
set_option maxHeartbeats 8000000 in
set_option maxRecDepth 100000 in
theorem spec_l20Hydra.calls (k : Nat) (g : Nat) (s0_0 : List Int) (s0_1 : Int) (a1 : Int) (r1 : List Int) (r2 : Int) (w0 w : World) (hI : IsS80 w0 w g s0_0 s0_1) (hB : Below w0.heap.size w0 w) (h : spec_l20Hydra.f k s0_0 s0_1 a1 = some (r1, r2)) :
  Calls Try.prog 40 #[.pointer (some ⟨g, 0, none⟩), .int .i64 a1] w fun e w' => ∃ v0_ : Value, e = .returned (v0_) ∧ Kd.R (Kd.int .i64) 3 w' w.heap.size (fun _ => True) v0_ r1 ∧ IsS80 w0 w' g s0_0 r2 ∧ Below w0.heap.size w0 w' ∧ KeepBut w w' g none := by
 have HI0 := am hI;have HK := am (KeepBut.refl w g none);have HL := am hB.size;clear hI;have HW0 := am hB.size;have HB := am hB;clear hB;have H : ((spec_l20Tree.f k s0_0 s0_1 3).bind fun bt420 => (spec_l20Hydra.l0 k a1 bt420.1 0 s0_0 bt420.2)) = some (r1, r2) := h;clear h;replace H := oE H;obtain ⟨⟨t420, t423⟩, A3, H⟩ := H;replace H : (spec_l20Hydra.l0 k a1 t420 0 s0_0 t423) = some (r1, r2) := H;replace A3 := am A3;have H' := am H;clear H;go_enter Try.func40, Try.ntmps40;go_wp2_with (first | ((with_reducible refine gate_callee (f := 59) rfl ?_); refine goesL_ (some 8) rfl rfl Try.func59 (by kernel_rfl) rfl #[.pointer (some ⟨g, 0, none⟩), .int .i64 3] rfl (by (try simp only [mA, mB, mC]); first | done | rfl) ?_; (with_reducible refine (spec_l20Tree.calls k g s0_0 s0_1 3 t420 t423 w0 _ ?side1 ?side2 A3.out).mono ?_); (case side1 => repeat (first | (with_reducible first | exact HI0.out | apply IsS80.alloc | apply IsS80.drewN | apply IsS80.drew | apply IsS80.set_1) | exact HI0.out)); (case side2 => exact bs (IsS80.ge HI0.out) HB.out); rintro e w4 ⟨v421, rfl, ho0, hi, hb, hk⟩; refine ⟨_, rfl, ?_⟩; have HO422 := am (Kd.R_lower ho0 (keep_size (w := w) (g := g) (row := none) (km HK.out)));replace HK := am (KeepBut.trans (km HK.out) hk (.inl rfl));replace HB := am (hb);replace HI0 := am (hi); (try clear hb); (try clear hk); (try clear hi); (try clear ho0)))
 go_loopg [5, 6] k (fun kq v5 v6 w' => ∃ (x5_1 : List Int) (x6_1 : Int) (x1001_1 : Int), v6 = .int .i64 x6_1 ∧ Aside0 (spec_l20Hydra.l0 kq a1 x5_1 x6_1 s0_0 x1001_1 = some (r1, r2)) ∧ Aside0 (kq ≤ k) ∧ Aside0 (Kd.R (Kd.int .i64) 3 w' w.heap.size (fun _ => True) v5 x5_1) ∧ Aside0 (IsS80 w0 w' g s0_0 x1001_1) ∧ Aside0 (KeepBut w w' g none) ∧ Aside0 (Below w0.heap.size w0 w'))
 case atStart => exact ⟨(t420), (0), (t423), (by first | rfl | (simp; done) | (simp [*]; done)), H', ⟨Nat.le_refl _⟩, ⟨Kd.rm HO422.out⟩, ⟨by repeat (first | (with_reducible first | exact HI0.out | apply IsS80.alloc | apply IsS80.drewN | apply IsS80.drew | apply IsS80.set_1) | exact HI0.out)⟩, ⟨km HK.out⟩, ⟨bs (IsS80.ge HI0.out) HB.out⟩⟩
 case round =>
  clear H';(try clear p2);(try clear c4);(try clear HO_5);(try clear HK);(try clear HB);obtain ⟨x5_1, x6_1, x1001_1, rfl, HA, HK1, HO_5, HI0, HK, HB⟩ := hrel
  cases gk with
  | zero => exact absurd HA.out (by simp [spec_l20Hydra.l0])
  | succ k1 =>
   have H := HA.out;clear HA;simp only [spec_l20Hydra.l0] at H;have HC5 := am H;clear H
   go_upto_region 3 with (fail)
   go_cut [20] (fun v20 wc => ∃ (kq : Nat) (x20_4 : Bool), v20 = .bool x20_4 ∧ Aside0 (spec_l20Hydra.j1 kq a1 x5_1 x6_1 x20_4 s0_0 x1001_1 = some (r1, r2)) ∧ Aside0 (kq ≤ k1) ∧ Aside0 (Kd.R (Kd.int .i64) 3 wc w.heap.size (fun _ => True) u5 x5_1) ∧ Aside0 (IsS80 w0 wc g s0_0 x1001_1) ∧ Aside0 (KeepBut w wc g none) ∧ Aside0 (Below w0.heap.size w0 wc))
   case first =>
    have H := HC5.out;clear HC5;by_cases c6 : x6_1 < 5
    ·
     rw [if_pos c6] at H;have c6b0 : decide (x6_1 < 5) = true := decide_eq_true c6;clear c6
     (first | rw [c6b0] | (simp only [i64_w, i32_w]; rw [c6b0]) | skip)
     by_cases c7 : (x5_1.length : Int) > 20
     ·
      rw [if_pos c7] at H;have c7b0 : decide (20 < (x5_1.length : Int)) = true := decide_eq_true c7;have c7b1 : decide (20 < x5_1.length) = true := decide_eq_true (by omega);clear c7;have H' := am H;clear H;obtain ⟨Ao8, co8, eo8⟩ := Kd.R_slice HO_5.out;subst eo8;go_wp2;go_meet
      case rel => exact ⟨_, (true), (by first | rfl | (simp; done) | (simp [*]; done)), H', ⟨by have := HK1.out; first | omega | exact Nat.le_refl _⟩, ⟨Kd.rm HO_5.out⟩, ⟨by repeat (first | (with_reducible first | exact HI0.out | apply IsS80.alloc | apply IsS80.drewN | apply IsS80.drew | apply IsS80.set_1) | exact HI0.out)⟩, ⟨km HK.out⟩, ⟨bs (IsS80.ge HI0.out) HB.out⟩⟩
     ·
      rw [if_neg c7] at H;have c7b0 : decide (20 < (x5_1.length : Int)) = false := decide_eq_false c7;have c7b1 : decide (20 < x5_1.length) = false := decide_eq_false (by omega);clear c7;have H' := am H;clear H;obtain ⟨Ao9, co9, eo9⟩ := Kd.R_slice HO_5.out;subst eo9;go_wp2;go_meet
      case rel => exact ⟨_, (decide ((x5_1.length : Int) < 3)), (by first | rfl | (simp; done) | (simp [*]; done)), H', ⟨by have := HK1.out; first | omega | exact Nat.le_refl _⟩, ⟨Kd.rm HO_5.out⟩, ⟨by repeat (first | (with_reducible first | exact HI0.out | apply IsS80.alloc | apply IsS80.drewN | apply IsS80.drew | apply IsS80.set_1) | exact HI0.out)⟩, ⟨km HK.out⟩, ⟨bs (IsS80.ge HI0.out) HB.out⟩⟩
    ·
     rw [if_neg c6] at H;have c6b0 : decide (x6_1 < 5) = false := decide_eq_false c6;clear c6
     (first | rw [c6b0] | (simp only [i64_w, i32_w]; rw [c6b0]) | skip)
     have H' := am H;clear H;go_wp2;go_meet
     case rel => exact ⟨_, (false), (by first | rfl | (simp; done) | (simp [*]; done)), H', ⟨by have := HK1.out; first | omega | exact Nat.le_refl _⟩, ⟨Kd.rm HO_5.out⟩, ⟨by repeat (first | (with_reducible first | exact HI0.out | apply IsS80.alloc | apply IsS80.drewN | apply IsS80.drew | apply IsS80.set_1) | exact HI0.out)⟩, ⟨km HK.out⟩, ⟨bs (IsS80.ge HI0.out) HB.out⟩⟩
   case rest =>
    clear HC5;(try clear p2);(try clear c4);(try clear c5);(try clear c6);(try clear c6b0);(try clear c7);(try clear c7b0);(try clear c7b1);(try clear p2);obtain ⟨kq, x20_4, rfl, HA, HJ4, HO_5, HI0, HK, HB⟩ := hcut
    cases kq with
    | zero => exact absurd HA.out (by simp [spec_l20Hydra.j1])
    | succ kj4 =>
     have H := HA.out;clear HA;simp only [spec_l20Hydra.j1] at H;by_cases c10 : x20_4 = true
     ·
      subst c10
      have H1 : ((spec_l20Rd_pick.f kj4 s0_0 x1001_1 3).bind fun bt424 => ((spec_l20Tree.f kj4 s0_0 bt424.2 (wrap64 (1 + bt424.1))).bind fun bt426 => (spec_l20Hydra.l0 kj4 a1 bt426.1 (wrap64 (x6_1 + 1)) s0_0 bt426.2))) = some (r1, r2) := by rw [if_pos rfl] at H; exact H
      clear H;have H := H1;clear H1;replace H := oE H;obtain ⟨⟨t424, t425⟩, A11, H⟩ := H;replace H : ((spec_l20Tree.f kj4 s0_0 t425 (wrap64 (1 + t424))).bind fun bt426 => (spec_l20Hydra.l0 kj4 a1 bt426.1 (wrap64 (x6_1 + 1)) s0_0 bt426.2)) = some (r1, r2) := H;replace A11 := am A11;replace H := oE H;obtain ⟨⟨t426, t429⟩, A12, H⟩ := H;replace H : (spec_l20Hydra.l0 kj4 a1 t426 (wrap64 (x6_1 + 1)) s0_0 t429) = some (r1, r2) := H;replace A12 := am A12;have H' := am H;clear H;go_wp2_with (first | ((with_reducible refine gate_callee (f := 41) rfl ?_); refine goesL_ (some 25) rfl rfl Try.func41 (by kernel_rfl) rfl #[.pointer (some ⟨g, 0, none⟩), .int .i64 3] rfl (by (try simp only [mA, mB, mC]); first | done | rfl) ?_; (with_reducible refine (spec_l20Rd_pick.calls kj4 g s0_0 x1001_1 3 t424 t425 w0 _ ?side1 ?side2 A11.out).mono ?_); (case side1 => repeat (first | (with_reducible first | exact HI0.out | apply IsS80.alloc | apply IsS80.drewN | apply IsS80.drew | apply IsS80.set_1) | exact HI0.out)); (case side2 => exact bs (IsS80.ge HI0.out) HB.out); rintro e w13 ⟨rfl, hi, hb, hk⟩; refine ⟨_, rfl, ?_⟩; replace HO_5 := am (Kd.R_mono (Kd.R_keep (IsS80.apart (show IsS80 w0 _ g s0_0 x1001_1 from by repeat (first | (with_reducible first | exact HI0.out | apply IsS80.alloc | apply IsS80.drewN | apply IsS80.drew | apply IsS80.set_1) | exact HI0.out)) (Kd.rm HO_5.out) (by decide)) hk (fun _ h => h.2)) (fun _ h => h.1));replace HK := am (KeepBut.trans (km HK.out) hk (.inl rfl));replace HB := am (hb);replace HI0 := am (hi); (try clear hb); (try clear hk); (try clear hi)) | ((with_reducible refine gate_callee (f := 59) rfl ?_); refine goesL_ (some 27) rfl rfl Try.func59 (by kernel_rfl) rfl #[.pointer (some ⟨g, 0, none⟩), .int .i64 (wrap64 (1 + t424))] rfl (by (try simp only [mA, mB, mC]); first | done | rfl) ?_; (with_reducible refine (spec_l20Tree.calls kj4 g s0_0 t425 (wrap64 (1 + t424)) t426 t429 w0 _ ?side1 ?side2 A12.out).mono ?_); (case side1 => repeat (first | (with_reducible first | exact HI0.out | apply IsS80.alloc | apply IsS80.drewN | apply IsS80.drew | apply IsS80.set_1) | exact HI0.out)); (case side2 => exact bs (IsS80.ge HI0.out) HB.out); rintro e w14 ⟨v427, rfl, ho0, hi, hb, hk⟩; refine ⟨_, rfl, ?_⟩; have HO428 := am (Kd.R_lower (Kd.R_new' ho0 (Kd.R_lt (Kd.rm HO_5.out))) (keep_size (w := w) (g := g) (row := none) (km HK.out)));replace HO_5 := am (Kd.R_mono (Kd.R_told (Kd.R_oldK (IsS80.apart (show IsS80 w0 _ g s0_0 t425 from by repeat (first | (with_reducible first | exact HI0.out | apply IsS80.alloc | apply IsS80.drewN | apply IsS80.drew | apply IsS80.set_1) | exact HI0.out)) (Kd.rm HO_5.out) (by decide)) hk) (Kd.R_base ho0)) (fun _ h_ => h_.1));replace HK := am (KeepBut.trans (km HK.out) hk (.inl rfl));replace HB := am (hb);replace HI0 := am (hi); (try clear hb); (try clear hk); (try clear hi); (try clear ho0)))
      go_roundg kj4
      case measure => have := HK1.out; have := HJ4.out; omega
      case rel => exact ⟨(t426), (wrap64 (x6_1 + 1)), (t429), (by first | rfl | (simp; done) | (simp [*]; done)), H', ⟨by have := HK1.out; have := HJ4.out; omega⟩, ⟨Kd.rm (Kd.R_mono HO428.out (fun _ hk => trivial))⟩, ⟨by repeat (first | (with_reducible first | exact HI0.out | apply IsS80.alloc | apply IsS80.drewN | apply IsS80.drew | apply IsS80.set_1) | exact HI0.out)⟩, ⟨km HK.out⟩, ⟨bs (IsS80.ge HI0.out) HB.out⟩⟩
     ·
      replace c10 := Bool.eq_false_iff.mpr c10;subst c10
      have H1 : (if (x5_1.length : Int) > 60 then (spec_l20Hydra.j2 kj4 a1 (([1, 1, 0] : List Int)) s0_0 x1001_1) else (spec_l20Hydra.j2 kj4 a1 x5_1 s0_0 x1001_1)) = some (r1, r2) := by rw [if_neg (show ¬ (false = true) by decide)] at H; exact H
      clear H;have H := H1;clear H1;have HC15 := am H;clear H;obtain ⟨Ao16, co16, eo16⟩ := Kd.R_slice HO_5.out;subst eo16
      go_upto_if 30 with (fail)
      go_cut [5] (fun v5 wc => ∃ (kq : Nat) (x5_14 : List Int), Aside0 (spec_l20Hydra.j2 kq a1 x5_14 s0_0 x1001_1 = some (r1, r2)) ∧ Aside0 (kq ≤ kj4) ∧ Aside0 (Kd.R (Kd.int .i64) 3 wc w.heap.size (fun _ => True) v5 x5_14) ∧ Aside0 (IsS80 w0 wc g s0_0 x1001_1) ∧ Aside0 (KeepBut w wc g none) ∧ Aside0 (Below w0.heap.size w0 wc))
      case first =>
       have H := HC15.out;clear HC15;by_cases c17 : (x5_1.length : Int) > 60
       ·
        rw [if_pos c17] at H;have c17b0 : decide (60 < (x5_1.length : Int)) = true := decide_eq_true c17;have c17b1 : decide (60 < x5_1.length) = true := decide_eq_true (by omega);clear c17
        (first | rw [c17b0] | (simp only [i64_w, i32_w]; rw [c17b0]) | skip)
        obtain ⟨y430, hy430⟩ : ∃ y_ : List Int, y_ = (([1, 1, 0] : List Int)) := ⟨_, rfl⟩
        replace H : (spec_l20Hydra.j2 kj4 a1 y430 s0_0 x1001_1) = some (r1, r2) := by first | (rw [hy430]; with_reducible exact H) | (have H2_ := oB H; rw [hy430]; with_reducible exact H2_) | (have H2_ := oB H; with_reducible exact H2_) | with_reducible exact H | (rw [hy430]; exact H) | exact H
        replace hy430 := am hy430;have H' := am H;clear H;go_wp2_with (first | ((with_reducible refine gate_dst (N := 31) rfl ?_); (try (refine gate_guard (by rfl) ?_; dsimp only)); refine Kd.R_lit (Kd.int .i64) _ 3 ?hg (N := 31) ?hd (xs := ([1, 1, 0] : List Int)) (inner := [.int .i64 1, .int .i64 1, .int .i64 0]) (ok := fun _ => True) (okp := fun _ => True) ?hr ?hp (fun _ hk => hk) trivial (Below.refl _ _) (Nat.le_refl _) (by simp) ?_; (case hd => rfl); (case hg => rfl); (case hr => first | (go_simp; done) | (go_simp; rfl)); (case hp => exact (Reps.one (show Kd.M (Kd.int .i64) _ _ _ 1 [.int .i64 1] from rfl) (Reps.one (show Kd.M (Kd.int .i64) _ _ _ 1 [.int .i64 1] from rfl) (Reps.one (show Kd.M (Kd.int .i64) _ _ _ 0 [.int .i64 0] from rfl) (Reps.none _ _))))); intro v431 w18 ho19 hb hg_ hnew_; clear hg_ hnew_; (first | rw [← hy430.out] at ho19 | (simp only [Int.reduceToNat] at ho19; rw [← hy430.out] at ho19)); have HO432 := am (Kd.R_lower (Kd.R_new' ho19 (Kd.R_lt (Kd.rm HO_5.out))) (keep_size (w := w) (g := g) (row := none) (km HK.out)));replace HO_5 := am (Kd.R_elder' (Kd.rm HO_5.out) (Kd.R_base ho19) hb);replace HK := am (KeepBut.trans (km HK.out) (KeepBut.of_below hb g none) (.inl rfl));replace HB := am (below_step (bs (IsS80.ge HI0.out) HB.out) hb);replace HI0 := am (IsS80.below (by repeat (first | (with_reducible first | exact HI0.out | apply IsS80.alloc | apply IsS80.drewN | apply IsS80.drew | apply IsS80.set_1) | exact HI0.out)) hb); clear hb ho19));go_meet
        case rel => exact ⟨_, (y430), H', ⟨by have := HK1.out; have := HJ4.out; first | omega | exact Nat.le_refl _⟩, ⟨Kd.rm (Kd.R_mono HO432.out (fun _ hk => trivial))⟩, ⟨by repeat (first | (with_reducible first | exact HI0.out | apply IsS80.alloc | apply IsS80.drewN | apply IsS80.drew | apply IsS80.set_1) | exact HI0.out)⟩, ⟨km HK.out⟩, ⟨bs (IsS80.ge HI0.out) HB.out⟩⟩
       ·
        rw [if_neg c17] at H;have c17b0 : decide (60 < (x5_1.length : Int)) = false := decide_eq_false c17;have c17b1 : decide (60 < x5_1.length) = false := decide_eq_false (by omega);clear c17
        (first | rw [c17b0] | (simp only [i64_w, i32_w]; rw [c17b0]) | skip)
        have H' := am H;clear H;go_wp2;go_meet
        case rel => exact ⟨_, (x5_1), H', ⟨by have := HK1.out; have := HJ4.out; first | omega | exact Nat.le_refl _⟩, ⟨Kd.rm HO_5.out⟩, ⟨by repeat (first | (with_reducible first | exact HI0.out | apply IsS80.alloc | apply IsS80.drewN | apply IsS80.drew | apply IsS80.set_1) | exact HI0.out)⟩, ⟨km HK.out⟩, ⟨bs (IsS80.ge HI0.out) HB.out⟩⟩
      case rest =>
       clear HC15;(try clear c1);(try clear p2);(try clear c4);(try clear c5);(try clear c6);(try clear c6b0);(try clear p6);(try clear c7);(try clear c7b0);(try clear c7b1);(try clear c10);(try clear c17);(try clear c17b0);(try clear c17b1);(try clear p2);obtain ⟨kq, x5_14, HA, HJ14, HO_5, HI0, HK, HB⟩ := hcut
       cases kq with
       | zero => exact absurd HA.out (by simp [spec_l20Hydra.j2])
       | succ kj14 =>
        have H := HA.out;clear HA;simp only [spec_l20Hydra.j2] at H;replace H := oE H;obtain ⟨⟨t433, t434⟩, A20, H⟩ := H;replace H : (if t433 = true then ((spec_l20Rd_pick.f kj14 s0_0 t434 4).bind fun bt435 => (if bt435.1 = 0 then (some ((([] : List Int)), bt435.2)) else (if bt435.1 = 1 then ((some (([] : List Int) : List Int)).bind fun y440 => (if y440.length + x5_14.length < 17592186044416 then ((some (y440 ++ x5_14 : List Int)).bind fun y443 => (if y443.length < 17592186044416 then (some ((y443 ++ [0]), bt435.2)) else (none))) else (none))) else (if bt435.1 = 2 then (some ((([1] : List Int)), bt435.2)) else (some ((([(-1)] : List Int)), bt435.2)))))) else (some (x5_14, t434))) = some (r1, r2) := H;replace A20 := am A20;by_cases c21 : t433 = true
        ·
         subst c21
         have H1 : ((spec_l20Rd_pick.f kj14 s0_0 t434 4).bind fun bt435 => (if bt435.1 = 0 then (some ((([] : List Int)), bt435.2)) else (if bt435.1 = 1 then ((some (([] : List Int) : List Int)).bind fun y440 => (if y440.length + x5_14.length < 17592186044416 then ((some (y440 ++ x5_14 : List Int)).bind fun y443 => (if y443.length < 17592186044416 then (some ((y443 ++ [0]), bt435.2)) else (none))) else (none))) else (if bt435.1 = 2 then (some ((([1] : List Int)), bt435.2)) else (some ((([(-1)] : List Int)), bt435.2)))))) = some (r1, r2) := by rw [if_pos rfl] at H; exact H
         clear H;have H := H1;clear H1;replace H := oE H;obtain ⟨⟨t435, t436⟩, A22, H⟩ := H;replace H : (if t435 = 0 then (some ((([] : List Int)), t436)) else (if t435 = 1 then ((some (([] : List Int) : List Int)).bind fun y440 => (if y440.length + x5_14.length < 17592186044416 then ((some (y440 ++ x5_14 : List Int)).bind fun y443 => (if y443.length < 17592186044416 then (some ((y443 ++ [0]), t436)) else (none))) else (none))) else (if t435 = 2 then (some ((([1] : List Int)), t436)) else (some ((([(-1)] : List Int)), t436))))) = some (r1, r2) := H;replace A22 := am A22;by_cases c23 : t435 = 0
         ·
          rw [if_pos c23] at H;have c23b0 : (t435 == 0) = true := beq_iff_eq.mpr c23;have c23b1 : (t435 != 0) = false := bne_eq_false_iff_eq.mpr c23;clear c23
          obtain ⟨y437, hy437⟩ : ∃ y_ : List Int, y_ = (([] : List Int)) := ⟨_, rfl⟩
          replace H : (some (y437, t436)) = some (r1, r2) := by first | (rw [hy437]; with_reducible exact H) | (have H2_ := oB H; rw [hy437]; with_reducible exact H2_) | (have H2_ := oB H; with_reducible exact H2_) | with_reducible exact H | (rw [hy437]; exact H) | exact H
          replace hy437 := am hy437;simp only [Option.some.injEq, Prod.mk.injEq] at H;obtain ⟨rfl, rfl⟩ := H;go_wp2_with (first | ((with_reducible refine gate_callee (f := 60) rfl ?_); refine goesL_ (some 34) rfl rfl Try.func60 (by kernel_rfl) rfl #[.pointer (some ⟨g, 0, none⟩), .int .i64 a1] rfl (by (try simp only [mA, mB, mC]); first | done | rfl) ?_; (with_reducible refine (spec_l20Rd_odd.calls kj14 g s0_0 x1001_1 a1 true t434 w0 _ ?side1 ?side2 A20.out).mono ?_); (case side1 => repeat (first | (with_reducible first | exact HI0.out | apply IsS80.alloc | apply IsS80.drewN | apply IsS80.drew | apply IsS80.set_1) | exact HI0.out)); (case side2 => exact bs (IsS80.ge HI0.out) HB.out); rintro e w24 ⟨rfl, hi, hb, hk⟩; refine ⟨_, rfl, ?_⟩; replace HO_5 := am (Kd.R_mono (Kd.R_keep (IsS80.apart (show IsS80 w0 _ g s0_0 x1001_1 from by repeat (first | (with_reducible first | exact HI0.out | apply IsS80.alloc | apply IsS80.drewN | apply IsS80.drew | apply IsS80.set_1) | exact HI0.out)) (Kd.rm HO_5.out) (by decide)) hk (fun _ h => h.2)) (fun _ h => h.1));replace HK := am (KeepBut.trans (km HK.out) hk (.inl rfl));replace HB := am (hb);replace HI0 := am (hi); (try clear hb); (try clear hk); (try clear hi)) | ((with_reducible refine gate_callee (f := 41) rfl ?_); refine goesL_ (some 36) rfl rfl Try.func41 (by kernel_rfl) rfl #[.pointer (some ⟨g, 0, none⟩), .int .i64 4] rfl (by (try simp only [mA, mB, mC]); first | done | rfl) ?_; (with_reducible refine (spec_l20Rd_pick.calls kj14 g s0_0 t434 4 t435 t436 w0 _ ?side1 ?side2 A22.out).mono ?_); (case side1 => repeat (first | (with_reducible first | exact HI0.out | apply IsS80.alloc | apply IsS80.drewN | apply IsS80.drew | apply IsS80.set_1) | exact HI0.out)); (case side2 => exact bs (IsS80.ge HI0.out) HB.out); rintro e w25 ⟨rfl, hi, hb, hk⟩; refine ⟨_, rfl, ?_⟩; replace HO_5 := am (Kd.R_mono (Kd.R_keep (IsS80.apart (show IsS80 w0 _ g s0_0 t434 from by repeat (first | (with_reducible first | exact HI0.out | apply IsS80.alloc | apply IsS80.drewN | apply IsS80.drew | apply IsS80.set_1) | exact HI0.out)) (Kd.rm HO_5.out) (by decide)) hk (fun _ h => h.2)) (fun _ h => h.1));replace HK := am (KeepBut.trans (km HK.out) hk (.inl rfl));replace HB := am (hb);replace HI0 := am (hi); (try clear hb); (try clear hk); (try clear hi)) | ((with_reducible refine gate_dst (N := 40) rfl ?_); (try (refine gate_guard (by rfl) ?_; dsimp only)); refine Kd.R_lit (Kd.int .i64) _ 3 ?hg (N := 40) ?hd (xs := ([] : List Int)) (inner := []) (ok := fun _ => True) (okp := fun _ => True) ?hr ?hp (fun _ hk => hk) trivial (Below.refl _ _) (Nat.le_refl _) (by simp) ?_; (case hd => rfl); (case hg => rfl); (case hr => first | (go_simp; done) | (go_simp; rfl)); (case hp => exact (Reps.none _ _)); intro v438 w26 ho27 hb hg_ hnew_; clear hg_ hnew_; (first | rw [← hy437.out] at ho27 | (simp only [Int.reduceToNat] at ho27; rw [← hy437.out] at ho27)); have HO439 := am (Kd.R_lower (Kd.R_new' ho27 (Kd.R_lt (Kd.rm HO_5.out))) (keep_size (w := w) (g := g) (row := none) (km HK.out)));replace HO_5 := am (Kd.R_elder' (Kd.rm HO_5.out) (Kd.R_base ho27) hb);replace HK := am (KeepBut.trans (km HK.out) (KeepBut.of_below hb g none) (.inl rfl));replace HB := am (below_step (bs (IsS80.ge HI0.out) HB.out) hb);replace HI0 := am (IsS80.below (by repeat (first | (with_reducible first | exact HI0.out | apply IsS80.alloc | apply IsS80.drewN | apply IsS80.drew | apply IsS80.set_1) | exact HI0.out)) hb); clear hb ho27));go_ret;exact ⟨_, by first | rfl | (simp [errW_none, errW_some] <;> rfl) | (simp [*, errW_none, errW_some] <;> rfl), Kd.rm (Kd.R_mono HO439.out (fun _ hk => trivial)), by repeat (first | (with_reducible first | exact HI0.out | apply IsS80.alloc | apply IsS80.drewN | apply IsS80.drew | apply IsS80.set_1) | exact HI0.out), bs (IsS80.ge HI0.out) HB.out, km HK.out⟩
         ·
          rw [if_neg c23] at H;have c23b0 : (t435 == 0) = false := beq_eq_false_iff_ne.mpr c23;have c23b1 : (t435 != 0) = true := bne_iff_ne.mpr c23;by_cases c28 : t435 = 1
          ·
           rw [if_pos c28] at H;have c28b0 : (t435 == 1) = true := beq_iff_eq.mpr c28;have c28b1 : (t435 != 1) = false := bne_eq_false_iff_eq.mpr c28;clear c28
           obtain ⟨y440, hy440⟩ : ∃ y_ : List Int, y_ = (([] : List Int)) := ⟨_, rfl⟩
           replace H : (if y440.length + x5_14.length < 17592186044416 then ((some (y440 ++ x5_14 : List Int)).bind fun y443 => (if y443.length < 17592186044416 then (some ((y443 ++ [0]), t436)) else (none))) else (none)) = some (r1, r2) := by first | (rw [hy440]; with_reducible exact H) | (have H2_ := oB H; rw [hy440]; with_reducible exact H2_) | (have H2_ := oB H; with_reducible exact H2_) | with_reducible exact H | (rw [hy440]; exact H) | exact H
           replace hy440 := am hy440;by_cases c29 : y440.length + x5_14.length < 17592186044416
           ·
            rw [if_pos c29] at H;have LMc29 := am c29;clear c29
            obtain ⟨y443, hy443⟩ : ∃ y_ : List Int, y_ = (y440 ++ x5_14) := ⟨_, rfl⟩
            replace H : (if y443.length < 17592186044416 then (some ((y443 ++ [0]), t436)) else (none)) = some (r1, r2) := by first | (rw [hy443]; with_reducible exact H) | (have H2_ := oB H; rw [hy443]; with_reducible exact H2_) | (have H2_ := oB H; with_reducible exact H2_) | with_reducible exact H | (rw [hy443]; exact H) | exact H
            replace hy443 := am hy443;by_cases c30 : y443.length < 17592186044416
            ·
             rw [if_pos c30] at H;have LMc30 := am c30;clear c30
             obtain ⟨y446, hy446⟩ : ∃ y_ : List Int, y_ = (y443 ++ [0]) := ⟨_, rfl⟩
             replace H : (some (y446, t436)) = some (r1, r2) := by first | (rw [hy446]; with_reducible exact H) | (have H2_ := oB H; rw [hy446]; with_reducible exact H2_) | (have H2_ := oB H; with_reducible exact H2_) | with_reducible exact H | (rw [hy446]; exact H) | exact H
             replace hy446 := am hy446;simp only [Option.some.injEq, Prod.mk.injEq] at H;obtain ⟨rfl, rfl⟩ := H;go_wp2_with (first | ((with_reducible refine gate_callee (f := 60) rfl ?_); refine goesL_ (some 34) rfl rfl Try.func60 (by kernel_rfl) rfl #[.pointer (some ⟨g, 0, none⟩), .int .i64 a1] rfl (by (try simp only [mA, mB, mC]); first | done | rfl) ?_; (with_reducible refine (spec_l20Rd_odd.calls kj14 g s0_0 x1001_1 a1 true t434 w0 _ ?side1 ?side2 A20.out).mono ?_); (case side1 => repeat (first | (with_reducible first | exact HI0.out | apply IsS80.alloc | apply IsS80.drewN | apply IsS80.drew | apply IsS80.set_1) | exact HI0.out)); (case side2 => exact bs (IsS80.ge HI0.out) HB.out); rintro e w31 ⟨rfl, hi, hb, hk⟩; refine ⟨_, rfl, ?_⟩; replace HO_5 := am (Kd.R_mono (Kd.R_keep (IsS80.apart (show IsS80 w0 _ g s0_0 x1001_1 from by repeat (first | (with_reducible first | exact HI0.out | apply IsS80.alloc | apply IsS80.drewN | apply IsS80.drew | apply IsS80.set_1) | exact HI0.out)) (Kd.rm HO_5.out) (by decide)) hk (fun _ h => h.2)) (fun _ h => h.1));replace HK := am (KeepBut.trans (km HK.out) hk (.inl rfl));replace HB := am (hb);replace HI0 := am (hi); (try clear hb); (try clear hk); (try clear hi)) | ((with_reducible refine gate_callee (f := 41) rfl ?_); refine goesL_ (some 36) rfl rfl Try.func41 (by kernel_rfl) rfl #[.pointer (some ⟨g, 0, none⟩), .int .i64 4] rfl (by (try simp only [mA, mB, mC]); first | done | rfl) ?_; (with_reducible refine (spec_l20Rd_pick.calls kj14 g s0_0 t434 4 t435 t436 w0 _ ?side1 ?side2 A22.out).mono ?_); (case side1 => repeat (first | (with_reducible first | exact HI0.out | apply IsS80.alloc | apply IsS80.drewN | apply IsS80.drew | apply IsS80.set_1) | exact HI0.out)); (case side2 => exact bs (IsS80.ge HI0.out) HB.out); rintro e w32 ⟨rfl, hi, hb, hk⟩; refine ⟨_, rfl, ?_⟩; replace HO_5 := am (Kd.R_mono (Kd.R_keep (IsS80.apart (show IsS80 w0 _ g s0_0 t434 from by repeat (first | (with_reducible first | exact HI0.out | apply IsS80.alloc | apply IsS80.drewN | apply IsS80.drew | apply IsS80.set_1) | exact HI0.out)) (Kd.rm HO_5.out) (by decide)) hk (fun _ h => h.2)) (fun _ h => h.1));replace HK := am (KeepBut.trans (km HK.out) hk (.inl rfl));replace HB := am (hb);replace HI0 := am (hi); (try clear hb); (try clear hk); (try clear hi)) | ((with_reducible refine gate_dst (N := 43) rfl ?_); (try (refine gate_guard (by rfl) ?_; dsimp only)); refine Kd.R_lit (Kd.int .i64) _ 3 ?hg (N := 43) ?hd (xs := ([] : List Int)) (inner := []) (ok := fun _ => True) (okp := fun _ => True) ?hr ?hp (fun _ hk => hk) trivial (Below.refl _ _) (Nat.le_refl _) (by simp) ?_; (case hd => rfl); (case hg => rfl); (case hr => first | (go_simp; done) | (go_simp; rfl)); (case hp => exact (Reps.none _ _)); intro v441 w33 ho34 hb hg_ hnew_; clear hg_ hnew_; (first | rw [← hy440.out] at ho34 | (simp only [Int.reduceToNat] at ho34; rw [← hy440.out] at ho34)); have HO442 := am (Kd.R_lower (Kd.R_new' ho34 (Kd.R_lt (Kd.rm HO_5.out))) (keep_size (w := w) (g := g) (row := none) (km HK.out)));replace HO_5 := am (Kd.R_elder' (Kd.rm HO_5.out) (Kd.R_base ho34) hb);replace HK := am (KeepBut.trans (km HK.out) (KeepBut.of_below hb g none) (.inl rfl));replace HB := am (below_step (bs (IsS80.ge HI0.out) HB.out) hb);replace HI0 := am (IsS80.below (by repeat (first | (with_reducible first | exact HI0.out | apply IsS80.alloc | apply IsS80.drewN | apply IsS80.drew | apply IsS80.set_1) | exact HI0.out)) hb); clear hb ho34; obtain ⟨Ao36, co36, eo36⟩ := Kd.R_slice HO_5.out; subst eo36) | ((with_reducible refine gate_builtin (b := .append) (xs := #[.tmp 43, .tmp 44]) rfl ?_); (try (refine gate_guard (by rfl) ?_; dsimp only)); at_builtin; refine Kd.R_append_rows (Kd.int .i64) w.heap.size rfl (.tmp 43) (.tmp 44) 22 3 (.int .i64 0) 8 rfl Try.underlying22 info3 rfl (by decide) (by omega) v441 y440 x5_14 _ _ _ (fun k_ => some k_ ≠ (.slice Ao36 x5_14.length co36 : Value).ownBlock) (fun _ => False) rfl rfl ?aO ?aR (fun _ _ h => h) (fun _ h => h.elim) ?aF (Below.refl _ _) ?aS ?aL ?_; (case aR => exact Kd.cm ((Kd.R_reads' HO_5.out).2.2)); (case aF => exact (fun k_ hk => Kd.fresh' (Kd.R_lt (Kd.rm HO_5.out)) k_ hk)); (case aO => exact (Kd.rm (Kd.R_mono HO442.out (fun _ hk => hk.2)))); (case aS => exact (keep_size (w := w) (g := g) (row := none) (km HK.out))); (case aL => have := LMc29.out; omega); intro v444 w35 ho hb hg hat; rw [← hy443.out] at ho; replace HO_5 := am (Kd.R_after (ok := (fun _ => True)) (Kd.rm HO_5.out) hg hat);replace HB := am (below_weaken (bs (IsS80.ge HI0.out) HB.out) HL.out hb);replace HI0 := am (IsS80.grown (by repeat (first | (with_reducible first | exact HI0.out | apply IsS80.alloc | apply IsS80.drewN | apply IsS80.drew | apply IsS80.set_1) | exact HI0.out)) hg (IsS80.own_ne HI0.out HO442.out (by decide)));replace HK := am (KeepBut.trans (km HK.out) (KeepBut.of_grown hg g) (Kd.R_base2 HO442.out));have HO445 := am (ho);clear HO442; clear ho hb hg hat) | ((with_reducible refine gate_builtin (b := .append) (xs := #[.tmp 45, .tmp 46]) rfl ?_); (try (refine gate_guard (by rfl) ?_; dsimp only)); at_builtin; refine Kd.R_append (Kd.int .i64) w.heap.size rfl (.tmp 45) (.tmp 46) 22 3 (.int .i64 0) 8 rfl Try.underlying22 info3 rfl (by decide) (by omega) v444 y443 0 [.int .i64 0] (fun k_ => some k_ ≠ (.slice Ao36 x5_14.length co36 : Value).ownBlock) (fun _ => False) rfl rfl ?aP (fun _ hk => hk.elim) ?aF ?aO (Below.refl _ _) ?aS ?aL ?_; (case aP => exact rfl); (case aF => exact (fun k_ hk => Kd.fresh' (Kd.R_lt (Kd.rm HO_5.out)) k_ hk)); (case aO => exact (Kd.rm HO445.out)); (case aS => exact (keep_size (w := w) (g := g) (row := none) (km HK.out))); (case aL => have := LMc30.out; omega); intro v447 w37 ho hb hg hat; rw [← hy446.out] at ho; replace HO_5 := am (Kd.R_after (ok := (fun _ => True)) (Kd.rm HO_5.out) hg hat);replace HB := am (below_weaken (bs (IsS80.ge HI0.out) HB.out) HL.out hb);replace HI0 := am (IsS80.grown (by repeat (first | (with_reducible first | exact HI0.out | apply IsS80.alloc | apply IsS80.drewN | apply IsS80.drew | apply IsS80.set_1) | exact HI0.out)) hg (IsS80.own_ne HI0.out HO445.out (by decide)));replace HK := am (KeepBut.trans (km HK.out) (KeepBut.of_grown hg g) (Kd.R_base2 HO445.out));have HO448 := am (ho);clear HO445; clear ho hb hg hat));go_ret;exact ⟨_, by first | rfl | (simp [errW_none, errW_some] <;> rfl) | (simp [*, errW_none, errW_some] <;> rfl), Kd.rm (Kd.R_mono HO448.out (fun _ hk => trivial)), by repeat (first | (with_reducible first | exact HI0.out | apply IsS80.alloc | apply IsS80.drewN | apply IsS80.drew | apply IsS80.set_1) | exact HI0.out), bs (IsS80.ge HI0.out) HB.out, km HK.out⟩
            ·
             rw [if_neg c30] at H;exact absurd H (by simp)
           ·
            rw [if_neg c29] at H;exact absurd H (by simp)
          ·
           rw [if_neg c28] at H;have c28b0 : (t435 == 1) = false := beq_eq_false_iff_ne.mpr c28;have c28b1 : (t435 != 1) = true := bne_iff_ne.mpr c28;by_cases c38 : t435 = 2
           ·
            rw [if_pos c38] at H;have c38b0 : (t435 == 2) = true := beq_iff_eq.mpr c38;have c38b1 : (t435 != 2) = false := bne_eq_false_iff_eq.mpr c38;clear c38
            obtain ⟨y449, hy449⟩ : ∃ y_ : List Int, y_ = (([1] : List Int)) := ⟨_, rfl⟩
            replace H : (some (y449, t436)) = some (r1, r2) := by first | (rw [hy449]; with_reducible exact H) | (have H2_ := oB H; rw [hy449]; with_reducible exact H2_) | (have H2_ := oB H; with_reducible exact H2_) | with_reducible exact H | (rw [hy449]; exact H) | exact H
            replace hy449 := am hy449;simp only [Option.some.injEq, Prod.mk.injEq] at H;obtain ⟨rfl, rfl⟩ := H;go_wp2_with (first | ((with_reducible refine gate_callee (f := 60) rfl ?_); refine goesL_ (some 34) rfl rfl Try.func60 (by kernel_rfl) rfl #[.pointer (some ⟨g, 0, none⟩), .int .i64 a1] rfl (by (try simp only [mA, mB, mC]); first | done | rfl) ?_; (with_reducible refine (spec_l20Rd_odd.calls kj14 g s0_0 x1001_1 a1 true t434 w0 _ ?side1 ?side2 A20.out).mono ?_); (case side1 => repeat (first | (with_reducible first | exact HI0.out | apply IsS80.alloc | apply IsS80.drewN | apply IsS80.drew | apply IsS80.set_1) | exact HI0.out)); (case side2 => exact bs (IsS80.ge HI0.out) HB.out); rintro e w39 ⟨rfl, hi, hb, hk⟩; refine ⟨_, rfl, ?_⟩; replace HO_5 := am (Kd.R_mono (Kd.R_keep (IsS80.apart (show IsS80 w0 _ g s0_0 x1001_1 from by repeat (first | (with_reducible first | exact HI0.out | apply IsS80.alloc | apply IsS80.drewN | apply IsS80.drew | apply IsS80.set_1) | exact HI0.out)) (Kd.rm HO_5.out) (by decide)) hk (fun _ h => h.2)) (fun _ h => h.1));replace HK := am (KeepBut.trans (km HK.out) hk (.inl rfl));replace HB := am (hb);replace HI0 := am (hi); (try clear hb); (try clear hk); (try clear hi)) | ((with_reducible refine gate_callee (f := 41) rfl ?_); refine goesL_ (some 36) rfl rfl Try.func41 (by kernel_rfl) rfl #[.pointer (some ⟨g, 0, none⟩), .int .i64 4] rfl (by (try simp only [mA, mB, mC]); first | done | rfl) ?_; (with_reducible refine (spec_l20Rd_pick.calls kj14 g s0_0 t434 4 t435 t436 w0 _ ?side1 ?side2 A22.out).mono ?_); (case side1 => repeat (first | (with_reducible first | exact HI0.out | apply IsS80.alloc | apply IsS80.drewN | apply IsS80.drew | apply IsS80.set_1) | exact HI0.out)); (case side2 => exact bs (IsS80.ge HI0.out) HB.out); rintro e w40 ⟨rfl, hi, hb, hk⟩; refine ⟨_, rfl, ?_⟩; replace HO_5 := am (Kd.R_mono (Kd.R_keep (IsS80.apart (show IsS80 w0 _ g s0_0 t434 from by repeat (first | (with_reducible first | exact HI0.out | apply IsS80.alloc | apply IsS80.drewN | apply IsS80.drew | apply IsS80.set_1) | exact HI0.out)) (Kd.rm HO_5.out) (by decide)) hk (fun _ h => h.2)) (fun _ h => h.1));replace HK := am (KeepBut.trans (km HK.out) hk (.inl rfl));replace HB := am (hb);replace HI0 := am (hi); (try clear hb); (try clear hk); (try clear hi)) | ((with_reducible refine gate_dst (N := 50) rfl ?_); (try (refine gate_guard (by rfl) ?_; dsimp only)); refine Kd.R_lit (Kd.int .i64) _ 3 ?hg (N := 50) ?hd (xs := ([1] : List Int)) (inner := [.int .i64 1]) (ok := fun _ => True) (okp := fun _ => True) ?hr ?hp (fun _ hk => hk) trivial (Below.refl _ _) (Nat.le_refl _) (by simp) ?_; (case hd => rfl); (case hg => rfl); (case hr => first | (go_simp; done) | (go_simp; rfl)); (case hp => exact (Reps.one (show Kd.M (Kd.int .i64) _ _ _ 1 [.int .i64 1] from rfl) (Reps.none _ _))); intro v450 w41 ho42 hb hg_ hnew_; clear hg_ hnew_; (first | rw [← hy449.out] at ho42 | (simp only [Int.reduceToNat] at ho42; rw [← hy449.out] at ho42)); have HO451 := am (Kd.R_lower (Kd.R_new' ho42 (Kd.R_lt (Kd.rm HO_5.out))) (keep_size (w := w) (g := g) (row := none) (km HK.out)));replace HO_5 := am (Kd.R_elder' (Kd.rm HO_5.out) (Kd.R_base ho42) hb);replace HK := am (KeepBut.trans (km HK.out) (KeepBut.of_below hb g none) (.inl rfl));replace HB := am (below_step (bs (IsS80.ge HI0.out) HB.out) hb);replace HI0 := am (IsS80.below (by repeat (first | (with_reducible first | exact HI0.out | apply IsS80.alloc | apply IsS80.drewN | apply IsS80.drew | apply IsS80.set_1) | exact HI0.out)) hb); clear hb ho42));go_ret;exact ⟨_, by first | rfl | (simp [errW_none, errW_some] <;> rfl) | (simp [*, errW_none, errW_some] <;> rfl), Kd.rm (Kd.R_mono HO451.out (fun _ hk => trivial)), by repeat (first | (with_reducible first | exact HI0.out | apply IsS80.alloc | apply IsS80.drewN | apply IsS80.drew | apply IsS80.set_1) | exact HI0.out), bs (IsS80.ge HI0.out) HB.out, km HK.out⟩
           ·
            rw [if_neg c38] at H;have c38b0 : (t435 == 2) = false := beq_eq_false_iff_ne.mpr c38;have c38b1 : (t435 != 2) = true := bne_iff_ne.mpr c38
            obtain ⟨y452, hy452⟩ : ∃ y_ : List Int, y_ = (([(-1)] : List Int)) := ⟨_, rfl⟩
            replace H : (some (y452, t436)) = some (r1, r2) := by first | (rw [hy452]; with_reducible exact H) | (have H2_ := oB H; rw [hy452]; with_reducible exact H2_) | (have H2_ := oB H; with_reducible exact H2_) | with_reducible exact H | (rw [hy452]; exact H) | exact H
            replace hy452 := am hy452;simp only [Option.some.injEq, Prod.mk.injEq] at H;obtain ⟨rfl, rfl⟩ := H;go_wp2_with (first | ((with_reducible refine gate_callee (f := 60) rfl ?_); refine goesL_ (some 34) rfl rfl Try.func60 (by kernel_rfl) rfl #[.pointer (some ⟨g, 0, none⟩), .int .i64 a1] rfl (by (try simp only [mA, mB, mC]); first | done | rfl) ?_; (with_reducible refine (spec_l20Rd_odd.calls kj14 g s0_0 x1001_1 a1 true t434 w0 _ ?side1 ?side2 A20.out).mono ?_); (case side1 => repeat (first | (with_reducible first | exact HI0.out | apply IsS80.alloc | apply IsS80.drewN | apply IsS80.drew | apply IsS80.set_1) | exact HI0.out)); (case side2 => exact bs (IsS80.ge HI0.out) HB.out); rintro e w43 ⟨rfl, hi, hb, hk⟩; refine ⟨_, rfl, ?_⟩; replace HO_5 := am (Kd.R_mono (Kd.R_keep (IsS80.apart (show IsS80 w0 _ g s0_0 x1001_1 from by repeat (first | (with_reducible first | exact HI0.out | apply IsS80.alloc | apply IsS80.drewN | apply IsS80.drew | apply IsS80.set_1) | exact HI0.out)) (Kd.rm HO_5.out) (by decide)) hk (fun _ h => h.2)) (fun _ h => h.1));replace HK := am (KeepBut.trans (km HK.out) hk (.inl rfl));replace HB := am (hb);replace HI0 := am (hi); (try clear hb); (try clear hk); (try clear hi)) | ((with_reducible refine gate_callee (f := 41) rfl ?_); refine goesL_ (some 36) rfl rfl Try.func41 (by kernel_rfl) rfl #[.pointer (some ⟨g, 0, none⟩), .int .i64 4] rfl (by (try simp only [mA, mB, mC]); first | done | rfl) ?_; (with_reducible refine (spec_l20Rd_pick.calls kj14 g s0_0 t434 4 t435 t436 w0 _ ?side1 ?side2 A22.out).mono ?_); (case side1 => repeat (first | (with_reducible first | exact HI0.out | apply IsS80.alloc | apply IsS80.drewN | apply IsS80.drew | apply IsS80.set_1) | exact HI0.out)); (case side2 => exact bs (IsS80.ge HI0.out) HB.out); rintro e w44 ⟨rfl, hi, hb, hk⟩; refine ⟨_, rfl, ?_⟩; replace HO_5 := am (Kd.R_mono (Kd.R_keep (IsS80.apart (show IsS80 w0 _ g s0_0 t434 from by repeat (first | (with_reducible first | exact HI0.out | apply IsS80.alloc | apply IsS80.drewN | apply IsS80.drew | apply IsS80.set_1) | exact HI0.out)) (Kd.rm HO_5.out) (by decide)) hk (fun _ h => h.2)) (fun _ h => h.1));replace HK := am (KeepBut.trans (km HK.out) hk (.inl rfl));replace HB := am (hb);replace HI0 := am (hi); (try clear hb); (try clear hk); (try clear hi)) | ((with_reducible refine gate_dst (N := 37) rfl ?_); (try (refine gate_guard (by rfl) ?_; dsimp only)); refine Kd.R_lit (Kd.int .i64) _ 3 ?hg (N := 37) ?hd (xs := ([(-1)] : List Int)) (inner := [.int .i64 (-1)]) (ok := fun _ => True) (okp := fun _ => True) ?hr ?hp (fun _ hk => hk) trivial (Below.refl _ _) (Nat.le_refl _) (by simp) ?_; (case hd => rfl); (case hg => rfl); (case hr => first | (go_simp; done) | (go_simp; rfl)); (case hp => exact (Reps.one (show Kd.M (Kd.int .i64) _ _ _ (-1) [.int .i64 (-1)] from rfl) (Reps.none _ _))); intro v453 w45 ho46 hb hg_ hnew_; clear hg_ hnew_; (first | rw [← hy452.out] at ho46 | (simp only [Int.reduceToNat] at ho46; rw [← hy452.out] at ho46)); have HO454 := am (Kd.R_lower (Kd.R_new' ho46 (Kd.R_lt (Kd.rm HO_5.out))) (keep_size (w := w) (g := g) (row := none) (km HK.out)));replace HO_5 := am (Kd.R_elder' (Kd.rm HO_5.out) (Kd.R_base ho46) hb);replace HK := am (KeepBut.trans (km HK.out) (KeepBut.of_below hb g none) (.inl rfl));replace HB := am (below_step (bs (IsS80.ge HI0.out) HB.out) hb);replace HI0 := am (IsS80.below (by repeat (first | (with_reducible first | exact HI0.out | apply IsS80.alloc | apply IsS80.drewN | apply IsS80.drew | apply IsS80.set_1) | exact HI0.out)) hb); clear hb ho46));go_ret;exact ⟨_, by first | rfl | (simp [errW_none, errW_some] <;> rfl) | (simp [*, errW_none, errW_some] <;> rfl), Kd.rm (Kd.R_mono HO454.out (fun _ hk => trivial)), by repeat (first | (with_reducible first | exact HI0.out | apply IsS80.alloc | apply IsS80.drewN | apply IsS80.drew | apply IsS80.set_1) | exact HI0.out), bs (IsS80.ge HI0.out) HB.out, km HK.out⟩
        ·
         replace c21 := Bool.eq_false_iff.mpr c21;subst c21
         have H1 : (some (x5_14, t434)) = some (r1, r2) := by rw [if_neg (show ¬ (false = true) by decide)] at H; exact H
         clear H;have H := H1;clear H1;simp only [Option.some.injEq, Prod.mk.injEq] at H;obtain ⟨rfl, rfl⟩ := H;go_wp2_with (first | ((with_reducible refine gate_callee (f := 60) rfl ?_); refine goesL_ (some 34) rfl rfl Try.func60 (by kernel_rfl) rfl #[.pointer (some ⟨g, 0, none⟩), .int .i64 a1] rfl (by (try simp only [mA, mB, mC]); first | done | rfl) ?_; (with_reducible refine (spec_l20Rd_odd.calls kj14 g s0_0 x1001_1 a1 false t434 w0 _ ?side1 ?side2 A20.out).mono ?_); (case side1 => repeat (first | (with_reducible first | exact HI0.out | apply IsS80.alloc | apply IsS80.drewN | apply IsS80.drew | apply IsS80.set_1) | exact HI0.out)); (case side2 => exact bs (IsS80.ge HI0.out) HB.out); rintro e w47 ⟨rfl, hi, hb, hk⟩; refine ⟨_, rfl, ?_⟩; replace HO_5 := am (Kd.R_mono (Kd.R_keep (IsS80.apart (show IsS80 w0 _ g s0_0 x1001_1 from by repeat (first | (with_reducible first | exact HI0.out | apply IsS80.alloc | apply IsS80.drewN | apply IsS80.drew | apply IsS80.set_1) | exact HI0.out)) (Kd.rm HO_5.out) (by decide)) hk (fun _ h => h.2)) (fun _ h => h.1));replace HK := am (KeepBut.trans (km HK.out) hk (.inl rfl));replace HB := am (hb);replace HI0 := am (hi); (try clear hb); (try clear hk); (try clear hi)));go_ret;exact ⟨_, by first | rfl | (simp [errW_none, errW_some] <;> rfl) | (simp [*, errW_none, errW_some] <;> rfl), Kd.rm HO_5.out, by repeat (first | (with_reducible first | exact HI0.out | apply IsS80.alloc | apply IsS80.drewN | apply IsS80.drew | apply IsS80.set_1) | exact HI0.out), bs (IsS80.ge HI0.out) HB.out, km HK.out⟩

/-! ### spec_DrawHydraFight: function 26 -/
def spec_DrawHydraFight.f (k : Nat) (l0 : List Int) : Option (List Int × Int) := (spec_l20Open.f l0).bind fun bt455 => ((spec_l20Hydra.f k bt455.1 bt455.2 9).bind fun bt458 => ((spec_l20Rd_pick.f k bt455.1 bt458.2 3).bind fun bt462 => ((spec_l20Rd_pick.f k bt455.1 bt462.2 30).bind fun bt464 => (some (bt458.1, wrap64 ((wrap64 (1 + bt462.1)) + (wrap64 ((wrap64 (Int.tdiv bt464.1 29)) * 9))))))))
theorem spec_DrawHydraFight.mono : ∀ a0 k, LeO (spec_DrawHydraFight.f k a0) (spec_DrawHydraFight.f (k + 1) a0) := by
 intro a0 k;unfold spec_DrawHydraFight.f
 repeat' first | (with_reducible exact spec_l20Hydra.mono _ _ _ _) | (with_reducible exact spec_l20Rd_pick.mono _ _ _ _) | (with_reducible exact LeO.refl _) | (with_reducible exact LeO.none _) | (with_reducible refine LeO.ite ?_ ?_) | (with_reducible refine LeO.bind ?_ (fun _ => ?_))
set_option maxHeartbeats 8000000 in
set_option maxRecDepth 100000 in
theorem spec_DrawHydraFight.calls (k : Nat) (A0 : Option Addr) (c0 : Nat) (l0 : List Int) (r1 : List Int) (r2 : Int) (w : World) (hr0 : Kd.C (Kd.int .u8) w A0 l0.length l0) (hc0 : l0.length ≤ c0) (h : spec_DrawHydraFight.f k l0 = some (r1, r2)) :
  Calls Try.prog 26 #[.slice A0 l0.length c0] w fun e w' => ∃ v0_ : Value, e = .returned (.tuple #[v0_, .int .i64 r2]) ∧ Kd.R (Kd.int .i64) 3 w' w.heap.size (fun _ => True) v0_ r1 ∧ Below w.heap.size w w' := by
 have HR0 := am hr0;have HC0 := am hc0;clear hr0 hc0;have HB := am (Below.refl w.heap.size w);have H : ((spec_l20Open.f l0).bind fun bt455 => ((spec_l20Hydra.f k bt455.1 bt455.2 9).bind fun bt458 => ((spec_l20Rd_pick.f k bt455.1 bt458.2 3).bind fun bt462 => ((spec_l20Rd_pick.f k bt455.1 bt462.2 30).bind fun bt464 => (some (bt458.1, wrap64 ((wrap64 (1 + bt462.1)) + (wrap64 ((wrap64 (Int.tdiv bt464.1 29)) * 9))))))))) = some (r1, r2) := h;clear h;replace H := oE H;obtain ⟨⟨t455, t456⟩, A2, H⟩ := H;replace H : ((spec_l20Hydra.f k t455 t456 9).bind fun bt458 => ((spec_l20Rd_pick.f k t455 bt458.2 3).bind fun bt462 => ((spec_l20Rd_pick.f k t455 bt462.2 30).bind fun bt464 => (some (bt458.1, wrap64 ((wrap64 (1 + bt462.1)) + (wrap64 ((wrap64 (Int.tdiv bt464.1 29)) * 9)))))))) = some (r1, r2) := H;replace A2 := am A2;replace H := oE H;obtain ⟨⟨t458, t461⟩, A3, H⟩ := H;replace H : ((spec_l20Rd_pick.f k t455 t461 3).bind fun bt462 => ((spec_l20Rd_pick.f k t455 bt462.2 30).bind fun bt464 => (some (t458, wrap64 ((wrap64 (1 + bt462.1)) + (wrap64 ((wrap64 (Int.tdiv bt464.1 29)) * 9))))))) = some (r1, r2) := H;replace A3 := am A3;replace H := oE H;obtain ⟨⟨t462, t463⟩, A4, H⟩ := H;replace H : ((spec_l20Rd_pick.f k t455 t463 30).bind fun bt464 => (some (t458, wrap64 ((wrap64 (1 + t462)) + (wrap64 ((wrap64 (Int.tdiv bt464.1 29)) * 9)))))) = some (r1, r2) := H;replace A4 := am A4;replace H := oE H;obtain ⟨⟨t464, t465⟩, A5, H⟩ := H;replace H : (some (t458, wrap64 ((wrap64 (1 + t462)) + (wrap64 ((wrap64 (Int.tdiv t464 29)) * 9))))) = some (r1, r2) := H;replace A5 := am A5;simp only [Option.some.injEq, Prod.mk.injEq] at H;obtain ⟨rfl, rfl⟩ := H;go_enter Try.func26, Try.ntmps26;go_wp2_with (first | ((with_reducible refine gate_callee (f := 39) rfl ?_); refine goesL_ (some 6) rfl rfl Try.func39 (by kernel_rfl) rfl #[.slice A0 l0.length c0] rfl (by (try simp only [mA, mB, mC]); first | done | rfl) ?_; (with_reducible refine (spec_l20Open.calls _ _ l0 t455 t456 w _ ?side1 ?side2 ?side3 A2.out).mono ?_); (case side1 => repeat (first | (with_reducible first | exact HB.out | apply below_alloc | apply pw_below_drewN | apply below_drew1) | exact HB.out)); (case side2 => exact HR0.out); (case side3 => exact HC0.out); rintro e w6 ⟨g457, rfl, hi, hb, hb2⟩; refine ⟨_, rfl, ?_⟩; replace HB := am (hb);have HI457 := am (hi); (try clear hb); (try clear hb2); (try clear hk); (try clear hi)) | ((with_reducible refine gate_callee (f := 40) rfl ?_); refine goesL_ (some 8) rfl rfl Try.func40 (by kernel_rfl) rfl #[.pointer (some ⟨g457, 0, none⟩), .int .i64 9] rfl (by (try simp only [mA, mB, mC]); first | done | rfl) ?_; (with_reducible refine (spec_l20Hydra.calls k g457 t455 t456 9 t458 t461 w _ ?side1 ?side2 A3.out).mono ?_); (case side1 => repeat (first | (with_reducible first | exact HI457.out | apply IsS80.alloc | apply IsS80.drewN | apply IsS80.drew | apply IsS80.set_1) | exact HI457.out)); (case side2 => exact bs (IsS80.ge HI457.out) HB.out); rintro e w7 ⟨v459, rfl, ho0, hi, hb, hk⟩; refine ⟨_, rfl, ?_⟩; have HO460 := am (Kd.R_lower ho0 (below_size (bs (IsS80.ge HI457.out) HB.out)));replace HB := am (hb);replace HI457 := am (hi); (try clear hb); (try clear hb2); (try clear hk); (try clear hi); (try clear ho0)) | ((with_reducible refine gate_callee (f := 41) rfl ?_); refine goesL_ (some 10) rfl rfl Try.func41 (by kernel_rfl) rfl #[.pointer (some ⟨g457, 0, none⟩), .int .i64 3] rfl (by (try simp only [mA, mB, mC]); first | done | rfl) ?_; (with_reducible refine (spec_l20Rd_pick.calls k g457 t455 t461 3 t462 t463 w _ ?side1 ?side2 A4.out).mono ?_); (case side1 => repeat (first | (with_reducible first | exact HI457.out | apply IsS80.alloc | apply IsS80.drewN | apply IsS80.drew | apply IsS80.set_1) | exact HI457.out)); (case side2 => exact bs (IsS80.ge HI457.out) HB.out); rintro e w8 ⟨rfl, hi, hb, hk⟩; refine ⟨_, rfl, ?_⟩; replace HO460 := am (Kd.R_mono (Kd.R_keep (IsS80.apart (show IsS80 w _ g457 t455 t461 from by repeat (first | (with_reducible first | exact HI457.out | apply IsS80.alloc | apply IsS80.drewN | apply IsS80.drew | apply IsS80.set_1) | exact HI457.out)) (Kd.rm HO460.out) (by decide)) hk (fun _ h => h.2)) (fun _ h => h.1));replace HB := am (hb);replace HI457 := am (hi); (try clear hb); (try clear hb2); (try clear hk); (try clear hi)) | ((with_reducible refine gate_callee (f := 41) rfl ?_); refine goesL_ (some 13) rfl rfl Try.func41 (by kernel_rfl) rfl #[.pointer (some ⟨g457, 0, none⟩), .int .i64 30] rfl (by (try simp only [mA, mB, mC]); first | done | rfl) ?_; (with_reducible refine (spec_l20Rd_pick.calls k g457 t455 t463 30 t464 t465 w _ ?side1 ?side2 A5.out).mono ?_); (case side1 => repeat (first | (with_reducible first | exact HI457.out | apply IsS80.alloc | apply IsS80.drewN | apply IsS80.drew | apply IsS80.set_1) | exact HI457.out)); (case side2 => exact bs (IsS80.ge HI457.out) HB.out); rintro e w9 ⟨rfl, hi, hb, hk⟩; refine ⟨_, rfl, ?_⟩; replace HO460 := am (Kd.R_mono (Kd.R_keep (IsS80.apart (show IsS80 w _ g457 t455 t463 from by repeat (first | (with_reducible first | exact HI457.out | apply IsS80.alloc | apply IsS80.drewN | apply IsS80.drew | apply IsS80.set_1) | exact HI457.out)) (Kd.rm HO460.out) (by decide)) hk (fun _ h => h.2)) (fun _ h => h.1));replace HB := am (hb);replace HI457 := am (hi); (try clear hb); (try clear hb2); (try clear hk); (try clear hi)));go_ret2;exact ⟨_, by first | rfl | (simp [errW_none, errW_some] <;> rfl) | (simp [*, errW_none, errW_some] <;> rfl), Kd.rm HO460.out, bs (IsS80.ge HI457.out) HB.out⟩

/-! ### impl_hydra_sortedLit1: function 70 -/
def impl_hydra_sortedLit1.f (k : Nat) (l0 : List (S49)) (l1 : List (S49)) : Option (Int) := (impl_hydra_ord.f k l1).bind fun t466 => ((impl_hydra_ord.f k l0).bind fun t469 => ((impl_compare.f k t466 t469).bind fun t472 => (some t472)))
theorem impl_hydra_sortedLit1.mono : ∀ a0 a1 k, LeO (impl_hydra_sortedLit1.f k a0 a1) (impl_hydra_sortedLit1.f (k + 1) a0 a1) := by
 intro a0 a1 k;unfold impl_hydra_sortedLit1.f
 repeat' first | (with_reducible exact impl_compare.mono _ _ _) | (with_reducible exact impl_hydra_ord.mono _ _) | (with_reducible exact LeO.refl _) | (with_reducible exact LeO.none _) | (with_reducible refine LeO.ite ?_ ?_) | (with_reducible refine LeO.bind ?_ (fun _ => ?_))
set_option maxHeartbeats 8000000 in
set_option maxRecDepth 100000 in
theorem impl_hydra_sortedLit1.calls (k : Nat) (A0 : Option Addr) (c0 : Nat) (l0 : List (S49)) (A1 : Option Addr) (c1 : Nat) (l1 : List (S49)) (r : Int) (w : World) (hr0 : Kd.C k49 w A0 l0.length l0) (hc0 : l0.length ≤ c0) (hr1 : Kd.C k49 w A1 l1.length l1) (hc1 : l1.length ≤ c1) (h : impl_hydra_sortedLit1.f k l0 l1 = some r) :
  Calls Try.prog 70 #[.slice A0 l0.length c0, .slice A1 l1.length c1] w fun e w' => e = .returned (.int .i64 r) ∧ Below w.heap.size w w' := by
 have HR0 := am hr0;have HC0 := am hc0;clear hr0 hc0;have HR1 := am hr1;have HC1 := am hc1;clear hr1 hc1;have HB := am (Below.refl w.heap.size w);have H : ((impl_hydra_ord.f k l1).bind fun t466 => ((impl_hydra_ord.f k l0).bind fun t469 => ((impl_compare.f k t466 t469).bind fun t472 => (some t472)))) = some r := h;clear h;replace H := oE H;obtain ⟨t466, A3, H⟩ := H;replace H : ((impl_hydra_ord.f k l0).bind fun t469 => ((impl_compare.f k t466 t469).bind fun t472 => (some t472))) = some r := H;replace A3 := am A3;replace H := oE H;obtain ⟨t469, A4, H⟩ := H;replace H : ((impl_compare.f k t466 t469).bind fun t472 => (some t472)) = some r := H;replace A4 := am A4;replace H := oE H;obtain ⟨t472, A5, H⟩ := H;replace H : (some t472) = some r := H;replace A5 := am A5;obtain rfl := Option.some.inj H;go_enter Try.func70, Try.ntmps70;go_wp2_with (first | ((with_reducible refine gate_callee (f := 44) rfl ?_); refine goesL_ (some 6) rfl rfl Try.func44 (by kernel_rfl) rfl #[.slice A1 l1.length c1] rfl (by (try simp only [mA, mB, mC]); first | done | rfl) ?_; (with_reducible refine (impl_hydra_ord.calls k _ _ l1 t466 _ ?side1 ?side2 A3.out).mono ?_); (case side1 => exact Kd.cm HR1.out); (case side2 => exact HC1.out); rintro e w6 ⟨v467, rfl, ho0, hb⟩; refine ⟨_, rfl, ?_⟩; have HO468 := am (Kd.N_lower (Kd.N_mono (ok' := fun k_ => True) ho0 (fun k_ hk_ => trivial)) (below_size (bm HB.out)));replace HB := am (below_step (bm HB.out) hb); (try clear hb); (try clear ho0)) | ((with_reducible refine gate_callee (f := 44) rfl ?_); refine goesL_ (some 8) rfl rfl Try.func44 (by kernel_rfl) rfl #[.slice A0 l0.length c0] rfl (by (try simp only [mA, mB, mC]); first | done | rfl) ?_; (with_reducible refine (impl_hydra_ord.calls k _ _ l0 t469 _ ?side1 ?side2 A4.out).mono ?_); (case side1 => exact Kd.cm ((Kd.C_below HR0.out HB.out))); (case side2 => exact HC0.out); rintro e w7 ⟨v470, rfl, ho0, hb⟩; refine ⟨_, rfl, ?_⟩; have HO471 := am (Kd.N_lower (Kd.N_mono (ok' := fun k_ => some k_ ≠ (v467 : Value).ownBlock) ho0 (fun k_ hk_ => (Kd.fresh' (Kd.N_lt (Kd.nm HO468.out)) k_ hk_))) (below_size (bm HB.out)));replace HO468 := am (Kd.N_elder' (Kd.nm HO468.out) (Kd.N_base ho0) hb);replace HB := am (below_step (bm HB.out) hb); (try clear hb); (try clear ho0); obtain ⟨Ao8, co8, eo8⟩ := Kd.N_slice HO468.out; subst eo8; obtain ⟨Ao9, co9, eo9⟩ := Kd.N_slice HO471.out; subst eo9) | ((with_reducible refine gate_callee (f := 46) rfl ?_); refine goesL_ (some 9) rfl rfl Try.func46 (by kernel_rfl) rfl #[.slice Ao8 t466.length co8, .slice Ao9 t469.length co9] rfl (by (try simp only [mA, mB, mC]); first | done | rfl) ?_; (with_reducible refine (impl_compare.calls k _ _ t466 _ _ t469 t472 _ ?side1 ?side2 ?side3 ?side4 A5.out).mono ?_); (case side1 => exact Kd.cm ((Kd.N_reads' HO468.out).2.2)); (case side2 => exact (Kd.N_reads' HO468.out).2.1); (case side3 => exact Kd.cm ((Kd.N_reads' HO471.out).2.2)); (case side4 => exact (Kd.N_reads' HO471.out).2.1); rintro e w10 ⟨rfl, hb⟩; refine ⟨_, rfl, ?_⟩; replace HO468 := am (Kd.N_below (Kd.nm HO468.out) hb);replace HO471 := am (Kd.N_below (Kd.nm HO471.out) hb);replace HB := am (below_step (bm HB.out) hb); (try clear hb)));go_ret;exact ⟨by first | rfl | (simp [errW_none, errW_some] <;> rfl) | (simp [*, errW_none, errW_some] <;> rfl), bm HB.out⟩

/-! ### impl_hydra_69: function 69 -/
mutual
def impl_hydra_69.eqS : S49 → S49 → Bool
 | ⟨xs⟩, ⟨ys⟩ => impl_hydra_69.eqL xs ys
def impl_hydra_69.eqL : List S49 → List S49 → Bool
 | [], [] => true
 | x :: xs, y :: ys => impl_hydra_69.eqS x y && impl_hydra_69.eqL xs ys
 | [], _ :: _ => false
 | _ :: _, [] => false
end
mutual
theorem impl_hydra_69.eqS_eq : ∀ x y : S49, impl_hydra_69.eqS x y = true → x = y
 | ⟨xs⟩, ⟨ys⟩, h => by
  rw [impl_hydra_69.eqS] at h;rw [impl_hydra_69.eqL_eq xs ys h]
theorem impl_hydra_69.eqL_eq : ∀ xs ys : List S49, impl_hydra_69.eqL xs ys = true → xs = ys
 | [], [], _ => rfl
 | x :: xs, y :: ys, h => by
  rw [impl_hydra_69.eqL, Bool.and_eq_true] at h;rw [impl_hydra_69.eqS_eq x y h.1, impl_hydra_69.eqL_eq xs ys h.2]
 | [], _ :: _, h => by rw [impl_hydra_69.eqL] at h; cases h
 | _ :: _, [], h => by rw [impl_hydra_69.eqL] at h; cases h
end
/-- The comparison tells the first one less. -/
def impl_hydra_69.lt (k : Nat) (x y : S49) : Bool := match impl_hydra_sortedLit1.f k x.f0 y.f0 with | some c => decide (c < 0) | none => false
/-- The comparison ends for all of them, it is a strict weak order, and equals are one. -/
def impl_hydra_69.good (k : Nat) (l0 : List S49) : Bool :=
 decide (l0.length < 1152921504606846976) && (l0.all fun x => l0.all fun y => (impl_hydra_sortedLit1.f k x.f0 y.f0).isSome && (impl_hydra_69.lt k x y || impl_hydra_69.lt k y x || impl_hydra_69.eqS x y)) &&
 (l0.all fun x => !impl_hydra_69.lt k x x) && (l0.all fun x => l0.all fun y => l0.all fun z => (!(impl_hydra_69.lt k x y && impl_hydra_69.lt k y z) || impl_hydra_69.lt k x z) && (impl_hydra_69.lt k x y || impl_hydra_69.lt k y z || !impl_hydra_69.lt k x z))
structure impl_hydra_69.Good (k : Nat) (l0 : List S49) : Prop where
 len : l0.length < 1152921504606846976
 all : ∀ x ∈ l0, ∀ y ∈ l0, ∃ c, impl_hydra_sortedLit1.f k x.f0 y.f0 = some c
 same : ∀ x ∈ l0, ∀ y ∈ l0, impl_hydra_69.lt k x y = false → impl_hydra_69.lt k y x = false → x = y
 irr : ∀ x ∈ l0, impl_hydra_69.lt k x x = false
 trans : ∀ x ∈ l0, ∀ y ∈ l0, ∀ z ∈ l0, impl_hydra_69.lt k x y = true → impl_hydra_69.lt k y z = true → impl_hydra_69.lt k x z = true
 ntrans : ∀ x ∈ l0, ∀ y ∈ l0, ∀ z ∈ l0, impl_hydra_69.lt k x y = false → impl_hydra_69.lt k y z = false → impl_hydra_69.lt k x z = false
theorem impl_hydra_69.good_Good {k : Nat} {l0 : List S49} (h : impl_hydra_69.good k l0 = true) : impl_hydra_69.Good k l0 := by
 simp only [impl_hydra_69.good, Bool.and_eq_true, decide_eq_true_eq, List.all_eq_true, Bool.or_eq_true, Bool.not_eq_true'] at h;obtain ⟨⟨⟨h1, h2⟩, h3⟩, h4⟩ := h;refine ⟨h1, fun x hx y hy => Option.isSome_iff_exists.mp (h2 x hx y hy).1, fun x hx y hy e1 e2 => ?_, h3, fun x hx y hy z hz e1 e2 => ?_, fun x hx y hy z hz e1 e2 => ?_⟩
 ·
  rcases (h2 x hx y hy).2 with (h | h) | h
  ·
   rw [e1] at h; cases h
  ·
   rw [e2] at h; cases h
  ·
   exact impl_hydra_69.eqS_eq x y h
 ·
  rcases (h4 x hx y hy z hz).1 with h | h
  ·
   rw [e1, e2] at h; cases h
  ·
   exact h
 ·
  rcases (h4 x hx y hy z hz).2 with (h | h) | h
  ·
   rw [e1] at h; cases h
  ·
   rw [e2] at h; cases h
  ·
   exact h
theorem impl_hydra_69.Good_good {k : Nat} {l0 : List S49} (eqS_self : ∀ x ∈ l0, ∀ y ∈ l0, x = y → impl_hydra_69.eqS x y = true) (h : impl_hydra_69.Good k l0) : impl_hydra_69.good k l0 = true := by
 simp only [impl_hydra_69.good, Bool.and_eq_true, decide_eq_true_eq, List.all_eq_true, Bool.or_eq_true, Bool.not_eq_true'];refine ⟨⟨⟨h.len, fun x hx y hy => ⟨Option.isSome_iff_exists.mpr (h.all x hx y hy), ?_⟩⟩, h.irr⟩, fun x hx y hy z hz => ⟨?_, ?_⟩⟩
 ·
  cases e1 : impl_hydra_69.lt k x y with
  | true => exact .inl (.inl rfl)
  | false =>
   cases e2 : impl_hydra_69.lt k y x with
   | true => exact .inl (.inr rfl)
   | false => exact .inr (eqS_self x hx y hy (h.same x hx y hy e1 e2))
 ·
  cases e1 : impl_hydra_69.lt k x y with
  | false => exact .inl rfl
  | true =>
   cases e2 : impl_hydra_69.lt k y z with
   | false => exact .inl rfl
   | true => exact .inr (h.trans x hx y hy z hz e1 e2)
 ·
  cases e1 : impl_hydra_69.lt k x y with
  | true => exact .inl (.inl rfl)
  | false =>
   cases e2 : impl_hydra_69.lt k y z with
   | true => exact .inl (.inr rfl)
   | false => exact .inr (h.ntrans x hx y hy z hz e1 e2)
mutual
theorem impl_hydra_69.eqS_self : ∀ x : S49, impl_hydra_69.eqS x x = true
 | ⟨xs⟩ => by rw [impl_hydra_69.eqS]; exact impl_hydra_69.eqL_self xs
theorem impl_hydra_69.eqL_self : ∀ xs : List S49, impl_hydra_69.eqL xs xs = true
 | [] => by rw [impl_hydra_69.eqL]
 | x :: xs => by rw [impl_hydra_69.eqL, impl_hydra_69.eqS_self x, impl_hydra_69.eqL_self xs]; rfl
end
theorem impl_hydra_69.good_iff {k : Nat} {l0 : List S49} : impl_hydra_69.good k l0 = true ↔ impl_hydra_69.Good k l0 := ⟨impl_hydra_69.good_Good, impl_hydra_69.Good_good (fun x _ y _ e => e ▸ impl_hydra_69.eqS_self x)⟩
def impl_hydra_69.f (k : Nat) (l0 : List S49) : Option (List S49) := if impl_hydra_69.good k l0 = true then some (l0.mergeSort (fun x y => !impl_hydra_69.lt k y x)) else none
theorem impl_hydra_69.mono : ∀ a0 k, LeO (impl_hydra_69.f k a0) (impl_hydra_69.f (k + 1) a0) := by
 intro l0 k r h;unfold impl_hydra_69.f at h;by_cases hg : impl_hydra_69.good k l0 = true
 ·
  rw [if_pos hg] at h;have G := impl_hydra_69.good_iff.mp hg
  have hlt : ∀ x ∈ l0, ∀ y ∈ l0, impl_hydra_sortedLit1.f (k + 1) x.f0 y.f0 = impl_hydra_sortedLit1.f k x.f0 y.f0 := fun x hx y hy => by
   obtain ⟨c, hc⟩ := G.all x hx y hy;rw [hc];exact impl_hydra_sortedLit1.mono _ _ k c hc
  have hl2 : ∀ x ∈ l0, ∀ y ∈ l0, impl_hydra_69.lt (k + 1) x y = impl_hydra_69.lt k x y := fun x hx y hy => by unfold impl_hydra_69.lt; rw [hlt x hx y hy]
  have G2 : impl_hydra_69.Good (k + 1) l0 := ⟨G.len, fun x hx y hy => by rw [hlt x hx y hy]; exact G.all x hx y hy, fun x hx y hy => by rw [hl2 x hx y hy, hl2 y hy x hx]; exact G.same x hx y hy, fun x hx => by rw [hl2 x hx x hx]; exact G.irr x hx,
   fun x hx y hy z hz => by rw [hl2 x hx y hy, hl2 y hy z hz, hl2 x hx z hz]; exact G.trans x hx y hy z hz, fun x hx y hy z hz => by rw [hl2 x hx y hy, hl2 y hy z hz, hl2 x hx z hz]; exact G.ntrans x hx y hy z hz⟩
  unfold impl_hydra_69.f;rw [if_pos (impl_hydra_69.good_iff.mpr G2), ← h]
  congr 1
  have := List.map_mergeSort (f := id) (r := fun x y => !impl_hydra_69.lt (k + 1) y x) (s := fun x y => !impl_hydra_69.lt k y x) (l := l0) (fun a ha b hb => by simp only [id]; rw [hl2 b hb a ha])
  simpa using this
 ·
  rw [if_neg hg] at h; cases h
theorem impl_hydra_69.unique {lt : S49 → S49 → Bool} : ∀ {x y : List S49}, (∀ a ∈ x, ∀ b ∈ x, lt a b = false → lt b a = false → a = b) → x.Pairwise (fun a b => lt b a = false) → y.Pairwise (fun a b => lt b a = false) → x.Perm y → x = y
 | [], y, _, _, _, h => (List.Perm.nil_eq h)
 | a :: x, [], _, _, _, h => absurd h.length_eq (by simp)
 | a :: x, b :: y, he, hx, hy, h => by
  have hab : a = b := by
   have h1 : b ∈ a :: x := h.mem_iff.mpr List.mem_cons_self;have h2 : a ∈ b :: y := h.mem_iff.mp List.mem_cons_self
   rcases List.mem_cons.mp h1 with rfl | h1'
   ·
    rfl
   ·
    rcases List.mem_cons.mp h2 with rfl | h2'
    ·
     rfl
    ·
     exact he a List.mem_cons_self b h1 ((List.pairwise_cons.mp hy).1 a h2') ((List.pairwise_cons.mp hx).1 b h1')
  subst hab;rw [impl_hydra_69.unique (fun u hu v hv => he u (List.mem_cons_of_mem _ hu) v (List.mem_cons_of_mem _ hv)) (List.pairwise_cons.mp hx).2 (List.pairwise_cons.mp hy).2 (List.perm_cons a |>.mp h)]
/-- An element of the row: its value, and what it reads as. -/
structure impl_hydra_69.El (w : World) (base : Nat) (ok : Nat → Prop) (l0 : List S49) where
 val : Value
 tree : S49
 mem : k49.M w base ok tree [val]
 inn : tree ∈ l0
theorem impl_hydra_69.els {w : World} {base : Nat} {ok : Nat → Prop} {l0 : List S49} : ∀ (l : List S49) (inner : List Value), Reps (k49.M w base ok) 1 l inner → (∀ x ∈ l, x ∈ l0) → ∃ vs : List (impl_hydra_69.El w base ok l0), vs.map (·.val) = inner ∧ vs.map (·.tree) = l
 | [], inner, hr, _ => by
  have : inner = [] := List.length_eq_zero_iff.mp (by have := hr.1; simpa using this);subst this;exact ⟨[], rfl, rfl⟩
 | x :: xs, [], hr, _ => by have := hr.1; simp at this
 | x :: xs, u :: us, hr, hl => by
  have h0 := hr.2 0 x rfl;simp only [Nat.zero_mul, List.drop_zero, List.take_succ_cons, List.take_zero] at h0
  have ht : Reps (k49.M w base ok) 1 xs us := ⟨by have := hr.1; simp only [List.length_cons, Nat.mul_one] at this ⊢; omega, fun j p hp => by
   have h1 := hr.2 (j + 1) p (by simpa using hp);rw [Nat.mul_one] at h1 ⊢
   simpa using h1⟩
  obtain ⟨vs, h1, h2⟩ := impl_hydra_69.els xs us ht (fun y hy => hl y (List.mem_cons_of_mem _ hy));exact ⟨⟨u, x, h0, hl x List.mem_cons_self⟩ :: vs, by simp [h1], by simp [h2]⟩
theorem impl_hydra_69.grown {α : Type} [Inhabited α] {enc : α → Value} {w W : World} {g : Nat} {dk : Array α} (h : Stab.SD enc w g 0 dk W) : w.grownBy W (some g) := by
 obtain ⟨d, W0, ⟨n, os, rfl⟩, rfl⟩ := h
 exact ⟨rfl, rfl, rfl, by simp [Go.redrawn, Go.Proofs.sortWorld, Go.Sort.grow, Go.Sort.putRow, Go.Sort.mapBlock, Go.Sort.ahead], fun k hk hne => by
  have hg : g ≠ k := fun e => hne (by rw [e])
  simp only [Go.redrawn, Go.Proofs.sortWorld, Go.Sort.grow, Go.Sort.putRow, Go.Sort.mapBlock, Go.Sort.ahead]
  rw [Array.getElem?_append_left (by simpa using hk), Array.getElem?_modify, if_neg hg]⟩
theorem impl_hydra_69.block {α : Type} [Inhabited α] {enc : α → Value} {w W : World} {g : Nat} {dk : Array α} (h : Stab.SD enc w g 0 dk W) {cur : Array Value} {t : TypeId} {fr : Nat × Nat} (hb : w.heap[g]? = some (.cells cur t fr)) : W.heap[g]? = some (.cells (Go.Sort.putCells enc 0 dk cur) t fr) := by
 obtain ⟨d, W0, ⟨n, os, rfl⟩, rfl⟩ := h;have hg : g < w.heap.size := (Array.getElem?_eq_some_iff.1 hb).1;simp only [Go.redrawn, Go.Proofs.sortWorld, Go.Sort.grow, Go.Sort.putRow, Go.Sort.mapBlock, Go.Sort.ahead];rw [Array.getElem?_append_left (by simpa using hg), Array.getElem?_modify, if_pos rfl, hb];rfl
theorem impl_hydra_69.putCells_all {α : Type} [Inhabited α] (enc : α → Value) (ys : Array α) (cur : Array Value) (h : ys.size ≤ cur.size) : (Go.Sort.putCells enc 0 ys cur).size = cur.size ∧ (Go.Sort.putCells enc 0 ys cur).toList.take ys.size = ys.toList.map enc := by
 refine ⟨by simp [Go.Sort.putCells], ?_⟩
 refine List.ext_getElem (by simp [Go.Sort.putCells]; omega) fun i h1 h2 => ?_
 have hi : i < ys.size := by simpa using h2
 simp [Go.Sort.putCells, hi]
set_option maxHeartbeats 1000000 in
theorem impl_hydra_69.calls (k : Nat) (P0_ : Nat → Prop) (u : Value) (l0 : List S49) (r : List S49) (w0 w : World) (hB : Below w0.heap.size w0 w) (ho0 : Kd.R k49 49 w w0.heap.size P0_ u l0) (h : impl_hydra_69.f k l0 = some r) :
  Calls Try.prog 69 #[u, .func (.func 70) #[] #[]] w fun e w' => e = .returned (.tuple #[]) ∧ Kd.R k49 49 w' w0.heap.size P0_ u r ∧ Below w0.heap.size w0 w' ∧ Kept w w' (fun k_ => P0_ k_) := by
 unfold impl_hydra_69.f at h;by_cases hg : impl_hydra_69.good k l0 = true
 ·
  rw [if_pos hg] at h;obtain rfl := Option.some.inj h;have G := impl_hydra_69.good_iff.mp hg;clear hg h;obtain ⟨A, c, rfl⟩ := Kd.R_slice ho0;by_cases h0 : 0 < l0.length
  ·
   obtain ⟨g, cap, hv, hb0, hlt0, _⟩ := Kd.R_form ho0 h0
   injection hv with ha hn hc
   subst ha; subst hc;have hP : P0_ g := ho0.1 g rfl;obtain ⟨h1, inner, ho, hr⟩ := ho0;obtain ⟨hl2, ho2⟩ := ho
   rcases ho2 with ⟨hv, _⟩ | ⟨g', cap', cur, hv, hb, hh, hn2, hm, hs, ht⟩
   ·
    exact absurd hv (by simp)
   injection hv with ha hn' hc'
   injection ha with ha
   injection ha with ha _ _
   subst ha; subst hc';have hs1 : cur.size = c := hs.trans (Nat.mul_one c)
   have ht1 : cur.toList.take l0.length = inner := by have ht := ht; rw [show k49.sz = 1 from rfl, Nat.mul_one] at ht; exact ht
   obtain ⟨vs, hvs1, hvs2⟩ := impl_hydra_69.els l0 inner hr (fun x hx => hx)
   have hvl : vs.length = l0.length := by have := congrArg List.length hvs2; rw [List.length_map] at this; exact this
   obtain ⟨v0, hv0⟩ : ∃ v, v ∈ vs := List.exists_mem_of_length_pos (by omega)
   have hI : Inhabited (impl_hydra_69.El w w0.heap.size (fun k_ => P0_ k_ ∧ some k_ ≠ (Value.slice (some ⟨g, 0, none⟩) l0.length c).ownBlock) l0) := ⟨v0⟩
   -- the comparison
   have hlt2 : ∀ x y : impl_hydra_69.El w w0.heap.size (fun k_ => P0_ k_ ∧ some k_ ≠ (Value.slice (some ⟨g, 0, none⟩) l0.length c).ownBlock) l0, ltOf (fun x y : impl_hydra_69.El w w0.heap.size (fun k_ => P0_ k_ ∧ some k_ ≠ (Value.slice (some ⟨g, 0, none⟩) l0.length c).ownBlock) l0 => (impl_hydra_sortedLit1.f k x.tree.f0 y.tree.f0).getD 0) x y = impl_hydra_69.lt k x.tree y.tree := fun x y => by
    obtain ⟨q, hq⟩ := G.all _ x.inn _ y.inn;simp only [ltOf, impl_hydra_69.lt, hq, Option.getD_some]
   have hO : Go.Sort.SWO (ltOf (fun x y : impl_hydra_69.El w w0.heap.size (fun k_ => P0_ k_ ∧ some k_ ≠ (Value.slice (some ⟨g, 0, none⟩) l0.length c).ownBlock) l0 => (impl_hydra_sortedLit1.f k x.tree.f0 y.tree.f0).getD 0)) := ⟨fun x => by rw [hlt2]; exact G.irr _ x.inn,
    fun x y z => by rw [hlt2, hlt2, hlt2]; exact G.trans _ x.inn _ y.inn _ z.inn, fun x y z => by rw [hlt2, hlt2, hlt2]; exact G.ntrans _ x.inn _ y.inn _ z.inn⟩
   have hcmp : Stab.CmpB 70 #[] (·.val) (fun x y : impl_hydra_69.El w w0.heap.size (fun k_ => P0_ k_ ∧ some k_ ≠ (Value.slice (some ⟨g, 0, none⟩) l0.length c).ownBlock) l0 => (impl_hydra_sortedLit1.f k x.tree.f0 y.tree.f0).getD 0) g 0 vs.toArray.size w := by
    intro W dk _ hS x y;have hgr := impl_hydra_69.grown hS;obtain ⟨Ax, cx, ex, hx1, hx2⟩ := k49_open (k49.K_of_M (Kd.M_grown x.mem hgr (fun k hk e => hk.2 (by rw [e]; rfl))));obtain ⟨Ay, cy, ey, hy1, hy2⟩ := k49_open (k49.K_of_M (Kd.M_grown y.mem hgr (fun k hk e => hk.2 (by rw [e]; rfl))));obtain ⟨q, hq⟩ := G.all _ x.inn _ y.inn
    injection ex with ex _
    injection ey with ey _
    have e1 : (#[x.val, y.val] ++ #[] : Array Value) = #[.slice Ax x.tree.f0.length cx, .slice Ay y.tree.f0.length cy] := by rw [ex, ey]; rfl
    show Calls Try.prog 70 (#[x.val, y.val] ++ #[]) W _
    rw [e1];simp only [hq, Option.getD_some];exact impl_hydra_sortedLit1.calls k Ax cx _ Ay cy _ q W hx2 hx1 hy2 hy1 hq
   have R1 : Row1 (·.val) w g 0 vs.toArray := by
    refine ⟨fun x => k49.K_one (k49.K_of_M x.mem) _ List.mem_cons_self, fun j hj => ?_, (Array.getElem?_eq_some_iff.1 hh).1⟩
    have hj' : j < vs.length := by simpa using hj
    have hcj : cur[j]? = some vs[j].val := by
     have e1 : (cur.toList.take l0.length)[j]? = some vs[j].val := by
      rw [ht1, ← hvs1, List.getElem?_map, List.getElem?_eq_getElem hj']; rfl
     rw [List.getElem?_take, if_pos (by omega)] at e1
     simpa using e1
    have e2 : vs.toArray[j]! = vs[j] := by simp [hj']
    rw [e2, Nat.zero_add];exact ⟨by simp [World.cell?, hh, hcj], by simp [World.frozen?, hh]⟩
   have hc := Stab.sortStable (·.val) _ hO 70 #[] g 0 c vs.toArray w (enters_of Try.func70 (by kernel_rfl) rfl) hcmp R1 (by have := G.len; simp; omega)
   have hsz2 : vs.toArray.size = l0.length := by simp [hvl]
   rw [hsz2] at hc;refine Calls.mono hc ?_
   rintro e w' ⟨rfl, d', hS, hsrt, hperm⟩
   have hgr := impl_hydra_69.grown hS;have hblk := impl_hydra_69.block hS hh
   have hd1 : d'.size = l0.length := by rw [hperm.1, hsz2]
   have hp := impl_hydra_69.putCells_all (·.val) d' cur (by omega)
   have hpl : d'.toList.Perm vs := by
    have h5 := hperm.2.2
    have e1 : ∀ n, n = d'.size → d'.extract 0 n = d' := fun n h => by subst h; simp
    have e2 : ∀ n, n = vs.toArray.size → vs.toArray.extract 0 n = vs.toArray := fun n h => by subst h; simp
    rw [e1 _ hd1.symm, e2 _ hsz2.symm] at h5;exact h5
   -- the trees, sorted
   have hres : l0.mergeSort (fun x y => !impl_hydra_69.lt k y x) = d'.toList.map (·.tree) := by
    have m1 := List.map_mergeSort (f := fun x : impl_hydra_69.El w w0.heap.size (fun k_ => P0_ k_ ∧ some k_ ≠ (Value.slice (some ⟨g, 0, none⟩) l0.length c).ownBlock) l0 => x.tree) (r := fun x y => !impl_hydra_69.lt k y.tree x.tree) (s := fun x y => !impl_hydra_69.lt k y x) (l := vs) (fun _ _ _ _ => rfl);rw [hvs2] at m1;rw [← m1];have s1 := List.pairwise_mergeSort (le := fun x y : impl_hydra_69.El w w0.heap.size (fun k_ => P0_ k_ ∧ some k_ ≠ (Value.slice (some ⟨g, 0, none⟩) l0.length c).ownBlock) l0 => !impl_hydra_69.lt k y.tree x.tree)
     (fun a b c h1 h2 => by
      simp only [Bool.not_eq_true'] at h1 h2 ⊢
      exact G.ntrans _ c.inn _ b.inn _ a.inn h2 h1)
     (fun a b => by
      cases e1 : impl_hydra_69.lt k b.tree a.tree with
      | false => rfl
      | true =>
       cases e2 : impl_hydra_69.lt k a.tree b.tree with
       | false => rfl
       | true => have := G.trans _ a.inn _ b.inn _ a.inn e2 e1; rw [G.irr _ a.inn] at this; cases this) vs
    refine impl_hydra_69.unique (lt := impl_hydra_69.lt k) ?_ ?_ ?_ ?_
    ·
     intro a ha b hb;obtain ⟨x, _, rfl⟩ := List.mem_map.mp ha;obtain ⟨y, _, rfl⟩ := List.mem_map.mp hb;exact G.same _ x.inn _ y.inn
    ·
     exact List.pairwise_map.mpr (s1.imp (fun h => by simpa using h))
    ·
     refine List.pairwise_map.mpr (List.pairwise_iff_getElem.mpr (fun i j hi hj hij => ?_))
     have hi' : i < d'.size := by simpa using hi
     have hj' : j < d'.size := by simpa using hj
     have := hsrt i j (Nat.zero_le _) hij (by omega);rw [hlt2, getElem!_pos d' i hi', getElem!_pos d' j hj'] at this
     simpa using this
    ·
     exact ((List.mergeSort_perm vs _).trans hpl.symm).map _
   rw [hres]
   have hnew : (d'.toList.map (·.tree)).length = l0.length := by rw [List.length_map, Array.length_toList]; exact hd1
   have hnv : (d'.toList.map (·.val)).length = l0.length := by rw [List.length_map, Array.length_toList]; exact hd1
   have hown : w'.ownsRow w0.heap.size 49 1 (.slice (some ⟨g, 0, none⟩) l0.length c) (d'.toList.map (·.tree)).length (d'.toList.map (·.val)) := by
    rw [hnew];exact ⟨by rw [hnv, Nat.mul_one], .inr ⟨g, c, _, rfl, hb, hblk, hn2, hm, by rw [hp.1, hs1, Nat.mul_one], by rw [Nat.mul_one]; have := hp.2; rw [hd1] at this; exact this⟩⟩
   have hreps : Reps (k49.M w' w0.heap.size (fun k_ => P0_ k_ ∧ some k_ ≠ (Value.slice (some ⟨g, 0, none⟩) l0.length c).ownBlock)) 1 (d'.toList.map (·.tree)) (d'.toList.map (·.val)) := by
    refine ⟨by rw [hnv, hnew, Nat.mul_one], fun j p hp2 => ?_⟩;rw [List.getElem?_map] at hp2;obtain ⟨x, hx, rfl⟩ := Option.map_eq_some_iff.mp hp2;rw [Nat.mul_one]
    have hxl : j < (d'.toList.map (·.val)).length := by rw [List.length_map]; exact (List.getElem?_eq_some_iff.mp hx).1
    have hcell : ((d'.toList.map (·.val)).drop j).take 1 = [x.val] := by
     rw [List.drop_eq_getElem_cons hxl, List.take_succ_cons, List.take_zero, List.getElem_map];obtain ⟨h5, h6⟩ := List.getElem?_eq_some_iff.mp hx;rw [h6]
    rw [hcell];exact Kd.M_grown x.mem hgr (fun q hq e => hq.2 (by rw [e]; rfl))
   exact ⟨rfl, ⟨fun q hq => h1 q hq, _, hown, hreps⟩, Below.grown hB hgr hB.size (fun q hq => by cases hq; exact hb), Kept.of_grown hgr (Kept.refl w _) (fun q hq => by cases hq; exact .inl hP)⟩
  ·
   obtain rfl : l0 = [] := List.length_eq_zero_iff.1 (by omega);refine (Stab.sortStable_nil A c _ w).mono ?_
   rintro e w' ⟨rfl, hb⟩
   exact ⟨rfl, by simpa using Kd.R_below ho0 hb, hB.trans (hb.mono hB.size), Kept.of_grown (grown_of_below hb none) (Kept.refl w _) (fun q hq => by cases hq)⟩
 ·
  rw [if_neg hg] at h; cases h

end Go.Proofs.Ytmidgjmlgjjobaa.Ig

-- Written by a program of this session's (wip/mp) out of the translation, over the kit's print with changes.
import Derived.Test.YtmmabfmomblllaaLax0
import Derived.Test.YtmmabfmomblllaaLax4
namespace Go.Proofs.Ytmmabfmomblllaa.La
open Go.RowKit Go.Proofs.YtmmabfmomblllaaW.PrintWords Go.Proofs.YtmmabfmomblllaaW.PrintLast Go.Proofs.YtmmabfmomblllaaW.PrintMore
attribute [local go_sem] max2_int min2_int max_two min_two max_three min_three max_four min_four   -- for this text's walks alone
set_option linter.unusedVariables false
set_option linter.unusedSimpArgs false

/-! ### impl_takeOrd: function 30 -/
mutual
def impl_takeOrd.j0 : Nat → List Int → Int → List (S42) → Bool → Option ((List (S42)) × List Int × Bool)
  | 0, _, _, _, _ => none
  | k + 1, x0, x5, x6, x25 => if x25 = true then (some (([] : List (S42)), ([] : List Int), false)) else (impl_takeOrd.l0 k x0 x6 x5 0)
def impl_takeOrd.l0 : Nat → List Int → List (S42) → Int → Int → Option ((List (S42)) × List Int × Bool)
  | 0, _, _, _, _ => none
  | k + 1, x0, x6, x26, x27 => if x27 < x26 then (if (x0.length : Int) = 0 then (impl_takeOrd.j2 k x0 x6 x27 x26 x27 true) else (if 0 < (x0.length : Int) then (if (rd x0 0) < 1 then (impl_takeOrd.j2 k x0 x6 x27 x26 x27 true) else (impl_takeOrd.j2 k x0 x6 x27 x26 x27 (decide ((rd x0 0) > 9999)))) else (none))) else (some (x6, x0, true))
def impl_takeOrd.j2 : Nat → List Int → List (S42) → Int → Int → Int → Bool → Option ((List (S42)) × List Int × Bool)
  | 0, _, _, _, _, _, _ => none
  | k + 1, x0, x6, x7, x26, x27, x44 => if x44 = true then (some (([] : List (S42)), ([] : List Int), false)) else (if 1 ≤ (x0.length : Int) then ((impl_takeOrd.f k (x0.drop 1)).bind fun bt262 => (if bt262.2.2 = true then (if x7 > 0 then (if 0 ≤ (wrap64 (x7 - 1)) then (if (wrap64 (x7 - 1)) < (x6.length : Int) then ((impl_compare.f k bt262.1 ((rd_T42 x6 (wrap64 (x7 - 1))).f1)).bind fun t270 => (if t270 ≥ 0 then (some (([] : List (S42)), ([] : List Int), false)) else (if 0 < (x0.length : Int) then (if x6.length < 4398046511104 then (impl_takeOrd.l0 k bt262.2.1 (x6 ++ [(⟨rd x0 0, bt262.1⟩ : S42)]) x26 (wrap64 (x27 + 1))) else (none)) else (none)))) else (none)) else (none)) else (if 0 < (x0.length : Int) then (if x6.length < 4398046511104 then (impl_takeOrd.l0 k bt262.2.1 (x6 ++ [(⟨rd x0 0, bt262.1⟩ : S42)]) x26 (wrap64 (x27 + 1))) else (none)) else (none))) else (some (([] : List (S42)), ([] : List Int), false)))) else (none))
def impl_takeOrd.f : Nat → List Int → Option ((List (S42)) × List Int × Bool)
  | 0, _ => none
  | k + 1, l0 => if (l0.length : Int) = 0 then (some (([] : List (S42)), ([] : List Int), false)) else (if 0 < (l0.length : Int) then (if 1 ≤ (l0.length : Int) then ((some (l0.drop 1 : List Int)).bind fun y247 => ((some (([] : List (S42)) : List (S42))).bind fun y252 => (if (rd l0 0) < 0 then (impl_takeOrd.j0 k y247 (rd l0 0) y252 true) else (impl_takeOrd.j0 k y247 (rd l0 0) y252 (decide ((rd l0 0) > 60)))))) else (none)) else (none))
end
theorem impl_takeOrd.mono_l : ∀ k, (∀ y0, LeO (impl_takeOrd.f k y0) (impl_takeOrd.f (k + 1) y0)) ∧ (∀ y0 y1 y2 y3, LeO (impl_takeOrd.j0 k y0 y1 y2 y3) (impl_takeOrd.j0 (k + 1) y0 y1 y2 y3)) ∧ (∀ y0 y1 y2 y3, LeO (impl_takeOrd.l0 k y0 y1 y2 y3) (impl_takeOrd.l0 (k + 1) y0 y1 y2 y3)) ∧ (∀ y0 y1 y2 y3 y4 y5, LeO (impl_takeOrd.j2 k y0 y1 y2 y3 y4 y5) (impl_takeOrd.j2 (k + 1) y0 y1 y2 y3 y4 y5))
  | 0 => ⟨fun _ r h => by simp [impl_takeOrd.f] at h, fun _ _ _ _ r h => by simp [impl_takeOrd.j0] at h, fun _ _ _ _ r h => by simp [impl_takeOrd.l0] at h, fun _ _ _ _ _ _ r h => by simp [impl_takeOrd.j2] at h⟩
  | k + 1 => by
    obtain ⟨ih0, ih1, ih2, ih3⟩ := impl_takeOrd.mono_l k
    refine ⟨?_, ?_, ?_, ?_⟩
    · intro y0
      unfold impl_takeOrd.f
      repeat' first
      | (with_reducible exact ih0 _)
      | (with_reducible exact ih1 _ _ _ _)
      | (with_reducible exact ih2 _ _ _ _)
      | (with_reducible exact ih3 _ _ _ _ _ _)
      | (with_reducible exact impl_compare.mono _ _ _)
      | (with_reducible exact LeO.refl _)
      | (with_reducible exact LeO.none _)
      | (with_reducible refine LeO.ite ?_ ?_)
      | (with_reducible refine LeO.bind ?_ (fun _ => ?_))
      | exact ih0 _
      | exact ih1 _ _ _ _
      | exact ih2 _ _ _ _
      | exact ih3 _ _ _ _ _ _
      | exact impl_compare.mono _ _ _
      | exact LeO.none _
      | refine LeO.ite ?_ ?_
      | refine LeO.bind ?_ (fun _ => ?_)
    · intro y0 y1 y2 y3
      unfold impl_takeOrd.j0
      repeat' first
      | (with_reducible exact ih0 _)
      | (with_reducible exact ih1 _ _ _ _)
      | (with_reducible exact ih2 _ _ _ _)
      | (with_reducible exact ih3 _ _ _ _ _ _)
      | (with_reducible exact impl_compare.mono _ _ _)
      | (with_reducible exact LeO.refl _)
      | (with_reducible exact LeO.none _)
      | (with_reducible refine LeO.ite ?_ ?_)
      | (with_reducible refine LeO.bind ?_ (fun _ => ?_))
      | exact ih0 _
      | exact ih1 _ _ _ _
      | exact ih2 _ _ _ _
      | exact ih3 _ _ _ _ _ _
      | exact impl_compare.mono _ _ _
      | exact LeO.none _
      | refine LeO.ite ?_ ?_
      | refine LeO.bind ?_ (fun _ => ?_)
    · intro y0 y1 y2 y3
      unfold impl_takeOrd.l0
      repeat' first
      | (with_reducible exact ih0 _)
      | (with_reducible exact ih1 _ _ _ _)
      | (with_reducible exact ih2 _ _ _ _)
      | (with_reducible exact ih3 _ _ _ _ _ _)
      | (with_reducible exact impl_compare.mono _ _ _)
      | (with_reducible exact LeO.refl _)
      | (with_reducible exact LeO.none _)
      | (with_reducible refine LeO.ite ?_ ?_)
      | (with_reducible refine LeO.bind ?_ (fun _ => ?_))
      | exact ih0 _
      | exact ih1 _ _ _ _
      | exact ih2 _ _ _ _
      | exact ih3 _ _ _ _ _ _
      | exact impl_compare.mono _ _ _
      | exact LeO.none _
      | refine LeO.ite ?_ ?_
      | refine LeO.bind ?_ (fun _ => ?_)
    · intro y0 y1 y2 y3 y4 y5
      unfold impl_takeOrd.j2
      repeat' first
      | (with_reducible exact ih0 _)
      | (with_reducible exact ih1 _ _ _ _)
      | (with_reducible exact ih2 _ _ _ _)
      | (with_reducible exact ih3 _ _ _ _ _ _)
      | (with_reducible exact impl_compare.mono _ _ _)
      | (with_reducible exact LeO.refl _)
      | (with_reducible exact LeO.none _)
      | (with_reducible refine LeO.ite ?_ ?_)
      | (with_reducible refine LeO.bind ?_ (fun _ => ?_))
      | exact ih0 _
      | exact ih1 _ _ _ _
      | exact ih2 _ _ _ _
      | exact ih3 _ _ _ _ _ _
      | exact impl_compare.mono _ _ _
      | exact LeO.none _
      | refine LeO.ite ?_ ?_
      | refine LeO.bind ?_ (fun _ => ?_)
theorem impl_takeOrd.mono : ∀ a0 k, LeO (impl_takeOrd.f k a0) (impl_takeOrd.f (k + 1) a0) := by
  intro a0 k
  obtain ⟨ih0, ih1, ih2, ih3⟩ := impl_takeOrd.mono_l k
  exact ih0 a0
set_option maxHeartbeats 8000000 in
set_option maxRecDepth 100000 in
theorem impl_takeOrd.calls (k : Nat) : ∀ (P0_ : Nat → Prop) (A0 : Option Addr) (c0 : Nat) (l0 : List Int) (r1 : List (S42)) (r2 : List Int) (r3 : Bool) (w : World) (hs0 : Kd.V (Kd.int .i64) 3 w w.heap.size (fun k_ => P0_ k_) (.slice A0 l0.length c0) l0) (h : impl_takeOrd.f k l0 = some (r1, r2, r3)),
    Calls Try.prog 30 #[.slice A0 l0.length c0] w fun e w' => ∃ v0_ v1_ : Value, e = .returned (.tuple #[v0_, v1_, .bool r3]) ∧ Kd.R k42 42 w' w.heap.size (fun k_ => (w.heap.size ≤ k_)) v0_ r1 ∧ Kd.V (Kd.int .i64) 3 w' w.heap.size (fun k_ => (P0_ k_ ∨ w.heap.size ≤ k_) ∧ some k_ ≠ (v0_ : Value).ownBlock) v1_ r2 ∧ Below w.heap.size w w' := by
  induction k using Nat.strongRecOn with
  | _ k ih =>
  intro P0_ A0 c0 l0 r1 r2 r3 w hs0 h
  cases k with
  | zero => exact absurd h (by simp [impl_takeOrd.f])
  | succ k =>
  simp only [impl_takeOrd.f] at h
  have hu42 := Try.underlying42
  have HO0 := Aside0.mk (show Kd.V (Kd.int .i64) 3 w w.heap.size (fun k_ => (P0_ k_ ∨ w.heap.size ≤ k_)) (.slice A0 l0.length c0) l0 from Kd.V_mono hs0 (fun k_ hk => .inl hk))
  have HB := Aside0.mk (Below.refl w.heap.size w)
  have H : (if (l0.length : Int) = 0 then (some (([] : List (S42)), ([] : List Int), false)) else (if 0 < (l0.length : Int) then (if 1 ≤ (l0.length : Int) then ((some (l0.drop 1 : List Int)).bind fun y247 => ((some (([] : List (S42)) : List (S42))).bind fun y252 => (if (rd l0 0) < 0 then (impl_takeOrd.j0 k y247 (rd l0 0) y252 true) else (impl_takeOrd.j0 k y247 (rd l0 0) y252 (decide ((rd l0 0) > 60)))))) else (none)) else (none))) = some (r1, r2, r3) := h
  clear h
  by_cases c2 : (l0.length : Int) = 0
  · rw [if_pos c2] at H
    have c2b0 : ((l0.length : Int) == 0) = true := beq_iff_eq.mpr c2
    have c2b1 : ((l0.length : Int) != 0) = false := bne_eq_false_iff_eq.mpr c2
    clear c2
    simp only [Option.some.injEq, Prod.mk.injEq] at H
    obtain ⟨rfl, rfl, rfl⟩ := H
    go_enter Try.func30, Try.ntmps30
    go_wp2
    go_ret3
    exact ⟨_, _, by first | rfl | (simp [errW_none, errW_some] <;> rfl) | (simp [*, errW_none, errW_some] <;> rfl), by first | exact Kd.R_nil _ _ _ _ _ | exact Kd.N_nil _ _ _ _ _ | exact Kd.V_nil _ _ _ _ _ | exact Kd.Y_nil _ _ _ _ _ | exact Kd.S_nil _ _ _ _ _, (by exact Kd.V_nil _ _ _ _ _), by repeat (first | (with_reducible first | exact HB.out | apply below_alloc | apply pw_below_drewN | apply below_drew1) | exact HB.out)⟩
  · rw [if_neg c2] at H
    have c2b0 : ((l0.length : Int) == 0) = false := beq_eq_false_iff_ne.mpr c2
    have c2b1 : ((l0.length : Int) != 0) = true := bne_iff_ne.mpr c2
    have c2b2 : ¬ (l0 = []) := fun h_ => c2 (by rw [h_]; rfl)
    by_cases c3 : 0 < (l0.length : Int)
    · rw [if_pos c3] at H
      have c3b0 : decide (0 < (l0.length : Int)) = true := decide_eq_true c3
      have c3b1 : decide (0 < l0.length) = true := decide_eq_true (by omega)
      clear c3
      by_cases c4 : 1 ≤ (l0.length : Int)
      · rw [if_pos c4] at H
        have c4b0 := eq_true c4
        have c4b1 : decide (1 ≤ (l0.length : Int)) = true := decide_eq_true c4
        clear c4
        obtain ⟨y247, hy247⟩ : ∃ y_ : List Int, y_ = (l0.drop 1) := ⟨_, rfl⟩
        replace H : ((some (([] : List (S42)) : List (S42))).bind fun y252 => (if (rd l0 0) < 0 then (impl_takeOrd.j0 k y247 (rd l0 0) y252 true) else (impl_takeOrd.j0 k y247 (rd l0 0) y252 (decide ((rd l0 0) > 60))))) = some (r1, r2, r3) := by first | (rw [hy247]; with_reducible exact H) | (have H2_ := (Option.bind_some _ _).symm.trans H; rw [hy247]; with_reducible exact H2_) | (have H2_ := (Option.bind_some _ _).symm.trans H; with_reducible exact H2_) | with_reducible exact H | (rw [hy247]; exact H) | exact H
        have Ny247 := Aside0.mk hy247
        clear hy247
        obtain ⟨y252, hy252⟩ : ∃ y_ : List (S42), y_ = (([] : List (S42))) := ⟨_, rfl⟩
        replace H : (if (rd l0 0) < 0 then (impl_takeOrd.j0 k y247 (rd l0 0) y252 true) else (impl_takeOrd.j0 k y247 (rd l0 0) y252 (decide ((rd l0 0) > 60)))) = some (r1, r2, r3) := by first | (rw [hy252]; with_reducible exact H) | (have H2_ := (Option.bind_some _ _).symm.trans H; rw [hy252]; with_reducible exact H2_) | (have H2_ := (Option.bind_some _ _).symm.trans H; with_reducible exact H2_) | with_reducible exact H | (rw [hy252]; exact H) | exact H
        have Ny252 := Aside0.mk hy252
        clear hy252
        have HC5 := Aside0.mk H
        clear H
        have p246 : 0 ≤ (0 : Int) := (by omega)
        have q246 : 0 < (l0.length : Int) := of_decide_eq_true (by first | (with_reducible assumption) | assumption)
        obtain ⟨ad246, e246, hx246_0⟩ := Kd.at_int (Kd.V_reads' HO0.out).2.2 0 p246 q246
        cases e246
        have qi246 : (0 < l0.length) = True := eq_true (by omega)
        (try rw [show ((0 : Int)).toNat = 0 from rfl] at hx246_0)
        (try rw [Addr.add_zero'] at hx246_0)
        replace p246 := eq_true p246
        replace q246 := eq_true q246
        have q6 : (1 : Int) ≤ ((l0.length : Int) : Int) := of_decide_eq_true (by first | (with_reducible assumption) | assumption)
        obtain ⟨i06, hi06, _, hsz6, _⟩ := info_parts info3
        have hroom6 : l0.length ≤ c0 := (Kd.V_reads' HO0.out).2.1
        have hC6 : Kd.F (Kd.int .i64) _ _ (some ad246) l0.length l0 := (Kd.V_at (base := w.heap.size) HO0.out).2.2
        have hcut6 := cut_from (P := Try.prog) 23 3 .i64 Try.underlying23 hi06 1 hsz6 (some ad246) l0.length c0 1 (by omega) q6
        have hr6 := Kd.F_cut (m := (1 : Int).toNat) (c := c0) hC6 (by omega) hroom6
        obtain ⟨A6, hA6⟩ : ∃ A_, A_ = (if c0 = (1 : Int).toNat then (some ad246) else ((some ad246) : Option Addr).map (·.add ((1 : Int).toNat * 1))) := ⟨_, rfl⟩
        obtain ⟨c6, hc6⟩ : ∃ c_, c_ = c0 - (1 : Int).toNat := ⟨_, rfl⟩
        have hy6 : y247.length = l0.length - (1 : Int).toNat := (by rw [Ny247.out, List.length_drop] <;> omega)
        rw [show (l0).drop (1 : Int).toNat = y247 from Ny247.out.symm] at hr6
        replace hr6 : Kd.F (Kd.int .i64) _ _ A6 y247.length y247 := (by rw [hA6]; exact hr6)
        rw [← hy6, ← hA6, ← hc6] at hcut6
        have HO251 := Aside0.mk (show Kd.V (Kd.int .i64) 3 _ w.heap.size _ (.slice A6 y247.length c6) y247 from Kd.V_mk (by rw [hy6, hc6]; exact Nat.sub_le_sub_right hroom6 _) hr6)
        have HC251 := Aside0.mk (show y247.length ≤ c6 from by rw [hy6, hc6]; exact Nat.sub_le_sub_right hroom6 _)
        clear hr6 hC6 hroom6 hi06 hsz6 hc6
        have KY6 := Aside0.mk hy6
        have KA6 := Aside0.mk hA6
        clear hy6 hA6
        replace q6 := eq_true q6
        go_enter Try.func30, Try.ntmps30
        go_upto_region 6 with (first | ((with_reducible refine gate_dst (N := 19) rfl ?_); refine Kd.R_lit k42 _ 42 ?hg (N := 19) ?hd (xs := ([] : List (S42))) (inner := []) (ok := fun _ => True) (okp := fun _ => True) ?hr ?hp (fun _ hk => hk) trivial (Below.refl _ _) (Nat.le_refl _) (by simp) ?_; (case hd => rfl); (case hg => rfl); (case hr => first | (go_simp; done) | (go_simp; rfl)); (case hp => exact (Reps.none _ _)); intro v253 w7 ho8 hb hg_ hnew_; clear hg_ hnew_; (first | rw [← Ny252.out] at ho8 | (simp only [Int.reduceToNat] at ho8; rw [← Ny252.out] at ho8)); have n0_ := Aside0.mk (Kd.V_elder' (by (with_reducible repeat (first | apply Kd.V_alloc | apply Kd.V_drewN | apply Kd.V_drew)); exact HO0.out) (Kd.R_base ho8) hb); have n1_ := Aside0.mk (Kd.V_elder' (by (with_reducible repeat (first | apply Kd.V_alloc | apply Kd.V_drewN | apply Kd.V_drew)); exact HO251.out) (Kd.R_base ho8) hb); have n2_ := Aside0.mk (Kd.R_lower (Kd.R_newM (M := fun k_ => (w.heap.size ≤ k_)) ho8 (below_size (by repeat (first | (with_reducible first | exact HB.out | apply below_alloc | apply pw_below_drewN | apply below_drew1) | exact HB.out))) (fun k_ h_ => h_)) (below_size (by repeat (first | (with_reducible first | exact HB.out | apply below_alloc | apply pw_below_drewN | apply below_drew1) | exact HB.out)))); have n3_ := Aside0.mk (below_step (by repeat (first | (with_reducible first | exact HB.out | apply below_alloc | apply pw_below_drewN | apply below_drew1) | exact HB.out)) hb); clear HO0; clear HO251; clear HB; have HO0 := n0_; have HO251 := n1_; have HO254 := n2_; have HB := n3_; clear n0_ n1_ n2_ n3_; clear hb ho8))
        (try simp only [Act.put, List.setIfInBounds_toArray, List.set_cons_zero, List.set_cons_succ])
        go_cut [25] (fun v25 wc => ∃ (kq : Nat) (x25_4 : Bool), v25 = .bool x25_4 ∧ Aside0 (impl_takeOrd.j0 kq y247 (rd l0 0) y252 x25_4 = some (r1, r2, r3)) ∧ Aside0 (kq ≤ k) ∧ Aside0 (Kd.V (Kd.int .i64) 3 wc w.heap.size (fun k_ => (P0_ k_ ∨ w.heap.size ≤ k_) ∧ some k_ ≠ (v253 : Value).ownBlock) (.slice A6 y247.length c6) y247) ∧ Aside0 (Kd.R k42 42 wc w.heap.size (fun k_ => (w.heap.size ≤ k_)) v253 y252) ∧ Aside0 (Below w.heap.size w wc))
        case first =>
          have H := HC5.out
          clear HC5
          by_cases c9 : (rd l0 0) < 0
          · rw [if_pos c9] at H
            have c9b0 : decide ((rd l0 0) < 0) = true := decide_eq_true c9
            clear c9
            (first | rw [c9b0] | (simp only [i64_w, i32_w]; rw [c9b0]) | skip)
            have H' := Aside0.mk H
            clear H
            go_wp2
            go_meet
            case rel => exact ⟨_, (true), (by first | rfl | (simp; done) | (simp [*]; done)), H', ⟨by first | omega | exact Nat.le_refl _⟩, ⟨by (with_reducible repeat (first | apply Kd.V_alloc | apply Kd.V_drewN | apply Kd.V_drew)); exact HO251.out⟩, ⟨by (with_reducible repeat (first | apply Kd.R_alloc | apply Kd.R_drewN | apply Kd.R_drew)); exact Kd.R_mono HO254.out (fun _ hk => hk.1)⟩, ⟨by repeat (first | (with_reducible first | exact HB.out | apply below_alloc | apply pw_below_drewN | apply below_drew1) | exact HB.out)⟩⟩
          · rw [if_neg c9] at H
            have c9b0 : decide ((rd l0 0) < 0) = false := decide_eq_false c9
            clear c9
            (first | rw [c9b0] | (simp only [i64_w, i32_w]; rw [c9b0]) | skip)
            have H' := Aside0.mk H
            clear H
            go_wp2
            go_meet
            case rel => exact ⟨_, (decide ((rd l0 0) > 60)), (by first | rfl | (simp; done) | (simp [*]; done)), H', ⟨by first | omega | exact Nat.le_refl _⟩, ⟨by (with_reducible repeat (first | apply Kd.V_alloc | apply Kd.V_drewN | apply Kd.V_drew)); exact HO251.out⟩, ⟨by (with_reducible repeat (first | apply Kd.R_alloc | apply Kd.R_drewN | apply Kd.R_drew)); exact Kd.R_mono HO254.out (fun _ hk => hk.1)⟩, ⟨by repeat (first | (with_reducible first | exact HB.out | apply below_alloc | apply pw_below_drewN | apply below_drew1) | exact HB.out)⟩⟩
        case rest =>
          clear HC5
          try clear c1
          try clear c2
          try clear c2b0
          try clear c2b1
          try clear c2b2
          try clear p2
          try clear q2
          try clear hx2
          try clear qi2
          try clear c3
          try clear c3b0
          try clear c3b1
          try clear c4
          try clear c4b0
          try clear c4b1
          try clear c6
          try clear q6
          try clear c9
          try clear c9b0
          try clear hx246_0
          try clear p246
          try clear q246
          try clear q6
          obtain ⟨kq, x25_4, rfl, HA, HJ4, HO_0, HO_6, HB⟩ := hcut
          cases kq with
          | zero => exact absurd HA.out (by simp [impl_takeOrd.j0])
          | succ kj4 =>
            have H := HA.out
            clear HA
            simp only [impl_takeOrd.j0] at H
            by_cases c10 : x25_4 = true
            · subst c10
              have H1 : (some (([] : List (S42)), ([] : List Int), false)) = some (r1, r2, r3) := by rw [if_pos rfl] at H; exact H
              clear H
              have H := H1
              clear H1
              simp only [Option.some.injEq, Prod.mk.injEq] at H
              obtain ⟨rfl, rfl, rfl⟩ := H
              go_wp2
              go_ret3
              exact ⟨_, _, by first | rfl | (simp [errW_none, errW_some] <;> rfl) | (simp [*, errW_none, errW_some] <;> rfl), by first | exact Kd.R_nil _ _ _ _ _ | exact Kd.N_nil _ _ _ _ _ | exact Kd.V_nil _ _ _ _ _ | exact Kd.Y_nil _ _ _ _ _ | exact Kd.S_nil _ _ _ _ _, (by exact Kd.V_nil _ _ _ _ _), by repeat (first | (with_reducible first | exact HB.out | apply below_alloc | apply pw_below_drewN | apply below_drew1) | exact HB.out)⟩
            · replace c10 := Bool.eq_false_iff.mpr c10
              subst c10
              have H1 : (impl_takeOrd.l0 kj4 y247 y252 (rd l0 0) 0) = some (r1, r2, r3) := by rw [if_neg (show ¬ (false = true) by decide)] at H; exact H
              clear H
              have H := H1
              clear H1
              have H' := Aside0.mk H
              clear H
              go_wp2
              go_loopg [0, 6, 27] kj4 (fun kq v0 v6 v27 w' => ∃ (x0_2 : List Int) (x6_2 : List (S42)) (x27_2 : Int), v27 = .int .i64 x27_2 ∧ Aside0 (impl_takeOrd.l0 kq x0_2 x6_2 (rd l0 0) x27_2 = some (r1, r2, r3)) ∧ Aside0 (kq ≤ kj4) ∧ Aside0 (Kd.V (Kd.int .i64) 3 w' w.heap.size (fun k_ => (P0_ k_ ∨ w.heap.size ≤ k_) ∧ some k_ ≠ (v6 : Value).ownBlock) v0 x0_2) ∧ Aside0 (Kd.R k42 42 w' w.heap.size (fun k_ => (w.heap.size ≤ k_)) v6 x6_2) ∧ Aside0 (Below w.heap.size w w'))
              case atStart => exact ⟨(y247), (y252), (0), (by first | rfl | (simp; done) | (simp [*]; done)), H', ⟨Nat.le_refl _⟩, ⟨by (with_reducible repeat (first | apply Kd.V_alloc | apply Kd.V_drewN | apply Kd.V_drew)); exact HO_0.out⟩, ⟨by (with_reducible repeat (first | apply Kd.R_alloc | apply Kd.R_drewN | apply Kd.R_drew)); exact HO_6.out⟩, ⟨by repeat (first | (with_reducible first | exact HB.out | apply below_alloc | apply pw_below_drewN | apply below_drew1) | exact HB.out)⟩⟩
              case round =>
                clear H'
                try clear c1
                try clear c2
                try clear c2b0
                try clear c2b1
                try clear c2b2
                try clear p2
                try clear q2
                try clear hx2
                try clear qi2
                try clear c3
                try clear c3b0
                try clear c3b1
                try clear c4
                try clear c4b0
                try clear c4b1
                try clear c6
                try clear q6
                try clear c9
                try clear c9b0
                try clear c10
                try clear hx246_0
                try clear p2
                try clear p246
                try clear q2
                try clear q246
                try clear q6
                try clear HO_0
                try clear HO_6
                try clear HB
                obtain ⟨x0_2, x6_2, x27_2, rfl, HA, HK2, HO_0, HO_6, HB⟩ := hrel
                cases gk with
                | zero => exact absurd HA.out (by simp [impl_takeOrd.l0])
                | succ k2 =>
                  have H := HA.out
                  clear HA
                  simp only [impl_takeOrd.l0] at H
                  by_cases c11 : x27_2 < (rd l0 0)
                  · rw [if_pos c11] at H
                    have c11b0 : decide (x27_2 < (rd l0 0)) = true := decide_eq_true c11
                    clear c11
                    have HC12 := Aside0.mk H
                    clear H
                    go_upto_region 11 with (fail)
                    go_cut [44] (fun v44 wc => ∃ (kq : Nat) (x44_11 : Bool), v44 = .bool x44_11 ∧ Aside0 (impl_takeOrd.j2 kq x0_2 x6_2 x27_2 (rd l0 0) x27_2 x44_11 = some (r1, r2, r3)) ∧ Aside0 (kq ≤ k2) ∧ Aside0 (Kd.V (Kd.int .i64) 3 wc w.heap.size (fun k_ => (P0_ k_ ∨ w.heap.size ≤ k_) ∧ some k_ ≠ (u6 : Value).ownBlock) u0 x0_2) ∧ Aside0 (Kd.R k42 42 wc w.heap.size (fun k_ => (w.heap.size ≤ k_)) u6 x6_2) ∧ Aside0 (Below w.heap.size w wc))
                    case first =>
                      have H := HC12.out
                      clear HC12
                      by_cases c13 : (x0_2.length : Int) = 0
                      · rw [if_pos c13] at H
                        have c13b0 : ((x0_2.length : Int) == 0) = true := beq_iff_eq.mpr c13
                        have c13b1 : ((x0_2.length : Int) != 0) = false := bne_eq_false_iff_eq.mpr c13
                        clear c13
                        (first | rw [c13b0] | (simp only [i64_w, i32_w]; rw [c13b0]) | skip)
                        have H' := Aside0.mk H
                        clear H
                        obtain ⟨Ao14, co14, eo14⟩ := Kd.V_slice HO_0.out
                        subst eo14
                        go_wp2
                        go_meet
                        case rel => exact ⟨_, (true), (by first | rfl | (simp; done) | (simp [*]; done)), H', ⟨by have := HJ4.out; have := HK2.out; first | omega | exact Nat.le_refl _⟩, ⟨by (with_reducible repeat (first | apply Kd.V_alloc | apply Kd.V_drewN | apply Kd.V_drew)); exact HO_0.out⟩, ⟨by (with_reducible repeat (first | apply Kd.R_alloc | apply Kd.R_drewN | apply Kd.R_drew)); exact HO_6.out⟩, ⟨by repeat (first | (with_reducible first | exact HB.out | apply below_alloc | apply pw_below_drewN | apply below_drew1) | exact HB.out)⟩⟩
                      · rw [if_neg c13] at H
                        have c13b0 : ((x0_2.length : Int) == 0) = false := beq_eq_false_iff_ne.mpr c13
                        have c13b1 : ((x0_2.length : Int) != 0) = true := bne_iff_ne.mpr c13
                        have c13b2 : ¬ (x0_2 = []) := fun h_ => c13 (by rw [h_]; rfl)
                        (first | rw [c13b0] | (simp only [i64_w, i32_w]; rw [c13b0]) | skip)
                        by_cases c15 : 0 < (x0_2.length : Int)
                        · rw [if_pos c15] at H
                          have c15b0 : decide (0 < (x0_2.length : Int)) = true := decide_eq_true c15
                          have c15b1 : decide (0 < x0_2.length) = true := decide_eq_true (by omega)
                          clear c15
                          by_cases c16 : (rd x0_2 0) < 1
                          · rw [if_pos c16] at H
                            have c16b0 : decide ((rd x0_2 0) < 1) = true := decide_eq_true c16
                            clear c16
                            have H' := Aside0.mk H
                            clear H
                            obtain ⟨Ao17, co17, eo17⟩ := Kd.V_slice HO_0.out
                            subst eo17
                            have p255 : 0 ≤ (0 : Int) := (by omega)
                            have q255 : 0 < (x0_2.length : Int) := of_decide_eq_true (by first | (with_reducible assumption) | assumption)
                            obtain ⟨ad255, e255, hx255_0⟩ := Kd.at_int (Kd.V_reads' HO_0.out).2.2 0 p255 q255
                            cases e255
                            have qi255 : (0 < x0_2.length) = True := eq_true (by omega)
                            (try rw [show ((0 : Int)).toNat = 0 from rfl] at hx255_0)
                            (try rw [Addr.add_zero'] at hx255_0)
                            replace p255 := eq_true p255
                            replace q255 := eq_true q255
                            go_wp2
                            go_meet
                            case rel => exact ⟨_, (true), (by first | rfl | (simp; done) | (simp [*]; done)), H', ⟨by have := HJ4.out; have := HK2.out; first | omega | exact Nat.le_refl _⟩, ⟨by (with_reducible repeat (first | apply Kd.V_alloc | apply Kd.V_drewN | apply Kd.V_drew)); exact HO_0.out⟩, ⟨by (with_reducible repeat (first | apply Kd.R_alloc | apply Kd.R_drewN | apply Kd.R_drew)); exact HO_6.out⟩, ⟨by repeat (first | (with_reducible first | exact HB.out | apply below_alloc | apply pw_below_drewN | apply below_drew1) | exact HB.out)⟩⟩
                          · rw [if_neg c16] at H
                            have c16b0 : decide ((rd x0_2 0) < 1) = false := decide_eq_false c16
                            clear c16
                            have H' := Aside0.mk H
                            clear H
                            obtain ⟨Ao18, co18, eo18⟩ := Kd.V_slice HO_0.out
                            subst eo18
                            have p255 : 0 ≤ (0 : Int) := (by omega)
                            have q255 : 0 < (x0_2.length : Int) := of_decide_eq_true (by first | (with_reducible assumption) | assumption)
                            obtain ⟨ad255, e255, hx255_0⟩ := Kd.at_int (Kd.V_reads' HO_0.out).2.2 0 p255 q255
                            cases e255
                            have qi255 : (0 < x0_2.length) = True := eq_true (by omega)
                            (try rw [show ((0 : Int)).toNat = 0 from rfl] at hx255_0)
                            (try rw [Addr.add_zero'] at hx255_0)
                            replace p255 := eq_true p255
                            replace q255 := eq_true q255
                            have p256 : 0 ≤ (0 : Int) := (by omega)
                            have q256 : 0 < (x0_2.length : Int) := of_decide_eq_true (by first | (with_reducible assumption) | assumption)
                            obtain ⟨ad256, e256, hx256_0⟩ := Kd.at_int (Kd.V_reads' HO_0.out).2.2 0 p256 q256
                            obtain rfl : ad255 = ad256 := (by injection e256)
                            have qi256 : (0 < x0_2.length) = True := eq_true (by omega)
                            (try rw [show ((0 : Int)).toNat = 0 from rfl] at hx256_0)
                            (try rw [Addr.add_zero'] at hx256_0)
                            replace p256 := eq_true p256
                            replace q256 := eq_true q256
                            go_wp2
                            go_meet
                            case rel => exact ⟨_, (decide ((rd x0_2 0) > 9999)), (by first | rfl | (simp; done) | (simp [*]; done)), H', ⟨by have := HJ4.out; have := HK2.out; first | omega | exact Nat.le_refl _⟩, ⟨by (with_reducible repeat (first | apply Kd.V_alloc | apply Kd.V_drewN | apply Kd.V_drew)); exact HO_0.out⟩, ⟨by (with_reducible repeat (first | apply Kd.R_alloc | apply Kd.R_drewN | apply Kd.R_drew)); exact HO_6.out⟩, ⟨by repeat (first | (with_reducible first | exact HB.out | apply below_alloc | apply pw_below_drewN | apply below_drew1) | exact HB.out)⟩⟩
                        · rw [if_neg c15] at H
                          exact absurd H (by simp)
                    case rest =>
                      clear HC12
                      try clear c1
                      try clear c2
                      try clear c2b0
                      try clear c2b1
                      try clear c2b2
                      try clear p2
                      try clear q2
                      try clear hx2
                      try clear qi2
                      try clear c3
                      try clear c3b0
                      try clear c3b1
                      try clear c4
                      try clear c4b0
                      try clear c4b1
                      try clear c6
                      try clear q6
                      try clear c9
                      try clear c9b0
                      try clear c10
                      try clear c11
                      try clear c11b0
                      try clear c13
                      try clear c13b0
                      try clear c13b1
                      try clear c13b2
                      try clear c15
                      try clear c15b0
                      try clear c15b1
                      try clear c16
                      try clear c16b0
                      try clear hx246_0
                      try clear hx255_0
                      try clear hx256_0
                      try clear p2
                      try clear p246
                      try clear p255
                      try clear p256
                      try clear q2
                      try clear q246
                      try clear q255
                      try clear q256
                      try clear q6
                      obtain ⟨kq, x44_11, rfl, HA, HJ11, HO_0, HO_6, HB⟩ := hcut
                      cases kq with
                      | zero => exact absurd HA.out (by simp [impl_takeOrd.j2])
                      | succ kj11 =>
                        have H := HA.out
                        clear HA
                        simp only [impl_takeOrd.j2] at H
                        by_cases c19 : x44_11 = true
                        · subst c19
                          have H1 : (some (([] : List (S42)), ([] : List Int), false)) = some (r1, r2, r3) := by rw [if_pos rfl] at H; exact H
                          clear H
                          have H := H1
                          clear H1
                          simp only [Option.some.injEq, Prod.mk.injEq] at H
                          obtain ⟨rfl, rfl, rfl⟩ := H
                          go_wp2
                          go_ret3
                          exact ⟨_, _, by first | rfl | (simp [errW_none, errW_some] <;> rfl) | (simp [*, errW_none, errW_some] <;> rfl), by first | exact Kd.R_nil _ _ _ _ _ | exact Kd.N_nil _ _ _ _ _ | exact Kd.V_nil _ _ _ _ _ | exact Kd.Y_nil _ _ _ _ _ | exact Kd.S_nil _ _ _ _ _, (by exact Kd.V_nil _ _ _ _ _), by repeat (first | (with_reducible first | exact HB.out | apply below_alloc | apply pw_below_drewN | apply below_drew1) | exact HB.out)⟩
                        · replace c19 := Bool.eq_false_iff.mpr c19
                          subst c19
                          have H1 : (if 1 ≤ (x0_2.length : Int) then ((impl_takeOrd.f kj11 (x0_2.drop 1)).bind fun bt262 => (if bt262.2.2 = true then (if x27_2 > 0 then (if 0 ≤ (wrap64 (x27_2 - 1)) then (if (wrap64 (x27_2 - 1)) < (x6_2.length : Int) then ((impl_compare.f kj11 bt262.1 ((rd_T42 x6_2 (wrap64 (x27_2 - 1))).f1)).bind fun t270 => (if t270 ≥ 0 then (some (([] : List (S42)), ([] : List Int), false)) else (if 0 < (x0_2.length : Int) then (if x6_2.length < 4398046511104 then (impl_takeOrd.l0 kj11 bt262.2.1 (x6_2 ++ [(⟨rd x0_2 0, bt262.1⟩ : S42)]) (rd l0 0) (wrap64 (x27_2 + 1))) else (none)) else (none)))) else (none)) else (none)) else (if 0 < (x0_2.length : Int) then (if x6_2.length < 4398046511104 then (impl_takeOrd.l0 kj11 bt262.2.1 (x6_2 ++ [(⟨rd x0_2 0, bt262.1⟩ : S42)]) (rd l0 0) (wrap64 (x27_2 + 1))) else (none)) else (none))) else (some (([] : List (S42)), ([] : List Int), false)))) else (none)) = some (r1, r2, r3) := by rw [if_neg (show ¬ (false = true) by decide)] at H; exact H
                          clear H
                          have H := H1
                          clear H1
                          by_cases c20 : 1 ≤ (x0_2.length : Int)
                          · rw [if_pos c20] at H
                            have c20b0 := eq_true c20
                            have c20b1 : decide (1 ≤ (x0_2.length : Int)) = true := decide_eq_true c20
                            clear c20
                            obtain ⟨y257, hy257⟩ : ∃ y_ : List Int, y_ = (x0_2.drop 1) := ⟨_, rfl⟩
                            replace H : ((impl_takeOrd.f kj11 y257).bind fun bt262 => (if bt262.2.2 = true then (if x27_2 > 0 then (if 0 ≤ (wrap64 (x27_2 - 1)) then (if (wrap64 (x27_2 - 1)) < (x6_2.length : Int) then ((impl_compare.f kj11 bt262.1 ((rd_T42 x6_2 (wrap64 (x27_2 - 1))).f1)).bind fun t270 => (if t270 ≥ 0 then (some (([] : List (S42)), ([] : List Int), false)) else (if 0 < (x0_2.length : Int) then (if x6_2.length < 4398046511104 then (impl_takeOrd.l0 kj11 bt262.2.1 (x6_2 ++ [(⟨rd x0_2 0, bt262.1⟩ : S42)]) (rd l0 0) (wrap64 (x27_2 + 1))) else (none)) else (none)))) else (none)) else (none)) else (if 0 < (x0_2.length : Int) then (if x6_2.length < 4398046511104 then (impl_takeOrd.l0 kj11 bt262.2.1 (x6_2 ++ [(⟨rd x0_2 0, bt262.1⟩ : S42)]) (rd l0 0) (wrap64 (x27_2 + 1))) else (none)) else (none))) else (some (([] : List (S42)), ([] : List Int), false)))) = some (r1, r2, r3) := by first | (rw [hy257]; with_reducible exact H) | (have H2_ := (Option.bind_some _ _).symm.trans H; rw [hy257]; with_reducible exact H2_) | (have H2_ := (Option.bind_some _ _).symm.trans H; with_reducible exact H2_) | with_reducible exact H | (rw [hy257]; exact H) | exact H
                            have Ny257 := Aside0.mk hy257
                            clear hy257
                            replace H := Option.bind_eq_some_iff.mp H
                            obtain ⟨⟨t262, t265, t268⟩, A210, H⟩ := H
                            replace H : (if t268 = true then (if x27_2 > 0 then (if 0 ≤ (wrap64 (x27_2 - 1)) then (if (wrap64 (x27_2 - 1)) < (x6_2.length : Int) then ((impl_compare.f kj11 t262 ((rd_T42 x6_2 (wrap64 (x27_2 - 1))).f1)).bind fun t270 => (if t270 ≥ 0 then (some (([] : List (S42)), ([] : List Int), false)) else (if 0 < (x0_2.length : Int) then (if x6_2.length < 4398046511104 then (impl_takeOrd.l0 kj11 t265 (x6_2 ++ [(⟨rd x0_2 0, t262⟩ : S42)]) (rd l0 0) (wrap64 (x27_2 + 1))) else (none)) else (none)))) else (none)) else (none)) else (if 0 < (x0_2.length : Int) then (if x6_2.length < 4398046511104 then (impl_takeOrd.l0 kj11 t265 (x6_2 ++ [(⟨rd x0_2 0, t262⟩ : S42)]) (rd l0 0) (wrap64 (x27_2 + 1))) else (none)) else (none))) else (some (([] : List (S42)), ([] : List Int), false))) = some (r1, r2, r3) := H
                            have A21 := Aside0.mk A210
                            clear A210
                            by_cases c22 : t268 = true
                            · subst c22
                              have H1 : (if x27_2 > 0 then (if 0 ≤ (wrap64 (x27_2 - 1)) then (if (wrap64 (x27_2 - 1)) < (x6_2.length : Int) then ((impl_compare.f kj11 t262 ((rd_T42 x6_2 (wrap64 (x27_2 - 1))).f1)).bind fun t270 => (if t270 ≥ 0 then (some (([] : List (S42)), ([] : List Int), false)) else (if 0 < (x0_2.length : Int) then (if x6_2.length < 4398046511104 then (impl_takeOrd.l0 kj11 t265 (x6_2 ++ [(⟨rd x0_2 0, t262⟩ : S42)]) (rd l0 0) (wrap64 (x27_2 + 1))) else (none)) else (none)))) else (none)) else (none)) else (if 0 < (x0_2.length : Int) then (if x6_2.length < 4398046511104 then (impl_takeOrd.l0 kj11 t265 (x6_2 ++ [(⟨rd x0_2 0, t262⟩ : S42)]) (rd l0 0) (wrap64 (x27_2 + 1))) else (none)) else (none))) = some (r1, r2, r3) := by rw [if_pos rfl] at H; exact H
                              clear H
                              have H := H1
                              clear H1
                              by_cases c23 : x27_2 > 0
                              · rw [if_pos c23] at H
                                have c23b0 : decide (0 < x27_2) = true := decide_eq_true c23
                                clear c23
                                obtain ⟨ji24, hji24⟩ : ∃ j_ : Int, (wrap64 (x27_2 - 1)) = j_ := ⟨_, rfl⟩
                                replace H : (if 0 ≤ (ji24) then (if (ji24) < (x6_2.length : Int) then ((impl_compare.f kj11 t262 ((rd_T42 x6_2 (ji24)).f1)).bind fun t270 => (if t270 ≥ 0 then (some (([] : List (S42)), ([] : List Int), false)) else (if 0 < (x0_2.length : Int) then (if x6_2.length < 4398046511104 then (impl_takeOrd.l0 kj11 t265 (x6_2 ++ [(⟨rd x0_2 0, t262⟩ : S42)]) (rd l0 0) (wrap64 (x27_2 + 1))) else (none)) else (none)))) else (none)) else (none)) = some (r1, r2, r3) := by first | (rw [hji24] at H; exact H) | (simp only [hji24] at H ⊢; exact H)
                                (try rw [hji24] at A21)
                                have hji24w : (IntKind.i64.wrap (x27_2 - 1)) = ji24 := (i64_w _).trans hji24
                                by_cases c25 : 0 ≤ (ji24)
                                · rw [if_pos c25] at H
                                  have c25b0 : decide (0 ≤ (ji24)) = true := decide_eq_true c25
                                  clear c25
                                  by_cases c26 : (ji24) < (x6_2.length : Int)
                                  · rw [if_pos c26] at H
                                    have c26b0 : decide ((ji24) < (x6_2.length : Int)) = true := decide_eq_true c26
                                    clear c26
                                    replace H := Option.bind_eq_some_iff.mp H
                                    obtain ⟨t270, A270, H⟩ := H
                                    replace H : (if t270 ≥ 0 then (some (([] : List (S42)), ([] : List Int), false)) else (if 0 < (x0_2.length : Int) then (if x6_2.length < 4398046511104 then (impl_takeOrd.l0 kj11 t265 (x6_2 ++ [(⟨rd x0_2 0, t262⟩ : S42)]) (rd l0 0) (wrap64 (x27_2 + 1))) else (none)) else (none))) = some (r1, r2, r3) := H
                                    have A27 := Aside0.mk A270
                                    clear A270
                                    by_cases c28 : t270 ≥ 0
                                    · rw [if_pos c28] at H
                                      have c28b0 : decide (0 ≤ t270) = true := decide_eq_true c28
                                      clear c28
                                      simp only [Option.some.injEq, Prod.mk.injEq] at H
                                      obtain ⟨rfl, rfl, rfl⟩ := H
                                      obtain ⟨Ao30, co30, eo30⟩ := Kd.V_slice HO_0.out
                                      subst eo30
                                      have q29 : (1 : Int) ≤ ((x0_2.length : Int) : Int) := of_decide_eq_true (by first | (with_reducible assumption) | assumption)
                                      obtain ⟨i029, hi029, _, hsz29, _⟩ := info_parts info3
                                      have hroom29 : x0_2.length ≤ co30 := (Kd.V_reads' HO_0.out).2.1
                                      have hC29 : Kd.F (Kd.int .i64) _ _ Ao30 x0_2.length x0_2 := (Kd.V_at (base := w.heap.size) HO_0.out).2.2
                                      have hcut29 := cut_from (P := Try.prog) 23 3 .i64 Try.underlying23 hi029 1 hsz29 Ao30 x0_2.length co30 1 (by omega) q29
                                      have hr29 := Kd.F_cut (m := (1 : Int).toNat) (c := co30) hC29 (by omega) hroom29
                                      obtain ⟨A29, hA29⟩ : ∃ A_, A_ = (if co30 = (1 : Int).toNat then Ao30 else (Ao30 : Option Addr).map (·.add ((1 : Int).toNat * 1))) := ⟨_, rfl⟩
                                      obtain ⟨c29, hc29⟩ : ∃ c_, c_ = co30 - (1 : Int).toNat := ⟨_, rfl⟩
                                      have hy29 : y257.length = x0_2.length - (1 : Int).toNat := (by rw [Ny257.out, List.length_drop] <;> omega)
                                      rw [show (x0_2).drop (1 : Int).toNat = y257 from Ny257.out.symm] at hr29
                                      replace hr29 : Kd.F (Kd.int .i64) _ _ A29 y257.length y257 := (by rw [hA29]; exact hr29)
                                      rw [← hy29, ← hA29, ← hc29] at hcut29
                                      have HO261 := Aside0.mk (show Kd.V (Kd.int .i64) 3 _ w.heap.size _ (.slice A29 y257.length c29) y257 from Kd.V_mk (by rw [hy29, hc29]; exact Nat.sub_le_sub_right hroom29 _) hr29)
                                      have HC261 := Aside0.mk (show y257.length ≤ c29 from by rw [hy29, hc29]; exact Nat.sub_le_sub_right hroom29 _)
                                      clear hr29 hC29 hroom29 hi029 hsz29 hc29
                                      have KY29 := Aside0.mk hy29
                                      have KA29 := Aside0.mk hA29
                                      clear hy29 hA29
                                      replace q29 := eq_true q29
                                      go_wp2_with (first | ((with_reducible refine gate_callee (f := 30) rfl ?_); refine goesL_ (some 48) rfl rfl Try.func30 (by kernel_rfl) rfl #[.slice A29 y257.length c29] rfl (by (try simp only [List.map_toArray, List.map_cons, List.map_nil]); first | done | rfl | (simp only [List.length_drop, List.length_take]; rfl)) ?_; (with_reducible refine (ih kj11 (by have := HJ4.out; have := HK2.out; have := HJ11.out; omega) (fun k_ => ((P0_ k_ ∨ w.heap.size ≤ k_) ∧ some k_ ≠ (u6 : Value).ownBlock)) _ _ y257 t262 t265 true _ ?side1 A21.out).mono ?_); (case side1 => exact HO261.out); rintro e w31 ⟨v263, v266, rfl, ho0, ho1, hb⟩; refine ⟨_, rfl, ?_⟩; have n0_ := Aside0.mk (Kd.V_elder' (by (with_reducible repeat (first | apply Kd.V_alloc | apply Kd.V_drewN | apply Kd.V_drew)); exact HO_0.out) (Kd.R_base ho0) hb); have n1_ := Aside0.mk (Kd.R_elder' (by (with_reducible repeat (first | apply Kd.R_alloc | apply Kd.R_drewN | apply Kd.R_drew)); exact HO_6.out) (Kd.R_base ho0) hb); have n2_ := Aside0.mk (Kd.V_elder' (by (with_reducible repeat (first | apply Kd.V_alloc | apply Kd.V_drewN | apply Kd.V_drew)); exact HO261.out) (Kd.R_base ho0) hb); have n3_ := Aside0.mk (Kd.R_lower (Kd.R_new' (Kd.R_newM (M := fun k_ => (w.heap.size ≤ k_)) (Kd.R_mono (ok' := fun k_ => True) ho0 (fun _ hk_ => trivial)) (below_size (by repeat (first | (with_reducible first | exact HB.out | apply below_alloc | apply pw_below_drewN | apply below_drew1) | exact HB.out))) (fun k_ h_ => h_)) (Kd.R_lt (by (with_reducible repeat (first | apply Kd.R_alloc | apply Kd.R_drewN | apply Kd.R_drew)); exact HO_6.out))) (below_size (by repeat (first | (with_reducible first | exact HB.out | apply below_alloc | apply pw_below_drewN | apply below_drew1) | exact HB.out)))); have n4_ := Aside0.mk (Kd.V_lower (Kd.V_mono (ok' := fun k_ => (P0_ k_ ∨ w.heap.size ≤ k_) ∧ some k_ ≠ (v263 : Value).ownBlock ∧ some k_ ≠ (u6 : Value).ownBlock) ho1 (fun k_ hk_ => ⟨Or.elim hk_.1 (fun hs_ => hs_.1) (fun hn_ => (.inr (Nat.le_trans (below_size (by repeat (first | (with_reducible first | exact HB.out | apply below_alloc | apply pw_below_drewN | apply below_drew1) | exact HB.out))) hn_))), hk_.2, Or.elim hk_.1 (fun hs_ => hs_.2) (fun hn_ => (Kd.fresh' (Kd.R_lt (by (with_reducible repeat (first | apply Kd.R_alloc | apply Kd.R_drewN | apply Kd.R_drew)); exact HO_6.out)) k_ hn_))⟩)) (below_size (by repeat (first | (with_reducible first | exact HB.out | apply below_alloc | apply pw_below_drewN | apply below_drew1) | exact HB.out)))); have n5_ := Aside0.mk (below_step (by repeat (first | (with_reducible first | exact HB.out | apply below_alloc | apply pw_below_drewN | apply below_drew1) | exact HB.out)) hb); clear HO_0; clear HO_6; clear HO261; clear HB; have HO_0 := n0_; have HO_6 := n1_; have HO261 := n2_; have HO264 := n3_; have HO267 := n4_; have HB := n5_; clear n0_ n1_ n2_ n3_ n4_ n5_; (try clear hb); (try clear hb2); (try clear hk); (try clear hi); (try clear ho0); (try clear ho1); obtain ⟨Ao32, co32, eo32⟩ := Kd.R_slice HO_6.out; subst eo32; have p269 : 0 ≤ ((ji24) : Int) := of_decide_eq_true (by first | (with_reducible assumption) | assumption); have q269 : (ji24) < (x6_2.length : Int) := of_decide_eq_true (by first | (with_reducible assumption) | assumption); obtain ⟨ad269, A269_1, c269_1, e269, hx269_0, hx269_1, hl269_1, hi269_1⟩ := at_T42 (Kd.R_reads' HO_6.out).2.2 (ji24) p269 q269; cases e269; obtain ⟨ce269, hce269, hMe269, hcc269⟩ := Kd.R_get HO_6.out z42 (ji24) p269 (by first | exact q269 | exact of_decide_eq_true (by first | (with_reducible assumption) | assumption) | (have e_ := (Kd.R_reads' HO_6.out).1; omega)); obtain ⟨ve269_1, rfl, ge269_1⟩ := k42_openM hMe269; have hv269_1 := hcc269 1 _ rfl; rw [add_field _ _ 1 (by omega)] at hv269_1; replace hv269_1 := Option.some.inj (hv269_1.symm.trans hx269_1); rw [hv269_1] at ge269_1; have HL269_1 := Aside0.mk (show Kd.R k42 42 _ _ _ _ ((rd_T42 x6_2 (ji24)).f1) from ge269_1); clear hv269_1 ge269_1; clear hcc269 hce269; have HR269_1 := Aside0.mk hi269_1; have HC269_1 := Aside0.mk hl269_1; clear hi269_1 hl269_1; replace p269 := eq_true p269; replace q269 := eq_true q269; obtain ⟨Ao33, co33, eo33⟩ := Kd.R_slice HO264.out; subst eo33) | (go_at_call 27; (with_reducible refine (impl_compare.calls kj11 _ _ t262 _ _ ((rd_T42 x6_2 (ji24)).f1) t270 _ ?side1 ?side2 ?side3 ?side4 A27.out).mono ?_); (case side1 => repeat (first | exact (Kd.R_reads' HO264.out).2.2 | (with_reducible refine Kd.C_alloc ?_ _) | (with_reducible refine Kd.C_drewN ?_ _) | (with_reducible refine Kd.C_drew ?_))); (case side2 => exact (Kd.R_reads' HO264.out).2.1); (case side3 => repeat (first | exact (by repeat (first | (with_reducible exact HR269_1.out) | (with_reducible refine Kd.C_alloc ?_ _) | (with_reducible refine Kd.C_drewN ?_ _) | (with_reducible refine Kd.C_drew ?_) | exact HR269_1.out)) | (with_reducible refine Kd.C_alloc ?_ _) | (with_reducible refine Kd.C_drewN ?_ _) | (with_reducible refine Kd.C_drew ?_))); (case side4 => exact HC269_1.out); rintro e w34 ⟨rfl, hb⟩; have n0_ := Aside0.mk (Kd.V_below (by (with_reducible repeat (first | apply Kd.V_alloc | apply Kd.V_drewN | apply Kd.V_drew)); exact HO_0.out) hb); have n1_ := Aside0.mk (Kd.R_below (by (with_reducible repeat (first | apply Kd.R_alloc | apply Kd.R_drewN | apply Kd.R_drew)); exact HO_6.out) hb); have n2_ := Aside0.mk (Kd.V_below (by (with_reducible repeat (first | apply Kd.V_alloc | apply Kd.V_drewN | apply Kd.V_drew)); exact HO261.out) hb); have n3_ := Aside0.mk (Kd.R_below (by (with_reducible repeat (first | apply Kd.R_alloc | apply Kd.R_drewN | apply Kd.R_drew)); exact HO264.out) hb); have n4_ := Aside0.mk (Kd.V_below (by (with_reducible repeat (first | apply Kd.V_alloc | apply Kd.V_drewN | apply Kd.V_drew)); exact HO267.out) hb); have n5_ := Aside0.mk (Kd.R_below (by (with_reducible repeat (first | apply Kd.R_alloc | apply Kd.R_drewN | apply Kd.R_drew)); exact HL269_1.out) hb); have n6_ := Aside0.mk (Kd.C_below (by repeat (first | (with_reducible exact HR269_1.out) | (with_reducible refine Kd.C_alloc ?_ _) | (with_reducible refine Kd.C_drewN ?_ _) | (with_reducible refine Kd.C_drew ?_) | exact HR269_1.out)) hb); have n7_ := Aside0.mk (below_step (by repeat (first | (with_reducible first | exact HB.out | apply below_alloc | apply pw_below_drewN | apply below_drew1) | exact HB.out)) hb); clear HO_0; clear HO_6; clear HO261; clear HO264; clear HO267; clear HL269_1; clear HR269_1; clear HB; have HO_0 := n0_; have HO_6 := n1_; have HO261 := n2_; have HO264 := n3_; have HO267 := n4_; have HL269_1 := n5_; have HR269_1 := n6_; have HB := n7_; clear n0_ n1_ n2_ n3_ n4_ n5_ n6_ n7_; (try clear hb); (try clear hb2); (try clear hk); (try clear hi)))
                                      go_ret3
                                      exact ⟨_, _, by first | rfl | (simp [errW_none, errW_some] <;> rfl) | (simp only [← hji24]; first | rfl | (simp [errW_none, errW_some] <;> rfl)) | (simp [*, errW_none, errW_some] <;> rfl), by first | exact Kd.R_nil _ _ _ _ _ | exact Kd.N_nil _ _ _ _ _ | exact Kd.V_nil _ _ _ _ _ | exact Kd.Y_nil _ _ _ _ _ | exact Kd.S_nil _ _ _ _ _, (by exact Kd.V_nil _ _ _ _ _), by repeat (first | (with_reducible first | exact HB.out | apply below_alloc | apply pw_below_drewN | apply below_drew1) | exact HB.out)⟩
                                    · rw [if_neg c28] at H
                                      have c28b0 : decide (0 ≤ t270) = false := decide_eq_false c28
                                      clear c28
                                      by_cases c35 : 0 < (x0_2.length : Int)
                                      · rw [if_pos c35] at H
                                        have c35b0 : decide (0 < (x0_2.length : Int)) = true := decide_eq_true c35
                                        have c35b1 : decide (0 < x0_2.length) = true := decide_eq_true (by omega)
                                        clear c35
                                        by_cases c36 : x6_2.length < 4398046511104
                                        · rw [if_pos c36] at H
                                          have LMc36 := Aside0.mk c36
                                          clear c36
                                          obtain ⟨y272, hy272⟩ : ∃ y_ : List (S42), y_ = (x6_2 ++ [(⟨rd x0_2 0, t262⟩ : S42)]) := ⟨_, rfl⟩
                                          replace H : (impl_takeOrd.l0 kj11 t265 y272 (rd l0 0) (wrap64 (x27_2 + 1))) = some (r1, r2, r3) := by first | (rw [hy272]; with_reducible exact H) | (have H2_ := (Option.bind_some _ _).symm.trans H; rw [hy272]; with_reducible exact H2_) | (have H2_ := (Option.bind_some _ _).symm.trans H; with_reducible exact H2_) | with_reducible exact H | (rw [hy272]; exact H) | exact H
                                          have Ny272 := Aside0.mk hy272
                                          clear hy272
                                          have H' := Aside0.mk H
                                          clear H
                                          obtain ⟨Ao38, co38, eo38⟩ := Kd.V_slice HO_0.out
                                          subst eo38
                                          have q37 : (1 : Int) ≤ ((x0_2.length : Int) : Int) := of_decide_eq_true (by first | (with_reducible assumption) | assumption)
                                          obtain ⟨i037, hi037, _, hsz37, _⟩ := info_parts info3
                                          have hroom37 : x0_2.length ≤ co38 := (Kd.V_reads' HO_0.out).2.1
                                          have hC37 : Kd.F (Kd.int .i64) _ _ Ao38 x0_2.length x0_2 := (Kd.V_at (base := w.heap.size) HO_0.out).2.2
                                          have hcut37 := cut_from (P := Try.prog) 23 3 .i64 Try.underlying23 hi037 1 hsz37 Ao38 x0_2.length co38 1 (by omega) q37
                                          have hr37 := Kd.F_cut (m := (1 : Int).toNat) (c := co38) hC37 (by omega) hroom37
                                          obtain ⟨A37, hA37⟩ : ∃ A_, A_ = (if co38 = (1 : Int).toNat then Ao38 else (Ao38 : Option Addr).map (·.add ((1 : Int).toNat * 1))) := ⟨_, rfl⟩
                                          obtain ⟨c37, hc37⟩ : ∃ c_, c_ = co38 - (1 : Int).toNat := ⟨_, rfl⟩
                                          have hy37 : y257.length = x0_2.length - (1 : Int).toNat := (by rw [Ny257.out, List.length_drop] <;> omega)
                                          rw [show (x0_2).drop (1 : Int).toNat = y257 from Ny257.out.symm] at hr37
                                          replace hr37 : Kd.F (Kd.int .i64) _ _ A37 y257.length y257 := (by rw [hA37]; exact hr37)
                                          rw [← hy37, ← hA37, ← hc37] at hcut37
                                          have HO261 := Aside0.mk (show Kd.V (Kd.int .i64) 3 _ w.heap.size _ (.slice A37 y257.length c37) y257 from Kd.V_mk (by rw [hy37, hc37]; exact Nat.sub_le_sub_right hroom37 _) hr37)
                                          have HC261 := Aside0.mk (show y257.length ≤ c37 from by rw [hy37, hc37]; exact Nat.sub_le_sub_right hroom37 _)
                                          clear hr37 hC37 hroom37 hi037 hsz37 hc37
                                          have KY37 := Aside0.mk hy37
                                          have KA37 := Aside0.mk hA37
                                          clear hy37 hA37
                                          replace q37 := eq_true q37
                                          go_wp2_with (first | ((with_reducible refine gate_callee (f := 30) rfl ?_); refine goesL_ (some 48) rfl rfl Try.func30 (by kernel_rfl) rfl #[.slice A37 y257.length c37] rfl (by (try simp only [List.map_toArray, List.map_cons, List.map_nil]); first | done | rfl | (simp only [List.length_drop, List.length_take]; rfl)) ?_; (with_reducible refine (ih kj11 (by have := HJ4.out; have := HK2.out; have := HJ11.out; omega) (fun k_ => ((P0_ k_ ∨ w.heap.size ≤ k_) ∧ some k_ ≠ (u6 : Value).ownBlock)) _ _ y257 t262 t265 true _ ?side1 A21.out).mono ?_); (case side1 => exact HO261.out); rintro e w39 ⟨v263, v266, rfl, ho0, ho1, hb⟩; refine ⟨_, rfl, ?_⟩; have n0_ := Aside0.mk (Kd.V_elder' (by (with_reducible repeat (first | apply Kd.V_alloc | apply Kd.V_drewN | apply Kd.V_drew)); exact HO_0.out) (Kd.R_base ho0) hb); have n1_ := Aside0.mk (Kd.R_elder' (by (with_reducible repeat (first | apply Kd.R_alloc | apply Kd.R_drewN | apply Kd.R_drew)); exact HO_6.out) (Kd.R_base ho0) hb); have n2_ := Aside0.mk (Kd.V_elder' (by (with_reducible repeat (first | apply Kd.V_alloc | apply Kd.V_drewN | apply Kd.V_drew)); exact HO261.out) (Kd.R_base ho0) hb); have n3_ := Aside0.mk (Kd.R_lower (Kd.R_new' (Kd.R_newM (M := fun k_ => (w.heap.size ≤ k_)) (Kd.R_mono (ok' := fun k_ => True) ho0 (fun _ hk_ => trivial)) (below_size (by repeat (first | (with_reducible first | exact HB.out | apply below_alloc | apply pw_below_drewN | apply below_drew1) | exact HB.out))) (fun k_ h_ => h_)) (Kd.R_lt (by (with_reducible repeat (first | apply Kd.R_alloc | apply Kd.R_drewN | apply Kd.R_drew)); exact HO_6.out))) (below_size (by repeat (first | (with_reducible first | exact HB.out | apply below_alloc | apply pw_below_drewN | apply below_drew1) | exact HB.out)))); have n4_ := Aside0.mk (Kd.V_lower (Kd.V_mono (ok' := fun k_ => (P0_ k_ ∨ w.heap.size ≤ k_) ∧ some k_ ≠ (v263 : Value).ownBlock ∧ some k_ ≠ (u6 : Value).ownBlock) ho1 (fun k_ hk_ => ⟨Or.elim hk_.1 (fun hs_ => hs_.1) (fun hn_ => (.inr (Nat.le_trans (below_size (by repeat (first | (with_reducible first | exact HB.out | apply below_alloc | apply pw_below_drewN | apply below_drew1) | exact HB.out))) hn_))), hk_.2, Or.elim hk_.1 (fun hs_ => hs_.2) (fun hn_ => (Kd.fresh' (Kd.R_lt (by (with_reducible repeat (first | apply Kd.R_alloc | apply Kd.R_drewN | apply Kd.R_drew)); exact HO_6.out)) k_ hn_))⟩)) (below_size (by repeat (first | (with_reducible first | exact HB.out | apply below_alloc | apply pw_below_drewN | apply below_drew1) | exact HB.out)))); have n5_ := Aside0.mk (below_step (by repeat (first | (with_reducible first | exact HB.out | apply below_alloc | apply pw_below_drewN | apply below_drew1) | exact HB.out)) hb); clear HO_0; clear HO_6; clear HO261; clear HB; have HO_0 := n0_; have HO_6 := n1_; have HO261 := n2_; have HO264 := n3_; have HO267 := n4_; have HB := n5_; clear n0_ n1_ n2_ n3_ n4_ n5_; (try clear hb); (try clear hb2); (try clear hk); (try clear hi); (try clear ho0); (try clear ho1); obtain ⟨Ao40, co40, eo40⟩ := Kd.R_slice HO_6.out; subst eo40; have p269 : 0 ≤ ((ji24) : Int) := of_decide_eq_true (by first | (with_reducible assumption) | assumption); have q269 : (ji24) < (x6_2.length : Int) := of_decide_eq_true (by first | (with_reducible assumption) | assumption); obtain ⟨ad269, A269_1, c269_1, e269, hx269_0, hx269_1, hl269_1, hi269_1⟩ := at_T42 (Kd.R_reads' HO_6.out).2.2 (ji24) p269 q269; cases e269; obtain ⟨ce269, hce269, hMe269, hcc269⟩ := Kd.R_get HO_6.out z42 (ji24) p269 (by first | exact q269 | exact of_decide_eq_true (by first | (with_reducible assumption) | assumption) | (have e_ := (Kd.R_reads' HO_6.out).1; omega)); obtain ⟨ve269_1, rfl, ge269_1⟩ := k42_openM hMe269; have hv269_1 := hcc269 1 _ rfl; rw [add_field _ _ 1 (by omega)] at hv269_1; replace hv269_1 := Option.some.inj (hv269_1.symm.trans hx269_1); rw [hv269_1] at ge269_1; have HL269_1 := Aside0.mk (show Kd.R k42 42 _ _ _ _ ((rd_T42 x6_2 (ji24)).f1) from ge269_1); clear hv269_1 ge269_1; clear hcc269 hce269; have HR269_1 := Aside0.mk hi269_1; have HC269_1 := Aside0.mk hl269_1; clear hi269_1 hl269_1; replace p269 := eq_true p269; replace q269 := eq_true q269; obtain ⟨Ao41, co41, eo41⟩ := Kd.R_slice HO264.out; subst eo41) | (go_at_call 27; (with_reducible refine (impl_compare.calls kj11 _ _ t262 _ _ ((rd_T42 x6_2 (ji24)).f1) t270 _ ?side1 ?side2 ?side3 ?side4 A27.out).mono ?_); (case side1 => repeat (first | exact (Kd.R_reads' HO264.out).2.2 | (with_reducible refine Kd.C_alloc ?_ _) | (with_reducible refine Kd.C_drewN ?_ _) | (with_reducible refine Kd.C_drew ?_))); (case side2 => exact (Kd.R_reads' HO264.out).2.1); (case side3 => repeat (first | exact (by repeat (first | (with_reducible exact HR269_1.out) | (with_reducible refine Kd.C_alloc ?_ _) | (with_reducible refine Kd.C_drewN ?_ _) | (with_reducible refine Kd.C_drew ?_) | exact HR269_1.out)) | (with_reducible refine Kd.C_alloc ?_ _) | (with_reducible refine Kd.C_drewN ?_ _) | (with_reducible refine Kd.C_drew ?_))); (case side4 => exact HC269_1.out); rintro e w42 ⟨rfl, hb⟩; have n0_ := Aside0.mk (Kd.V_below (by (with_reducible repeat (first | apply Kd.V_alloc | apply Kd.V_drewN | apply Kd.V_drew)); exact HO_0.out) hb); have n1_ := Aside0.mk (Kd.R_below (by (with_reducible repeat (first | apply Kd.R_alloc | apply Kd.R_drewN | apply Kd.R_drew)); exact HO_6.out) hb); have n2_ := Aside0.mk (Kd.V_below (by (with_reducible repeat (first | apply Kd.V_alloc | apply Kd.V_drewN | apply Kd.V_drew)); exact HO261.out) hb); have n3_ := Aside0.mk (Kd.R_below (by (with_reducible repeat (first | apply Kd.R_alloc | apply Kd.R_drewN | apply Kd.R_drew)); exact HO264.out) hb); have n4_ := Aside0.mk (Kd.V_below (by (with_reducible repeat (first | apply Kd.V_alloc | apply Kd.V_drewN | apply Kd.V_drew)); exact HO267.out) hb); have n5_ := Aside0.mk (Kd.R_below (by (with_reducible repeat (first | apply Kd.R_alloc | apply Kd.R_drewN | apply Kd.R_drew)); exact HL269_1.out) hb); have n6_ := Aside0.mk (Kd.C_below (by repeat (first | (with_reducible exact HR269_1.out) | (with_reducible refine Kd.C_alloc ?_ _) | (with_reducible refine Kd.C_drewN ?_ _) | (with_reducible refine Kd.C_drew ?_) | exact HR269_1.out)) hb); have n7_ := Aside0.mk (below_step (by repeat (first | (with_reducible first | exact HB.out | apply below_alloc | apply pw_below_drewN | apply below_drew1) | exact HB.out)) hb); clear HO_0; clear HO_6; clear HO261; clear HO264; clear HO267; clear HL269_1; clear HR269_1; clear HB; have HO_0 := n0_; have HO_6 := n1_; have HO261 := n2_; have HO264 := n3_; have HO267 := n4_; have HL269_1 := n5_; have HR269_1 := n6_; have HB := n7_; clear n0_ n1_ n2_ n3_ n4_ n5_ n6_ n7_; (try clear hb); (try clear hb2); (try clear hk); (try clear hi); have p271 : 0 ≤ (0 : Int) := (by omega); have q271 : 0 < (x0_2.length : Int) := of_decide_eq_true (by first | (with_reducible assumption) | assumption); obtain ⟨ad271, e271, hx271_0⟩ := Kd.at_int (Kd.V_reads' HO_0.out).2.2 0 p271 q271; cases e271; have qi271 : (0 < x0_2.length) = True := eq_true (by omega); (try rw [show ((0 : Int)).toNat = 0 from rfl] at hx271_0); (try rw [Addr.add_zero'] at hx271_0); replace p271 := eq_true p271; replace q271 := eq_true q271) | ((with_reducible refine gate_builtin (b := .append) (xs := #[.tmp 69, .tmp 75]) rfl ?_); at_builtin; refine Kd.R_append k42 (w0 := w) w.heap.size rfl (.tmp 69) (.tmp 75) 39 42 (.agg #[(.int .i64 0), (.slice none 0 0)]) 32 rfl Try.underlying39 info42 rfl (by decide) (by omega) (.slice (some ad269) x6_2.length co40) x6_2 (⟨rd x0_2 0, t262⟩ : S42) [.int .i64 (rd x0_2 0), .slice Ao41 t262.length co41] (fun k_ => (w.heap.size ≤ k_)) (fun k_ => ((fun k_ => (w.heap.size ≤ k_))) k_ ∧ some k_ ≠ (.slice (some ad269) x6_2.length co40 : Value).ownBlock) rfl rfl ?aP (fun _ hk => hk) ?aF ?aO ?aB ?aS ?aL ?_; (case aP => exact k42_mkM _ _ _ (⟨rd x0_2 0, t262⟩ : S42) (Kd.R_mono (HO264.out) (fun k_ hk => ⟨hk.1.1, hk.2⟩))); (case aB => exact (by repeat (first | (with_reducible first | exact HB.out | apply below_alloc | apply pw_below_drewN | apply below_drew1) | exact HB.out))); (case aF => exact (fun k_ hk => (Nat.le_trans (below_size (by repeat (first | (with_reducible first | exact HB.out | apply below_alloc | apply pw_below_drewN | apply below_drew1) | exact HB.out))) hk))); (case aO => exact (by (with_reducible repeat (first | apply Kd.R_alloc | apply Kd.R_drewN | apply Kd.R_drew)); exact Kd.R_mono HO_6.out (fun _ hk => hk.1))); (case aS => exact (below_size (by repeat (first | (with_reducible first | exact HB.out | apply below_alloc | apply pw_below_drewN | apply below_drew1) | exact HB.out)))); (case aL => have := LMc36.out; omega); intro v273 w43 ho hb hg hat; rw [← Ny272.out] at ho; have n0_ := Aside0.mk (Kd.V_afterv (ok := (fun k_ => (P0_ k_ ∨ w.heap.size ≤ k_) ∧ some k_ ≠ (.slice Ao41 t262.length co41 : Value).ownBlock)) (by (with_reducible repeat (first | apply Kd.V_alloc | apply Kd.V_drewN | apply Kd.V_drew)); exact Kd.V_mono HO_0.out (fun _ hk => ⟨⟨hk.1.1, hk.2⟩, hk.1.2⟩)) hg hat); have n1_ := Aside0.mk (Kd.V_afterv (ok := (fun k_ => (P0_ k_ ∨ w.heap.size ≤ k_) ∧ some k_ ≠ (.slice Ao41 t262.length co41 : Value).ownBlock)) (by (with_reducible repeat (first | apply Kd.V_alloc | apply Kd.V_drewN | apply Kd.V_drew)); exact Kd.V_mono HO261.out (fun _ hk => ⟨⟨hk.1.1, hk.2⟩, hk.1.2⟩)) hg hat); have n2_ := Aside0.mk (Kd.V_afterv (ok := (fun k_ => (P0_ k_ ∨ w.heap.size ≤ k_) ∧ some k_ ≠ (.slice Ao41 t262.length co41 : Value).ownBlock)) (by (with_reducible repeat (first | apply Kd.V_alloc | apply Kd.V_drewN | apply Kd.V_drew)); exact Kd.V_mono HO267.out (fun _ hk => ⟨⟨hk.1, hk.2.1⟩, hk.2.2⟩)) hg hat); have n3_ := Aside0.mk (Kd.R_after (ok := (fun k_ => (w.heap.size ≤ k_) ∧ some k_ ≠ (.slice Ao41 t262.length co41 : Value).ownBlock)) (by (with_reducible repeat (first | apply Kd.R_alloc | apply Kd.R_drewN | apply Kd.R_drew)); exact HL269_1.out) hg hat); have n4_ := Aside0.mk (hb); have n5_ := Aside0.mk (ho); clear HO_0; clear HO261; clear HO267; clear HL269_1; clear HB; clear HO_6; clear HO264; have HO_0 := n0_; have HO261 := n1_; have HO267 := n2_; have HL269_1 := n3_; have HB := n4_; have HO274 := n5_; clear n0_ n1_ n2_ n3_ n4_ n5_; clear ho hb hg hat))
                                          go_roundg kj11
                                          case measure => have := HJ4.out; have := HK2.out; have := HJ11.out; omega
                                          case rel => exact ⟨(t265), (y272), (wrap64 (x27_2 + 1)), (by first | rfl | (simp; done) | (simp [*]; done)), H', ⟨by have := HJ4.out; have := HK2.out; have := HJ11.out; omega⟩, ⟨by (with_reducible repeat (first | apply Kd.V_alloc | apply Kd.V_drewN | apply Kd.V_drew)); exact Kd.V_mono HO267.out (fun _ hk => ⟨hk.1.1, hk.2⟩)⟩, ⟨by (with_reducible repeat (first | apply Kd.R_alloc | apply Kd.R_drewN | apply Kd.R_drew)); exact HO274.out⟩, ⟨by repeat (first | (with_reducible first | exact HB.out | apply below_alloc | apply pw_below_drewN | apply below_drew1) | exact HB.out)⟩⟩
                                        · rw [if_neg c36] at H
                                          exact absurd H (by simp)
                                      · rw [if_neg c35] at H
                                        exact absurd H (by simp)
                                  · rw [if_neg c26] at H
                                    exact absurd H (by simp)
                                · rw [if_neg c25] at H
                                  exact absurd H (by simp)
                              · rw [if_neg c23] at H
                                have c23b0 : decide (0 < x27_2) = false := decide_eq_false c23
                                clear c23
                                by_cases c44 : 0 < (x0_2.length : Int)
                                · rw [if_pos c44] at H
                                  have c44b0 : decide (0 < (x0_2.length : Int)) = true := decide_eq_true c44
                                  have c44b1 : decide (0 < x0_2.length) = true := decide_eq_true (by omega)
                                  clear c44
                                  by_cases c45 : x6_2.length < 4398046511104
                                  · rw [if_pos c45] at H
                                    have LMc45 := Aside0.mk c45
                                    clear c45
                                    obtain ⟨y276, hy276⟩ : ∃ y_ : List (S42), y_ = (x6_2 ++ [(⟨rd x0_2 0, t262⟩ : S42)]) := ⟨_, rfl⟩
                                    replace H : (impl_takeOrd.l0 kj11 t265 y276 (rd l0 0) (wrap64 (x27_2 + 1))) = some (r1, r2, r3) := by first | (rw [hy276]; with_reducible exact H) | (have H2_ := (Option.bind_some _ _).symm.trans H; rw [hy276]; with_reducible exact H2_) | (have H2_ := (Option.bind_some _ _).symm.trans H; with_reducible exact H2_) | with_reducible exact H | (rw [hy276]; exact H) | exact H
                                    have Ny276 := Aside0.mk hy276
                                    clear hy276
                                    have H' := Aside0.mk H
                                    clear H
                                    obtain ⟨Ao47, co47, eo47⟩ := Kd.V_slice HO_0.out
                                    subst eo47
                                    have q46 : (1 : Int) ≤ ((x0_2.length : Int) : Int) := of_decide_eq_true (by first | (with_reducible assumption) | assumption)
                                    obtain ⟨i046, hi046, _, hsz46, _⟩ := info_parts info3
                                    have hroom46 : x0_2.length ≤ co47 := (Kd.V_reads' HO_0.out).2.1
                                    have hC46 : Kd.F (Kd.int .i64) _ _ Ao47 x0_2.length x0_2 := (Kd.V_at (base := w.heap.size) HO_0.out).2.2
                                    have hcut46 := cut_from (P := Try.prog) 23 3 .i64 Try.underlying23 hi046 1 hsz46 Ao47 x0_2.length co47 1 (by omega) q46
                                    have hr46 := Kd.F_cut (m := (1 : Int).toNat) (c := co47) hC46 (by omega) hroom46
                                    obtain ⟨A46, hA46⟩ : ∃ A_, A_ = (if co47 = (1 : Int).toNat then Ao47 else (Ao47 : Option Addr).map (·.add ((1 : Int).toNat * 1))) := ⟨_, rfl⟩
                                    obtain ⟨c46, hc46⟩ : ∃ c_, c_ = co47 - (1 : Int).toNat := ⟨_, rfl⟩
                                    have hy46 : y257.length = x0_2.length - (1 : Int).toNat := (by rw [Ny257.out, List.length_drop] <;> omega)
                                    rw [show (x0_2).drop (1 : Int).toNat = y257 from Ny257.out.symm] at hr46
                                    replace hr46 : Kd.F (Kd.int .i64) _ _ A46 y257.length y257 := (by rw [hA46]; exact hr46)
                                    rw [← hy46, ← hA46, ← hc46] at hcut46
                                    have HO261 := Aside0.mk (show Kd.V (Kd.int .i64) 3 _ w.heap.size _ (.slice A46 y257.length c46) y257 from Kd.V_mk (by rw [hy46, hc46]; exact Nat.sub_le_sub_right hroom46 _) hr46)
                                    have HC261 := Aside0.mk (show y257.length ≤ c46 from by rw [hy46, hc46]; exact Nat.sub_le_sub_right hroom46 _)
                                    clear hr46 hC46 hroom46 hi046 hsz46 hc46
                                    have KY46 := Aside0.mk hy46
                                    have KA46 := Aside0.mk hA46
                                    clear hy46 hA46
                                    replace q46 := eq_true q46
                                    go_wp2_with (first | ((with_reducible refine gate_callee (f := 30) rfl ?_); refine goesL_ (some 48) rfl rfl Try.func30 (by kernel_rfl) rfl #[.slice A46 y257.length c46] rfl (by (try simp only [List.map_toArray, List.map_cons, List.map_nil]); first | done | rfl | (simp only [List.length_drop, List.length_take]; rfl)) ?_; (with_reducible refine (ih kj11 (by have := HJ4.out; have := HK2.out; have := HJ11.out; omega) (fun k_ => ((P0_ k_ ∨ w.heap.size ≤ k_) ∧ some k_ ≠ (u6 : Value).ownBlock)) _ _ y257 t262 t265 true _ ?side1 A21.out).mono ?_); (case side1 => exact HO261.out); rintro e w48 ⟨v263, v266, rfl, ho0, ho1, hb⟩; refine ⟨_, rfl, ?_⟩; have n0_ := Aside0.mk (Kd.V_elder' (by (with_reducible repeat (first | apply Kd.V_alloc | apply Kd.V_drewN | apply Kd.V_drew)); exact HO_0.out) (Kd.R_base ho0) hb); have n1_ := Aside0.mk (Kd.R_elder' (by (with_reducible repeat (first | apply Kd.R_alloc | apply Kd.R_drewN | apply Kd.R_drew)); exact HO_6.out) (Kd.R_base ho0) hb); have n2_ := Aside0.mk (Kd.V_elder' (by (with_reducible repeat (first | apply Kd.V_alloc | apply Kd.V_drewN | apply Kd.V_drew)); exact HO261.out) (Kd.R_base ho0) hb); have n3_ := Aside0.mk (Kd.R_lower (Kd.R_new' (Kd.R_newM (M := fun k_ => (w.heap.size ≤ k_)) (Kd.R_mono (ok' := fun k_ => True) ho0 (fun _ hk_ => trivial)) (below_size (by repeat (first | (with_reducible first | exact HB.out | apply below_alloc | apply pw_below_drewN | apply below_drew1) | exact HB.out))) (fun k_ h_ => h_)) (Kd.R_lt (by (with_reducible repeat (first | apply Kd.R_alloc | apply Kd.R_drewN | apply Kd.R_drew)); exact HO_6.out))) (below_size (by repeat (first | (with_reducible first | exact HB.out | apply below_alloc | apply pw_below_drewN | apply below_drew1) | exact HB.out)))); have n4_ := Aside0.mk (Kd.V_lower (Kd.V_mono (ok' := fun k_ => (P0_ k_ ∨ w.heap.size ≤ k_) ∧ some k_ ≠ (v263 : Value).ownBlock ∧ some k_ ≠ (u6 : Value).ownBlock) ho1 (fun k_ hk_ => ⟨Or.elim hk_.1 (fun hs_ => hs_.1) (fun hn_ => (.inr (Nat.le_trans (below_size (by repeat (first | (with_reducible first | exact HB.out | apply below_alloc | apply pw_below_drewN | apply below_drew1) | exact HB.out))) hn_))), hk_.2, Or.elim hk_.1 (fun hs_ => hs_.2) (fun hn_ => (Kd.fresh' (Kd.R_lt (by (with_reducible repeat (first | apply Kd.R_alloc | apply Kd.R_drewN | apply Kd.R_drew)); exact HO_6.out)) k_ hn_))⟩)) (below_size (by repeat (first | (with_reducible first | exact HB.out | apply below_alloc | apply pw_below_drewN | apply below_drew1) | exact HB.out)))); have n5_ := Aside0.mk (below_step (by repeat (first | (with_reducible first | exact HB.out | apply below_alloc | apply pw_below_drewN | apply below_drew1) | exact HB.out)) hb); clear HO_0; clear HO_6; clear HO261; clear HB; have HO_0 := n0_; have HO_6 := n1_; have HO261 := n2_; have HO264 := n3_; have HO267 := n4_; have HB := n5_; clear n0_ n1_ n2_ n3_ n4_ n5_; (try clear hb); (try clear hb2); (try clear hk); (try clear hi); (try clear ho0); (try clear ho1); have p275 : 0 ≤ (0 : Int) := (by omega); have q275 : 0 < (x0_2.length : Int) := of_decide_eq_true (by first | (with_reducible assumption) | assumption); obtain ⟨ad275, e275, hx275_0⟩ := Kd.at_int (Kd.V_reads' HO_0.out).2.2 0 p275 q275; cases e275; have qi275 : (0 < x0_2.length) = True := eq_true (by omega); (try rw [show ((0 : Int)).toNat = 0 from rfl] at hx275_0); (try rw [Addr.add_zero'] at hx275_0); replace p275 := eq_true p275; replace q275 := eq_true q275; obtain ⟨Ao49, co49, eo49⟩ := Kd.R_slice HO264.out; subst eo49) | ((with_reducible refine gate_builtin (b := .append) (xs := #[.tmp 69, .tmp 75]) rfl ?_); at_builtin; refine Kd.R_append k42 (w0 := w) w.heap.size rfl (.tmp 69) (.tmp 75) 39 42 (.agg #[(.int .i64 0), (.slice none 0 0)]) 32 rfl Try.underlying39 info42 rfl (by decide) (by omega) u6 x6_2 (⟨rd x0_2 0, t262⟩ : S42) [.int .i64 (rd x0_2 0), .slice Ao49 t262.length co49] (fun k_ => (w.heap.size ≤ k_)) (fun k_ => ((fun k_ => (w.heap.size ≤ k_))) k_ ∧ some k_ ≠ (u6 : Value).ownBlock) rfl rfl ?aP (fun _ hk => hk) ?aF ?aO ?aB ?aS ?aL ?_; (case aP => exact k42_mkM _ _ _ (⟨rd x0_2 0, t262⟩ : S42) (Kd.R_mono (HO264.out) (fun k_ hk => ⟨hk.1.1, hk.2⟩))); (case aB => exact (by repeat (first | (with_reducible first | exact HB.out | apply below_alloc | apply pw_below_drewN | apply below_drew1) | exact HB.out))); (case aF => exact (fun k_ hk => (Nat.le_trans (below_size (by repeat (first | (with_reducible first | exact HB.out | apply below_alloc | apply pw_below_drewN | apply below_drew1) | exact HB.out))) hk))); (case aO => exact (by (with_reducible repeat (first | apply Kd.R_alloc | apply Kd.R_drewN | apply Kd.R_drew)); exact Kd.R_mono HO_6.out (fun _ hk => hk.1))); (case aS => exact (below_size (by repeat (first | (with_reducible first | exact HB.out | apply below_alloc | apply pw_below_drewN | apply below_drew1) | exact HB.out)))); (case aL => have := LMc45.out; omega); intro v277 w50 ho hb hg hat; rw [← Ny276.out] at ho; have n0_ := Aside0.mk (Kd.V_afterv (ok := (fun k_ => (P0_ k_ ∨ w.heap.size ≤ k_) ∧ some k_ ≠ (.slice Ao49 t262.length co49 : Value).ownBlock)) (by (with_reducible repeat (first | apply Kd.V_alloc | apply Kd.V_drewN | apply Kd.V_drew)); exact Kd.V_mono HO_0.out (fun _ hk => ⟨⟨hk.1.1, hk.2⟩, hk.1.2⟩)) hg hat); have n1_ := Aside0.mk (Kd.V_afterv (ok := (fun k_ => (P0_ k_ ∨ w.heap.size ≤ k_) ∧ some k_ ≠ (.slice Ao49 t262.length co49 : Value).ownBlock)) (by (with_reducible repeat (first | apply Kd.V_alloc | apply Kd.V_drewN | apply Kd.V_drew)); exact Kd.V_mono HO261.out (fun _ hk => ⟨⟨hk.1.1, hk.2⟩, hk.1.2⟩)) hg hat); have n2_ := Aside0.mk (Kd.V_afterv (ok := (fun k_ => (P0_ k_ ∨ w.heap.size ≤ k_) ∧ some k_ ≠ (.slice Ao49 t262.length co49 : Value).ownBlock)) (by (with_reducible repeat (first | apply Kd.V_alloc | apply Kd.V_drewN | apply Kd.V_drew)); exact Kd.V_mono HO267.out (fun _ hk => ⟨⟨hk.1, hk.2.1⟩, hk.2.2⟩)) hg hat); have n3_ := Aside0.mk (hb); have n4_ := Aside0.mk (ho); clear HO_0; clear HO261; clear HO267; clear HB; clear HO_6; clear HO264; have HO_0 := n0_; have HO261 := n1_; have HO267 := n2_; have HB := n3_; have HO278 := n4_; clear n0_ n1_ n2_ n3_ n4_; clear ho hb hg hat))
                                    go_roundg kj11
                                    case measure => have := HJ4.out; have := HK2.out; have := HJ11.out; omega
                                    case rel => exact ⟨(t265), (y276), (wrap64 (x27_2 + 1)), (by first | rfl | (simp; done) | (simp [*]; done)), H', ⟨by have := HJ4.out; have := HK2.out; have := HJ11.out; omega⟩, ⟨by (with_reducible repeat (first | apply Kd.V_alloc | apply Kd.V_drewN | apply Kd.V_drew)); exact Kd.V_mono HO267.out (fun _ hk => ⟨hk.1.1, hk.2⟩)⟩, ⟨by (with_reducible repeat (first | apply Kd.R_alloc | apply Kd.R_drewN | apply Kd.R_drew)); exact HO278.out⟩, ⟨by repeat (first | (with_reducible first | exact HB.out | apply below_alloc | apply pw_below_drewN | apply below_drew1) | exact HB.out)⟩⟩
                                  · rw [if_neg c45] at H
                                    exact absurd H (by simp)
                                · rw [if_neg c44] at H
                                  exact absurd H (by simp)
                            · replace c22 := Bool.eq_false_iff.mpr c22
                              subst c22
                              have H1 : (some (([] : List (S42)), ([] : List Int), false)) = some (r1, r2, r3) := by rw [if_neg (show ¬ (false = true) by decide)] at H; exact H
                              clear H
                              have H := H1
                              clear H1
                              simp only [Option.some.injEq, Prod.mk.injEq] at H
                              obtain ⟨rfl, rfl, rfl⟩ := H
                              obtain ⟨Ao52, co52, eo52⟩ := Kd.V_slice HO_0.out
                              subst eo52
                              have q51 : (1 : Int) ≤ ((x0_2.length : Int) : Int) := of_decide_eq_true (by first | (with_reducible assumption) | assumption)
                              obtain ⟨i051, hi051, _, hsz51, _⟩ := info_parts info3
                              have hroom51 : x0_2.length ≤ co52 := (Kd.V_reads' HO_0.out).2.1
                              have hC51 : Kd.F (Kd.int .i64) _ _ Ao52 x0_2.length x0_2 := (Kd.V_at (base := w.heap.size) HO_0.out).2.2
                              have hcut51 := cut_from (P := Try.prog) 23 3 .i64 Try.underlying23 hi051 1 hsz51 Ao52 x0_2.length co52 1 (by omega) q51
                              have hr51 := Kd.F_cut (m := (1 : Int).toNat) (c := co52) hC51 (by omega) hroom51
                              obtain ⟨A51, hA51⟩ : ∃ A_, A_ = (if co52 = (1 : Int).toNat then Ao52 else (Ao52 : Option Addr).map (·.add ((1 : Int).toNat * 1))) := ⟨_, rfl⟩
                              obtain ⟨c51, hc51⟩ : ∃ c_, c_ = co52 - (1 : Int).toNat := ⟨_, rfl⟩
                              have hy51 : y257.length = x0_2.length - (1 : Int).toNat := (by rw [Ny257.out, List.length_drop] <;> omega)
                              rw [show (x0_2).drop (1 : Int).toNat = y257 from Ny257.out.symm] at hr51
                              replace hr51 : Kd.F (Kd.int .i64) _ _ A51 y257.length y257 := (by rw [hA51]; exact hr51)
                              rw [← hy51, ← hA51, ← hc51] at hcut51
                              have HO261 := Aside0.mk (show Kd.V (Kd.int .i64) 3 _ w.heap.size _ (.slice A51 y257.length c51) y257 from Kd.V_mk (by rw [hy51, hc51]; exact Nat.sub_le_sub_right hroom51 _) hr51)
                              have HC261 := Aside0.mk (show y257.length ≤ c51 from by rw [hy51, hc51]; exact Nat.sub_le_sub_right hroom51 _)
                              clear hr51 hC51 hroom51 hi051 hsz51 hc51
                              have KY51 := Aside0.mk hy51
                              have KA51 := Aside0.mk hA51
                              clear hy51 hA51
                              replace q51 := eq_true q51
                              go_wp2_with (first | ((with_reducible refine gate_callee (f := 30) rfl ?_); refine goesL_ (some 48) rfl rfl Try.func30 (by kernel_rfl) rfl #[.slice A51 y257.length c51] rfl (by (try simp only [List.map_toArray, List.map_cons, List.map_nil]); first | done | rfl | (simp only [List.length_drop, List.length_take]; rfl)) ?_; (with_reducible refine (ih kj11 (by have := HJ4.out; have := HK2.out; have := HJ11.out; omega) (fun k_ => ((P0_ k_ ∨ w.heap.size ≤ k_) ∧ some k_ ≠ (u6 : Value).ownBlock)) _ _ y257 t262 t265 false _ ?side1 A21.out).mono ?_); (case side1 => exact HO261.out); rintro e w53 ⟨v263, v266, rfl, ho0, ho1, hb⟩; refine ⟨_, rfl, ?_⟩; have n0_ := Aside0.mk (Kd.V_elder' (by (with_reducible repeat (first | apply Kd.V_alloc | apply Kd.V_drewN | apply Kd.V_drew)); exact HO_0.out) (Kd.R_base ho0) hb); have n1_ := Aside0.mk (Kd.R_elder' (by (with_reducible repeat (first | apply Kd.R_alloc | apply Kd.R_drewN | apply Kd.R_drew)); exact HO_6.out) (Kd.R_base ho0) hb); have n2_ := Aside0.mk (Kd.V_elder' (by (with_reducible repeat (first | apply Kd.V_alloc | apply Kd.V_drewN | apply Kd.V_drew)); exact HO261.out) (Kd.R_base ho0) hb); have n3_ := Aside0.mk (Kd.R_lower (Kd.R_new' (Kd.R_newM (M := fun k_ => (w.heap.size ≤ k_)) (Kd.R_mono (ok' := fun k_ => True) ho0 (fun _ hk_ => trivial)) (below_size (by repeat (first | (with_reducible first | exact HB.out | apply below_alloc | apply pw_below_drewN | apply below_drew1) | exact HB.out))) (fun k_ h_ => h_)) (Kd.R_lt (by (with_reducible repeat (first | apply Kd.R_alloc | apply Kd.R_drewN | apply Kd.R_drew)); exact HO_6.out))) (below_size (by repeat (first | (with_reducible first | exact HB.out | apply below_alloc | apply pw_below_drewN | apply below_drew1) | exact HB.out)))); have n4_ := Aside0.mk (Kd.V_lower (Kd.V_mono (ok' := fun k_ => (P0_ k_ ∨ w.heap.size ≤ k_) ∧ some k_ ≠ (v263 : Value).ownBlock ∧ some k_ ≠ (u6 : Value).ownBlock) ho1 (fun k_ hk_ => ⟨Or.elim hk_.1 (fun hs_ => hs_.1) (fun hn_ => (.inr (Nat.le_trans (below_size (by repeat (first | (with_reducible first | exact HB.out | apply below_alloc | apply pw_below_drewN | apply below_drew1) | exact HB.out))) hn_))), hk_.2, Or.elim hk_.1 (fun hs_ => hs_.2) (fun hn_ => (Kd.fresh' (Kd.R_lt (by (with_reducible repeat (first | apply Kd.R_alloc | apply Kd.R_drewN | apply Kd.R_drew)); exact HO_6.out)) k_ hn_))⟩)) (below_size (by repeat (first | (with_reducible first | exact HB.out | apply below_alloc | apply pw_below_drewN | apply below_drew1) | exact HB.out)))); have n5_ := Aside0.mk (below_step (by repeat (first | (with_reducible first | exact HB.out | apply below_alloc | apply pw_below_drewN | apply below_drew1) | exact HB.out)) hb); clear HO_0; clear HO_6; clear HO261; clear HB; have HO_0 := n0_; have HO_6 := n1_; have HO261 := n2_; have HO264 := n3_; have HO267 := n4_; have HB := n5_; clear n0_ n1_ n2_ n3_ n4_ n5_; (try clear hb); (try clear hb2); (try clear hk); (try clear hi); (try clear ho0); (try clear ho1)))
                              go_ret3
                              exact ⟨_, _, by first | rfl | (simp [errW_none, errW_some] <;> rfl) | (simp [*, errW_none, errW_some] <;> rfl), by first | exact Kd.R_nil _ _ _ _ _ | exact Kd.N_nil _ _ _ _ _ | exact Kd.V_nil _ _ _ _ _ | exact Kd.Y_nil _ _ _ _ _ | exact Kd.S_nil _ _ _ _ _, (by exact Kd.V_nil _ _ _ _ _), by repeat (first | (with_reducible first | exact HB.out | apply below_alloc | apply pw_below_drewN | apply below_drew1) | exact HB.out)⟩
                          · rw [if_neg c20] at H
                            exact absurd H (by simp)
                  · rw [if_neg c11] at H
                    have c11b0 : decide (x27_2 < (rd l0 0)) = false := decide_eq_false c11
                    clear c11
                    simp only [Option.some.injEq, Prod.mk.injEq] at H
                    obtain ⟨rfl, rfl, rfl⟩ := H
                    go_wp2
                    go_ret3
                    exact ⟨_, _, by first | rfl | (simp [errW_none, errW_some] <;> rfl) | (simp [*, errW_none, errW_some] <;> rfl), by (with_reducible repeat (first | apply Kd.R_alloc | apply Kd.R_drewN | apply Kd.R_drew)); exact HO_6.out, by (with_reducible repeat (first | apply Kd.V_alloc | apply Kd.V_drewN | apply Kd.V_drew)); exact HO_0.out, by repeat (first | (with_reducible first | exact HB.out | apply below_alloc | apply pw_below_drewN | apply below_drew1) | exact HB.out)⟩
      · rw [if_neg c4] at H
        exact absurd H (by simp)
    · rw [if_neg c3] at H
      exact absurd H (by simp)

/-! ### impl_ordOf: function 23 -/
def impl_ordOf.f (k : Nat) (l0 : List Int) : Option ((List (S42)) × Bool) := if (l0.length : Int) < 1 then (some (([] : List (S42)), false)) else (if (l0.length : Int) > 60 then (some (([] : List (S42)), false)) else ((impl_takeOrd.f k l0).bind fun bt279 => (if bt279.2.2 = true then (some (bt279.1, ((bt279.2.1.length : Int) == 0))) else (some (bt279.1, false)))))
theorem impl_ordOf.mono : ∀ a0 k, LeO (impl_ordOf.f k a0) (impl_ordOf.f (k + 1) a0) := by
  intro a0 k
  unfold impl_ordOf.f
  repeat' first
      | (with_reducible exact impl_takeOrd.mono _ _)
      | (with_reducible exact LeO.refl _)
      | (with_reducible exact LeO.none _)
      | (with_reducible refine LeO.ite ?_ ?_)
      | (with_reducible refine LeO.bind ?_ (fun _ => ?_))
      | exact impl_takeOrd.mono _ _
      | exact LeO.none _
      | refine LeO.ite ?_ ?_
      | refine LeO.bind ?_ (fun _ => ?_)
set_option maxHeartbeats 8000000 in
set_option maxRecDepth 100000 in
theorem impl_ordOf.calls (k : Nat) (A0 : Option Addr) (c0 : Nat) (l0 : List Int) (r1 : List (S42)) (r2 : Bool) (w : World) (hr0 : Kd.C (Kd.int .i64) w A0 l0.length l0) (hc0 : l0.length ≤ c0) (h : impl_ordOf.f k l0 = some (r1, r2)) :
    Calls Try.prog 23 #[.slice A0 l0.length c0] w fun e w' => ∃ v0_ : Value, e = .returned (.tuple #[v0_, .bool r2]) ∧ Kd.R k42 42 w' w.heap.size (fun _ => True) v0_ r1 ∧ Below w.heap.size w w' := by
  have HR0 := Aside0.mk hr0
  have HC0 := Aside0.mk hc0
  clear hr0 hc0
  have HB := Aside0.mk (Below.refl w.heap.size w)
  have H : (if (l0.length : Int) < 1 then (some (([] : List (S42)), false)) else (if (l0.length : Int) > 60 then (some (([] : List (S42)), false)) else ((impl_takeOrd.f k l0).bind fun bt279 => (if bt279.2.2 = true then (some (bt279.1, ((bt279.2.1.length : Int) == 0))) else (some (bt279.1, false)))))) = some (r1, r2) := h
  clear h
  by_cases c2 : (l0.length : Int) < 1
  · rw [if_pos c2] at H
    have c2b0 : decide ((l0.length : Int) < 1) = true := decide_eq_true c2
    have c2b1 : decide (l0.length < 1) = true := decide_eq_true (by omega)
    clear c2
    simp only [Option.some.injEq, Prod.mk.injEq] at H
    obtain ⟨rfl, rfl⟩ := H
    go_enter Try.func23, Try.ntmps23
    go_wp2
    go_ret2
    exact ⟨_, by first | rfl | (simp [errW_none, errW_some] <;> rfl) | (simp [*, errW_none, errW_some] <;> rfl), by first | exact Kd.R_nil _ _ _ _ _ | exact Kd.N_nil _ _ _ _ _ | exact Kd.V_nil _ _ _ _ _ | exact Kd.Y_nil _ _ _ _ _ | exact Kd.S_nil _ _ _ _ _, by repeat (first | (with_reducible first | exact HB.out | apply below_alloc | apply pw_below_drewN | apply below_drew1) | exact HB.out)⟩
  · rw [if_neg c2] at H
    have c2b0 : decide ((l0.length : Int) < 1) = false := decide_eq_false c2
    have c2b1 : decide (l0.length < 1) = false := decide_eq_false (by omega)
    clear c2
    by_cases c3 : (l0.length : Int) > 60
    · rw [if_pos c3] at H
      have c3b0 : decide (60 < (l0.length : Int)) = true := decide_eq_true c3
      have c3b1 : decide (60 < l0.length) = true := decide_eq_true (by omega)
      clear c3
      simp only [Option.some.injEq, Prod.mk.injEq] at H
      obtain ⟨rfl, rfl⟩ := H
      go_enter Try.func23, Try.ntmps23
      go_wp2
      go_ret2
      exact ⟨_, by first | rfl | (simp [errW_none, errW_some] <;> rfl) | (simp [*, errW_none, errW_some] <;> rfl), by first | exact Kd.R_nil _ _ _ _ _ | exact Kd.N_nil _ _ _ _ _ | exact Kd.V_nil _ _ _ _ _ | exact Kd.Y_nil _ _ _ _ _ | exact Kd.S_nil _ _ _ _ _, by repeat (first | (with_reducible first | exact HB.out | apply below_alloc | apply pw_below_drewN | apply below_drew1) | exact HB.out)⟩
    · rw [if_neg c3] at H
      have c3b0 : decide (60 < (l0.length : Int)) = false := decide_eq_false c3
      have c3b1 : decide (60 < l0.length) = false := decide_eq_false (by omega)
      clear c3
      replace H := Option.bind_eq_some_iff.mp H
      obtain ⟨⟨t279, t282, t285⟩, A40, H⟩ := H
      replace H : (if t285 = true then (some (t279, ((t282.length : Int) == 0))) else (some (t279, false))) = some (r1, r2) := H
      have A4 := Aside0.mk A40
      clear A40
      by_cases c5 : t285 = true
      · subst c5
        have H1 : (some (t279, ((t282.length : Int) == 0))) = some (r1, r2) := by rw [if_pos rfl] at H; exact H
        clear H
        have H := H1
        clear H1
        simp only [Option.some.injEq, Prod.mk.injEq] at H
        obtain ⟨rfl, rfl⟩ := H
        go_enter Try.func23, Try.ntmps23
        go_wp2_with (first | ((with_reducible refine gate_callee (f := 30) rfl ?_); refine goesL_ (some 17) rfl rfl Try.func30 (by kernel_rfl) rfl #[.slice A0 l0.length c0] rfl (by (try simp only [List.map_toArray, List.map_cons, List.map_nil]); first | done | rfl | (simp only [List.length_drop, List.length_take]; rfl)) ?_; (with_reducible refine (impl_takeOrd.calls k (fun k_ => k_ < w.heap.size) _ _ l0 t279 t282 true _ ?side1 A4.out).mono ?_); (case side1 => exact Kd.V_mk HC0.out (Kd.F_below (Kd.C_F (Kd.heap_int .i64) HR0.out) (by repeat (first | (with_reducible first | exact HB.out | apply below_alloc | apply pw_below_drewN | apply below_drew1) | exact HB.out)))); rintro e w6 ⟨v280, v283, rfl, ho0, ho1, hb⟩; refine ⟨_, rfl, ?_⟩; have n0_ := Aside0.mk (Kd.R_lower (Kd.R_mono (ok' := fun k_ => True) ho0 (fun _ hk_ => trivial)) (below_size (by repeat (first | (with_reducible first | exact HB.out | apply below_alloc | apply pw_below_drewN | apply below_drew1) | exact HB.out)))); have n1_ := Aside0.mk (Kd.V_lower (Kd.V_mono (ok' := fun k_ => some k_ ≠ (v280 : Value).ownBlock) ho1 (fun k_ hk_ => hk_.2)) (below_size (by repeat (first | (with_reducible first | exact HB.out | apply below_alloc | apply pw_below_drewN | apply below_drew1) | exact HB.out)))); have n2_ := Aside0.mk (below_step (by repeat (first | (with_reducible first | exact HB.out | apply below_alloc | apply pw_below_drewN | apply below_drew1) | exact HB.out)) hb); clear HB; have HO281 := n0_; have HO284 := n1_; have HB := n2_; clear n0_ n1_ n2_; (try clear hb); (try clear hb2); (try clear hk); (try clear hi); (try clear ho0); (try clear ho1); obtain ⟨Ao7, co7, eo7⟩ := Kd.V_slice HO284.out; subst eo7))
        go_ret2
        exact ⟨_, by first | rfl | (simp [errW_none, errW_some] <;> rfl) | (simp [*, errW_none, errW_some] <;> rfl), by (with_reducible repeat (first | apply Kd.R_alloc | apply Kd.R_drewN | apply Kd.R_drew)); exact HO281.out, by repeat (first | (with_reducible first | exact HB.out | apply below_alloc | apply pw_below_drewN | apply below_drew1) | exact HB.out)⟩
      · replace c5 := Bool.eq_false_iff.mpr c5
        subst c5
        have H1 : (some (t279, false)) = some (r1, r2) := by rw [if_neg (show ¬ (false = true) by decide)] at H; exact H
        clear H
        have H := H1
        clear H1
        simp only [Option.some.injEq, Prod.mk.injEq] at H
        obtain ⟨rfl, rfl⟩ := H
        go_enter Try.func23, Try.ntmps23
        go_wp2_with (first | ((with_reducible refine gate_callee (f := 30) rfl ?_); refine goesL_ (some 17) rfl rfl Try.func30 (by kernel_rfl) rfl #[.slice A0 l0.length c0] rfl (by (try simp only [List.map_toArray, List.map_cons, List.map_nil]); first | done | rfl | (simp only [List.length_drop, List.length_take]; rfl)) ?_; (with_reducible refine (impl_takeOrd.calls k (fun k_ => k_ < w.heap.size) _ _ l0 t279 t282 false _ ?side1 A4.out).mono ?_); (case side1 => exact Kd.V_mk HC0.out (Kd.F_below (Kd.C_F (Kd.heap_int .i64) HR0.out) (by repeat (first | (with_reducible first | exact HB.out | apply below_alloc | apply pw_below_drewN | apply below_drew1) | exact HB.out)))); rintro e w8 ⟨v280, v283, rfl, ho0, ho1, hb⟩; refine ⟨_, rfl, ?_⟩; have n0_ := Aside0.mk (Kd.R_lower (Kd.R_mono (ok' := fun k_ => True) ho0 (fun _ hk_ => trivial)) (below_size (by repeat (first | (with_reducible first | exact HB.out | apply below_alloc | apply pw_below_drewN | apply below_drew1) | exact HB.out)))); have n1_ := Aside0.mk (Kd.V_lower (Kd.V_mono (ok' := fun k_ => some k_ ≠ (v280 : Value).ownBlock) ho1 (fun k_ hk_ => hk_.2)) (below_size (by repeat (first | (with_reducible first | exact HB.out | apply below_alloc | apply pw_below_drewN | apply below_drew1) | exact HB.out)))); have n2_ := Aside0.mk (below_step (by repeat (first | (with_reducible first | exact HB.out | apply below_alloc | apply pw_below_drewN | apply below_drew1) | exact HB.out)) hb); clear HB; have HO281 := n0_; have HO284 := n1_; have HB := n2_; clear n0_ n1_ n2_; (try clear hb); (try clear hb2); (try clear hk); (try clear hi); (try clear ho0); (try clear ho1)))
        go_ret2
        exact ⟨_, by first | rfl | (simp [errW_none, errW_some] <;> rfl) | (simp [*, errW_none, errW_some] <;> rfl), by (with_reducible repeat (first | apply Kd.R_alloc | apply Kd.R_drewN | apply Kd.R_drew)); exact HO281.out, by repeat (first | (with_reducible first | exact HB.out | apply below_alloc | apply pw_below_drewN | apply below_drew1) | exact HB.out)⟩

/-! ### impl_sizeOf: function 31 -/
mutual
def impl_sizeOf.l0 : Nat → Int → List (S42) → Int → Int → Option (Int)
  | 0, _, _, _, _ => none
  | k + 1, x3, x6, x7, x8 => if x8 < x7 then (if 0 ≤ x8 then (if x8 < (x6.length : Int) then ((impl_sizeOf.f k ((rd_T42 x6 x8).f1)).bind fun t288 => (impl_sizeOf.l0 k (wrap64 (x3 + (wrap64 (1 + t288)))) x6 x7 (wrap64 (x8 + 1)))) else (none)) else (none)) else (some x3)
def impl_sizeOf.f : Nat → List (S42) → Option (Int)
  | 0, _ => none
  | k + 1, l0 => impl_sizeOf.l0 k 1 l0 (l0.length : Int) 0
end
theorem impl_sizeOf.mono_l : ∀ k, (∀ y0, LeO (impl_sizeOf.f k y0) (impl_sizeOf.f (k + 1) y0)) ∧ (∀ y0 y1 y2 y3, LeO (impl_sizeOf.l0 k y0 y1 y2 y3) (impl_sizeOf.l0 (k + 1) y0 y1 y2 y3))
  | 0 => ⟨fun _ r h => by simp [impl_sizeOf.f] at h, fun _ _ _ _ r h => by simp [impl_sizeOf.l0] at h⟩
  | k + 1 => by
    obtain ⟨ih0, ih1⟩ := impl_sizeOf.mono_l k
    refine ⟨?_, ?_⟩
    · intro y0
      unfold impl_sizeOf.f
      repeat' first
      | (with_reducible exact ih0 _)
      | (with_reducible exact ih1 _ _ _ _)
      | (with_reducible exact LeO.refl _)
      | (with_reducible exact LeO.none _)
      | (with_reducible refine LeO.ite ?_ ?_)
      | (with_reducible refine LeO.bind ?_ (fun _ => ?_))
      | exact ih0 _
      | exact ih1 _ _ _ _
      | exact LeO.none _
      | refine LeO.ite ?_ ?_
      | refine LeO.bind ?_ (fun _ => ?_)
    · intro y0 y1 y2 y3
      unfold impl_sizeOf.l0
      repeat' first
      | (with_reducible exact ih0 _)
      | (with_reducible exact ih1 _ _ _ _)
      | (with_reducible exact LeO.refl _)
      | (with_reducible exact LeO.none _)
      | (with_reducible refine LeO.ite ?_ ?_)
      | (with_reducible refine LeO.bind ?_ (fun _ => ?_))
      | exact ih0 _
      | exact ih1 _ _ _ _
      | exact LeO.none _
      | refine LeO.ite ?_ ?_
      | refine LeO.bind ?_ (fun _ => ?_)
theorem impl_sizeOf.mono : ∀ a0 k, LeO (impl_sizeOf.f k a0) (impl_sizeOf.f (k + 1) a0) := by
  intro a0 k
  obtain ⟨ih0, ih1⟩ := impl_sizeOf.mono_l k
  exact ih0 a0
set_option maxHeartbeats 8000000 in
set_option maxRecDepth 100000 in
theorem impl_sizeOf.calls (k : Nat) : ∀ (A0 : Option Addr) (c0 : Nat) (l0 : List (S42)) (r : Int) (w : World) (hr0 : Kd.C k42 w A0 l0.length l0) (hc0 : l0.length ≤ c0) (h : impl_sizeOf.f k l0 = some r),
    Calls Try.prog 31 #[.slice A0 l0.length c0] w fun e w' => e = .returned (.int .i64 r) ∧ Below w.heap.size w w' := by
  induction k using Nat.strongRecOn with
  | _ k ih =>
  intro A0 c0 l0 r w hr0 hc0 h
  cases k with
  | zero => exact absurd h (by simp [impl_sizeOf.f])
  | succ k =>
  simp only [impl_sizeOf.f] at h
  have hu42 := Try.underlying42
  have HR0 := Aside0.mk hr0
  have HC0 := Aside0.mk hc0
  clear hr0 hc0
  have HB := Aside0.mk (Below.refl w.heap.size w)
  have H : (impl_sizeOf.l0 k 1 l0 (l0.length : Int) 0) = some r := h
  clear h
  have H' := Aside0.mk H
  clear H
  go_enter Try.func31, Try.ntmps31
  go_wp2
  go_loopg [3, 8] k (fun kq v3 v8 w' => ∃ (x3_1 : Int) (x8_1 : Int), v3 = .int .i64 x3_1 ∧ v8 = .int .i64 x8_1 ∧ Aside0 (impl_sizeOf.l0 kq x3_1 l0 (l0.length : Int) x8_1 = some r) ∧ Aside0 (kq ≤ k) ∧ Aside0 (Below w.heap.size w w'))
  case atStart => exact ⟨(1), (0), (by first | rfl | (simp; done) | (simp [*]; done)), (by first | rfl | (simp; done) | (simp [*]; done)), H', ⟨Nat.le_refl _⟩, ⟨by repeat (first | (with_reducible first | exact HB.out | apply below_alloc | apply pw_below_drewN | apply below_drew1) | exact HB.out)⟩⟩
  case round =>
    clear H'
    obtain ⟨x3_1, x8_1, rfl, rfl, HA, HK1, HB⟩ := hrel
    cases gk with
    | zero => exact absurd HA.out (by simp [impl_sizeOf.l0])
    | succ k1 =>
      have H := HA.out
      clear HA
      simp only [impl_sizeOf.l0] at H
      by_cases c2 : x8_1 < (l0.length : Int)
      · rw [if_pos c2] at H
        have c2b0 : decide (x8_1 < (l0.length : Int)) = true := decide_eq_true c2
        clear c2
        by_cases c3 : 0 ≤ x8_1
        · rw [if_pos c3] at H
          have c3b0 : decide (0 ≤ x8_1) = true := decide_eq_true c3
          clear c3
          by_cases c4 : x8_1 < (l0.length : Int)
          · rw [if_pos c4] at H
            have c4b0 : decide (x8_1 < (l0.length : Int)) = true := decide_eq_true c4
            clear c4
            replace H := Option.bind_eq_some_iff.mp H
            obtain ⟨t288, A50, H⟩ := H
            replace H : (impl_sizeOf.l0 k1 (wrap64 (x3_1 + (wrap64 (1 + t288)))) l0 (l0.length : Int) (wrap64 (x8_1 + 1))) = some r := H
            have A5 := Aside0.mk A50
            clear A50
            have H' := Aside0.mk H
            clear H
            have p286 : 0 ≤ (x8_1 : Int) := of_decide_eq_true (by first | (with_reducible assumption) | assumption)
            have q286 : x8_1 < (l0.length : Int) := of_decide_eq_true (by first | (with_reducible assumption) | assumption)
            obtain ⟨ad286, A286_1, c286_1, e286, hx286_0, hx286_1, hl286_1, hi286_1⟩ := at_T42 HR0.out x8_1 p286 q286
            cases e286
            replace hx286_0 := (HB.out.cell (World.block_lt_of_cell? w _ hx286_0)).trans hx286_0
            replace hx286_1 := (HB.out.cell (World.block_lt_of_cell? w _ hx286_1)).trans hx286_1
            have HR286_1 := Aside0.mk hi286_1
            have HC286_1 := Aside0.mk hl286_1
            clear hi286_1 hl286_1
            replace p286 := eq_true p286
            replace q286 := eq_true q286
            go_wp2_with (first | ((with_reducible refine gate_dst (N := 5) rfl ?_); refine box_event ?hg (N := 5) ?hd (cs := #[.int .i64 0, .slice none 0 0]) (t := 42) ?hr ?_; (case hd => rfl); (case hg => rfl); (case hr => first | (go_simp; done) | (go_simp; rfl)); intro gb287 hg w6 hbox hb; have n0_ := Aside0.mk (below_step (by repeat (first | (with_reducible first | exact HB.out | apply below_alloc | apply pw_below_drewN | apply below_drew1) | exact HB.out)) hb); have n1_ := Aside0.mk (hbox); have n2_ := Aside0.mk ((by rw [hg]; exact (below_size (by repeat (first | (with_reducible first | exact HB.out | apply below_alloc | apply pw_below_drewN | apply below_drew1) | exact HB.out))) : w.heap.size ≤ gb287)); have n3_ := Aside0.mk ((by rw [hg]; exact (below_size (by repeat (first | (with_reducible first | exact HB.out | apply below_alloc | apply pw_below_drewN | apply below_drew1) | exact HB.out))) : w.heap.size ≤ gb287)); clear HB; have HB := n0_; have BK287 := n1_; have GW287 := n2_; have GE287 := n3_; clear n0_ n1_ n2_ n3_; clear hb hbox hg; have hcz7_0 : w6.cell? ⟨gb287, 0, none⟩ = some (.int .i64 0) := (blk_cell BK287.out 0).trans rfl; have hcz7_1 : w6.cell? ⟨gb287, 1, none⟩ = some (.slice none 0 0) := (blk_cell BK287.out 1).trans rfl; have hfz7_0 := blk_frozen BK287.out 0; have hfz7_1 := blk_frozen BK287.out 1) | ((with_reducible refine gate_callee (f := 31) rfl ?_); refine goesL_ (some 15) rfl rfl Try.func31 (by kernel_rfl) rfl #[.slice A286_1 ((rd_T42 l0 x8_1).f1).length c286_1] rfl (by (try simp only [List.map_toArray, List.map_cons, List.map_nil]); first | done | rfl | (simp only [List.length_drop, List.length_take]; rfl)) ?_; (with_reducible refine (ih k1 (by have := HK1.out; omega) _ _ ((rd_T42 l0 x8_1).f1) t288 _ ?side1 ?side2 A5.out).mono ?_); (case side1 => exact Kd.C_below HR286_1.out (by repeat (first | (with_reducible first | exact HB.out | apply below_alloc | apply pw_below_drewN | apply below_drew1 | refine below_set ?_ GE287.out) | exact HB.out))); (case side2 => exact HC286_1.out); rintro e w8 ⟨rfl, hb⟩; refine ⟨_, rfl, ?_⟩; have n0_ := Aside0.mk (blk_below (g := gb287) (o := .cells #[.int .i64 ((rd_T42 l0 x8_1).f0), .slice A286_1 ((rd_T42 l0 x8_1).f1).length c286_1] 42 (0, 0)) (by (with_reducible repeat (first | refine blk_drewN ?_ _ | refine blk_drew ?_ | refine blk_alloc ?_ _)); refine blk_put (cs := #[.int .i64 ((rd_T42 l0 x8_1).f0), .slice none 0 0]) ?_ 1 _ rfl; (with_reducible repeat (first | refine blk_drewN ?_ _ | refine blk_drew ?_ | refine blk_alloc ?_ _)); refine blk_put (cs := #[.int .i64 0, .slice none 0 0]) ?_ 0 _ rfl; (with_reducible repeat (first | refine blk_drewN ?_ _ | refine blk_drew ?_ | refine blk_alloc ?_ _)); exact BK287.out) hb); have n1_ := Aside0.mk (below_step (by repeat (first | (with_reducible first | exact HB.out | apply below_alloc | apply pw_below_drewN | apply below_drew1 | refine below_set ?_ GE287.out) | exact HB.out)) hb); clear BK287; clear HB; have BK287 := n0_; have HB := n1_; clear n0_ n1_; (try clear hb); (try clear hb2); (try clear hk); (try clear hi)))
            go_roundg k1
            case measure => have := HK1.out; omega
            case rel => exact ⟨(wrap64 (x3_1 + (wrap64 (1 + t288)))), (wrap64 (x8_1 + 1)), (by first | rfl | (simp; done) | (simp [*]; done)), (by first | rfl | (simp; done) | (simp [*]; done)), H', ⟨by have := HK1.out; omega⟩, ⟨by repeat (first | (with_reducible first | exact HB.out | apply below_alloc | apply pw_below_drewN | apply below_drew1 | refine below_set ?_ GE287.out) | exact HB.out)⟩⟩
          · rw [if_neg c4] at H
            exact absurd H (by simp)
        · rw [if_neg c3] at H
          exact absurd H (by simp)
      · rw [if_neg c2] at H
        have c2b0 : decide (x8_1 < (l0.length : Int)) = false := decide_eq_false c2
        clear c2
        obtain rfl := Option.some.inj H
        go_wp2
        go_ret
        exact ⟨by first | rfl | (simp [errW_none, errW_some] <;> rfl) | (simp [*, errW_none, errW_some] <;> rfl), by repeat (first | (with_reducible first | exact HB.out | apply below_alloc | apply pw_below_drewN | apply below_drew1) | exact HB.out)⟩

end Go.Proofs.Ytmmabfmomblllaa.La

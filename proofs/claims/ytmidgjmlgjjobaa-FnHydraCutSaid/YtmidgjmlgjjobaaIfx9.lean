-- Written by a program of this session's (wip/mp) out of the translation, over the kit's print with changes.
import Derived.Test.YtmidgjmlgjjobaaIfx0
import Derived.Test.YtmidgjmlgjjobaaIfx8
namespace Go.Proofs.Ytmidgjmlgjjobaa.If
open Go.RowKit Go.Proofs.YtmidgjmlgjjobaaW.PrintWords Go.Proofs.YtmidgjmlgjjobaaW.PrintLast Go.Proofs.YtmidgjmlgjjobaaW.PrintMore
attribute [local go_sem] max2_int min2_int max_two min_two max_three min_three max_four min_four   -- for this text's walks alone
set_option linter.unusedVariables false
set_option linter.unusedSimpArgs false

/-! ### impl_natural: function 65 -/
mutual
def impl_natural.l0 : Nat → List (S89) → List (S89) → List (S89) → Option ((List (S89)))
  | 0, _, _, _ => none
  | k + 1, x0, x1, x5 => if (x0.length : Int) > 0 then (impl_natural.j1 k x0 x1 x5 (decide ((x1.length : Int) > 0))) else (impl_natural.j1 k x0 x1 x5 false)
def impl_natural.j1 : Nat → List (S89) → List (S89) → List (S89) → Bool → Option ((List (S89)))
  | 0, _, _, _, _ => none
  | k + 1, x0, x1, x5, x15 => if x15 = true then (if 0 < (x0.length : Int) then (if 0 < (x1.length : Int) then ((impl_compare.f k ((rd_T89 x0 0).f1) ((rd_T89 x1 0).f1)).bind fun t394 => (if t394 > 0 then (if x5.length < 4398046511104 then (if 1 ≤ (x0.length : Int) then (impl_natural.l0 k (x0.drop 1) x1 (x5 ++ [(⟨(rd_T89 x0 0).f0, (rd_T89 x0 0).f1⟩ : S89)])) else (none)) else (none)) else (if t394 < 0 then (if x5.length < 4398046511104 then (if 1 ≤ (x1.length : Int) then (impl_natural.l0 k x0 (x1.drop 1) (x5 ++ [(⟨(rd_T89 x1 0).f0, (rd_T89 x1 0).f1⟩ : S89)])) else (none)) else (none)) else (if x5.length < 4398046511104 then (if 1 ≤ (x0.length : Int) then (if 1 ≤ (x1.length : Int) then (impl_natural.l0 k (x0.drop 1) (x1.drop 1) (x5 ++ [(⟨wrap64 (((rd_T89 x0 0).f0) + ((rd_T89 x1 0).f0)), (rd_T89 x0 0).f1⟩ : S89)])) else (none)) else (none)) else (none))))) else (none)) else (none)) else (if x5.length + x0.length < 4398046511104 then ((some (x5 ++ x0 : List (S89))).bind fun y386 => (if y386.length + x1.length < 4398046511104 then (some (y386 ++ x1)) else (none))) else (none))
end
def impl_natural.f (k : Nat) (l0 : List (S89)) (l1 : List (S89)) : Option ((List (S89))) := impl_natural.l0 k l0 l1 (([] : List (S89)))
theorem impl_natural.mono_l : ∀ k, (∀ y0 y1 y2, LeO (impl_natural.l0 k y0 y1 y2) (impl_natural.l0 (k + 1) y0 y1 y2)) ∧ (∀ y0 y1 y2 y3, LeO (impl_natural.j1 k y0 y1 y2 y3) (impl_natural.j1 (k + 1) y0 y1 y2 y3))
  | 0 => ⟨fun _ _ _ r h => by simp [impl_natural.l0] at h, fun _ _ _ _ r h => by simp [impl_natural.j1] at h⟩
  | k + 1 => by
    obtain ⟨ih0, ih1⟩ := impl_natural.mono_l k
    refine ⟨?_, ?_⟩
    · intro y0 y1 y2
      unfold impl_natural.l0
      repeat' first
      | (with_reducible exact ih0 _ _ _)
      | (with_reducible exact ih1 _ _ _ _)
      | (with_reducible exact impl_compare.mono _ _ _)
      | (with_reducible exact LeO.refl _)
      | (with_reducible exact LeO.none _)
      | (with_reducible refine LeO.ite ?_ ?_)
      | (with_reducible refine LeO.bind ?_ (fun _ => ?_))
      | exact ih0 _ _ _
      | exact ih1 _ _ _ _
      | exact impl_compare.mono _ _ _
      | exact LeO.none _
      | refine LeO.ite ?_ ?_
      | refine LeO.bind ?_ (fun _ => ?_)
    · intro y0 y1 y2 y3
      unfold impl_natural.j1
      repeat' first
      | (with_reducible exact ih0 _ _ _)
      | (with_reducible exact ih1 _ _ _ _)
      | (with_reducible exact impl_compare.mono _ _ _)
      | (with_reducible exact LeO.refl _)
      | (with_reducible exact LeO.none _)
      | (with_reducible refine LeO.ite ?_ ?_)
      | (with_reducible refine LeO.bind ?_ (fun _ => ?_))
      | exact ih0 _ _ _
      | exact ih1 _ _ _ _
      | exact impl_compare.mono _ _ _
      | exact LeO.none _
      | refine LeO.ite ?_ ?_
      | refine LeO.bind ?_ (fun _ => ?_)
theorem impl_natural.mono : ∀ a0 a1 k, LeO (impl_natural.f k a0 a1) (impl_natural.f (k + 1) a0 a1) := by
  intro a0 a1 k
  obtain ⟨ih0, ih1⟩ := impl_natural.mono_l k
  unfold impl_natural.f
  repeat' first
      | (with_reducible exact ih0 _ _ _)
      | (with_reducible exact ih1 _ _ _ _)
      | (with_reducible exact impl_compare.mono _ _ _)
      | (with_reducible exact LeO.refl _)
      | (with_reducible exact LeO.none _)
      | (with_reducible refine LeO.ite ?_ ?_)
      | (with_reducible refine LeO.bind ?_ (fun _ => ?_))
      | exact ih0 _ _ _
      | exact ih1 _ _ _ _
      | exact impl_compare.mono _ _ _
      | exact LeO.none _
      | refine LeO.ite ?_ ?_
      | refine LeO.bind ?_ (fun _ => ?_)
def impl_natural.T3 : Bool × List (List Nat × List Nat) := (true, [([], []), ([0], [0]), ([1], [1]), ([2], [2]), ([], []), ([4], [4]), ([5], [5]), ([6], [6]), ([3, 7], [3, 7]), ([8, 8, 0, 1, 2, 3, 4, 5, 6, 7, 8], [8])])
def impl_natural.B3 : List Nat := [0, 1, 3, 7, 0, 16, 48, 112, 255, 511]
theorem impl_natural.tab3 : rtab .any (opsOf Try.f65 3) = impl_natural.T3 := by kernel_rfl
theorem impl_natural.bits3 : waitsOk impl_natural.T3.2 impl_natural.B3 = true := by kernel_rfl
def impl_natural.T4 : Bool × List (List Nat × List Nat) := (true, [([], []), ([], []), ([1], [1]), ([2], [2]), ([3], [3]), ([], []), ([5], [5]), ([6], [6]), ([7], [7]), ([4, 8], [4, 8]), ([], []), ([10], [10]), ([11], [11]), ([12], [12]), ([9, 13], [9, 13]), ([14], [14]), ([0, 15], [0, 15]), ([16, 16, 0, 1, 2, 3, 4, 5, 6, 7, 8, 9, 10, 11, 12, 13, 14, 15, 16], [0, 16])])
def impl_natural.B4 : List Nat := [0, 0, 2, 6, 14, 0, 32, 96, 224, 510, 0, 1024, 3072, 7168, 16382, 32766, 65535, 131071]
theorem impl_natural.tab4 : rtab .any (opsOf Try.f65 4) = impl_natural.T4 := by kernel_rfl
theorem impl_natural.bits4 : waitsOk impl_natural.T4.2 impl_natural.B4 = true := by kernel_rfl
set_option maxHeartbeats 8000000 in
set_option maxRecDepth 100000 in
theorem impl_natural.calls (k : Nat) (P0_ : Nat → Prop) (A0 : Option Addr) (c0 : Nat) (l0 : List (S89)) (P1_ : Nat → Prop) (A1 : Option Addr) (c1 : Nat) (l1 : List (S89)) (r : List (S89)) (w : World) (hs0 : Kd.V k89 89 w w.heap.size (fun k_ => P0_ k_) (.slice A0 l0.length c0) l0) (hs1 : Kd.V k89 89 w w.heap.size (fun k_ => P1_ k_) (.slice A1 l1.length c1) l1) (h : impl_natural.f k l0 l1 = some r) :
    Calls Try.prog 65 #[.slice A0 l0.length c0, .slice A1 l1.length c1] w fun e w' => ∃ v0_ : Value, e = .returned (v0_) ∧ Kd.N k89 89 w' w.heap.size (fun k_ => ((P0_ k_ ∨ P1_ k_) ∨ w.heap.size ≤ k_)) v0_ r ∧ Below w.heap.size w w' := by
  have hu89 := Try.underlying89
  have HO0 := Aside0.mk (show Kd.V k89 89 w w.heap.size (fun k_ => ((P0_ k_ ∨ P1_ k_) ∨ w.heap.size ≤ k_)) (.slice A0 l0.length c0) l0 from Kd.V_mono hs0 (fun k_ hk => .inl (.inl hk)))
  have HO1 := Aside0.mk (show Kd.V k89 89 w w.heap.size (fun k_ => ((P0_ k_ ∨ P1_ k_) ∨ w.heap.size ≤ k_)) (.slice A1 l1.length c1) l1 from Kd.V_mono hs1 (fun k_ hk => .inl (.inr hk)))
  have HB := Aside0.mk (Below.refl w.heap.size w)
  have H : (impl_natural.l0 k l0 l1 (([] : List (S89)))) = some r := h
  clear h
  obtain ⟨y383, hy383⟩ : ∃ y_ : List (S89), y_ = (([] : List (S89))) := ⟨_, rfl⟩
  replace H : (impl_natural.l0 k l0 l1 y383) = some r := by first | (rw [hy383]; with_reducible exact H) | (have H2_ := (Option.bind_some _ _).symm.trans H; rw [hy383]; with_reducible exact H2_) | (have H2_ := (Option.bind_some _ _).symm.trans H; with_reducible exact H2_) | with_reducible exact H | (rw [hy383]; exact H) | exact H
  have Ny383 := Aside0.mk hy383
  clear hy383
  have H' := Aside0.mk H
  clear H
  go_enter Try.func65, Try.ntmps65
  go_wp2_with (first | ((with_reducible refine gate_dst (N := 7) rfl ?_); (try (refine gate_guard (by rfl) ?_; dsimp only)); refine Kd.N_lit k89 _ 89 ?hg (N' := 7) ?hd (xs := ([] : List (S89))) (inner := []) (ok := (fun k_ => ((P0_ k_ ∨ P1_ k_) ∨ w.heap.size ≤ k_))) (okp := (fun k_ => ((P0_ k_ ∨ P1_ k_) ∨ w.heap.size ≤ k_))) ?hr ?hp (fun _ hk => hk) ((show ∀ k_, w.heap.size ≤ k_ → (fun k_ => ((P0_ k_ ∨ P1_ k_) ∨ w.heap.size ≤ k_)) k_ from fun k_ hk => (.inr (Nat.le_trans (below_size (by repeat (first | (with_reducible first | exact HB.out | apply below_alloc | apply pw_below_drewN | apply below_drew1) | exact HB.out))) hk))) _ (Nat.le_refl _)) (Below.refl _ _) (Nat.le_refl _) (by simp) ?_; (case hd => rfl); (case hg => rfl); (case hr => first | (go_simp; done) | (go_simp; rfl)); (case hp => exact (Reps.none _ _)); intro v384 w3 ho4 hb hg_ hnew_; clear hg_ hnew_; (first | rw [← Ny383.out] at ho4 | (simp only [Int.reduceToNat] at ho4; rw [← Ny383.out] at ho4)); have n0_ := Aside0.mk (Kd.V_elder' (by (with_reducible repeat (first | apply Kd.V_alloc | apply Kd.V_drewN | apply Kd.V_drew)); exact HO0.out) (Kd.N_base ho4) hb); have n1_ := Aside0.mk (Kd.V_elder' (by (with_reducible repeat (first | apply Kd.V_alloc | apply Kd.V_drewN | apply Kd.V_drew)); exact HO1.out) (Kd.N_base ho4) hb); have n2_ := Aside0.mk (Kd.N_lower ho4 (below_size (by repeat (first | (with_reducible first | exact HB.out | apply below_alloc | apply pw_below_drewN | apply below_drew1) | exact HB.out)))); have n3_ := Aside0.mk (below_step (by repeat (first | (with_reducible first | exact HB.out | apply below_alloc | apply pw_below_drewN | apply below_drew1) | exact HB.out)) hb); clear HO0; clear HO1; clear HB; have HO0 := n0_; have HO1 := n1_; have HO385 := n2_; have HB := n3_; clear n0_ n1_ n2_ n3_; clear hb ho4))
  go_loopg [0, 1, 5] k (fun kq v0 v1 v5 w' => ∃ (x0_1 : List (S89)) (x1_1 : List (S89)) (x5_1 : List (S89)), Aside0 (impl_natural.l0 kq x0_1 x1_1 x5_1 = some r) ∧ Aside0 (kq ≤ k) ∧ Aside0 (Kd.V k89 89 w' w.heap.size (fun k_ => ((P0_ k_ ∨ P1_ k_) ∨ w.heap.size ≤ k_) ∧ some k_ ≠ (v5 : Value).ownBlock) v0 x0_1) ∧ Aside0 (Kd.V k89 89 w' w.heap.size (fun k_ => ((P0_ k_ ∨ P1_ k_) ∨ w.heap.size ≤ k_) ∧ some k_ ≠ (v5 : Value).ownBlock) v1 x1_1) ∧ Aside0 (Kd.N k89 89 w' w.heap.size (fun k_ => ((P0_ k_ ∨ P1_ k_) ∨ w.heap.size ≤ k_)) v5 x5_1) ∧ Aside0 (Below w.heap.size w w'))
  case atStart => exact ⟨(l0), (l1), (y383), H', ⟨Nat.le_refl _⟩, ⟨by (with_reducible repeat (first | apply Kd.V_alloc | apply Kd.V_drewN | apply Kd.V_drew)); exact HO0.out⟩, ⟨by (with_reducible repeat (first | apply Kd.V_alloc | apply Kd.V_drewN | apply Kd.V_drew)); exact HO1.out⟩, ⟨by (with_reducible repeat (first | apply Kd.N_alloc | apply Kd.N_drewN | apply Kd.N_drew)); exact HO385.out⟩, ⟨by repeat (first | (with_reducible first | exact HB.out | apply below_alloc | apply pw_below_drewN | apply below_drew1) | exact HB.out)⟩⟩
  case round =>
    clear H'
    try clear c1
    try clear p2
    try clear HO_0
    try clear HO_1
    try clear HO_5
    try clear HB
    obtain ⟨x0_1, x1_1, x5_1, HA, HK1, HO_0, HO_1, HO_5, HB⟩ := hrel
    cases gk with
    | zero => exact absurd HA.out (by simp [impl_natural.l0])
    | succ k1 =>
      have H := HA.out
      clear HA
      simp only [impl_natural.l0] at H
      have HC5 := Aside0.mk H
      clear H
      go_upto_region 2 with (fail)
      go_cut [15] (fun v15 wc => ∃ (kq : Nat) (x15_4 : Bool), v15 = .bool x15_4 ∧ Aside0 (impl_natural.j1 kq x0_1 x1_1 x5_1 x15_4 = some r) ∧ Aside0 (kq ≤ k1) ∧ Aside0 (Kd.V k89 89 wc w.heap.size (fun k_ => ((P0_ k_ ∨ P1_ k_) ∨ w.heap.size ≤ k_) ∧ some k_ ≠ (u5 : Value).ownBlock) u0 x0_1) ∧ Aside0 (Kd.V k89 89 wc w.heap.size (fun k_ => ((P0_ k_ ∨ P1_ k_) ∨ w.heap.size ≤ k_) ∧ some k_ ≠ (u5 : Value).ownBlock) u1 x1_1) ∧ Aside0 (Kd.N k89 89 wc w.heap.size (fun k_ => ((P0_ k_ ∨ P1_ k_) ∨ w.heap.size ≤ k_)) u5 x5_1) ∧ Aside0 (Below w.heap.size w wc))
      case first =>
        have H := HC5.out
        clear HC5
        by_cases c6 : (x0_1.length : Int) > 0
        · rw [if_pos c6] at H
          have c6b0 : decide (0 < (x0_1.length : Int)) = true := decide_eq_true c6
          have c6b1 : decide (0 < x0_1.length) = true := decide_eq_true (by omega)
          clear c6
          (first | rw [c6b0] | (simp only [i64_w, i32_w]; rw [c6b0]) | skip)
          have H' := Aside0.mk H
          clear H
          obtain ⟨Ao7, co7, eo7⟩ := Kd.V_slice HO_0.out
          subst eo7
          obtain ⟨Ao8, co8, eo8⟩ := Kd.V_slice HO_1.out
          subst eo8
          go_wp2
          go_meet
          case rel => exact ⟨_, (decide ((x1_1.length : Int) > 0)), (by first | rfl | (simp; done) | (simp [*]; done)), H', ⟨by have := HK1.out; first | omega | exact Nat.le_refl _⟩, ⟨by (with_reducible repeat (first | apply Kd.V_alloc | apply Kd.V_drewN | apply Kd.V_drew)); exact HO_0.out⟩, ⟨by (with_reducible repeat (first | apply Kd.V_alloc | apply Kd.V_drewN | apply Kd.V_drew)); exact HO_1.out⟩, ⟨by (with_reducible repeat (first | apply Kd.N_alloc | apply Kd.N_drewN | apply Kd.N_drew)); exact HO_5.out⟩, ⟨by repeat (first | (with_reducible first | exact HB.out | apply below_alloc | apply pw_below_drewN | apply below_drew1) | exact HB.out)⟩⟩
        · rw [if_neg c6] at H
          have c6b0 : decide (0 < (x0_1.length : Int)) = false := decide_eq_false c6
          have c6b1 : decide (0 < x0_1.length) = false := decide_eq_false (by omega)
          clear c6
          (first | rw [c6b0] | (simp only [i64_w, i32_w]; rw [c6b0]) | skip)
          have H' := Aside0.mk H
          clear H
          obtain ⟨Ao9, co9, eo9⟩ := Kd.V_slice HO_0.out
          subst eo9
          go_wp2
          go_meet
          case rel => exact ⟨_, (false), (by first | rfl | (simp; done) | (simp [*]; done)), H', ⟨by have := HK1.out; first | omega | exact Nat.le_refl _⟩, ⟨by (with_reducible repeat (first | apply Kd.V_alloc | apply Kd.V_drewN | apply Kd.V_drew)); exact HO_0.out⟩, ⟨by (with_reducible repeat (first | apply Kd.V_alloc | apply Kd.V_drewN | apply Kd.V_drew)); exact HO_1.out⟩, ⟨by (with_reducible repeat (first | apply Kd.N_alloc | apply Kd.N_drewN | apply Kd.N_drew)); exact HO_5.out⟩, ⟨by repeat (first | (with_reducible first | exact HB.out | apply below_alloc | apply pw_below_drewN | apply below_drew1) | exact HB.out)⟩⟩
      case rest =>
        clear HC5
        try clear c1
        try clear p2
        try clear c6
        try clear c6b0
        try clear c6b1
        try clear p2
        obtain ⟨kq, x15_4, rfl, HA, HJ4, HO_0, HO_1, HO_5, HB⟩ := hcut
        cases kq with
        | zero => exact absurd HA.out (by simp [impl_natural.j1])
        | succ kj4 =>
          have H := HA.out
          clear HA
          simp only [impl_natural.j1] at H
          by_cases c10 : x15_4 = true
          · subst c10
            have H1 : (if 0 < (x0_1.length : Int) then (if 0 < (x1_1.length : Int) then ((impl_compare.f kj4 ((rd_T89 x0_1 0).f1) ((rd_T89 x1_1 0).f1)).bind fun t394 => (if t394 > 0 then (if x5_1.length < 4398046511104 then (if 1 ≤ (x0_1.length : Int) then (impl_natural.l0 kj4 (x0_1.drop 1) x1_1 (x5_1 ++ [(⟨(rd_T89 x0_1 0).f0, (rd_T89 x0_1 0).f1⟩ : S89)])) else (none)) else (none)) else (if t394 < 0 then (if x5_1.length < 4398046511104 then (if 1 ≤ (x1_1.length : Int) then (impl_natural.l0 kj4 x0_1 (x1_1.drop 1) (x5_1 ++ [(⟨(rd_T89 x1_1 0).f0, (rd_T89 x1_1 0).f1⟩ : S89)])) else (none)) else (none)) else (if x5_1.length < 4398046511104 then (if 1 ≤ (x0_1.length : Int) then (if 1 ≤ (x1_1.length : Int) then (impl_natural.l0 kj4 (x0_1.drop 1) (x1_1.drop 1) (x5_1 ++ [(⟨wrap64 (((rd_T89 x0_1 0).f0) + ((rd_T89 x1_1 0).f0)), (rd_T89 x0_1 0).f1⟩ : S89)])) else (none)) else (none)) else (none))))) else (none)) else (none)) = some r := by rw [if_pos rfl] at H; exact H
            clear H
            have H := H1
            clear H1
            by_cases c11 : 0 < (x0_1.length : Int)
            · rw [if_pos c11] at H
              have c11b0 : decide (0 < (x0_1.length : Int)) = true := decide_eq_true c11
              have c11b1 : decide (0 < x0_1.length) = true := decide_eq_true (by omega)
              clear c11
              by_cases c12 : 0 < (x1_1.length : Int)
              · rw [if_pos c12] at H
                have c12b0 : decide (0 < (x1_1.length : Int)) = true := decide_eq_true c12
                have c12b1 : decide (0 < x1_1.length) = true := decide_eq_true (by omega)
                clear c12
                replace H := Option.bind_eq_some_iff.mp H
                obtain ⟨t394, A130, H⟩ := H
                replace H : (if t394 > 0 then (if x5_1.length < 4398046511104 then (if 1 ≤ (x0_1.length : Int) then (impl_natural.l0 kj4 (x0_1.drop 1) x1_1 (x5_1 ++ [(⟨(rd_T89 x0_1 0).f0, (rd_T89 x0_1 0).f1⟩ : S89)])) else (none)) else (none)) else (if t394 < 0 then (if x5_1.length < 4398046511104 then (if 1 ≤ (x1_1.length : Int) then (impl_natural.l0 kj4 x0_1 (x1_1.drop 1) (x5_1 ++ [(⟨(rd_T89 x1_1 0).f0, (rd_T89 x1_1 0).f1⟩ : S89)])) else (none)) else (none)) else (if x5_1.length < 4398046511104 then (if 1 ≤ (x0_1.length : Int) then (if 1 ≤ (x1_1.length : Int) then (impl_natural.l0 kj4 (x0_1.drop 1) (x1_1.drop 1) (x5_1 ++ [(⟨wrap64 (((rd_T89 x0_1 0).f0) + ((rd_T89 x1_1 0).f0)), (rd_T89 x0_1 0).f1⟩ : S89)])) else (none)) else (none)) else (none)))) = some r := H
                have A13 := Aside0.mk A130
                clear A130
                by_cases c14 : t394 > 0
                · rw [if_pos c14] at H
                  have c14b0 : decide (0 < t394) = true := decide_eq_true c14
                  clear c14
                  by_cases c15 : x5_1.length < 4398046511104
                  · rw [if_pos c15] at H
                    have LMc15 := Aside0.mk c15
                    clear c15
                    obtain ⟨y396, hy396⟩ : ∃ y_ : List (S89), y_ = (x5_1 ++ [(⟨(rd_T89 x0_1 0).f0, (rd_T89 x0_1 0).f1⟩ : S89)]) := ⟨_, rfl⟩
                    replace H : (if 1 ≤ (x0_1.length : Int) then (impl_natural.l0 kj4 (x0_1.drop 1) x1_1 y396) else (none)) = some r := by first | (rw [hy396]; with_reducible exact H) | (have H2_ := (Option.bind_some _ _).symm.trans H; rw [hy396]; with_reducible exact H2_) | (have H2_ := (Option.bind_some _ _).symm.trans H; with_reducible exact H2_) | with_reducible exact H | (rw [hy396]; exact H) | exact H
                    have Ny396 := Aside0.mk hy396
                    clear hy396
                    by_cases c16 : 1 ≤ (x0_1.length : Int)
                    · rw [if_pos c16] at H
                      have c16b0 := eq_true c16
                      have c16b1 : decide (1 ≤ (x0_1.length : Int)) = true := decide_eq_true c16
                      clear c16
                      obtain ⟨y399, hy399⟩ : ∃ y_ : List (S89), y_ = (x0_1.drop 1) := ⟨_, rfl⟩
                      replace H : (impl_natural.l0 kj4 y399 x1_1 y396) = some r := by first | (rw [hy399]; with_reducible exact H) | (have H2_ := (Option.bind_some _ _).symm.trans H; rw [hy399]; with_reducible exact H2_) | (have H2_ := (Option.bind_some _ _).symm.trans H; with_reducible exact H2_) | with_reducible exact H | (rw [hy399]; exact H) | exact H
                      have Ny399 := Aside0.mk hy399
                      clear hy399
                      have H' := Aside0.mk H
                      clear H
                      try go_wp2
                      have n0_ := Aside0.mk (Kd.V_drew HO_0.out)
                      have n1_ := Aside0.mk (Kd.V_drew HO_1.out)
                      have n2_ := Aside0.mk (Kd.N_drew HO_5.out)
                      have n3_ := Aside0.mk (below_drew1 HB.out)
                      clear HO_0
                      clear HO_1
                      clear HO_5
                      clear HB
                      have HO_0 := n0_
                      have HO_1 := n1_
                      have HO_5 := n2_
                      have HB := n3_
                      clear n0_ n1_ n2_ n3_
                      obtain ⟨Ao18, co18, eo18⟩ := Kd.V_slice HO_0.out
                      (first | subst eo18 | (injection eo18 with f1_ f2_ f3_; have f4_ := f1_.symm; have f5_ := f3_.symm; clear f1_ f2_ f3_; subst f4_; subst f5_))
                      have p392 : 0 ≤ (0 : Int) := (by omega)
                      have q392 : 0 < (x0_1.length : Int) := of_decide_eq_true (by first | (with_reducible assumption) | assumption)
                      obtain ⟨ad392, A392_1, c392_1, e392, hx392_0, hx392_1, hl392_1, hi392_1⟩ := at_T89 (Kd.V_reads' HO_0.out).2.2 0 p392 q392
                      cases e392
                      obtain ⟨ce392, hce392, hMe392, hcc392⟩ := Kd.V_get HO_0.out z89 0 p392 (by first | exact q392 | exact of_decide_eq_true (by first | (with_reducible assumption) | assumption) | (have e_ := (Kd.V_reads' HO_0.out).1; omega))
                      obtain ⟨ua392_1, uc392_1, rfl, ul392_1, ge392_1⟩ := k89_openF hMe392
                      have hv392_1 := hcc392 1 _ rfl
                      rw [add_field _ _ 1 (by omega)] at hv392_1
                      replace hv392_1 := Option.some.inj (hv392_1.symm.trans hx392_1)
                      injection hv392_1 with hva_ hvn_ hvc_
                      rw [hva_] at ge392_1
                      rw [hvc_] at ul392_1
                      have HL392_1 := Aside0.mk (show Kd.V k89 89 _ w.heap.size _ _ ((rd_T89 x0_1 0).f1) from Kd.V_mk ul392_1 ge392_1)
                      clear hva_ hvn_ hvc_ ge392_1 ul392_1
                      clear hcc392 hce392
                      have qi392 : (0 < x0_1.length) = True := eq_true (by omega)
                      (try rw [show ((0 : Int)).toNat = 0 from rfl] at hx392_0)
                      (try rw [show 0 * 2 = 0 from rfl] at hx392_0)
                      (try rw [Addr.add_zero'] at hx392_0)
                      (try rw [show ((0 : Int)).toNat = 0 from rfl] at hx392_1)
                      (try rw [show 0 * 2 = 0 from rfl] at hx392_1)
                      (try rw [Addr.add_zero'] at hx392_1)
                      have HR392_1 := Aside0.mk hi392_1
                      have HC392_1 := Aside0.mk hl392_1
                      clear hi392_1 hl392_1
                      replace p392 := eq_true p392
                      replace q392 := eq_true q392
                      obtain ⟨Ao19, co19, eo19⟩ := Kd.V_slice HO_1.out
                      (first | subst eo19 | (injection eo19 with f1_ f2_ f3_; have f4_ := f1_.symm; have f5_ := f3_.symm; clear f1_ f2_ f3_; subst f4_; subst f5_))
                      have p393 : 0 ≤ (0 : Int) := (by omega)
                      have q393 : 0 < (x1_1.length : Int) := of_decide_eq_true (by first | (with_reducible assumption) | assumption)
                      obtain ⟨ad393, A393_1, c393_1, e393, hx393_0, hx393_1, hl393_1, hi393_1⟩ := at_T89 (Kd.V_reads' HO_1.out).2.2 0 p393 q393
                      cases e393
                      obtain ⟨ce393, hce393, hMe393, hcc393⟩ := Kd.V_get HO_1.out z89 0 p393 (by first | exact q393 | exact of_decide_eq_true (by first | (with_reducible assumption) | assumption) | (have e_ := (Kd.V_reads' HO_1.out).1; omega))
                      obtain ⟨ua393_1, uc393_1, rfl, ul393_1, ge393_1⟩ := k89_openF hMe393
                      have hv393_1 := hcc393 1 _ rfl
                      rw [add_field _ _ 1 (by omega)] at hv393_1
                      replace hv393_1 := Option.some.inj (hv393_1.symm.trans hx393_1)
                      injection hv393_1 with hva_ hvn_ hvc_
                      rw [hva_] at ge393_1
                      rw [hvc_] at ul393_1
                      have HL393_1 := Aside0.mk (show Kd.V k89 89 _ w.heap.size _ _ ((rd_T89 x1_1 0).f1) from Kd.V_mk ul393_1 ge393_1)
                      clear hva_ hvn_ hvc_ ge393_1 ul393_1
                      clear hcc393 hce393
                      have qi393 : (0 < x1_1.length) = True := eq_true (by omega)
                      (try rw [show ((0 : Int)).toNat = 0 from rfl] at hx393_0)
                      (try rw [show 0 * 2 = 0 from rfl] at hx393_0)
                      (try rw [Addr.add_zero'] at hx393_0)
                      (try rw [show ((0 : Int)).toNat = 0 from rfl] at hx393_1)
                      (try rw [show 0 * 2 = 0 from rfl] at hx393_1)
                      (try rw [Addr.add_zero'] at hx393_1)
                      have HR393_1 := Aside0.mk hi393_1
                      have HC393_1 := Aside0.mk hl393_1
                      clear hi393_1 hl393_1
                      replace p393 := eq_true p393
                      replace q393 := eq_true q393
                      refine start_ (n := 10) (S := fun w' => w'.cell? ad392 = some (.int .i64 ((rd_T89 x0_1 0).f0)) ∧ w'.cell? ⟨ad392.block, ad392.off + 1, none⟩ = some (.slice A392_1 ((rd_T89 x0_1 0).f1).length c392_1) ∧ w'.cell? ad393 = some (.int .i64 ((rd_T89 x1_1 0).f0)) ∧ w'.cell? ⟨ad393.block, ad393.off + 1, none⟩ = some (.slice A393_1 ((rd_T89 x1_1 0).f1).length c393_1)) (ds := []) #[false, false, false, false, false, false, false, false, false, false] (by kernel_rfl) rfl rfl ⟨hx392_0, hx392_1, hx393_0, hx393_1⟩ (fun hHeld => ?_); refine with_tabW impl_natural.tab3 impl_natural.bits3 (fun HT_ HW_ => ?_)
                      generalize wc.drew = w17 at HO_0 HO_1 HO_5 HB HL392_1 HL393_1 HR392_1 HR393_1 hx392_0 hx392_1 hx393_0 hx393_1 hHeld ⊢
                      refine pure_ (i := 0) (N := some 16) (v := ?_) (a' := ?_) #[true, false, false, false, false, false, false, false, false, false] rfl rfl (any_of HT_.out (by kernel_rfl)) (fun _ _ _ h => h) (Or.inl ⟨by rfl, ?_⟩) ?_ ?_
                      rotate_left
                      · intro w'
                        go_simp
                        with_reducible rfl
                      rotate_left
                      · simp only [Act.put, List.setIfInBounds_toArray, List.set_cons_zero, List.set_cons_succ, i64_w, i32_w]
                        rfl
                      refine pure_ (i := 1) (N := some 17) (v := ?_) (a' := ?_) #[true, true, false, false, false, false, false, false, false, false] rfl rfl (any_of HT_.out (by kernel_rfl)) (fun _ _ _ h => h) (Or.inl ⟨by rfl, ?_⟩) ?_ ?_
                      rotate_left
                      · intro w'
                        go_simp
                        with_reducible rfl
                      rotate_left
                      · simp only [Act.put, List.setIfInBounds_toArray, List.set_cons_zero, List.set_cons_succ, i64_w, i32_w]
                        rfl
                      refine pure_ (i := 2) (N := some 18) (v := ?_) (a' := ?_) #[true, true, true, false, false, false, false, false, false, false] rfl rfl (any_of HT_.out (by kernel_rfl)) (fun _ _ _ h => h) (Or.inl ⟨by rfl, ?_⟩) ?_ ?_
                      rotate_left
                      · intro w'
                        go_simp
                        with_reducible rfl
                      rotate_left
                      · simp only [Act.put, List.setIfInBounds_toArray, List.set_cons_zero, List.set_cons_succ, i64_w, i32_w]
                        rfl
                      refine pure_ (i := 4) (N := some 20) (v := ?_) (a' := ?_) #[true, true, true, false, true, false, false, false, false, false] rfl rfl (any_of HT_.out (by kernel_rfl)) (fun _ _ _ h => h) (Or.inl ⟨by rfl, ?_⟩) ?_ ?_
                      rotate_left
                      · intro w'
                        go_simp
                        with_reducible rfl
                      rotate_left
                      · simp only [Act.put, List.setIfInBounds_toArray, List.set_cons_zero, List.set_cons_succ, i64_w, i32_w]
                        rfl
                      refine pure_ (i := 5) (N := some 21) (v := ?_) (a' := ?_) #[true, true, true, false, true, true, false, false, false, false] rfl rfl (any_of HT_.out (by kernel_rfl)) (fun _ _ _ h => h) (Or.inl ⟨by rfl, ?_⟩) ?_ ?_
                      rotate_left
                      · intro w'
                        go_simp
                        with_reducible rfl
                      rotate_left
                      · simp only [Act.put, List.setIfInBounds_toArray, List.set_cons_zero, List.set_cons_succ, i64_w, i32_w]
                        rfl
                      refine pure_ (i := 6) (N := some 22) (v := ?_) (a' := ?_) #[true, true, true, false, true, true, true, false, false, false] rfl rfl (any_of HT_.out (by kernel_rfl)) (fun _ _ _ h => h) (Or.inl ⟨by rfl, ?_⟩) ?_ ?_
                      rotate_left
                      · intro w'
                        go_simp
                        with_reducible rfl
                      rotate_left
                      · simp only [Act.put, List.setIfInBounds_toArray, List.set_cons_zero, List.set_cons_succ, i64_w, i32_w]
                        rfl
                      refine take_ (i := 3) (N := some 19) (v := ?_) (a' := ?_) #[true, true, true, true, true, true, true, false, false, false] rfl rfl (take_ofW HT_.out HW_.out (by kernel_rfl)) (fun _ _ _ h => h) (Or.inl ⟨by rfl, ?_⟩) hHeld ?_ ?_
                      rotate_left
                      · rintro w' ⟨s0, s1, s2, s3⟩
                        go_simp
                        with_reducible rfl
                      rotate_left
                      · simp only [Act.put, List.setIfInBounds_toArray, List.set_cons_zero, List.set_cons_succ, i64_w, i32_w]
                        rfl
                      refine take_ (i := 7) (N := some 23) (v := ?_) (a' := ?_) #[true, true, true, true, true, true, true, true, false, false] rfl rfl (take_ofW HT_.out HW_.out (by kernel_rfl)) (fun _ _ _ h => h) (Or.inl ⟨by rfl, ?_⟩) hHeld ?_ ?_
                      rotate_left
                      · rintro w' ⟨s0, s1, s2, s3⟩
                        go_simp
                        with_reducible rfl
                      rotate_left
                      · simp only [Act.put, List.setIfInBounds_toArray, List.set_cons_zero, List.set_cons_succ, i64_w, i32_w]
                        rfl
                      refine one_ (i := 8) (N := some 24) #[true, true, true, true, true, true, true, true, true, false] rfl rfl (one_of HT_.out (by kernel_rfl)) (by decide) (fun K hK => ?_)
                      refine goes_ Try.func46 (by kernel_rfl) rfl #[.slice A392_1 ((rd_T89 x0_1 0).f1).length c392_1, .slice A393_1 ((rd_T89 x1_1 0).f1).length c393_1] (by rfl) rfl rfl (by (try simp only [List.map_toArray, List.map_cons, List.map_nil]); first | done | rfl | (simp only [List.length_drop, List.length_take]; rfl)) ?_
                      with_reducible refine (impl_compare.calls kj4 _ _ ((rd_T89 x0_1 0).f1) _ _ ((rd_T89 x1_1 0).f1) t394 _ ?side1 ?side2 ?side3 ?side4 A13.out).mono ?_
                      (case side1 => repeat (first | exact (by repeat (first | (with_reducible exact HR392_1.out) | (with_reducible refine Kd.C_alloc ?_ _) | (with_reducible refine Kd.C_drewN ?_ _) | (with_reducible refine Kd.C_drew ?_) | exact HR392_1.out)) | (with_reducible refine Kd.C_alloc ?_ _) | (with_reducible refine Kd.C_drewN ?_ _) | (with_reducible refine Kd.C_drew ?_)))
                      (case side2 => exact HC392_1.out)
                      (case side3 => repeat (first | exact (by repeat (first | (with_reducible exact HR393_1.out) | (with_reducible refine Kd.C_alloc ?_ _) | (with_reducible refine Kd.C_drewN ?_ _) | (with_reducible refine Kd.C_drew ?_) | exact HR393_1.out)) | (with_reducible refine Kd.C_alloc ?_ _) | (with_reducible refine Kd.C_drewN ?_ _) | (with_reducible refine Kd.C_drew ?_)))
                      (case side4 => exact HC393_1.out)
                      rintro e w20 ⟨rfl, hb⟩
                      have HS0_ := (hb.cell (World.block_lt_of_cell? _ _ (hHeld.1))).trans (hHeld.1)
                      have HS1_ := (hb.cell (World.block_lt_of_cell? _ _ (hHeld.2.1))).trans (hHeld.2.1)
                      have HS2_ := (hb.cell (World.block_lt_of_cell? _ _ (hHeld.2.2.1))).trans (hHeld.2.2.1)
                      have HS3_ := (hb.cell (World.block_lt_of_cell? _ _ (hHeld.2.2.2))).trans (hHeld.2.2.2)
                      refine ⟨_, rfl, ?_⟩
                      have n0_ := Aside0.mk (Kd.V_below (by (with_reducible repeat (first | apply Kd.V_alloc | apply Kd.V_drewN | apply Kd.V_drew)); exact HO_0.out) hb)
                      have n1_ := Aside0.mk (Kd.V_below (by (with_reducible repeat (first | apply Kd.V_alloc | apply Kd.V_drewN | apply Kd.V_drew)); exact HO_1.out) hb)
                      have n2_ := Aside0.mk (Kd.N_below (by (with_reducible repeat (first | apply Kd.N_alloc | apply Kd.N_drewN | apply Kd.N_drew)); exact HO_5.out) hb)
                      have n3_ := Aside0.mk (Kd.V_below (by (with_reducible repeat (first | apply Kd.V_alloc | apply Kd.V_drewN | apply Kd.V_drew)); exact HL392_1.out) hb)
                      have n4_ := Aside0.mk (Kd.V_below (by (with_reducible repeat (first | apply Kd.V_alloc | apply Kd.V_drewN | apply Kd.V_drew)); exact HL393_1.out) hb)
                      have n5_ := Aside0.mk (Kd.C_below (by repeat (first | (with_reducible exact HR392_1.out) | (with_reducible refine Kd.C_alloc ?_ _) | (with_reducible refine Kd.C_drewN ?_ _) | (with_reducible refine Kd.C_drew ?_) | exact HR392_1.out)) hb)
                      have n6_ := Aside0.mk (Kd.C_below (by repeat (first | (with_reducible exact HR393_1.out) | (with_reducible refine Kd.C_alloc ?_ _) | (with_reducible refine Kd.C_drewN ?_ _) | (with_reducible refine Kd.C_drew ?_) | exact HR393_1.out)) hb)
                      have n7_ := Aside0.mk (below_step (by repeat (first | (with_reducible first | exact HB.out | apply below_alloc | apply pw_below_drewN | apply below_drew1) | exact HB.out)) hb)
                      clear HO_0
                      clear HO_1
                      clear HO_5
                      clear HL392_1
                      clear HL393_1
                      clear HR392_1
                      clear HR393_1
                      clear HB
                      have HO_0 := n0_
                      have HO_1 := n1_
                      have HO_5 := n2_
                      have HL392_1 := n3_
                      have HL393_1 := n4_
                      have HR392_1 := n5_
                      have HR393_1 := n6_
                      have HB := n7_
                      clear n0_ n1_ n2_ n3_ n4_ n5_ n6_ n7_
                      (try clear hb)
                      (try clear hb2)
                      (try clear hk)
                      (try clear hi)
                      refine hK.out _ _ ⟨HS0_, HS1_, HS2_, HS3_⟩ (fun hHeld => ?_)
                      clear hK K
                      refine norm_ (a' := ?_) ?_ ?_
                      rotate_left
                      · show Act.put _ (some 24) _ = _
                        simp only [Act.put, List.setIfInBounds_toArray, List.set_cons_zero, List.set_cons_succ, i64_w, i32_w]
                        rfl
                      refine pure_ (i := 9) (N := some 6) (v := ?_) (a' := ?_) #[true, true, true, true, true, true, true, true, true, true] rfl rfl (any_of HT_.out (by kernel_rfl)) (fun _ _ _ h => h) (Or.inl ⟨by rfl, ?_⟩) ?_ ?_
                      rotate_left
                      · intro w'
                        go_simp
                        with_reducible rfl
                      rotate_left
                      · simp only [Act.put, List.setIfInBounds_toArray, List.set_cons_zero, List.set_cons_succ, i64_w, i32_w]
                        rfl
                      refine done_ (done_of HT_.out (by kernel_rfl)) ?_
                      have p395 : 0 ≤ (0 : Int) := (by omega)
                      have q395 : 0 < (x0_1.length : Int) := of_decide_eq_true (by first | (with_reducible assumption) | assumption)
                      obtain ⟨ad395, A395_1, c395_1, e395, hx395_0, hx395_1, hl395_1, hi395_1⟩ := at_T89 (Kd.V_reads' HO_0.out).2.2 0 p395 q395
                      (try clear hx392_0)
                      (try clear hx392_1)
                      (try clear hx392_2)
                      (try clear hx392_3)
                      (try clear HS0_)
                      (try clear HS1_)
                      (try clear HS2_)
                      (try clear HS3_)
                      (try clear HS4_)
                      (try clear HS5_)
                      (try clear HS6_)
                      (try clear HS7_)
                      (try clear HS8_)
                      (try clear HS9_)
                      (try clear hHeld)
                      obtain rfl : ad392 = ad395 := (by injection e395)
                      obtain ⟨ce395, hce395, hMe395, hcc395⟩ := Kd.V_get HO_0.out z89 0 p395 (by first | exact q395 | exact of_decide_eq_true (by first | (with_reducible assumption) | assumption) | (have e_ := (Kd.V_reads' HO_0.out).1; omega))
                      obtain ⟨ua395_1, uc395_1, rfl, ul395_1, ge395_1⟩ := k89_openF hMe395
                      have hv395_1 := hcc395 1 _ rfl
                      rw [add_field _ _ 1 (by omega)] at hv395_1
                      replace hv395_1 := Option.some.inj (hv395_1.symm.trans hx395_1)
                      injection hv395_1 with hva_ hvn_ hvc_
                      rw [hva_] at ge395_1
                      rw [hvc_] at ul395_1
                      have HL395_1 := Aside0.mk (show Kd.V k89 89 _ w.heap.size _ _ ((rd_T89 x0_1 0).f1) from Kd.V_mk ul395_1 ge395_1)
                      clear hva_ hvn_ hvc_ ge395_1 ul395_1
                      clear hcc395 hce395
                      have qi395 : (0 < x0_1.length) = True := eq_true (by omega)
                      (try rw [show ((0 : Int)).toNat = 0 from rfl] at hx395_0)
                      (try rw [show 0 * 2 = 0 from rfl] at hx395_0)
                      (try rw [Addr.add_zero'] at hx395_0)
                      (try rw [show ((0 : Int)).toNat = 0 from rfl] at hx395_1)
                      (try rw [show 0 * 2 = 0 from rfl] at hx395_1)
                      (try rw [Addr.add_zero'] at hx395_1)
                      have HR395_1 := Aside0.mk hi395_1
                      have HC395_1 := Aside0.mk hl395_1
                      clear hi395_1 hl395_1
                      replace p395 := eq_true p395
                      replace q395 := eq_true q395
                      try go_wp2_with (first | ((with_reducible refine gate_builtin (b := .append) (xs := #[.tmp 49, .tmp 53]) rfl ?_); (try (refine gate_guard (by rfl) ?_; dsimp only)); at_builtin; refine Kd.N_append k89 (w0 := w) w.heap.size rfl (.tmp 49) (.tmp 53) 63 89 (.agg #[(.int .i64 0), (.slice none 0 0)]) 32 rfl Try.underlying63 info89 rfl (by decide) (by omega) u5 x5_1 (⟨(rd_T89 x0_1 0).f0, (rd_T89 x0_1 0).f1⟩ : S89) [.int .i64 ((rd_T89 x0_1 0).f0), .slice A395_1 ((rd_T89 x0_1 0).f1).length c395_1] (fun k_ => ((P0_ k_ ∨ P1_ k_) ∨ w.heap.size ≤ k_)) (fun k_ => ((fun k_ => ((P0_ k_ ∨ P1_ k_) ∨ w.heap.size ≤ k_))) k_ ∧ some k_ ≠ (u5 : Value).ownBlock) rfl rfl ?aP (fun _ hk => hk) ?aF ?aO ?aB ?aS ?aL ?_; (case aP => exact (k89_mkF _ _ (⟨(rd_T89 x0_1 0).f0, (rd_T89 x0_1 0).f1⟩ : S89) (Kd.V_reads' (Kd.V_mono (ok' := (fun k_ => ((fun k_ => ((P0_ k_ ∨ P1_ k_) ∨ w.heap.size ≤ k_))) k_ ∧ some k_ ≠ (u5 : Value).ownBlock)) (HL395_1.out) (fun k_ hk => ⟨hk.1, hk.2⟩))).2.1 (Kd.V_F (Kd.V_mono (ok' := (fun k_ => ((fun k_ => ((P0_ k_ ∨ P1_ k_) ∨ w.heap.size ≤ k_))) k_ ∧ some k_ ≠ (u5 : Value).ownBlock)) (HL395_1.out) (fun k_ hk => ⟨hk.1, hk.2⟩))))); (case aB => exact (by repeat (first | (with_reducible first | exact HB.out | apply below_alloc | apply pw_below_drewN | apply below_drew1) | exact HB.out))); (case aF => exact (fun k_ hk => (.inr (Nat.le_trans (below_size (by repeat (first | (with_reducible first | exact HB.out | apply below_alloc | apply pw_below_drewN | apply below_drew1) | exact HB.out))) hk)))); (case aO => exact (by (with_reducible repeat (first | apply Kd.N_alloc | apply Kd.N_drewN | apply Kd.N_drew)); exact HO_5.out)); (case aS => exact (below_size (by repeat (first | (with_reducible first | exact HB.out | apply below_alloc | apply pw_below_drewN | apply below_drew1) | exact HB.out)))); (case aL => have := LMc15.out; omega); intro v397 w21 ho hb hg hat; rw [← Ny396.out] at ho; have n0_ := Aside0.mk (Kd.V_afterv (ok := (fun k_ => ((P0_ k_ ∨ P1_ k_) ∨ w.heap.size ≤ k_))) (by (with_reducible repeat (first | apply Kd.V_alloc | apply Kd.V_drewN | apply Kd.V_drew)); exact HO_0.out) hg hat); have n1_ := Aside0.mk (Kd.V_afterv (ok := (fun k_ => ((P0_ k_ ∨ P1_ k_) ∨ w.heap.size ≤ k_))) (by (with_reducible repeat (first | apply Kd.V_alloc | apply Kd.V_drewN | apply Kd.V_drew)); exact HO_1.out) hg hat); have n2_ := Aside0.mk (Kd.V_afterv (ok := (fun k_ => ((P0_ k_ ∨ P1_ k_) ∨ w.heap.size ≤ k_))) (by (with_reducible repeat (first | apply Kd.V_alloc | apply Kd.V_drewN | apply Kd.V_drew)); exact HL392_1.out) hg hat); have n3_ := Aside0.mk (Kd.V_afterv (ok := (fun k_ => ((P0_ k_ ∨ P1_ k_) ∨ w.heap.size ≤ k_))) (by (with_reducible repeat (first | apply Kd.V_alloc | apply Kd.V_drewN | apply Kd.V_drew)); exact HL393_1.out) hg hat); have n4_ := Aside0.mk (Kd.V_afterv (ok := (fun k_ => ((P0_ k_ ∨ P1_ k_) ∨ w.heap.size ≤ k_))) (by (with_reducible repeat (first | apply Kd.V_alloc | apply Kd.V_drewN | apply Kd.V_drew)); exact HL395_1.out) hg hat); have n5_ := Aside0.mk (hb); have n6_ := Aside0.mk (ho); clear HO_0; clear HO_1; clear HL392_1; clear HL393_1; clear HL395_1; clear HB; clear HO_5; have HO_0 := n0_; have HO_1 := n1_; have HL392_1 := n2_; have HL393_1 := n3_; have HL395_1 := n4_; have HB := n5_; have HO398 := n6_; clear n0_ n1_ n2_ n3_ n4_ n5_ n6_; clear ho hb hg hat; have q22 : (1 : Int) ≤ ((x0_1.length : Int) : Int) := of_decide_eq_true (by first | (with_reducible assumption) | assumption); obtain ⟨i022, hi022, _, hsz22, _⟩ := info_parts info89; have hroom22 : x0_1.length ≤ co18 := (Kd.V_reads' HO_0.out).2.1; have hC22 : Kd.F k89 _ _ (some ad392) x0_1.length x0_1 := (Kd.V_at (base := w.heap.size) HO_0.out).2.2; have hcut22 := cut_from (P := Try.prog) 63 89 .i64 Try.underlying63 hi022 2 hsz22 (some ad392) x0_1.length co18 1 (by omega) q22; have hr22 := Kd.F_cut (m := (1 : Int).toNat) (c := co18) hC22 (by omega) hroom22; obtain ⟨A22, hA22⟩ : ∃ A1, A1 = (if co18 = (1 : Int).toNat then (some ad392) else ((some ad392) : Option Addr).map (·.add ((1 : Int).toNat * 2))) := ⟨_, rfl⟩; obtain ⟨c22, hc22⟩ : ∃ c1, c1 = co18 - (1 : Int).toNat := ⟨_, rfl⟩; have hy22 : y399.length = x0_1.length - (1 : Int).toNat := (by rw [Ny399.out, List.length_drop] <;> omega); rw [show (x0_1).drop (1 : Int).toNat = y399 from Ny399.out.symm] at hr22; replace hr22 : Kd.F k89 _ _ A22 y399.length y399 := (by rw [hA22]; exact hr22); rw [← hy22, ← hA22, ← hc22] at hcut22; have HO403 := Aside0.mk (show Kd.V k89 89 _ w.heap.size _ (.slice A22 y399.length c22) y399 from Kd.V_mk (by rw [hy22, hc22]; exact Nat.sub_le_sub_right hroom22 _) hr22); have HC403 := Aside0.mk (show y399.length ≤ c22 from by rw [hy22, hc22]; exact Nat.sub_le_sub_right hroom22 _); clear hr22 hC22 hroom22 hi022 hsz22 hc22; have KY22 := Aside0.mk hy22; have KA22 := Aside0.mk hA22; clear hy22 hA22; replace q22 := eq_true q22))
                      go_roundg kj4
                      case measure => have := HK1.out; have := HJ4.out; omega
                      case rel => exact ⟨(y399), (x1_1), (y396), H', ⟨by have := HK1.out; have := HJ4.out; omega⟩, ⟨by (with_reducible repeat (first | apply Kd.V_alloc | apply Kd.V_drewN | apply Kd.V_drew)); exact HO403.out⟩, ⟨by (with_reducible repeat (first | apply Kd.V_alloc | apply Kd.V_drewN | apply Kd.V_drew)); exact HO_1.out⟩, ⟨by (with_reducible repeat (first | apply Kd.N_alloc | apply Kd.N_drewN | apply Kd.N_drew)); exact HO398.out⟩, ⟨by repeat (first | (with_reducible first | exact HB.out | apply below_alloc | apply pw_below_drewN | apply below_drew1) | exact HB.out)⟩⟩
                    · rw [if_neg c16] at H
                      exact absurd H (by simp)
                  · rw [if_neg c15] at H
                    exact absurd H (by simp)
                · rw [if_neg c14] at H
                  have c14b0 : decide (0 < t394) = false := decide_eq_false c14
                  clear c14
                  by_cases c23 : t394 < 0
                  · rw [if_pos c23] at H
                    have c23b0 : decide (t394 < 0) = true := decide_eq_true c23
                    clear c23
                    by_cases c24 : x5_1.length < 4398046511104
                    · rw [if_pos c24] at H
                      have LMc24 := Aside0.mk c24
                      clear c24
                      obtain ⟨y405, hy405⟩ : ∃ y_ : List (S89), y_ = (x5_1 ++ [(⟨(rd_T89 x1_1 0).f0, (rd_T89 x1_1 0).f1⟩ : S89)]) := ⟨_, rfl⟩
                      replace H : (if 1 ≤ (x1_1.length : Int) then (impl_natural.l0 kj4 x0_1 (x1_1.drop 1) y405) else (none)) = some r := by first | (rw [hy405]; with_reducible exact H) | (have H2_ := (Option.bind_some _ _).symm.trans H; rw [hy405]; with_reducible exact H2_) | (have H2_ := (Option.bind_some _ _).symm.trans H; with_reducible exact H2_) | with_reducible exact H | (rw [hy405]; exact H) | exact H
                      have Ny405 := Aside0.mk hy405
                      clear hy405
                      by_cases c25 : 1 ≤ (x1_1.length : Int)
                      · rw [if_pos c25] at H
                        have c25b0 := eq_true c25
                        have c25b1 : decide (1 ≤ (x1_1.length : Int)) = true := decide_eq_true c25
                        clear c25
                        obtain ⟨y408, hy408⟩ : ∃ y_ : List (S89), y_ = (x1_1.drop 1) := ⟨_, rfl⟩
                        replace H : (impl_natural.l0 kj4 x0_1 y408 y405) = some r := by first | (rw [hy408]; with_reducible exact H) | (have H2_ := (Option.bind_some _ _).symm.trans H; rw [hy408]; with_reducible exact H2_) | (have H2_ := (Option.bind_some _ _).symm.trans H; with_reducible exact H2_) | with_reducible exact H | (rw [hy408]; exact H) | exact H
                        have Ny408 := Aside0.mk hy408
                        clear hy408
                        have H' := Aside0.mk H
                        clear H
                        try go_wp2
                        have n0_ := Aside0.mk (Kd.V_drew HO_0.out)
                        have n1_ := Aside0.mk (Kd.V_drew HO_1.out)
                        have n2_ := Aside0.mk (Kd.N_drew HO_5.out)
                        have n3_ := Aside0.mk (below_drew1 HB.out)
                        clear HO_0
                        clear HO_1
                        clear HO_5
                        clear HB
                        have HO_0 := n0_
                        have HO_1 := n1_
                        have HO_5 := n2_
                        have HB := n3_
                        clear n0_ n1_ n2_ n3_
                        obtain ⟨Ao27, co27, eo27⟩ := Kd.V_slice HO_0.out
                        (first | subst eo27 | (injection eo27 with f1_ f2_ f3_; have f4_ := f1_.symm; have f5_ := f3_.symm; clear f1_ f2_ f3_; subst f4_; subst f5_))
                        have p392 : 0 ≤ (0 : Int) := (by omega)
                        have q392 : 0 < (x0_1.length : Int) := of_decide_eq_true (by first | (with_reducible assumption) | assumption)
                        obtain ⟨ad392, A392_1, c392_1, e392, hx392_0, hx392_1, hl392_1, hi392_1⟩ := at_T89 (Kd.V_reads' HO_0.out).2.2 0 p392 q392
                        (try clear hx395_0)
                        (try clear hx395_1)
                        (try clear hx395_2)
                        (try clear hx395_3)
                        (try clear HS4_)
                        (try clear HS5_)
                        (try clear HS6_)
                        (try clear HS7_)
                        (try clear HS8_)
                        (try clear HS9_)
                        (try clear hHeld)
                        cases e392
                        obtain ⟨ce392, hce392, hMe392, hcc392⟩ := Kd.V_get HO_0.out z89 0 p392 (by first | exact q392 | exact of_decide_eq_true (by first | (with_reducible assumption) | assumption) | (have e_ := (Kd.V_reads' HO_0.out).1; omega))
                        obtain ⟨ua392_1, uc392_1, rfl, ul392_1, ge392_1⟩ := k89_openF hMe392
                        have hv392_1 := hcc392 1 _ rfl
                        rw [add_field _ _ 1 (by omega)] at hv392_1
                        replace hv392_1 := Option.some.inj (hv392_1.symm.trans hx392_1)
                        injection hv392_1 with hva_ hvn_ hvc_
                        rw [hva_] at ge392_1
                        rw [hvc_] at ul392_1
                        have HL392_1 := Aside0.mk (show Kd.V k89 89 _ w.heap.size _ _ ((rd_T89 x0_1 0).f1) from Kd.V_mk ul392_1 ge392_1)
                        clear hva_ hvn_ hvc_ ge392_1 ul392_1
                        clear hcc392 hce392
                        have qi392 : (0 < x0_1.length) = True := eq_true (by omega)
                        (try rw [show ((0 : Int)).toNat = 0 from rfl] at hx392_0)
                        (try rw [show 0 * 2 = 0 from rfl] at hx392_0)
                        (try rw [Addr.add_zero'] at hx392_0)
                        (try rw [show ((0 : Int)).toNat = 0 from rfl] at hx392_1)
                        (try rw [show 0 * 2 = 0 from rfl] at hx392_1)
                        (try rw [Addr.add_zero'] at hx392_1)
                        have HR392_1 := Aside0.mk hi392_1
                        have HC392_1 := Aside0.mk hl392_1
                        clear hi392_1 hl392_1
                        replace p392 := eq_true p392
                        replace q392 := eq_true q392
                        obtain ⟨Ao28, co28, eo28⟩ := Kd.V_slice HO_1.out
                        (first | subst eo28 | (injection eo28 with f1_ f2_ f3_; have f4_ := f1_.symm; have f5_ := f3_.symm; clear f1_ f2_ f3_; subst f4_; subst f5_))
                        have p393 : 0 ≤ (0 : Int) := (by omega)
                        have q393 : 0 < (x1_1.length : Int) := of_decide_eq_true (by first | (with_reducible assumption) | assumption)
                        obtain ⟨ad393, A393_1, c393_1, e393, hx393_0, hx393_1, hl393_1, hi393_1⟩ := at_T89 (Kd.V_reads' HO_1.out).2.2 0 p393 q393
                        cases e393
                        obtain ⟨ce393, hce393, hMe393, hcc393⟩ := Kd.V_get HO_1.out z89 0 p393 (by first | exact q393 | exact of_decide_eq_true (by first | (with_reducible assumption) | assumption) | (have e_ := (Kd.V_reads' HO_1.out).1; omega))
                        obtain ⟨ua393_1, uc393_1, rfl, ul393_1, ge393_1⟩ := k89_openF hMe393
                        have hv393_1 := hcc393 1 _ rfl
                        rw [add_field _ _ 1 (by omega)] at hv393_1
                        replace hv393_1 := Option.some.inj (hv393_1.symm.trans hx393_1)
                        injection hv393_1 with hva_ hvn_ hvc_
                        rw [hva_] at ge393_1
                        rw [hvc_] at ul393_1
                        have HL393_1 := Aside0.mk (show Kd.V k89 89 _ w.heap.size _ _ ((rd_T89 x1_1 0).f1) from Kd.V_mk ul393_1 ge393_1)
                        clear hva_ hvn_ hvc_ ge393_1 ul393_1
                        clear hcc393 hce393
                        have qi393 : (0 < x1_1.length) = True := eq_true (by omega)
                        (try rw [show ((0 : Int)).toNat = 0 from rfl] at hx393_0)
                        (try rw [show 0 * 2 = 0 from rfl] at hx393_0)
                        (try rw [Addr.add_zero'] at hx393_0)
                        (try rw [show ((0 : Int)).toNat = 0 from rfl] at hx393_1)
                        (try rw [show 0 * 2 = 0 from rfl] at hx393_1)
                        (try rw [Addr.add_zero'] at hx393_1)
                        have HR393_1 := Aside0.mk hi393_1
                        have HC393_1 := Aside0.mk hl393_1
                        clear hi393_1 hl393_1
                        replace p393 := eq_true p393
                        replace q393 := eq_true q393
                        refine start_ (n := 10) (S := fun w' => w'.cell? ad392 = some (.int .i64 ((rd_T89 x0_1 0).f0)) ∧ w'.cell? ⟨ad392.block, ad392.off + 1, none⟩ = some (.slice A392_1 ((rd_T89 x0_1 0).f1).length c392_1) ∧ w'.cell? ad393 = some (.int .i64 ((rd_T89 x1_1 0).f0)) ∧ w'.cell? ⟨ad393.block, ad393.off + 1, none⟩ = some (.slice A393_1 ((rd_T89 x1_1 0).f1).length c393_1)) (ds := []) #[false, false, false, false, false, false, false, false, false, false] (by kernel_rfl) rfl rfl ⟨hx392_0, hx392_1, hx393_0, hx393_1⟩ (fun hHeld => ?_); refine with_tabW impl_natural.tab3 impl_natural.bits3 (fun HT_ HW_ => ?_)
                        generalize wc.drew = w26 at HO_0 HO_1 HO_5 HB HL392_1 HL393_1 HR392_1 HR393_1 hx392_0 hx392_1 hx393_0 hx393_1 hHeld ⊢
                        refine pure_ (i := 0) (N := some 16) (v := ?_) (a' := ?_) #[true, false, false, false, false, false, false, false, false, false] rfl rfl (any_of HT_.out (by kernel_rfl)) (fun _ _ _ h => h) (Or.inl ⟨by rfl, ?_⟩) ?_ ?_
                        rotate_left
                        · intro w'
                          go_simp
                          with_reducible rfl
                        rotate_left
                        · simp only [Act.put, List.setIfInBounds_toArray, List.set_cons_zero, List.set_cons_succ, i64_w, i32_w]
                          rfl
                        refine pure_ (i := 1) (N := some 17) (v := ?_) (a' := ?_) #[true, true, false, false, false, false, false, false, false, false] rfl rfl (any_of HT_.out (by kernel_rfl)) (fun _ _ _ h => h) (Or.inl ⟨by rfl, ?_⟩) ?_ ?_
                        rotate_left
                        · intro w'
                          go_simp
                          with_reducible rfl
                        rotate_left
                        · simp only [Act.put, List.setIfInBounds_toArray, List.set_cons_zero, List.set_cons_succ, i64_w, i32_w]
                          rfl
                        refine pure_ (i := 2) (N := some 18) (v := ?_) (a' := ?_) #[true, true, true, false, false, false, false, false, false, false] rfl rfl (any_of HT_.out (by kernel_rfl)) (fun _ _ _ h => h) (Or.inl ⟨by rfl, ?_⟩) ?_ ?_
                        rotate_left
                        · intro w'
                          go_simp
                          with_reducible rfl
                        rotate_left
                        · simp only [Act.put, List.setIfInBounds_toArray, List.set_cons_zero, List.set_cons_succ, i64_w, i32_w]
                          rfl
                        refine pure_ (i := 4) (N := some 20) (v := ?_) (a' := ?_) #[true, true, true, false, true, false, false, false, false, false] rfl rfl (any_of HT_.out (by kernel_rfl)) (fun _ _ _ h => h) (Or.inl ⟨by rfl, ?_⟩) ?_ ?_
                        rotate_left
                        · intro w'
                          go_simp
                          with_reducible rfl
                        rotate_left
                        · simp only [Act.put, List.setIfInBounds_toArray, List.set_cons_zero, List.set_cons_succ, i64_w, i32_w]
                          rfl
                        refine pure_ (i := 5) (N := some 21) (v := ?_) (a' := ?_) #[true, true, true, false, true, true, false, false, false, false] rfl rfl (any_of HT_.out (by kernel_rfl)) (fun _ _ _ h => h) (Or.inl ⟨by rfl, ?_⟩) ?_ ?_
                        rotate_left
                        · intro w'
                          go_simp
                          with_reducible rfl
                        rotate_left
                        · simp only [Act.put, List.setIfInBounds_toArray, List.set_cons_zero, List.set_cons_succ, i64_w, i32_w]
                          rfl
                        refine pure_ (i := 6) (N := some 22) (v := ?_) (a' := ?_) #[true, true, true, false, true, true, true, false, false, false] rfl rfl (any_of HT_.out (by kernel_rfl)) (fun _ _ _ h => h) (Or.inl ⟨by rfl, ?_⟩) ?_ ?_
                        rotate_left
                        · intro w'
                          go_simp
                          with_reducible rfl
                        rotate_left
                        · simp only [Act.put, List.setIfInBounds_toArray, List.set_cons_zero, List.set_cons_succ, i64_w, i32_w]
                          rfl
                        refine take_ (i := 3) (N := some 19) (v := ?_) (a' := ?_) #[true, true, true, true, true, true, true, false, false, false] rfl rfl (take_ofW HT_.out HW_.out (by kernel_rfl)) (fun _ _ _ h => h) (Or.inl ⟨by rfl, ?_⟩) hHeld ?_ ?_
                        rotate_left
                        · rintro w' ⟨s0, s1, s2, s3⟩
                          go_simp
                          with_reducible rfl
                        rotate_left
                        · simp only [Act.put, List.setIfInBounds_toArray, List.set_cons_zero, List.set_cons_succ, i64_w, i32_w]
                          rfl
                        refine take_ (i := 7) (N := some 23) (v := ?_) (a' := ?_) #[true, true, true, true, true, true, true, true, false, false] rfl rfl (take_ofW HT_.out HW_.out (by kernel_rfl)) (fun _ _ _ h => h) (Or.inl ⟨by rfl, ?_⟩) hHeld ?_ ?_
                        rotate_left
                        · rintro w' ⟨s0, s1, s2, s3⟩
                          go_simp
                          with_reducible rfl
                        rotate_left
                        · simp only [Act.put, List.setIfInBounds_toArray, List.set_cons_zero, List.set_cons_succ, i64_w, i32_w]
                          rfl
                        refine one_ (i := 8) (N := some 24) #[true, true, true, true, true, true, true, true, true, false] rfl rfl (one_of HT_.out (by kernel_rfl)) (by decide) (fun K hK => ?_)
                        refine goes_ Try.func46 (by kernel_rfl) rfl #[.slice A392_1 ((rd_T89 x0_1 0).f1).length c392_1, .slice A393_1 ((rd_T89 x1_1 0).f1).length c393_1] (by rfl) rfl rfl (by (try simp only [List.map_toArray, List.map_cons, List.map_nil]); first | done | rfl | (simp only [List.length_drop, List.length_take]; rfl)) ?_
                        with_reducible refine (impl_compare.calls kj4 _ _ ((rd_T89 x0_1 0).f1) _ _ ((rd_T89 x1_1 0).f1) t394 _ ?side1 ?side2 ?side3 ?side4 A13.out).mono ?_
                        (case side1 => repeat (first | exact (by repeat (first | (with_reducible exact HR392_1.out) | (with_reducible refine Kd.C_alloc ?_ _) | (with_reducible refine Kd.C_drewN ?_ _) | (with_reducible refine Kd.C_drew ?_) | exact HR392_1.out)) | (with_reducible refine Kd.C_alloc ?_ _) | (with_reducible refine Kd.C_drewN ?_ _) | (with_reducible refine Kd.C_drew ?_)))
                        (case side2 => exact HC392_1.out)
                        (case side3 => repeat (first | exact (by repeat (first | (with_reducible exact HR393_1.out) | (with_reducible refine Kd.C_alloc ?_ _) | (with_reducible refine Kd.C_drewN ?_ _) | (with_reducible refine Kd.C_drew ?_) | exact HR393_1.out)) | (with_reducible refine Kd.C_alloc ?_ _) | (with_reducible refine Kd.C_drewN ?_ _) | (with_reducible refine Kd.C_drew ?_)))
                        (case side4 => exact HC393_1.out)
                        rintro e w29 ⟨rfl, hb⟩
                        have HS0_ := (hb.cell (World.block_lt_of_cell? _ _ (hHeld.1))).trans (hHeld.1)
                        have HS1_ := (hb.cell (World.block_lt_of_cell? _ _ (hHeld.2.1))).trans (hHeld.2.1)
                        have HS2_ := (hb.cell (World.block_lt_of_cell? _ _ (hHeld.2.2.1))).trans (hHeld.2.2.1)
                        have HS3_ := (hb.cell (World.block_lt_of_cell? _ _ (hHeld.2.2.2))).trans (hHeld.2.2.2)
                        refine ⟨_, rfl, ?_⟩
                        have n0_ := Aside0.mk (Kd.V_below (by (with_reducible repeat (first | apply Kd.V_alloc | apply Kd.V_drewN | apply Kd.V_drew)); exact HO_0.out) hb)
                        have n1_ := Aside0.mk (Kd.V_below (by (with_reducible repeat (first | apply Kd.V_alloc | apply Kd.V_drewN | apply Kd.V_drew)); exact HO_1.out) hb)
                        have n2_ := Aside0.mk (Kd.N_below (by (with_reducible repeat (first | apply Kd.N_alloc | apply Kd.N_drewN | apply Kd.N_drew)); exact HO_5.out) hb)
                        have n3_ := Aside0.mk (Kd.V_below (by (with_reducible repeat (first | apply Kd.V_alloc | apply Kd.V_drewN | apply Kd.V_drew)); exact HL392_1.out) hb)
                        have n4_ := Aside0.mk (Kd.V_below (by (with_reducible repeat (first | apply Kd.V_alloc | apply Kd.V_drewN | apply Kd.V_drew)); exact HL393_1.out) hb)
                        have n5_ := Aside0.mk (Kd.C_below (by repeat (first | (with_reducible exact HR392_1.out) | (with_reducible refine Kd.C_alloc ?_ _) | (with_reducible refine Kd.C_drewN ?_ _) | (with_reducible refine Kd.C_drew ?_) | exact HR392_1.out)) hb)
                        have n6_ := Aside0.mk (Kd.C_below (by repeat (first | (with_reducible exact HR393_1.out) | (with_reducible refine Kd.C_alloc ?_ _) | (with_reducible refine Kd.C_drewN ?_ _) | (with_reducible refine Kd.C_drew ?_) | exact HR393_1.out)) hb)
                        have n7_ := Aside0.mk (below_step (by repeat (first | (with_reducible first | exact HB.out | apply below_alloc | apply pw_below_drewN | apply below_drew1) | exact HB.out)) hb)
                        clear HO_0
                        clear HO_1
                        clear HO_5
                        clear HL392_1
                        clear HL393_1
                        clear HR392_1
                        clear HR393_1
                        clear HB
                        have HO_0 := n0_
                        have HO_1 := n1_
                        have HO_5 := n2_
                        have HL392_1 := n3_
                        have HL393_1 := n4_
                        have HR392_1 := n5_
                        have HR393_1 := n6_
                        have HB := n7_
                        clear n0_ n1_ n2_ n3_ n4_ n5_ n6_ n7_
                        (try clear hb)
                        (try clear hb2)
                        (try clear hk)
                        (try clear hi)
                        refine hK.out _ _ ⟨HS0_, HS1_, HS2_, HS3_⟩ (fun hHeld => ?_)
                        clear hK K
                        refine norm_ (a' := ?_) ?_ ?_
                        rotate_left
                        · show Act.put _ (some 24) _ = _
                          simp only [Act.put, List.setIfInBounds_toArray, List.set_cons_zero, List.set_cons_succ, i64_w, i32_w]
                          rfl
                        refine pure_ (i := 9) (N := some 6) (v := ?_) (a' := ?_) #[true, true, true, true, true, true, true, true, true, true] rfl rfl (any_of HT_.out (by kernel_rfl)) (fun _ _ _ h => h) (Or.inl ⟨by rfl, ?_⟩) ?_ ?_
                        rotate_left
                        · intro w'
                          go_simp
                          with_reducible rfl
                        rotate_left
                        · simp only [Act.put, List.setIfInBounds_toArray, List.set_cons_zero, List.set_cons_succ, i64_w, i32_w]
                          rfl
                        refine done_ (done_of HT_.out (by kernel_rfl)) ?_
                        have p404 : 0 ≤ (0 : Int) := (by omega)
                        have q404 : 0 < (x1_1.length : Int) := of_decide_eq_true (by first | (with_reducible assumption) | assumption)
                        obtain ⟨ad404, A404_1, c404_1, e404, hx404_0, hx404_1, hl404_1, hi404_1⟩ := at_T89 (Kd.V_reads' HO_1.out).2.2 0 p404 q404
                        (try clear hx393_0)
                        (try clear hx393_1)
                        (try clear hx393_2)
                        (try clear hx393_3)
                        (try clear hx393_0)
                        (try clear hx393_1)
                        (try clear hx393_2)
                        (try clear hx393_3)
                        (try clear HS0_)
                        (try clear HS1_)
                        (try clear HS2_)
                        (try clear HS3_)
                        (try clear HS4_)
                        (try clear HS5_)
                        (try clear HS6_)
                        (try clear HS7_)
                        (try clear HS8_)
                        (try clear HS9_)
                        (try clear hHeld)
                        obtain rfl : ad393 = ad404 := (by injection e404)
                        obtain ⟨ce404, hce404, hMe404, hcc404⟩ := Kd.V_get HO_1.out z89 0 p404 (by first | exact q404 | exact of_decide_eq_true (by first | (with_reducible assumption) | assumption) | (have e_ := (Kd.V_reads' HO_1.out).1; omega))
                        obtain ⟨ua404_1, uc404_1, rfl, ul404_1, ge404_1⟩ := k89_openF hMe404
                        have hv404_1 := hcc404 1 _ rfl
                        rw [add_field _ _ 1 (by omega)] at hv404_1
                        replace hv404_1 := Option.some.inj (hv404_1.symm.trans hx404_1)
                        injection hv404_1 with hva_ hvn_ hvc_
                        rw [hva_] at ge404_1
                        rw [hvc_] at ul404_1
                        have HL404_1 := Aside0.mk (show Kd.V k89 89 _ w.heap.size _ _ ((rd_T89 x1_1 0).f1) from Kd.V_mk ul404_1 ge404_1)
                        clear hva_ hvn_ hvc_ ge404_1 ul404_1
                        clear hcc404 hce404
                        have qi404 : (0 < x1_1.length) = True := eq_true (by omega)
                        (try rw [show ((0 : Int)).toNat = 0 from rfl] at hx404_0)
                        (try rw [show 0 * 2 = 0 from rfl] at hx404_0)
                        (try rw [Addr.add_zero'] at hx404_0)
                        (try rw [show ((0 : Int)).toNat = 0 from rfl] at hx404_1)
                        (try rw [show 0 * 2 = 0 from rfl] at hx404_1)
                        (try rw [Addr.add_zero'] at hx404_1)
                        have HR404_1 := Aside0.mk hi404_1
                        have HC404_1 := Aside0.mk hl404_1
                        clear hi404_1 hl404_1
                        replace p404 := eq_true p404
                        replace q404 := eq_true q404
                        try go_wp2_with (first | ((with_reducible refine gate_builtin (b := .append) (xs := #[.tmp 60, .tmp 64]) rfl ?_); (try (refine gate_guard (by rfl) ?_; dsimp only)); at_builtin; refine Kd.N_append k89 (w0 := w) w.heap.size rfl (.tmp 60) (.tmp 64) 63 89 (.agg #[(.int .i64 0), (.slice none 0 0)]) 32 rfl Try.underlying63 info89 rfl (by decide) (by omega) u5 x5_1 (⟨(rd_T89 x1_1 0).f0, (rd_T89 x1_1 0).f1⟩ : S89) [.int .i64 ((rd_T89 x1_1 0).f0), .slice A404_1 ((rd_T89 x1_1 0).f1).length c404_1] (fun k_ => ((P0_ k_ ∨ P1_ k_) ∨ w.heap.size ≤ k_)) (fun k_ => ((fun k_ => ((P0_ k_ ∨ P1_ k_) ∨ w.heap.size ≤ k_))) k_ ∧ some k_ ≠ (u5 : Value).ownBlock) rfl rfl ?aP (fun _ hk => hk) ?aF ?aO ?aB ?aS ?aL ?_; (case aP => exact (k89_mkF _ _ (⟨(rd_T89 x1_1 0).f0, (rd_T89 x1_1 0).f1⟩ : S89) (Kd.V_reads' (Kd.V_mono (ok' := (fun k_ => ((fun k_ => ((P0_ k_ ∨ P1_ k_) ∨ w.heap.size ≤ k_))) k_ ∧ some k_ ≠ (u5 : Value).ownBlock)) (HL404_1.out) (fun k_ hk => ⟨hk.1, hk.2⟩))).2.1 (Kd.V_F (Kd.V_mono (ok' := (fun k_ => ((fun k_ => ((P0_ k_ ∨ P1_ k_) ∨ w.heap.size ≤ k_))) k_ ∧ some k_ ≠ (u5 : Value).ownBlock)) (HL404_1.out) (fun k_ hk => ⟨hk.1, hk.2⟩))))); (case aB => exact (by repeat (first | (with_reducible first | exact HB.out | apply below_alloc | apply pw_below_drewN | apply below_drew1) | exact HB.out))); (case aF => exact (fun k_ hk => (.inr (Nat.le_trans (below_size (by repeat (first | (with_reducible first | exact HB.out | apply below_alloc | apply pw_below_drewN | apply below_drew1) | exact HB.out))) hk)))); (case aO => exact (by (with_reducible repeat (first | apply Kd.N_alloc | apply Kd.N_drewN | apply Kd.N_drew)); exact HO_5.out)); (case aS => exact (below_size (by repeat (first | (with_reducible first | exact HB.out | apply below_alloc | apply pw_below_drewN | apply below_drew1) | exact HB.out)))); (case aL => have := LMc24.out; omega); intro v406 w30 ho hb hg hat; rw [← Ny405.out] at ho; have n0_ := Aside0.mk (Kd.V_afterv (ok := (fun k_ => ((P0_ k_ ∨ P1_ k_) ∨ w.heap.size ≤ k_))) (by (with_reducible repeat (first | apply Kd.V_alloc | apply Kd.V_drewN | apply Kd.V_drew)); exact HO_0.out) hg hat); have n1_ := Aside0.mk (Kd.V_afterv (ok := (fun k_ => ((P0_ k_ ∨ P1_ k_) ∨ w.heap.size ≤ k_))) (by (with_reducible repeat (first | apply Kd.V_alloc | apply Kd.V_drewN | apply Kd.V_drew)); exact HO_1.out) hg hat); have n2_ := Aside0.mk (Kd.V_afterv (ok := (fun k_ => ((P0_ k_ ∨ P1_ k_) ∨ w.heap.size ≤ k_))) (by (with_reducible repeat (first | apply Kd.V_alloc | apply Kd.V_drewN | apply Kd.V_drew)); exact HL392_1.out) hg hat); have n3_ := Aside0.mk (Kd.V_afterv (ok := (fun k_ => ((P0_ k_ ∨ P1_ k_) ∨ w.heap.size ≤ k_))) (by (with_reducible repeat (first | apply Kd.V_alloc | apply Kd.V_drewN | apply Kd.V_drew)); exact HL393_1.out) hg hat); have n4_ := Aside0.mk (Kd.V_afterv (ok := (fun k_ => ((P0_ k_ ∨ P1_ k_) ∨ w.heap.size ≤ k_))) (by (with_reducible repeat (first | apply Kd.V_alloc | apply Kd.V_drewN | apply Kd.V_drew)); exact HL404_1.out) hg hat); have n5_ := Aside0.mk (hb); have n6_ := Aside0.mk (ho); clear HO_0; clear HO_1; clear HL392_1; clear HL393_1; clear HL404_1; clear HB; clear HO_5; have HO_0 := n0_; have HO_1 := n1_; have HL392_1 := n2_; have HL393_1 := n3_; have HL404_1 := n4_; have HB := n5_; have HO407 := n6_; clear n0_ n1_ n2_ n3_ n4_ n5_ n6_; clear ho hb hg hat; have q31 : (1 : Int) ≤ ((x1_1.length : Int) : Int) := of_decide_eq_true (by first | (with_reducible assumption) | assumption); obtain ⟨i031, hi031, _, hsz31, _⟩ := info_parts info89; have hroom31 : x1_1.length ≤ co28 := (Kd.V_reads' HO_1.out).2.1; have hC31 : Kd.F k89 _ _ (some ad393) x1_1.length x1_1 := (Kd.V_at (base := w.heap.size) HO_1.out).2.2; have hcut31 := cut_from (P := Try.prog) 63 89 .i64 Try.underlying63 hi031 2 hsz31 (some ad393) x1_1.length co28 1 (by omega) q31; have hr31 := Kd.F_cut (m := (1 : Int).toNat) (c := co28) hC31 (by omega) hroom31; obtain ⟨A31, hA31⟩ : ∃ A1, A1 = (if co28 = (1 : Int).toNat then (some ad393) else ((some ad393) : Option Addr).map (·.add ((1 : Int).toNat * 2))) := ⟨_, rfl⟩; obtain ⟨c31, hc31⟩ : ∃ c1, c1 = co28 - (1 : Int).toNat := ⟨_, rfl⟩; have hy31 : y408.length = x1_1.length - (1 : Int).toNat := (by rw [Ny408.out, List.length_drop] <;> omega); rw [show (x1_1).drop (1 : Int).toNat = y408 from Ny408.out.symm] at hr31; replace hr31 : Kd.F k89 _ _ A31 y408.length y408 := (by rw [hA31]; exact hr31); rw [← hy31, ← hA31, ← hc31] at hcut31; have HO412 := Aside0.mk (show Kd.V k89 89 _ w.heap.size _ (.slice A31 y408.length c31) y408 from Kd.V_mk (by rw [hy31, hc31]; exact Nat.sub_le_sub_right hroom31 _) hr31); have HC412 := Aside0.mk (show y408.length ≤ c31 from by rw [hy31, hc31]; exact Nat.sub_le_sub_right hroom31 _); clear hr31 hC31 hroom31 hi031 hsz31 hc31; have KY31 := Aside0.mk hy31; have KA31 := Aside0.mk hA31; clear hy31 hA31; replace q31 := eq_true q31))
                        go_roundg kj4
                        case measure => have := HK1.out; have := HJ4.out; omega
                        case rel => exact ⟨(x0_1), (y408), (y405), H', ⟨by have := HK1.out; have := HJ4.out; omega⟩, ⟨by (with_reducible repeat (first | apply Kd.V_alloc | apply Kd.V_drewN | apply Kd.V_drew)); exact HO_0.out⟩, ⟨by (with_reducible repeat (first | apply Kd.V_alloc | apply Kd.V_drewN | apply Kd.V_drew)); exact HO412.out⟩, ⟨by (with_reducible repeat (first | apply Kd.N_alloc | apply Kd.N_drewN | apply Kd.N_drew)); exact HO407.out⟩, ⟨by repeat (first | (with_reducible first | exact HB.out | apply below_alloc | apply pw_below_drewN | apply below_drew1) | exact HB.out)⟩⟩
                      · rw [if_neg c25] at H
                        exact absurd H (by simp)
                    · rw [if_neg c24] at H
                      exact absurd H (by simp)
                  · rw [if_neg c23] at H
                    have c23b0 : decide (t394 < 0) = false := decide_eq_false c23
                    clear c23
                    by_cases c32 : x5_1.length < 4398046511104
                    · rw [if_pos c32] at H
                      have LMc32 := Aside0.mk c32
                      clear c32
                      obtain ⟨y416, hy416⟩ : ∃ y_ : List (S89), y_ = (x5_1 ++ [(⟨wrap64 (((rd_T89 x0_1 0).f0) + ((rd_T89 x1_1 0).f0)), (rd_T89 x0_1 0).f1⟩ : S89)]) := ⟨_, rfl⟩
                      replace H : (if 1 ≤ (x0_1.length : Int) then (if 1 ≤ (x1_1.length : Int) then (impl_natural.l0 kj4 (x0_1.drop 1) (x1_1.drop 1) y416) else (none)) else (none)) = some r := by first | (rw [hy416]; with_reducible exact H) | (have H2_ := (Option.bind_some _ _).symm.trans H; rw [hy416]; with_reducible exact H2_) | (have H2_ := (Option.bind_some _ _).symm.trans H; with_reducible exact H2_) | with_reducible exact H | (rw [hy416]; exact H) | exact H
                      have Ny416 := Aside0.mk hy416
                      clear hy416
                      by_cases c33 : 1 ≤ (x0_1.length : Int)
                      · rw [if_pos c33] at H
                        have c33b0 := eq_true c33
                        have c33b1 : decide (1 ≤ (x0_1.length : Int)) = true := decide_eq_true c33
                        clear c33
                        obtain ⟨y419, hy419⟩ : ∃ y_ : List (S89), y_ = (x0_1.drop 1) := ⟨_, rfl⟩
                        replace H : (if 1 ≤ (x1_1.length : Int) then (impl_natural.l0 kj4 y419 (x1_1.drop 1) y416) else (none)) = some r := by first | (rw [hy419]; with_reducible exact H) | (have H2_ := (Option.bind_some _ _).symm.trans H; rw [hy419]; with_reducible exact H2_) | (have H2_ := (Option.bind_some _ _).symm.trans H; with_reducible exact H2_) | with_reducible exact H | (rw [hy419]; exact H) | exact H
                        have Ny419 := Aside0.mk hy419
                        clear hy419
                        by_cases c34 : 1 ≤ (x1_1.length : Int)
                        · rw [if_pos c34] at H
                          have c34b0 := eq_true c34
                          have c34b1 : decide (1 ≤ (x1_1.length : Int)) = true := decide_eq_true c34
                          clear c34
                          obtain ⟨y424, hy424⟩ : ∃ y_ : List (S89), y_ = (x1_1.drop 1) := ⟨_, rfl⟩
                          replace H : (impl_natural.l0 kj4 y419 y424 y416) = some r := by first | (rw [hy424]; with_reducible exact H) | (have H2_ := (Option.bind_some _ _).symm.trans H; rw [hy424]; with_reducible exact H2_) | (have H2_ := (Option.bind_some _ _).symm.trans H; with_reducible exact H2_) | with_reducible exact H | (rw [hy424]; exact H) | exact H
                          have Ny424 := Aside0.mk hy424
                          clear hy424
                          have H' := Aside0.mk H
                          clear H
                          try go_wp2
                          have n0_ := Aside0.mk (Kd.V_drew HO_0.out)
                          have n1_ := Aside0.mk (Kd.V_drew HO_1.out)
                          have n2_ := Aside0.mk (Kd.N_drew HO_5.out)
                          have n3_ := Aside0.mk (below_drew1 HB.out)
                          clear HO_0
                          clear HO_1
                          clear HO_5
                          clear HB
                          have HO_0 := n0_
                          have HO_1 := n1_
                          have HO_5 := n2_
                          have HB := n3_
                          clear n0_ n1_ n2_ n3_
                          obtain ⟨Ao36, co36, eo36⟩ := Kd.V_slice HO_0.out
                          (first | subst eo36 | (injection eo36 with f1_ f2_ f3_; have f4_ := f1_.symm; have f5_ := f3_.symm; clear f1_ f2_ f3_; subst f4_; subst f5_))
                          have p392 : 0 ≤ (0 : Int) := (by omega)
                          have q392 : 0 < (x0_1.length : Int) := of_decide_eq_true (by first | (with_reducible assumption) | assumption)
                          obtain ⟨ad392, A392_1, c392_1, e392, hx392_0, hx392_1, hl392_1, hi392_1⟩ := at_T89 (Kd.V_reads' HO_0.out).2.2 0 p392 q392
                          (try clear hx395_0)
                          (try clear hx395_1)
                          (try clear hx395_2)
                          (try clear hx395_3)
                          (try clear HS4_)
                          (try clear HS5_)
                          (try clear HS6_)
                          (try clear HS7_)
                          (try clear HS8_)
                          (try clear HS9_)
                          (try clear hHeld)
                          cases e392
                          obtain ⟨ce392, hce392, hMe392, hcc392⟩ := Kd.V_get HO_0.out z89 0 p392 (by first | exact q392 | exact of_decide_eq_true (by first | (with_reducible assumption) | assumption) | (have e_ := (Kd.V_reads' HO_0.out).1; omega))
                          obtain ⟨ua392_1, uc392_1, rfl, ul392_1, ge392_1⟩ := k89_openF hMe392
                          have hv392_1 := hcc392 1 _ rfl
                          rw [add_field _ _ 1 (by omega)] at hv392_1
                          replace hv392_1 := Option.some.inj (hv392_1.symm.trans hx392_1)
                          injection hv392_1 with hva_ hvn_ hvc_
                          rw [hva_] at ge392_1
                          rw [hvc_] at ul392_1
                          have HL392_1 := Aside0.mk (show Kd.V k89 89 _ w.heap.size _ _ ((rd_T89 x0_1 0).f1) from Kd.V_mk ul392_1 ge392_1)
                          clear hva_ hvn_ hvc_ ge392_1 ul392_1
                          clear hcc392 hce392
                          have qi392 : (0 < x0_1.length) = True := eq_true (by omega)
                          (try rw [show ((0 : Int)).toNat = 0 from rfl] at hx392_0)
                          (try rw [show 0 * 2 = 0 from rfl] at hx392_0)
                          (try rw [Addr.add_zero'] at hx392_0)
                          (try rw [show ((0 : Int)).toNat = 0 from rfl] at hx392_1)
                          (try rw [show 0 * 2 = 0 from rfl] at hx392_1)
                          (try rw [Addr.add_zero'] at hx392_1)
                          have HR392_1 := Aside0.mk hi392_1
                          have HC392_1 := Aside0.mk hl392_1
                          clear hi392_1 hl392_1
                          replace p392 := eq_true p392
                          replace q392 := eq_true q392
                          obtain ⟨Ao37, co37, eo37⟩ := Kd.V_slice HO_1.out
                          (first | subst eo37 | (injection eo37 with f1_ f2_ f3_; have f4_ := f1_.symm; have f5_ := f3_.symm; clear f1_ f2_ f3_; subst f4_; subst f5_))
                          have p393 : 0 ≤ (0 : Int) := (by omega)
                          have q393 : 0 < (x1_1.length : Int) := of_decide_eq_true (by first | (with_reducible assumption) | assumption)
                          obtain ⟨ad393, A393_1, c393_1, e393, hx393_0, hx393_1, hl393_1, hi393_1⟩ := at_T89 (Kd.V_reads' HO_1.out).2.2 0 p393 q393
                          (try clear hx404_0)
                          (try clear hx404_1)
                          (try clear hx404_2)
                          (try clear hx404_3)
                          (try clear HS4_)
                          (try clear HS5_)
                          (try clear HS6_)
                          (try clear HS7_)
                          (try clear HS8_)
                          (try clear HS9_)
                          cases e393
                          obtain ⟨ce393, hce393, hMe393, hcc393⟩ := Kd.V_get HO_1.out z89 0 p393 (by first | exact q393 | exact of_decide_eq_true (by first | (with_reducible assumption) | assumption) | (have e_ := (Kd.V_reads' HO_1.out).1; omega))
                          obtain ⟨ua393_1, uc393_1, rfl, ul393_1, ge393_1⟩ := k89_openF hMe393
                          have hv393_1 := hcc393 1 _ rfl
                          rw [add_field _ _ 1 (by omega)] at hv393_1
                          replace hv393_1 := Option.some.inj (hv393_1.symm.trans hx393_1)
                          injection hv393_1 with hva_ hvn_ hvc_
                          rw [hva_] at ge393_1
                          rw [hvc_] at ul393_1
                          have HL393_1 := Aside0.mk (show Kd.V k89 89 _ w.heap.size _ _ ((rd_T89 x1_1 0).f1) from Kd.V_mk ul393_1 ge393_1)
                          clear hva_ hvn_ hvc_ ge393_1 ul393_1
                          clear hcc393 hce393
                          have qi393 : (0 < x1_1.length) = True := eq_true (by omega)
                          (try rw [show ((0 : Int)).toNat = 0 from rfl] at hx393_0)
                          (try rw [show 0 * 2 = 0 from rfl] at hx393_0)
                          (try rw [Addr.add_zero'] at hx393_0)
                          (try rw [show ((0 : Int)).toNat = 0 from rfl] at hx393_1)
                          (try rw [show 0 * 2 = 0 from rfl] at hx393_1)
                          (try rw [Addr.add_zero'] at hx393_1)
                          have HR393_1 := Aside0.mk hi393_1
                          have HC393_1 := Aside0.mk hl393_1
                          clear hi393_1 hl393_1
                          replace p393 := eq_true p393
                          replace q393 := eq_true q393
                          refine start_ (n := 10) (S := fun w' => w'.cell? ad392 = some (.int .i64 ((rd_T89 x0_1 0).f0)) ∧ w'.cell? ⟨ad392.block, ad392.off + 1, none⟩ = some (.slice A392_1 ((rd_T89 x0_1 0).f1).length c392_1) ∧ w'.cell? ad393 = some (.int .i64 ((rd_T89 x1_1 0).f0)) ∧ w'.cell? ⟨ad393.block, ad393.off + 1, none⟩ = some (.slice A393_1 ((rd_T89 x1_1 0).f1).length c393_1)) (ds := []) #[false, false, false, false, false, false, false, false, false, false] (by kernel_rfl) rfl rfl ⟨hx392_0, hx392_1, hx393_0, hx393_1⟩ (fun hHeld => ?_); refine with_tabW impl_natural.tab3 impl_natural.bits3 (fun HT_ HW_ => ?_)
                          generalize wc.drew = w35 at HO_0 HO_1 HO_5 HB HL392_1 HL393_1 HR392_1 HR393_1 hx392_0 hx392_1 hx393_0 hx393_1 hHeld ⊢
                          refine pure_ (i := 0) (N := some 16) (v := ?_) (a' := ?_) #[true, false, false, false, false, false, false, false, false, false] rfl rfl (any_of HT_.out (by kernel_rfl)) (fun _ _ _ h => h) (Or.inl ⟨by rfl, ?_⟩) ?_ ?_
                          rotate_left
                          · intro w'
                            go_simp
                            with_reducible rfl
                          rotate_left
                          · simp only [Act.put, List.setIfInBounds_toArray, List.set_cons_zero, List.set_cons_succ, i64_w, i32_w]
                            rfl
                          refine pure_ (i := 1) (N := some 17) (v := ?_) (a' := ?_) #[true, true, false, false, false, false, false, false, false, false] rfl rfl (any_of HT_.out (by kernel_rfl)) (fun _ _ _ h => h) (Or.inl ⟨by rfl, ?_⟩) ?_ ?_
                          rotate_left
                          · intro w'
                            go_simp
                            with_reducible rfl
                          rotate_left
                          · simp only [Act.put, List.setIfInBounds_toArray, List.set_cons_zero, List.set_cons_succ, i64_w, i32_w]
                            rfl
                          refine pure_ (i := 2) (N := some 18) (v := ?_) (a' := ?_) #[true, true, true, false, false, false, false, false, false, false] rfl rfl (any_of HT_.out (by kernel_rfl)) (fun _ _ _ h => h) (Or.inl ⟨by rfl, ?_⟩) ?_ ?_
                          rotate_left
                          · intro w'
                            go_simp
                            with_reducible rfl
                          rotate_left
                          · simp only [Act.put, List.setIfInBounds_toArray, List.set_cons_zero, List.set_cons_succ, i64_w, i32_w]
                            rfl
                          refine pure_ (i := 4) (N := some 20) (v := ?_) (a' := ?_) #[true, true, true, false, true, false, false, false, false, false] rfl rfl (any_of HT_.out (by kernel_rfl)) (fun _ _ _ h => h) (Or.inl ⟨by rfl, ?_⟩) ?_ ?_
                          rotate_left
                          · intro w'
                            go_simp
                            with_reducible rfl
                          rotate_left
                          · simp only [Act.put, List.setIfInBounds_toArray, List.set_cons_zero, List.set_cons_succ, i64_w, i32_w]
                            rfl
                          refine pure_ (i := 5) (N := some 21) (v := ?_) (a' := ?_) #[true, true, true, false, true, true, false, false, false, false] rfl rfl (any_of HT_.out (by kernel_rfl)) (fun _ _ _ h => h) (Or.inl ⟨by rfl, ?_⟩) ?_ ?_
                          rotate_left
                          · intro w'
                            go_simp
                            with_reducible rfl
                          rotate_left
                          · simp only [Act.put, List.setIfInBounds_toArray, List.set_cons_zero, List.set_cons_succ, i64_w, i32_w]
                            rfl
                          refine pure_ (i := 6) (N := some 22) (v := ?_) (a' := ?_) #[true, true, true, false, true, true, true, false, false, false] rfl rfl (any_of HT_.out (by kernel_rfl)) (fun _ _ _ h => h) (Or.inl ⟨by rfl, ?_⟩) ?_ ?_
                          rotate_left
                          · intro w'
                            go_simp
                            with_reducible rfl
                          rotate_left
                          · simp only [Act.put, List.setIfInBounds_toArray, List.set_cons_zero, List.set_cons_succ, i64_w, i32_w]
                            rfl
                          refine take_ (i := 3) (N := some 19) (v := ?_) (a' := ?_) #[true, true, true, true, true, true, true, false, false, false] rfl rfl (take_ofW HT_.out HW_.out (by kernel_rfl)) (fun _ _ _ h => h) (Or.inl ⟨by rfl, ?_⟩) hHeld ?_ ?_
                          rotate_left
                          · rintro w' ⟨s0, s1, s2, s3⟩
                            go_simp
                            with_reducible rfl
                          rotate_left
                          · simp only [Act.put, List.setIfInBounds_toArray, List.set_cons_zero, List.set_cons_succ, i64_w, i32_w]
                            rfl
                          refine take_ (i := 7) (N := some 23) (v := ?_) (a' := ?_) #[true, true, true, true, true, true, true, true, false, false] rfl rfl (take_ofW HT_.out HW_.out (by kernel_rfl)) (fun _ _ _ h => h) (Or.inl ⟨by rfl, ?_⟩) hHeld ?_ ?_
                          rotate_left
                          · rintro w' ⟨s0, s1, s2, s3⟩
                            go_simp
                            with_reducible rfl
                          rotate_left
                          · simp only [Act.put, List.setIfInBounds_toArray, List.set_cons_zero, List.set_cons_succ, i64_w, i32_w]
                            rfl
                          refine one_ (i := 8) (N := some 24) #[true, true, true, true, true, true, true, true, true, false] rfl rfl (one_of HT_.out (by kernel_rfl)) (by decide) (fun K hK => ?_)
                          refine goes_ Try.func46 (by kernel_rfl) rfl #[.slice A392_1 ((rd_T89 x0_1 0).f1).length c392_1, .slice A393_1 ((rd_T89 x1_1 0).f1).length c393_1] (by rfl) rfl rfl (by (try simp only [List.map_toArray, List.map_cons, List.map_nil]); first | done | rfl | (simp only [List.length_drop, List.length_take]; rfl)) ?_
                          with_reducible refine (impl_compare.calls kj4 _ _ ((rd_T89 x0_1 0).f1) _ _ ((rd_T89 x1_1 0).f1) t394 _ ?side1 ?side2 ?side3 ?side4 A13.out).mono ?_
                          (case side1 => repeat (first | exact (by repeat (first | (with_reducible exact HR392_1.out) | (with_reducible refine Kd.C_alloc ?_ _) | (with_reducible refine Kd.C_drewN ?_ _) | (with_reducible refine Kd.C_drew ?_) | exact HR392_1.out)) | (with_reducible refine Kd.C_alloc ?_ _) | (with_reducible refine Kd.C_drewN ?_ _) | (with_reducible refine Kd.C_drew ?_)))
                          (case side2 => exact HC392_1.out)
                          (case side3 => repeat (first | exact (by repeat (first | (with_reducible exact HR393_1.out) | (with_reducible refine Kd.C_alloc ?_ _) | (with_reducible refine Kd.C_drewN ?_ _) | (with_reducible refine Kd.C_drew ?_) | exact HR393_1.out)) | (with_reducible refine Kd.C_alloc ?_ _) | (with_reducible refine Kd.C_drewN ?_ _) | (with_reducible refine Kd.C_drew ?_)))
                          (case side4 => exact HC393_1.out)
                          rintro e w38 ⟨rfl, hb⟩
                          have HS0_ := (hb.cell (World.block_lt_of_cell? _ _ (hHeld.1))).trans (hHeld.1)
                          have HS1_ := (hb.cell (World.block_lt_of_cell? _ _ (hHeld.2.1))).trans (hHeld.2.1)
                          have HS2_ := (hb.cell (World.block_lt_of_cell? _ _ (hHeld.2.2.1))).trans (hHeld.2.2.1)
                          have HS3_ := (hb.cell (World.block_lt_of_cell? _ _ (hHeld.2.2.2))).trans (hHeld.2.2.2)
                          refine ⟨_, rfl, ?_⟩
                          have n0_ := Aside0.mk (Kd.V_below (by (with_reducible repeat (first | apply Kd.V_alloc | apply Kd.V_drewN | apply Kd.V_drew)); exact HO_0.out) hb)
                          have n1_ := Aside0.mk (Kd.V_below (by (with_reducible repeat (first | apply Kd.V_alloc | apply Kd.V_drewN | apply Kd.V_drew)); exact HO_1.out) hb)
                          have n2_ := Aside0.mk (Kd.N_below (by (with_reducible repeat (first | apply Kd.N_alloc | apply Kd.N_drewN | apply Kd.N_drew)); exact HO_5.out) hb)
                          have n3_ := Aside0.mk (Kd.V_below (by (with_reducible repeat (first | apply Kd.V_alloc | apply Kd.V_drewN | apply Kd.V_drew)); exact HL392_1.out) hb)
                          have n4_ := Aside0.mk (Kd.V_below (by (with_reducible repeat (first | apply Kd.V_alloc | apply Kd.V_drewN | apply Kd.V_drew)); exact HL393_1.out) hb)
                          have n5_ := Aside0.mk (Kd.C_below (by repeat (first | (with_reducible exact HR392_1.out) | (with_reducible refine Kd.C_alloc ?_ _) | (with_reducible refine Kd.C_drewN ?_ _) | (with_reducible refine Kd.C_drew ?_) | exact HR392_1.out)) hb)
                          have n6_ := Aside0.mk (Kd.C_below (by repeat (first | (with_reducible exact HR393_1.out) | (with_reducible refine Kd.C_alloc ?_ _) | (with_reducible refine Kd.C_drewN ?_ _) | (with_reducible refine Kd.C_drew ?_) | exact HR393_1.out)) hb)
                          have n7_ := Aside0.mk (below_step (by repeat (first | (with_reducible first | exact HB.out | apply below_alloc | apply pw_below_drewN | apply below_drew1) | exact HB.out)) hb)
                          clear HO_0
                          clear HO_1
                          clear HO_5
                          clear HL392_1
                          clear HL393_1
                          clear HR392_1
                          clear HR393_1
                          clear HB
                          have HO_0 := n0_
                          have HO_1 := n1_
                          have HO_5 := n2_
                          have HL392_1 := n3_
                          have HL393_1 := n4_
                          have HR392_1 := n5_
                          have HR393_1 := n6_
                          have HB := n7_
                          clear n0_ n1_ n2_ n3_ n4_ n5_ n6_ n7_
                          (try clear hb)
                          (try clear hb2)
                          (try clear hk)
                          (try clear hi)
                          refine hK.out _ _ ⟨HS0_, HS1_, HS2_, HS3_⟩ (fun hHeld => ?_)
                          clear hK K
                          refine norm_ (a' := ?_) ?_ ?_
                          rotate_left
                          · show Act.put _ (some 24) _ = _
                            simp only [Act.put, List.setIfInBounds_toArray, List.set_cons_zero, List.set_cons_succ, i64_w, i32_w]
                            rfl
                          refine pure_ (i := 9) (N := some 6) (v := ?_) (a' := ?_) #[true, true, true, true, true, true, true, true, true, true] rfl rfl (any_of HT_.out (by kernel_rfl)) (fun _ _ _ h => h) (Or.inl ⟨by rfl, ?_⟩) ?_ ?_
                          rotate_left
                          · intro w'
                            go_simp
                            with_reducible rfl
                          rotate_left
                          · simp only [Act.put, List.setIfInBounds_toArray, List.set_cons_zero, List.set_cons_succ, i64_w, i32_w]
                            rfl
                          refine done_ (done_of HT_.out (by kernel_rfl)) ?_
                          try go_wp2
                          have n0_ := Aside0.mk (Kd.V_drew HO_0.out)
                          have n1_ := Aside0.mk (Kd.V_drew HO_1.out)
                          have n2_ := Aside0.mk (Kd.N_drew HO_5.out)
                          have n3_ := Aside0.mk (Kd.V_drew HL392_1.out)
                          have n4_ := Aside0.mk (Kd.V_drew HL393_1.out)
                          have n5_ := Aside0.mk (Kd.C_drew HR392_1.out)
                          have n6_ := Aside0.mk (Kd.C_drew HR393_1.out)
                          have n7_ := Aside0.mk (below_drew1 HB.out)
                          clear HO_0
                          clear HO_1
                          clear HO_5
                          clear HL392_1
                          clear HL393_1
                          clear HR392_1
                          clear HR393_1
                          clear HB
                          have HO_0 := n0_
                          have HO_1 := n1_
                          have HO_5 := n2_
                          have HL392_1 := n3_
                          have HL393_1 := n4_
                          have HR392_1 := n5_
                          have HR393_1 := n6_
                          have HB := n7_
                          clear n0_ n1_ n2_ n3_ n4_ n5_ n6_ n7_
                          have p413 : 0 ≤ (0 : Int) := (by omega)
                          have q413 : 0 < (x0_1.length : Int) := of_decide_eq_true (by first | (with_reducible assumption) | assumption)
                          obtain ⟨ad413, A413_1, c413_1, e413, hx413_0, hx413_1, hl413_1, hi413_1⟩ := at_T89 (Kd.V_reads' HO_0.out).2.2 0 p413 q413
                          (try clear hx392_0)
                          (try clear hx392_1)
                          (try clear hx392_2)
                          (try clear hx392_3)
                          (try clear hx395_0)
                          (try clear hx395_1)
                          (try clear hx395_2)
                          (try clear hx395_3)
                          (try clear hx392_0)
                          (try clear hx392_1)
                          (try clear hx392_2)
                          (try clear hx392_3)
                          (try clear hx392_0)
                          (try clear hx392_1)
                          (try clear hx392_2)
                          (try clear hx392_3)
                          (try clear HS0_)
                          (try clear HS1_)
                          (try clear HS2_)
                          (try clear HS3_)
                          (try clear HS4_)
                          (try clear HS5_)
                          (try clear HS6_)
                          (try clear HS7_)
                          (try clear HS8_)
                          (try clear HS9_)
                          (try clear hHeld)
                          obtain rfl : ad392 = ad413 := (by injection e413)
                          obtain ⟨ce413, hce413, hMe413, hcc413⟩ := Kd.V_get HO_0.out z89 0 p413 (by first | exact q413 | exact of_decide_eq_true (by first | (with_reducible assumption) | assumption) | (have e_ := (Kd.V_reads' HO_0.out).1; omega))
                          obtain ⟨ua413_1, uc413_1, rfl, ul413_1, ge413_1⟩ := k89_openF hMe413
                          have hv413_1 := hcc413 1 _ rfl
                          rw [add_field _ _ 1 (by omega)] at hv413_1
                          replace hv413_1 := Option.some.inj (hv413_1.symm.trans hx413_1)
                          injection hv413_1 with hva_ hvn_ hvc_
                          rw [hva_] at ge413_1
                          rw [hvc_] at ul413_1
                          have HL413_1 := Aside0.mk (show Kd.V k89 89 _ w.heap.size _ _ ((rd_T89 x0_1 0).f1) from Kd.V_mk ul413_1 ge413_1)
                          clear hva_ hvn_ hvc_ ge413_1 ul413_1
                          clear hcc413 hce413
                          have qi413 : (0 < x0_1.length) = True := eq_true (by omega)
                          (try rw [show ((0 : Int)).toNat = 0 from rfl] at hx413_0)
                          (try rw [show 0 * 2 = 0 from rfl] at hx413_0)
                          (try rw [Addr.add_zero'] at hx413_0)
                          (try rw [show ((0 : Int)).toNat = 0 from rfl] at hx413_1)
                          (try rw [show 0 * 2 = 0 from rfl] at hx413_1)
                          (try rw [Addr.add_zero'] at hx413_1)
                          have HR413_1 := Aside0.mk hi413_1
                          have HC413_1 := Aside0.mk hl413_1
                          clear hi413_1 hl413_1
                          replace p413 := eq_true p413
                          replace q413 := eq_true q413
                          have p414 : 0 ≤ (0 : Int) := (by omega)
                          have q414 : 0 < (x1_1.length : Int) := of_decide_eq_true (by first | (with_reducible assumption) | assumption)
                          obtain ⟨ad414, A414_1, c414_1, e414, hx414_0, hx414_1, hl414_1, hi414_1⟩ := at_T89 (Kd.V_reads' HO_1.out).2.2 0 p414 q414
                          (try clear hx393_0)
                          (try clear hx393_1)
                          (try clear hx393_2)
                          (try clear hx393_3)
                          (try clear hx393_0)
                          (try clear hx393_1)
                          (try clear hx393_2)
                          (try clear hx393_3)
                          (try clear hx404_0)
                          (try clear hx404_1)
                          (try clear hx404_2)
                          (try clear hx404_3)
                          (try clear hx393_0)
                          (try clear hx393_1)
                          (try clear hx393_2)
                          (try clear hx393_3)
                          (try clear HS0_)
                          (try clear HS1_)
                          (try clear HS2_)
                          (try clear HS3_)
                          (try clear HS4_)
                          (try clear HS5_)
                          (try clear HS6_)
                          (try clear HS7_)
                          (try clear HS8_)
                          (try clear HS9_)
                          (try clear hHeld)
                          obtain rfl : ad393 = ad414 := (by injection e414)
                          obtain ⟨ce414, hce414, hMe414, hcc414⟩ := Kd.V_get HO_1.out z89 0 p414 (by first | exact q414 | exact of_decide_eq_true (by first | (with_reducible assumption) | assumption) | (have e_ := (Kd.V_reads' HO_1.out).1; omega))
                          obtain ⟨ua414_1, uc414_1, rfl, ul414_1, ge414_1⟩ := k89_openF hMe414
                          have hv414_1 := hcc414 1 _ rfl
                          rw [add_field _ _ 1 (by omega)] at hv414_1
                          replace hv414_1 := Option.some.inj (hv414_1.symm.trans hx414_1)
                          injection hv414_1 with hva_ hvn_ hvc_
                          rw [hva_] at ge414_1
                          rw [hvc_] at ul414_1
                          have HL414_1 := Aside0.mk (show Kd.V k89 89 _ w.heap.size _ _ ((rd_T89 x1_1 0).f1) from Kd.V_mk ul414_1 ge414_1)
                          clear hva_ hvn_ hvc_ ge414_1 ul414_1
                          clear hcc414 hce414
                          have qi414 : (0 < x1_1.length) = True := eq_true (by omega)
                          (try rw [show ((0 : Int)).toNat = 0 from rfl] at hx414_0)
                          (try rw [show 0 * 2 = 0 from rfl] at hx414_0)
                          (try rw [Addr.add_zero'] at hx414_0)
                          (try rw [show ((0 : Int)).toNat = 0 from rfl] at hx414_1)
                          (try rw [show 0 * 2 = 0 from rfl] at hx414_1)
                          (try rw [Addr.add_zero'] at hx414_1)
                          have HR414_1 := Aside0.mk hi414_1
                          have HC414_1 := Aside0.mk hl414_1
                          clear hi414_1 hl414_1
                          replace p414 := eq_true p414
                          replace q414 := eq_true q414
                          have p415 : 0 ≤ (0 : Int) := (by omega)
                          have q415 : 0 < (x0_1.length : Int) := of_decide_eq_true (by first | (with_reducible assumption) | assumption)
                          obtain ⟨ad415, A415_1, c415_1, e415, hx415_0, hx415_1, hl415_1, hi415_1⟩ := at_T89 (Kd.V_reads' HO_0.out).2.2 0 p415 q415
                          (try clear hx392_0)
                          (try clear hx392_1)
                          (try clear hx392_2)
                          (try clear hx392_3)
                          (try clear hx395_0)
                          (try clear hx395_1)
                          (try clear hx395_2)
                          (try clear hx395_3)
                          (try clear hx392_0)
                          (try clear hx392_1)
                          (try clear hx392_2)
                          (try clear hx392_3)
                          (try clear hx392_0)
                          (try clear hx392_1)
                          (try clear hx392_2)
                          (try clear hx392_3)
                          (try clear HS0_)
                          (try clear HS1_)
                          (try clear HS2_)
                          (try clear HS3_)
                          (try clear HS4_)
                          (try clear HS5_)
                          (try clear HS6_)
                          (try clear HS7_)
                          (try clear HS8_)
                          (try clear HS9_)
                          obtain rfl : ad392 = ad415 := (by injection e415)
                          obtain ⟨ce415, hce415, hMe415, hcc415⟩ := Kd.V_get HO_0.out z89 0 p415 (by first | exact q415 | exact of_decide_eq_true (by first | (with_reducible assumption) | assumption) | (have e_ := (Kd.V_reads' HO_0.out).1; omega))
                          obtain ⟨ua415_1, uc415_1, rfl, ul415_1, ge415_1⟩ := k89_openF hMe415
                          have hv415_1 := hcc415 1 _ rfl
                          rw [add_field _ _ 1 (by omega)] at hv415_1
                          replace hv415_1 := Option.some.inj (hv415_1.symm.trans hx415_1)
                          injection hv415_1 with hva_ hvn_ hvc_
                          rw [hva_] at ge415_1
                          rw [hvc_] at ul415_1
                          have HL415_1 := Aside0.mk (show Kd.V k89 89 _ w.heap.size _ _ ((rd_T89 x0_1 0).f1) from Kd.V_mk ul415_1 ge415_1)
                          clear hva_ hvn_ hvc_ ge415_1 ul415_1
                          clear hcc415 hce415
                          have qi415 : (0 < x0_1.length) = True := eq_true (by omega)
                          (try rw [show ((0 : Int)).toNat = 0 from rfl] at hx415_0)
                          (try rw [show 0 * 2 = 0 from rfl] at hx415_0)
                          (try rw [Addr.add_zero'] at hx415_0)
                          (try rw [show ((0 : Int)).toNat = 0 from rfl] at hx415_1)
                          (try rw [show 0 * 2 = 0 from rfl] at hx415_1)
                          (try rw [Addr.add_zero'] at hx415_1)
                          have HR415_1 := Aside0.mk hi415_1
                          have HC415_1 := Aside0.mk hl415_1
                          clear hi415_1 hl415_1
                          replace p415 := eq_true p415
                          replace q415 := eq_true q415
                          have ea_ := Option.some.inj (hx413_1.symm.trans hx415_1)
                          injection ea_ with ea_ en_ ec_
                          subst ea_
                          subst ec_
                          clear en_
                          refine start_ (n := 18) (S := fun w' => w'.cell? ad392 = some (.int .i64 ((rd_T89 x0_1 0).f0)) ∧ w'.cell? ⟨ad392.block, ad392.off + 1, none⟩ = some (.slice A413_1 ((rd_T89 x0_1 0).f1).length c413_1) ∧ w'.cell? ad393 = some (.int .i64 ((rd_T89 x1_1 0).f0)) ∧ w'.cell? ⟨ad393.block, ad393.off + 1, none⟩ = some (.slice A414_1 ((rd_T89 x1_1 0).f1).length c414_1) ∧ w'.cell? ad392 = some (.int .i64 ((rd_T89 x0_1 0).f0)) ∧ w'.cell? ⟨ad392.block, ad392.off + 1, none⟩ = some (.slice A413_1 ((rd_T89 x0_1 0).f1).length c413_1)) (ds := [15, 16]) #[false, false, false, false, false, false, false, false, false, false, false, false, false, false, false, false, false, false] (by kernel_rfl) rfl rfl ⟨hx413_0, hx413_1, hx414_0, hx414_1, hx415_0, hx415_1⟩ (fun hHeld => ?_); refine with_tabW impl_natural.tab4 impl_natural.bits4 (fun HT_ HW_ => ?_)
                          generalize w38.drew = w39 at HO_0 HO_1 HO_5 HL392_1 HL393_1 HR392_1 HR393_1 HB HL413_1 HL414_1 HL415_1 HR413_1 HR414_1 HR415_1 hx413_0 hx413_1 hx414_0 hx414_1 hx415_0 hx415_1 hHeld ⊢
                          refine pure_ (i := 0) (N := some 25) (v := ?_) (a' := ?_) #[true, false, false, false, false, false, false, false, false, false, false, false, false, false, false, false, false, false] rfl rfl (any_of HT_.out (by kernel_rfl)) (fun _ _ _ h => h) (Or.inl ⟨by rfl, ?_⟩) ?_ ?_
                          rotate_left
                          · intro w'
                            go_simp
                            with_reducible rfl
                          rotate_left
                          · simp only [Act.put, List.setIfInBounds_toArray, List.set_cons_zero, List.set_cons_succ, i64_w, i32_w]
                            rfl
                          refine pure_ (i := 1) (N := some 26) (v := ?_) (a' := ?_) #[true, true, false, false, false, false, false, false, false, false, false, false, false, false, false, false, false, false] rfl rfl (any_of HT_.out (by kernel_rfl)) (fun _ _ _ h => h) (Or.inl ⟨by rfl, ?_⟩) ?_ ?_
                          rotate_left
                          · intro w'
                            go_simp
                            with_reducible rfl
                          rotate_left
                          · simp only [Act.put, List.setIfInBounds_toArray, List.set_cons_zero, List.set_cons_succ, i64_w, i32_w]
                            rfl
                          refine pure_ (i := 2) (N := some 27) (v := ?_) (a' := ?_) #[true, true, true, false, false, false, false, false, false, false, false, false, false, false, false, false, false, false] rfl rfl (any_of HT_.out (by kernel_rfl)) (fun _ _ _ h => h) (Or.inl ⟨by rfl, ?_⟩) ?_ ?_
                          rotate_left
                          · intro w'
                            go_simp
                            with_reducible rfl
                          rotate_left
                          · simp only [Act.put, List.setIfInBounds_toArray, List.set_cons_zero, List.set_cons_succ, i64_w, i32_w]
                            rfl
                          refine pure_ (i := 3) (N := some 28) (v := ?_) (a' := ?_) #[true, true, true, true, false, false, false, false, false, false, false, false, false, false, false, false, false, false] rfl rfl (any_of HT_.out (by kernel_rfl)) (fun _ _ _ h => h) (Or.inl ⟨by rfl, ?_⟩) ?_ ?_
                          rotate_left
                          · intro w'
                            go_simp
                            with_reducible rfl
                          rotate_left
                          · simp only [Act.put, List.setIfInBounds_toArray, List.set_cons_zero, List.set_cons_succ, i64_w, i32_w]
                            rfl
                          refine pure_ (i := 5) (N := some 30) (v := ?_) (a' := ?_) #[true, true, true, true, false, true, false, false, false, false, false, false, false, false, false, false, false, false] rfl rfl (any_of HT_.out (by kernel_rfl)) (fun _ _ _ h => h) (Or.inl ⟨by rfl, ?_⟩) ?_ ?_
                          rotate_left
                          · intro w'
                            go_simp
                            with_reducible rfl
                          rotate_left
                          · simp only [Act.put, List.setIfInBounds_toArray, List.set_cons_zero, List.set_cons_succ, i64_w, i32_w]
                            rfl
                          refine pure_ (i := 6) (N := some 31) (v := ?_) (a' := ?_) #[true, true, true, true, false, true, true, false, false, false, false, false, false, false, false, false, false, false] rfl rfl (any_of HT_.out (by kernel_rfl)) (fun _ _ _ h => h) (Or.inl ⟨by rfl, ?_⟩) ?_ ?_
                          rotate_left
                          · intro w'
                            go_simp
                            with_reducible rfl
                          rotate_left
                          · simp only [Act.put, List.setIfInBounds_toArray, List.set_cons_zero, List.set_cons_succ, i64_w, i32_w]
                            rfl
                          refine pure_ (i := 7) (N := some 32) (v := ?_) (a' := ?_) #[true, true, true, true, false, true, true, true, false, false, false, false, false, false, false, false, false, false] rfl rfl (any_of HT_.out (by kernel_rfl)) (fun _ _ _ h => h) (Or.inl ⟨by rfl, ?_⟩) ?_ ?_
                          rotate_left
                          · intro w'
                            go_simp
                            with_reducible rfl
                          rotate_left
                          · simp only [Act.put, List.setIfInBounds_toArray, List.set_cons_zero, List.set_cons_succ, i64_w, i32_w]
                            rfl
                          refine pure_ (i := 10) (N := some 35) (v := ?_) (a' := ?_) #[true, true, true, true, false, true, true, true, false, false, true, false, false, false, false, false, false, false] rfl rfl (any_of HT_.out (by kernel_rfl)) (fun _ _ _ h => h) (Or.inl ⟨by rfl, ?_⟩) ?_ ?_
                          rotate_left
                          · intro w'
                            go_simp
                            with_reducible rfl
                          rotate_left
                          · simp only [Act.put, List.setIfInBounds_toArray, List.set_cons_zero, List.set_cons_succ, i64_w, i32_w]
                            rfl
                          refine pure_ (i := 11) (N := some 36) (v := ?_) (a' := ?_) #[true, true, true, true, false, true, true, true, false, false, true, true, false, false, false, false, false, false] rfl rfl (any_of HT_.out (by kernel_rfl)) (fun _ _ _ h => h) (Or.inl ⟨by rfl, ?_⟩) ?_ ?_
                          rotate_left
                          · intro w'
                            go_simp
                            with_reducible rfl
                          rotate_left
                          · simp only [Act.put, List.setIfInBounds_toArray, List.set_cons_zero, List.set_cons_succ, i64_w, i32_w]
                            rfl
                          refine pure_ (i := 12) (N := some 37) (v := ?_) (a' := ?_) #[true, true, true, true, false, true, true, true, false, false, true, true, true, false, false, false, false, false] rfl rfl (any_of HT_.out (by kernel_rfl)) (fun _ _ _ h => h) (Or.inl ⟨by rfl, ?_⟩) ?_ ?_
                          rotate_left
                          · intro w'
                            go_simp
                            with_reducible rfl
                          rotate_left
                          · simp only [Act.put, List.setIfInBounds_toArray, List.set_cons_zero, List.set_cons_succ, i64_w, i32_w]
                            rfl
                          refine take_ (i := 4) (N := some 29) (v := ?_) (a' := ?_) #[true, true, true, true, true, true, true, true, false, false, true, true, true, false, false, false, false, false] rfl rfl (take_ofW HT_.out HW_.out (by kernel_rfl)) (fun _ _ _ h => h) (Or.inl ⟨by rfl, ?_⟩) hHeld ?_ ?_
                          rotate_left
                          · rintro w' ⟨s0, s1, s2, s3, s4, s5⟩
                            go_simp
                            with_reducible rfl
                          rotate_left
                          · simp only [Act.put, List.setIfInBounds_toArray, List.set_cons_zero, List.set_cons_succ, i64_w, i32_w]
                            rfl
                          refine take_ (i := 8) (N := some 33) (v := ?_) (a' := ?_) #[true, true, true, true, true, true, true, true, true, false, true, true, true, false, false, false, false, false] rfl rfl (take_ofW HT_.out HW_.out (by kernel_rfl)) (fun _ _ _ h => h) (Or.inl ⟨by rfl, ?_⟩) hHeld ?_ ?_
                          rotate_left
                          · rintro w' ⟨s0, s1, s2, s3, s4, s5⟩
                            go_simp
                            with_reducible rfl
                          rotate_left
                          · simp only [Act.put, List.setIfInBounds_toArray, List.set_cons_zero, List.set_cons_succ, i64_w, i32_w]
                            rfl
                          refine pure_ (i := 9) (N := some 34) (v := ?_) (a' := ?_) #[true, true, true, true, true, true, true, true, true, true, true, true, true, false, false, false, false, false] rfl rfl (any_of HT_.out (by kernel_rfl)) (fun _ _ _ h => h) (Or.inl ⟨by rfl, ?_⟩) ?_ ?_
                          rotate_left
                          · intro w'
                            go_simp
                            with_reducible rfl
                          rotate_left
                          · simp only [Act.put, List.setIfInBounds_toArray, List.set_cons_zero, List.set_cons_succ, i64_w, i32_w]
                            rfl
                          refine take_ (i := 13) (N := some 38) (v := ?_) (a' := ?_) #[true, true, true, true, true, true, true, true, true, true, true, true, true, true, false, false, false, false] rfl rfl (take_ofW HT_.out HW_.out (by kernel_rfl)) (fun _ _ _ h => h) (Or.inl ⟨by rfl, ?_⟩) hHeld ?_ ?_
                          rotate_left
                          · rintro w' ⟨s0, s1, s2, s3, s4, s5⟩
                            go_simp
                            with_reducible rfl
                          rotate_left
                          · simp only [Act.put, List.setIfInBounds_toArray, List.set_cons_zero, List.set_cons_succ, i64_w, i32_w]
                            rfl
                          refine pure_ (i := 14) (N := some 39) (v := ?_) (a' := ?_) #[true, true, true, true, true, true, true, true, true, true, true, true, true, true, true, false, false, false] rfl rfl (any_of HT_.out (by kernel_rfl)) (fun _ _ _ h => h) (Or.inl ⟨by rfl, ?_⟩) ?_ ?_
                          rotate_left
                          · intro w'
                            go_simp
                            with_reducible rfl
                          rotate_left
                          · simp only [Act.put, List.setIfInBounds_toArray, List.set_cons_zero, List.set_cons_succ, i64_w, i32_w]
                            rfl
                          refine last_ (i := 15) (N := some 40) #[true, true, true, true, true, true, true, true, true, true, true, true, true, true, true, true, false, false] rfl rfl (one_of HT_.out (by kernel_rfl)) (by decide) (fun K hK => ?_)
                          refine value_ (w1 := ?_) (v := ?_) (by rfl) rfl ?_ ?_
                          rotate_left 2
                          · go_simp
                            constructor
                            · rfl
                            · rfl
                          refine hK.out _ _ ?_
                          clear hK K
                          refine norm_ (a' := ?_) ?_ ?_
                          rotate_left
                          · show Act.put _ (some 40) _ = _
                            simp only [Act.put, List.setIfInBounds_toArray, List.set_cons_zero, List.set_cons_succ, i64_w, i32_w]
                            rfl
                          refine last_ (i := 16) (N := some 41) #[true, true, true, true, true, true, true, true, true, true, true, true, true, true, true, true, true, false] rfl rfl (one_of HT_.out (by kernel_rfl)) (by decide) (fun K hK => ?_)
                          refine Kd.N_append_step k89 (w0 := w) w.heap.size (by rfl) (.tmp 25) (.tmp 40) 63 89 (.agg #[(.int .i64 0), (.slice none 0 0)]) 32 rfl Try.underlying63 info89 rfl (by decide) (by omega) u5 x5_1 (⟨wrap64 (((rd_T89 x0_1 0).f0) + ((rd_T89 x1_1 0).f0)), (rd_T89 x0_1 0).f1⟩ : S89) [.int .i64 (wrap64 (((rd_T89 x0_1 0).f0) + ((rd_T89 x1_1 0).f0))), .slice A413_1 ((rd_T89 x0_1 0).f1).length c413_1] (fun k_ => ((P0_ k_ ∨ P1_ k_) ∨ w.heap.size ≤ k_)) (fun k_ => ((fun k_ => ((P0_ k_ ∨ P1_ k_) ∨ w.heap.size ≤ k_))) k_ ∧ some k_ ≠ (u5 : Value).ownBlock) rfl rfl ?aP (fun _ hk => hk) ?aF ?aO ?aB ?aS ?aL ?_
                          (case aP => exact (k89_mkF _ _ (⟨wrap64 (((rd_T89 x0_1 0).f0) + ((rd_T89 x1_1 0).f0)), (rd_T89 x0_1 0).f1⟩ : S89) (Kd.V_reads' (Kd.V_mono (ok' := (fun k_ => ((fun k_ => ((P0_ k_ ∨ P1_ k_) ∨ w.heap.size ≤ k_))) k_ ∧ some k_ ≠ (u5 : Value).ownBlock)) (HL415_1.out) (fun k_ hk => ⟨hk.1, hk.2⟩))).2.1 (Kd.V_F (Kd.V_mono (ok' := (fun k_ => ((fun k_ => ((P0_ k_ ∨ P1_ k_) ∨ w.heap.size ≤ k_))) k_ ∧ some k_ ≠ (u5 : Value).ownBlock)) (HL415_1.out) (fun k_ hk => ⟨hk.1, hk.2⟩)))))
                          (case aB => exact (by repeat (first | (with_reducible first | exact HB.out | apply below_alloc | apply pw_below_drewN | apply below_drew1) | exact HB.out)))
                          (case aF => exact (fun k_ hk => (.inr (Nat.le_trans (below_size (by repeat (first | (with_reducible first | exact HB.out | apply below_alloc | apply pw_below_drewN | apply below_drew1) | exact HB.out))) hk))))
                          (case aO => exact (by (with_reducible repeat (first | apply Kd.N_alloc | apply Kd.N_drewN | apply Kd.N_drew)); exact HO_5.out))
                          (case aS => exact (below_size (by repeat (first | (with_reducible first | exact HB.out | apply below_alloc | apply pw_below_drewN | apply below_drew1) | exact HB.out))))
                          (case aL => have := LMc32.out; omega)
                          intro v417 w40 ho hb hg hat
                          rw [← Ny416.out] at ho
                          have n0_ := Aside0.mk (Kd.V_afterv (ok := (fun k_ => ((P0_ k_ ∨ P1_ k_) ∨ w.heap.size ≤ k_))) (by (with_reducible repeat (first | apply Kd.V_alloc | apply Kd.V_drewN | apply Kd.V_drew)); exact HO_0.out) hg hat)
                          have n1_ := Aside0.mk (Kd.V_afterv (ok := (fun k_ => ((P0_ k_ ∨ P1_ k_) ∨ w.heap.size ≤ k_))) (by (with_reducible repeat (first | apply Kd.V_alloc | apply Kd.V_drewN | apply Kd.V_drew)); exact HO_1.out) hg hat)
                          have n2_ := Aside0.mk (Kd.V_afterv (ok := (fun k_ => ((P0_ k_ ∨ P1_ k_) ∨ w.heap.size ≤ k_))) (by (with_reducible repeat (first | apply Kd.V_alloc | apply Kd.V_drewN | apply Kd.V_drew)); exact HL392_1.out) hg hat)
                          have n3_ := Aside0.mk (Kd.V_afterv (ok := (fun k_ => ((P0_ k_ ∨ P1_ k_) ∨ w.heap.size ≤ k_))) (by (with_reducible repeat (first | apply Kd.V_alloc | apply Kd.V_drewN | apply Kd.V_drew)); exact HL393_1.out) hg hat)
                          have n4_ := Aside0.mk (Kd.V_afterv (ok := (fun k_ => ((P0_ k_ ∨ P1_ k_) ∨ w.heap.size ≤ k_))) (by (with_reducible repeat (first | apply Kd.V_alloc | apply Kd.V_drewN | apply Kd.V_drew)); exact HL413_1.out) hg hat)
                          have n5_ := Aside0.mk (Kd.V_afterv (ok := (fun k_ => ((P0_ k_ ∨ P1_ k_) ∨ w.heap.size ≤ k_))) (by (with_reducible repeat (first | apply Kd.V_alloc | apply Kd.V_drewN | apply Kd.V_drew)); exact HL414_1.out) hg hat)
                          have n6_ := Aside0.mk (Kd.V_afterv (ok := (fun k_ => ((P0_ k_ ∨ P1_ k_) ∨ w.heap.size ≤ k_))) (by (with_reducible repeat (first | apply Kd.V_alloc | apply Kd.V_drewN | apply Kd.V_drew)); exact HL415_1.out) hg hat)
                          have n7_ := Aside0.mk (hb)
                          have n8_ := Aside0.mk (ho)
                          clear HO_0
                          clear HO_1
                          clear HL392_1
                          clear HL393_1
                          clear HL413_1
                          clear HL414_1
                          clear HL415_1
                          clear HB
                          clear HO_5
                          have HO_0 := n0_
                          have HO_1 := n1_
                          have HL392_1 := n2_
                          have HL393_1 := n3_
                          have HL413_1 := n4_
                          have HL414_1 := n5_
                          have HL415_1 := n6_
                          have HB := n7_
                          have HO418 := n8_
                          clear n0_ n1_ n2_ n3_ n4_ n5_ n6_ n7_ n8_
                          clear ho hb hg hat
                          refine hK.out _ _ ?_
                          clear hK K
                          refine norm_ (a' := ?_) ?_ ?_
                          rotate_left
                          · show Act.put _ (some 41) _ = _
                            simp only [Act.put, List.setIfInBounds_toArray, List.set_cons_zero, List.set_cons_succ, i64_w, i32_w]
                            rfl
                          refine pure_ (i := 17) (N := some 5) (v := ?_) (a' := ?_) #[true, true, true, true, true, true, true, true, true, true, true, true, true, true, true, true, true, true] rfl rfl (any_of HT_.out (by kernel_rfl)) (fun _ _ _ h => h) (Or.inl ⟨by rfl, ?_⟩) ?_ ?_
                          rotate_left
                          · intro w'
                            go_simp
                            with_reducible rfl
                          rotate_left
                          · simp only [Act.put, List.setIfInBounds_toArray, List.set_cons_zero, List.set_cons_succ, i64_w, i32_w]
                            rfl
                          refine done_ (done_of HT_.out (by kernel_rfl)) ?_
                          try go_wp2
                          have n0_ := Aside0.mk (Kd.V_drew HO_0.out)
                          have n1_ := Aside0.mk (Kd.V_drew HO_1.out)
                          have n2_ := Aside0.mk (Kd.V_drew HL392_1.out)
                          have n3_ := Aside0.mk (Kd.V_drew HL393_1.out)
                          have n4_ := Aside0.mk (Kd.V_drew HL413_1.out)
                          have n5_ := Aside0.mk (Kd.V_drew HL414_1.out)
                          have n6_ := Aside0.mk (Kd.V_drew HL415_1.out)
                          have n7_ := Aside0.mk (Kd.N_drew HO418.out)
                          have n8_ := Aside0.mk (below_drew1 HB.out)
                          clear HO_0
                          clear HO_1
                          clear HL392_1
                          clear HL393_1
                          clear HL413_1
                          clear HL414_1
                          clear HL415_1
                          clear HO418
                          clear HB
                          have HO_0 := n0_
                          have HO_1 := n1_
                          have HL392_1 := n2_
                          have HL393_1 := n3_
                          have HL413_1 := n4_
                          have HL414_1 := n5_
                          have HL415_1 := n6_
                          have HO418 := n7_
                          have HB := n8_
                          clear n0_ n1_ n2_ n3_ n4_ n5_ n6_ n7_ n8_
                          have q42 : (1 : Int) ≤ ((x0_1.length : Int) : Int) := of_decide_eq_true (by first | (with_reducible assumption) | assumption)
                          obtain ⟨i042, hi042, _, hsz42, _⟩ := info_parts info89
                          have hroom42 : x0_1.length ≤ co36 := (Kd.V_reads' HO_0.out).2.1
                          have hC42 : Kd.F k89 _ _ (some ad392) x0_1.length x0_1 := (Kd.V_at (base := w.heap.size) HO_0.out).2.2
                          have hcut42 := cut_from (P := Try.prog) 63 89 .i64 Try.underlying63 hi042 2 hsz42 (some ad392) x0_1.length co36 1 (by omega) q42
                          have hr42 := Kd.F_cut (m := (1 : Int).toNat) (c := co36) hC42 (by omega) hroom42
                          obtain ⟨A42, hA42⟩ : ∃ A1, A1 = (if co36 = (1 : Int).toNat then (some ad392) else ((some ad392) : Option Addr).map (·.add ((1 : Int).toNat * 2))) := ⟨_, rfl⟩
                          obtain ⟨c42, hc42⟩ : ∃ c1, c1 = co36 - (1 : Int).toNat := ⟨_, rfl⟩
                          have hy42 : y419.length = x0_1.length - (1 : Int).toNat := (by rw [Ny419.out, List.length_drop] <;> omega)
                          rw [show (x0_1).drop (1 : Int).toNat = y419 from Ny419.out.symm] at hr42
                          replace hr42 : Kd.F k89 _ _ A42 y419.length y419 := (by rw [hA42]; exact hr42)
                          rw [← hy42, ← hA42, ← hc42] at hcut42
                          have HO423 := Aside0.mk (show Kd.V k89 89 _ w.heap.size _ (.slice A42 y419.length c42) y419 from Kd.V_mk (by rw [hy42, hc42]; exact Nat.sub_le_sub_right hroom42 _) hr42)
                          have HC423 := Aside0.mk (show y419.length ≤ c42 from by rw [hy42, hc42]; exact Nat.sub_le_sub_right hroom42 _)
                          clear hr42 hC42 hroom42 hi042 hsz42 hc42
                          have KY42 := Aside0.mk hy42
                          have KA42 := Aside0.mk hA42
                          clear hy42 hA42
                          replace q42 := eq_true q42
                          have q43 : (1 : Int) ≤ ((x1_1.length : Int) : Int) := of_decide_eq_true (by first | (with_reducible assumption) | assumption)
                          obtain ⟨i043, hi043, _, hsz43, _⟩ := info_parts info89
                          have hroom43 : x1_1.length ≤ co37 := (Kd.V_reads' HO_1.out).2.1
                          have hC43 : Kd.F k89 _ _ (some ad393) x1_1.length x1_1 := (Kd.V_at (base := w.heap.size) HO_1.out).2.2
                          have hcut43 := cut_from (P := Try.prog) 63 89 .i64 Try.underlying63 hi043 2 hsz43 (some ad393) x1_1.length co37 1 (by omega) q43
                          have hr43 := Kd.F_cut (m := (1 : Int).toNat) (c := co37) hC43 (by omega) hroom43
                          obtain ⟨A43, hA43⟩ : ∃ A1, A1 = (if co37 = (1 : Int).toNat then (some ad393) else ((some ad393) : Option Addr).map (·.add ((1 : Int).toNat * 2))) := ⟨_, rfl⟩
                          obtain ⟨c43, hc43⟩ : ∃ c1, c1 = co37 - (1 : Int).toNat := ⟨_, rfl⟩
                          have hy43 : y424.length = x1_1.length - (1 : Int).toNat := (by rw [Ny424.out, List.length_drop] <;> omega)
                          rw [show (x1_1).drop (1 : Int).toNat = y424 from Ny424.out.symm] at hr43
                          replace hr43 : Kd.F k89 _ _ A43 y424.length y424 := (by rw [hA43]; exact hr43)
                          rw [← hy43, ← hA43, ← hc43] at hcut43
                          have HO428 := Aside0.mk (show Kd.V k89 89 _ w.heap.size _ (.slice A43 y424.length c43) y424 from Kd.V_mk (by rw [hy43, hc43]; exact Nat.sub_le_sub_right hroom43 _) hr43)
                          have HC428 := Aside0.mk (show y424.length ≤ c43 from by rw [hy43, hc43]; exact Nat.sub_le_sub_right hroom43 _)
                          clear hr43 hC43 hroom43 hi043 hsz43 hc43
                          have KY43 := Aside0.mk hy43
                          have KA43 := Aside0.mk hA43
                          clear hy43 hA43
                          replace q43 := eq_true q43
                          refine start_ (n := 6) (S := fun w' => True) (ds := []) #[false, false, false, false, false, false] (by kernel_rfl) rfl rfl trivial (fun hHeld => ?_)
                          generalize w40.drew = w41 at HO_0 HO_1 HL392_1 HL393_1 HL413_1 HL414_1 HL415_1 HO418 HB HO423 HO428 hHeld ⊢
                          refine pure_ (i := 0) (N := some 42) (v := ?_) (a' := ?_) #[true, false, false, false, false, false] rfl rfl (by kernel_rfl) (fun _ _ _ h => h) (Or.inl ⟨by rfl, ?_⟩) ?_ ?_
                          rotate_left
                          · intro w'
                            go_simp
                            with_reducible rfl
                          rotate_left
                          · simp only [Act.put, List.setIfInBounds_toArray, List.set_cons_zero, List.set_cons_succ, i64_w, i32_w]
                            rfl
                          refine pure_ (i := 1) (N := some 43) (v := ?_) (a' := ?_) #[true, true, false, false, false, false] rfl rfl (by kernel_rfl) (fun _ _ _ h => h) (Or.inl ⟨by rfl, ?_⟩) ?_ ?_
                          rotate_left
                          · intro w'
                            go_simp
                            with_reducible rfl
                          rotate_left
                          · simp only [Act.put, List.setIfInBounds_toArray, List.set_cons_zero, List.set_cons_succ, i64_w, i32_w]
                            rfl
                          refine pure_ (i := 2) (N := some 44) (v := ?_) (a' := ?_) #[true, true, true, false, false, false] rfl rfl (by kernel_rfl) (fun _ _ _ h => h) (Or.inl ⟨by rfl, ?_⟩) ?_ ?_
                          rotate_left
                          · intro w'
                            go_simp
                            with_reducible rfl
                          rotate_left
                          · simp only [Act.put, List.setIfInBounds_toArray, List.set_cons_zero, List.set_cons_succ, i64_w, i32_w]
                            rfl
                          refine pure_ (i := 3) (N := some 45) (v := ?_) (a' := ?_) #[true, true, true, true, false, false] rfl rfl (by kernel_rfl) (fun _ _ _ h => h) (Or.inl ⟨by rfl, ?_⟩) ?_ ?_
                          rotate_left
                          · intro w'
                            go_simp
                            with_reducible rfl
                          rotate_left
                          · simp only [Act.put, List.setIfInBounds_toArray, List.set_cons_zero, List.set_cons_succ, i64_w, i32_w]
                            rfl
                          refine pure_ (i := 4) (N := some 0) (v := ?_) (a' := ?_) #[true, true, true, true, true, false] rfl rfl (by kernel_rfl) (fun _ _ _ h => h) (Or.inl ⟨by rfl, ?_⟩) ?_ ?_
                          rotate_left
                          · intro w'
                            go_simp
                            with_reducible rfl
                          rotate_left
                          · simp only [Act.put, List.setIfInBounds_toArray, List.set_cons_zero, List.set_cons_succ, i64_w, i32_w]
                            rfl
                          refine pure_ (i := 5) (N := some 1) (v := ?_) (a' := ?_) #[true, true, true, true, true, true] rfl rfl (by kernel_rfl) (fun _ _ _ h => h) (Or.inl ⟨by rfl, ?_⟩) ?_ ?_
                          rotate_left
                          · intro w'
                            go_simp
                            with_reducible rfl
                          rotate_left
                          · simp only [Act.put, List.setIfInBounds_toArray, List.set_cons_zero, List.set_cons_succ, i64_w, i32_w]
                            rfl
                          refine done_ (by kernel_rfl) ?_
                          try go_wp2
                          go_roundg kj4
                          case measure => have := HK1.out; have := HJ4.out; omega
                          case rel => exact ⟨(y419), (y424), (y416), H', ⟨by have := HK1.out; have := HJ4.out; omega⟩, ⟨by (with_reducible repeat (first | apply Kd.V_alloc | apply Kd.V_drewN | apply Kd.V_drew)); first | exact HO423.out | (rw [Ny419.out.trans Ny399.out.symm]; exact HO403.out)⟩, ⟨by (with_reducible repeat (first | apply Kd.V_alloc | apply Kd.V_drewN | apply Kd.V_drew)); first | exact HO428.out | (rw [Ny424.out.trans Ny408.out.symm]; exact HO412.out)⟩, ⟨by (with_reducible repeat (first | apply Kd.N_alloc | apply Kd.N_drewN | apply Kd.N_drew)); exact HO418.out⟩, ⟨by repeat (first | (with_reducible first | exact HB.out | apply below_alloc | apply pw_below_drewN | apply below_drew1) | exact HB.out)⟩⟩
                        · rw [if_neg c34] at H
                          exact absurd H (by simp)
                      · rw [if_neg c33] at H
                        exact absurd H (by simp)
                    · rw [if_neg c32] at H
                      exact absurd H (by simp)
              · rw [if_neg c12] at H
                exact absurd H (by simp)
            · rw [if_neg c11] at H
              exact absurd H (by simp)
          · replace c10 := Bool.eq_false_iff.mpr c10
            subst c10
            have H1 : (if x5_1.length + x0_1.length < 4398046511104 then ((some (x5_1 ++ x0_1 : List (S89))).bind fun y386 => (if y386.length + x1_1.length < 4398046511104 then (some (y386 ++ x1_1)) else (none))) else (none)) = some r := by rw [if_neg (show ¬ (false = true) by decide)] at H; exact H
            clear H
            have H := H1
            clear H1
            by_cases c44 : x5_1.length + x0_1.length < 4398046511104
            · rw [if_pos c44] at H
              have LMc44 := Aside0.mk c44
              clear c44
              obtain ⟨y386, hy386⟩ : ∃ y_ : List (S89), y_ = (x5_1 ++ x0_1) := ⟨_, rfl⟩
              replace H : (if y386.length + x1_1.length < 4398046511104 then (some (y386 ++ x1_1)) else (none)) = some r := by first | (rw [hy386]; with_reducible exact H) | (have H2_ := (Option.bind_some _ _).symm.trans H; rw [hy386]; with_reducible exact H2_) | (have H2_ := (Option.bind_some _ _).symm.trans H; with_reducible exact H2_) | with_reducible exact H | (rw [hy386]; exact H) | exact H
              have Ny386 := Aside0.mk hy386
              clear hy386
              by_cases c45 : y386.length + x1_1.length < 4398046511104
              · rw [if_pos c45] at H
                have LMc45 := Aside0.mk c45
                clear c45
                obtain ⟨y389, hy389⟩ : ∃ y_ : List (S89), y_ = (y386 ++ x1_1) := ⟨_, rfl⟩
                replace H : (some y389) = some r := by first | (rw [hy389]; with_reducible exact H) | (have H2_ := (Option.bind_some _ _).symm.trans H; rw [hy389]; with_reducible exact H2_) | (have H2_ := (Option.bind_some _ _).symm.trans H; with_reducible exact H2_) | with_reducible exact H | (rw [hy389]; exact H) | exact H
                have Ny389 := Aside0.mk hy389
                clear hy389
                obtain rfl := Option.some.inj H
                obtain ⟨Ao47, co47, eo47⟩ := Kd.V_slice HO_0.out
                subst eo47
                go_wp2_with (first | ((with_reducible refine gate_builtin (b := .append) (xs := #[.tmp 68, .tmp 69]) rfl ?_); (try (refine gate_guard (by rfl) ?_; dsimp only)); at_builtin; refine Kd.N_append_rows k89 (w0 := w) w.heap.size rfl (.tmp 68) (.tmp 69) 63 89 (.agg #[(.int .i64 0), (.slice none 0 0)]) 32 rfl Try.underlying63 info89 rfl (by decide) (by omega) u5 x5_1 x0_1 _ _ _ (fun k_ => ((P0_ k_ ∨ P1_ k_) ∨ w.heap.size ≤ k_)) (fun k_ => ((fun k_ => ((P0_ k_ ∨ P1_ k_) ∨ w.heap.size ≤ k_))) k_ ∧ some k_ ≠ (u5 : Value).ownBlock) rfl rfl ?aO ?aR (fun _ hk => hk) ?aF ?aB ?aS ?aL ?_; (case aR => exact (by skip; exact Kd.V_F (Kd.V_mono (ok' := (fun k_ => ((fun k_ => ((P0_ k_ ∨ P1_ k_) ∨ w.heap.size ≤ k_))) k_ ∧ some k_ ≠ (u5 : Value).ownBlock)) (HO_0.out) (fun k_ hk => ⟨hk.1, hk.2⟩)))); (case aB => exact (by repeat (first | (with_reducible first | exact HB.out | apply below_alloc | apply pw_below_drewN | apply below_drew1) | exact HB.out))); (case aF => exact (fun k_ hk => (.inr (Nat.le_trans (below_size (by repeat (first | (with_reducible first | exact HB.out | apply below_alloc | apply pw_below_drewN | apply below_drew1) | exact HB.out))) hk)))); (case aO => exact (by (with_reducible repeat (first | apply Kd.N_alloc | apply Kd.N_drewN | apply Kd.N_drew)); exact HO_5.out)); (case aS => exact (below_size (by repeat (first | (with_reducible first | exact HB.out | apply below_alloc | apply pw_below_drewN | apply below_drew1) | exact HB.out)))); (case aL => have := LMc44.out; omega); intro v387 w46 ho hb hg hat; rw [← Ny386.out] at ho; have n0_ := Aside0.mk (Kd.V_afterv (ok := (fun k_ => ((P0_ k_ ∨ P1_ k_) ∨ w.heap.size ≤ k_))) (by (with_reducible repeat (first | apply Kd.V_alloc | apply Kd.V_drewN | apply Kd.V_drew)); exact HO_0.out) hg hat); have n1_ := Aside0.mk (Kd.V_afterv (ok := (fun k_ => ((P0_ k_ ∨ P1_ k_) ∨ w.heap.size ≤ k_))) (by (with_reducible repeat (first | apply Kd.V_alloc | apply Kd.V_drewN | apply Kd.V_drew)); exact HO_1.out) hg hat); have n2_ := Aside0.mk (hb); have n3_ := Aside0.mk (ho); clear HO_0; clear HO_1; clear HB; clear HO_5; have HO_0 := n0_; have HO_1 := n1_; have HB := n2_; have HO388 := n3_; clear n0_ n1_ n2_ n3_; clear ho hb hg hat; obtain ⟨Ao49, co49, eo49⟩ := Kd.V_slice HO_1.out; subst eo49) | ((with_reducible refine gate_builtin (b := .append) (xs := #[.tmp 70, .tmp 71]) rfl ?_); (try (refine gate_guard (by rfl) ?_; dsimp only)); at_builtin; refine Kd.N_append_rows k89 (w0 := w) w.heap.size rfl (.tmp 70) (.tmp 71) 63 89 (.agg #[(.int .i64 0), (.slice none 0 0)]) 32 rfl Try.underlying63 info89 rfl (by decide) (by omega) v387 y386 x1_1 _ _ _ (fun k_ => ((P0_ k_ ∨ P1_ k_) ∨ w.heap.size ≤ k_)) (fun k_ => ((fun k_ => ((P0_ k_ ∨ P1_ k_) ∨ w.heap.size ≤ k_))) k_ ∧ some k_ ≠ (v387 : Value).ownBlock) rfl rfl ?aO ?aR (fun _ hk => hk) ?aF ?aB ?aS ?aL ?_; (case aR => exact (by skip; exact Kd.V_F (Kd.V_mono (ok' := (fun k_ => ((fun k_ => ((P0_ k_ ∨ P1_ k_) ∨ w.heap.size ≤ k_))) k_ ∧ some k_ ≠ (v387 : Value).ownBlock)) (HO_1.out) (fun k_ hk => ⟨hk.1, hk.2⟩)))); (case aB => exact (by repeat (first | (with_reducible first | exact HB.out | apply below_alloc | apply pw_below_drewN | apply below_drew1) | exact HB.out))); (case aF => exact (fun k_ hk => (.inr (Nat.le_trans (below_size (by repeat (first | (with_reducible first | exact HB.out | apply below_alloc | apply pw_below_drewN | apply below_drew1) | exact HB.out))) hk)))); (case aO => exact (by (with_reducible repeat (first | apply Kd.N_alloc | apply Kd.N_drewN | apply Kd.N_drew)); exact HO388.out)); (case aS => exact (below_size (by repeat (first | (with_reducible first | exact HB.out | apply below_alloc | apply pw_below_drewN | apply below_drew1) | exact HB.out)))); (case aL => have := LMc45.out; omega); intro v390 w48 ho hb hg hat; rw [← Ny389.out] at ho; have n0_ := Aside0.mk (Kd.V_afterv (ok := (fun k_ => ((P0_ k_ ∨ P1_ k_) ∨ w.heap.size ≤ k_))) (by (with_reducible repeat (first | apply Kd.V_alloc | apply Kd.V_drewN | apply Kd.V_drew)); exact HO_0.out) hg hat); have n1_ := Aside0.mk (Kd.V_afterv (ok := (fun k_ => ((P0_ k_ ∨ P1_ k_) ∨ w.heap.size ≤ k_))) (by (with_reducible repeat (first | apply Kd.V_alloc | apply Kd.V_drewN | apply Kd.V_drew)); exact HO_1.out) hg hat); have n2_ := Aside0.mk (hb); have n3_ := Aside0.mk (ho); clear HO_0; clear HO_1; clear HB; clear HO388; have HO_0 := n0_; have HO_1 := n1_; have HB := n2_; have HO391 := n3_; clear n0_ n1_ n2_ n3_; clear ho hb hg hat))
                go_ret
                exact ⟨_, by first | rfl | (simp [errW_none, errW_some] <;> rfl) | (simp [*, errW_none, errW_some] <;> rfl), by (with_reducible repeat (first | apply Kd.N_alloc | apply Kd.N_drewN | apply Kd.N_drew)); exact HO391.out, by repeat (first | (with_reducible first | exact HB.out | apply below_alloc | apply pw_below_drewN | apply below_drew1) | exact HB.out)⟩
              · rw [if_neg c45] at H
                exact absurd H (by simp)
            · rw [if_neg c44] at H
              exact absurd H (by simp)

end Go.Proofs.Ytmidgjmlgjjobaa.If

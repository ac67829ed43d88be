-- half
-- Written by a program of this session's (wip/mp) out of the translation, over the kit's print with changes.
import Derived.Test.YtmidgjmlgjjobaaIgx0
import Derived.Test.YtmidgjmlgjjobaaIgx3
import Derived.Test.YtmidgjmlgjjobaaIgx4
namespace Go.Proofs.Ytmidgjmlgjjobaa.Ig
open Go.RowKit Go.Proofs.YtmidgjmlgjjobaaW.PrintWords Go.Proofs.YtmidgjmlgjjobaaW.PrintLast Go.Proofs.YtmidgjmlgjjobaaW.PrintMore
attribute [local go_sem] max2_int min2_int max_two min_two max_three min_three max_four min_four   -- for this text's walks alone
set_option linter.unusedVariables false
set_option linter.unusedSimpArgs false

/-! ### impl_hydra_row: function 49 -/
mutual
def impl_hydra_row.l0 : Nat → List Int → List (S49) → Int → Int → Option (List Int)
 | 0, _, _, _, _ => none
 | k + 1, x3, x9, x10, x11 => if x11 < x10 then (if 0 ≤ x11 then (if x11 < (x9.length : Int) then ((impl_hydra_row.f k ((rd_T49 x9 x11).f0)).bind fun t241 => (if x3.length + t241.length < 17592186044416 then (impl_hydra_row.l0 k (x3 ++ t241) x9 x10 (wrap64 (x11 + 1))) else (none))) else (none)) else (none)) else (some x3)
def impl_hydra_row.f : Nat → List (S49) → Option (List Int)
 | 0, _ => none
 | k + 1, l0 => impl_hydra_row.l0 k (([(l0.length : Int)] : List Int)) l0 (l0.length : Int) 0
end
theorem impl_hydra_row.mono_l : ∀ k, (∀ y0, LeO (impl_hydra_row.f k y0) (impl_hydra_row.f (k + 1) y0)) ∧ (∀ y0 y1 y2 y3, LeO (impl_hydra_row.l0 k y0 y1 y2 y3) (impl_hydra_row.l0 (k + 1) y0 y1 y2 y3))
 | 0 => ⟨fun _ r h => by simp [impl_hydra_row.f] at h, fun _ _ _ _ r h => by simp [impl_hydra_row.l0] at h⟩
 | k + 1 => by
  obtain ⟨ih0, ih1⟩ := impl_hydra_row.mono_l k;refine ⟨?_, ?_⟩
  all_goals (intros; first | unfold impl_hydra_row.f | unfold impl_hydra_row.l0)
  all_goals repeat' first | (with_reducible exact ih0 _) | (with_reducible exact ih1 _ _ _ _) | (with_reducible exact LeO.refl _) | (with_reducible exact LeO.none _) | (with_reducible refine LeO.ite ?_ ?_) | (with_reducible refine LeO.bind ?_ (fun _ => ?_))
theorem impl_hydra_row.mono : ∀ a0 k, LeO (impl_hydra_row.f k a0) (impl_hydra_row.f (k + 1) a0) := by
 intro a0 k;obtain ⟨ih0, ih1⟩ := impl_hydra_row.mono_l k;exact ih0 a0
set_option maxHeartbeats 8000000 in
set_option maxRecDepth 100000 in
theorem impl_hydra_row.calls (k : Nat) : ∀ (A0 : Option Addr) (c0 : Nat) (l0 : List (S49)) (r : List Int) (w : World) (hr0 : Kd.C k49 w A0 l0.length l0) (hc0 : l0.length ≤ c0) (h : impl_hydra_row.f k l0 = some r),
  Calls Try.prog 49 #[.slice A0 l0.length c0] w fun e w' => ∃ v0_ : Value, e = .returned (v0_) ∧ Kd.R (Kd.int .i64) 3 w' w.heap.size (fun _ => True) v0_ r ∧ Below w.heap.size w w' := by
 induction k using Nat.strongRecOn with
 | _ k ih =>
 intro A0 c0 l0 r w hr0 hc0 h
 cases k with
 | zero => exact absurd h (by simp [impl_hydra_row.f])
 | succ k =>
 simp only [impl_hydra_row.f] at h;have HR0 := am hr0;have HC0 := am hc0;clear hr0 hc0;have HB := am (Below.refl w.heap.size w);have H : (impl_hydra_row.l0 k (([(l0.length : Int)] : List Int)) l0 (l0.length : Int) 0) = some r := h;clear h
 obtain ⟨y237, hy237⟩ : ∃ y_ : List Int, y_ = (([(l0.length : Int)] : List Int)) := ⟨_, rfl⟩
 replace H : (impl_hydra_row.l0 k y237 l0 (l0.length : Int) 0) = some r := by first | (rw [hy237]; with_reducible exact H) | (have H2_ := oB H; rw [hy237]; with_reducible exact H2_) | (have H2_ := oB H; with_reducible exact H2_) | with_reducible exact H | (rw [hy237]; exact H) | exact H
 replace hy237 := am hy237;have H' := am H;clear H;go_enter Try.func49, Try.ntmps49;go_wp2_with (first | ((with_reducible refine gate_dst (N := 8) rfl ?_); refine Kd.R_lit (Kd.int .i64) _ 3 ?hg (N := 8) ?hd (xs := ([(l0.length : Int)] : List Int)) (inner := [.int .i64 (l0.length : Int)]) (ok := fun _ => True) (okp := fun _ => True) ?hr ?hp (fun _ hk => hk) trivial (Below.refl _ _) (Nat.le_refl _) (by simp) ?_; (case hd => rfl); (case hg => rfl); (case hr => first | (go_simp; done) | (go_simp; rfl)); (case hp => exact (Reps.one (show Kd.M (Kd.int .i64) _ _ _ (l0.length : Int) [.int .i64 (l0.length : Int)] from rfl) (Reps.none _ _))); intro v238 w2 ho3 hb hg_ hnew_; clear hg_ hnew_; (first | rw [← hy237.out] at ho3 | (simp only [Int.reduceToNat] at ho3; rw [← hy237.out] at ho3)); have HO239 := am (Kd.R_lower ho3 (below_size (bm HB.out)));replace HB := am (below_step (bm HB.out) hb); clear hb ho3))
 go_loopg [3, 11] k (fun kq v3 v11 w' => ∃ (x3_1 : List Int) (x11_1 : Int), v11 = .int .i64 x11_1 ∧ Aside0 (impl_hydra_row.l0 kq x3_1 l0 (l0.length : Int) x11_1 = some r) ∧ Aside0 (kq ≤ k) ∧ Aside0 (Kd.R (Kd.int .i64) 3 w' w.heap.size (fun _ => True) v3 x3_1) ∧ Aside0 (Below w.heap.size w w'))
 case atStart => exact ⟨(y237), (0), (by first | rfl | (simp; done) | (simp [*]; done)), H', ⟨Nat.le_refl _⟩, ⟨Kd.rm HO239.out⟩, ⟨bm HB.out⟩⟩
 case round =>
  clear H';(try clear p2);(try clear HO_3);(try clear HB);obtain ⟨x3_1, x11_1, rfl, HA, HK1, HO_3, HB⟩ := hrel
  cases gk with
  | zero => exact absurd HA.out (by simp [impl_hydra_row.l0])
  | succ k1 =>
   have H := HA.out;clear HA;simp only [impl_hydra_row.l0] at H;by_cases c4 : x11_1 < (l0.length : Int)
   ·
    rw [if_pos c4] at H;have c4b0 : decide (x11_1 < (l0.length : Int)) = true := decide_eq_true c4;clear c4;by_cases c5 : 0 ≤ x11_1
    ·
     rw [if_pos c5] at H;have c5b0 : decide (0 ≤ x11_1) = true := decide_eq_true c5;clear c5;by_cases c6 : x11_1 < (l0.length : Int)
     ·
      rw [if_pos c6] at H;have c6b0 : decide (x11_1 < (l0.length : Int)) = true := decide_eq_true c6;clear c6;replace H := oE H;obtain ⟨t241, A7, H⟩ := H;replace H : (if x3_1.length + t241.length < 17592186044416 then (impl_hydra_row.l0 k1 (x3_1 ++ t241) l0 (l0.length : Int) (wrap64 (x11_1 + 1))) else (none)) = some r := H;replace A7 := am A7;by_cases c8 : x3_1.length + t241.length < 17592186044416
      ·
       rw [if_pos c8] at H;have LMc8 := am c8;clear c8
       obtain ⟨y244, hy244⟩ : ∃ y_ : List Int, y_ = (x3_1 ++ t241) := ⟨_, rfl⟩
       replace H : (impl_hydra_row.l0 k1 y244 l0 (l0.length : Int) (wrap64 (x11_1 + 1))) = some r := by first | (rw [hy244]; with_reducible exact H) | (have H2_ := oB H; rw [hy244]; with_reducible exact H2_) | (have H2_ := oB H; with_reducible exact H2_) | with_reducible exact H | (rw [hy244]; exact H) | exact H
       replace hy244 := am hy244;have H' := am H;clear H;have p240 : 0 ≤ (x11_1 : Int) := of_decide_eq_true (by assumption);have q240 : x11_1 < (l0.length : Int) := of_decide_eq_true (by assumption);obtain ⟨ad240, A240_0, c240_0, e240, hx240_0, hl240_0, hi240_0⟩ := at_T49 HR0.out x11_1 p240 q240;cases e240
       replace hx240_0 := (HB.out.cell (World.block_lt_of_cell? w _ hx240_0)).trans hx240_0;have HR240_0 := am hi240_0;have HC240_0 := am hl240_0;clear hi240_0 hl240_0;replace p240 := eq_true p240;replace q240 := eq_true q240;go_wp2_with (first | ((with_reducible refine gate_callee (f := 49) rfl ?_); refine goesL_ (some 17) rfl rfl Try.func49 (by kernel_rfl) rfl #[.slice A240_0 ((rd_T49 l0 x11_1).f0).length c240_0] rfl (by (try simp only [mA, mB, mC]); first | done | rfl) ?_; (with_reducible refine (ih k1 (by have := HK1.out; omega) _ _ ((rd_T49 l0 x11_1).f0) t241 _ ?side1 ?side2 A7.out).mono ?_); (case side1 => exact Kd.cm ((Kd.C_below HR240_0.out HB.out))); (case side2 => exact HC240_0.out); rintro e w9 ⟨v242, rfl, ho0, hb⟩; refine ⟨_, rfl, ?_⟩; have HO243 := am (Kd.R_lower (Kd.R_new' ho0 (Kd.R_lt (Kd.rm HO_3.out))) (below_size (bm HB.out)));replace HO_3 := am (Kd.R_elder' (Kd.rm HO_3.out) (Kd.R_base ho0) hb);replace HB := am (below_step (bm HB.out) hb); (try clear hb); (try clear hk); (try clear ho0); obtain ⟨Ao11, co11, eo11⟩ := Kd.R_slice HO243.out; subst eo11) | ((with_reducible refine gate_builtin (b := .append) (xs := #[.tmp 15, .tmp 17]) rfl ?_); at_builtin; refine Kd.R_append_rows (Kd.int .i64) (w0 := w) w.heap.size rfl (.tmp 15) (.tmp 17) 22 3 (.int .i64 0) 8 rfl Try.underlying22 info3 rfl (by decide) (by omega) u3 x3_1 t241 _ _ _ (fun k_ => some k_ ≠ (.slice Ao11 t241.length co11 : Value).ownBlock) (fun _ => False) rfl rfl ?aO ?aR (fun _ _ h => h) (fun _ h => h.elim) ?aF ?aB ?aS ?aL ?_; (case aR => exact Kd.cm ((Kd.R_reads' HO243.out).2.2)); (case aB => exact (bm HB.out)); (case aF => exact (fun k_ hk => Kd.fresh' (Kd.R_lt (Kd.rm HO243.out)) k_ hk)); (case aO => exact (Kd.rm (Kd.R_mono HO_3.out (fun _ hk => hk.2)))); (case aS => exact (below_size (bm HB.out))); (case aL => have := LMc8.out; omega); intro v245 w10 ho hb hg hat; rw [← hy244.out] at ho; replace HO243 := am (Kd.R_after (ok := (fun _ => True)) (Kd.rm HO243.out) hg hat);replace HB := am (hb);have HO246 := am (ho);clear HO_3; clear ho hb hg hat))
       go_roundg k1
       case measure => have := HK1.out; omega
       case rel => exact ⟨(y244), (wrap64 (x11_1 + 1)), (by first | rfl | (simp; done) | (simp [*]; done)), H', ⟨by have := HK1.out; omega⟩, ⟨Kd.rm (Kd.R_mono HO246.out (fun _ hk => trivial))⟩, ⟨bm HB.out⟩⟩
      ·
       rw [if_neg c8] at H;exact absurd H (by simp)
     ·
      rw [if_neg c6] at H;exact absurd H (by simp)
    ·
     rw [if_neg c5] at H;exact absurd H (by simp)
   ·
    rw [if_neg c4] at H;have c4b0 : decide (x11_1 < (l0.length : Int)) = false := decide_eq_false c4;clear c4;obtain rfl := Option.some.inj H;go_wp2;go_ret;exact ⟨_, by first | rfl | (simp [errW_none, errW_some] <;> rfl) | (simp [*, errW_none, errW_some] <;> rfl), Kd.rm HO_3.out, bm HB.out⟩

/-! ### slices_Clip_int_int: function 58 -/
def slices_Clip_int_int.f (l0 : List Int) : Option (List Int) := some l0
set_option maxHeartbeats 8000000 in
set_option maxRecDepth 100000 in
theorem slices_Clip_int_int.calls (P0_ : Nat → Prop) (u9000_ : Value) (l0 : List Int) (r : List Int) (w0 w : World) (hB : Below w0.heap.size w0 w) (ho0 : Kd.R (Kd.int .i64) 3 w w0.heap.size P0_ u9000_ l0) (h : slices_Clip_int_int.f l0 = some r) :
  Calls Try.prog 58 #[u9000_] w fun e w' => ∃ v0_ : Value, e = .returned (v0_) ∧ Kd.Y (Kd.int .i64) 3 w' w0.heap.size (fun k_ => (P0_ k_ ∨ w.heap.size ≤ k_)) v0_ r ∧ Below w0.heap.size w0 w' ∧ Kept w w' (fun k_ => P0_ k_) := by
 obtain rfl := Option.some.inj h;clear h;obtain ⟨A, c, rfl⟩ := Kd.R_slice ho0;have hY := am (Kd.Y_clip (Kd.Y_of_R ho0));have hlc := (Kd.Y_reads' (Kd.Y_of_R ho0)).2.1;have HK := am (Kept.refl w (fun k_ => P0_ k_));have HB := am hB;clear hB ho0;obtain ⟨i0, hi0, _, hsz, _⟩ := info_parts info3
 have hcut : ∀ W : World, (Instr.slice 22 (.slice A l0.length c) none (some (.int .i64 (l0.length : Int))) (some (.int .i64 (l0.length : Int)))).run Try.prog W = .ok (.slice A l0.length l0.length) W := by
  intro W
  have hel : Program.elem Try.prog 22 = 3 := by simp [Program.elem, Try.underlying22]
  have hu : Try.prog.underlying 22 = some (.slice (Program.elem Try.prog 22)) := by rw [hel]; exact Try.underlying22
  rw [run_slice_hm W 22 A l0.length c hu .i64 .i64 (l0.length : Int) (l0.length : Int) (by omega) (by omega) (by omega), hel]
  cases A with
  | none => simp [sizeOf, typeInfo, hi0, hsz, sliced, Result.andThen]
  | some ad => simp [sizeOf, typeInfo, hi0, hsz, sliced, Result.andThen, Addr.add]
 clear hi0 hsz;go_enter Try.func58, Try.ntmps58;go_wp2;go_ret;exact ⟨_, rfl, Kd.Y_mono (by repeat (first | exact hY.out | apply Kd.Y_drewN | apply Kd.Y_drew)) (fun _ hk => .inl hk), by repeat (first | exact HB.out | apply pw_below_drewN | apply below_drew1), by repeat (first | exact HK.out | apply Kept.drewN | apply Kept.drew)⟩

/-! ### impl_grown: function 36 -/
def impl_grown.f (k : Nat) (l0 : List (S49)) : Option (List Int × Bool) := (impl_hydra_row.f k l0).bind fun t247 => (if (t247.length : Int) > 60 then (some (([] : List Int), false)) else ((slices_Clip_int_int.f t247).bind fun t250 => (some (t250, true))))
theorem impl_grown.mono : ∀ a0 k, LeO (impl_grown.f k a0) (impl_grown.f (k + 1) a0) := by
 intro a0 k;unfold impl_grown.f
 repeat' first | (with_reducible exact impl_hydra_row.mono _ _) | (with_reducible exact LeO.refl _) | (with_reducible exact LeO.none _) | (with_reducible refine LeO.ite ?_ ?_) | (with_reducible refine LeO.bind ?_ (fun _ => ?_))
set_option maxHeartbeats 8000000 in
set_option maxRecDepth 100000 in
theorem impl_grown.calls (k : Nat) (A0 : Option Addr) (c0 : Nat) (l0 : List (S49)) (r1 : List Int) (r2 : Bool) (w : World) (hr0 : Kd.C k49 w A0 l0.length l0) (hc0 : l0.length ≤ c0) (h : impl_grown.f k l0 = some (r1, r2)) :
  Calls Try.prog 36 #[.slice A0 l0.length c0] w fun e w' => ∃ v0_ : Value, e = .returned (.tuple #[v0_, .bool r2]) ∧ Kd.Y (Kd.int .i64) 3 w' w.heap.size (fun _ => True) v0_ r1 ∧ Below w.heap.size w w' := by
 have HR0 := am hr0;have HC0 := am hc0;clear hr0 hc0;have HB := am (Below.refl w.heap.size w);have H : ((impl_hydra_row.f k l0).bind fun t247 => (if (t247.length : Int) > 60 then (some (([] : List Int), false)) else ((slices_Clip_int_int.f t247).bind fun t250 => (some (t250, true))))) = some (r1, r2) := h;clear h;replace H := oE H;obtain ⟨t247, A2, H⟩ := H;replace H : (if (t247.length : Int) > 60 then (some (([] : List Int), false)) else ((slices_Clip_int_int.f t247).bind fun t250 => (some (t250, true)))) = some (r1, r2) := H;replace A2 := am A2;by_cases c3 : (t247.length : Int) > 60
 ·
  rw [if_pos c3] at H;have c3b0 : decide (60 < (t247.length : Int)) = true := decide_eq_true c3;have c3b1 : decide (60 < t247.length) = true := decide_eq_true (by omega);clear c3;simp only [Option.some.injEq, Prod.mk.injEq] at H;obtain ⟨rfl, rfl⟩ := H;go_enter Try.func36, Try.ntmps36;go_wp2_with (first | ((with_reducible refine gate_callee (f := 49) rfl ?_); refine goesL_ (some 6) rfl rfl Try.func49 (by kernel_rfl) rfl #[.slice A0 l0.length c0] rfl (by (try simp only [mA, mB, mC]); first | done | rfl) ?_; (with_reducible refine (impl_hydra_row.calls k _ _ l0 t247 _ ?side1 ?side2 A2.out).mono ?_); (case side1 => exact Kd.cm HR0.out); (case side2 => exact HC0.out); rintro e w4 ⟨v248, rfl, ho0, hb⟩; refine ⟨_, rfl, ?_⟩; have HO249 := am (Kd.R_lower ho0 (below_size (bm HB.out)));replace HB := am (below_step (bm HB.out) hb); (try clear hb); (try clear ho0); obtain ⟨Ao5, co5, eo5⟩ := Kd.R_slice HO249.out; subst eo5));go_ret2;exact ⟨_, by first | rfl | (simp [errW_none, errW_some] <;> rfl) | (simp [*, errW_none, errW_some] <;> rfl), Kd.Y_of_R (by first | exact Kd.R_nil _ _ _ _ _ | exact Kd.N_nil _ _ _ _ _ | exact Kd.V_nil _ _ _ _ _ | exact Kd.Y_nil _ _ _ _ _ | exact Kd.S_nil _ _ _ _ _), bm HB.out⟩
 ·
  rw [if_neg c3] at H;have c3b0 : decide (60 < (t247.length : Int)) = false := decide_eq_false c3;have c3b1 : decide (60 < t247.length) = false := decide_eq_false (by omega);clear c3;replace H := oE H;obtain ⟨t250, A6, H⟩ := H;replace H : (some (t250, true)) = some (r1, r2) := H;replace A6 := am A6;simp only [Option.some.injEq, Prod.mk.injEq] at H;obtain ⟨rfl, rfl⟩ := H;go_enter Try.func36, Try.ntmps36;go_wp2_with (first | ((with_reducible refine gate_callee (f := 49) rfl ?_); refine goesL_ (some 6) rfl rfl Try.func49 (by kernel_rfl) rfl #[.slice A0 l0.length c0] rfl (by (try simp only [mA, mB, mC]); first | done | rfl) ?_; (with_reducible refine (impl_hydra_row.calls k _ _ l0 t247 _ ?side1 ?side2 A2.out).mono ?_); (case side1 => exact Kd.cm HR0.out); (case side2 => exact HC0.out); rintro e w7 ⟨v248, rfl, ho0, hb⟩; refine ⟨_, rfl, ?_⟩; have HO249 := am (Kd.R_lower ho0 (below_size (bm HB.out)));replace HB := am (below_step (bm HB.out) hb); (try clear hb); (try clear ho0); obtain ⟨Ao8, co8, eo8⟩ := Kd.R_slice HO249.out; subst eo8) | ((with_reducible refine gate_callee (f := 58) rfl ?_); refine goesL_ (some 11) rfl rfl Try.func58 (by kernel_rfl) rfl #[.slice Ao8 t247.length co8] rfl (by (try simp only [mA, mB, mC]); first | done | rfl) ?_; (with_reducible refine (slices_Clip_int_int.calls (fun k_ => some k_ = (.slice Ao8 t247.length co8 : Value).ownBlock) (.slice Ao8 t247.length co8) t247 t250 w _ ?side1 ?side2 A6.out).mono ?_); (case side1 => repeat (first | (with_reducible first | exact HB.out | apply below_alloc | apply pw_below_drewN | apply below_drew1) | exact HB.out)); (case side2 => exact Kd.R_tight rfl HO249.out); rintro e w9 ⟨v251, rfl, ho0, hb, hkp⟩; refine ⟨_, rfl, ?_⟩; have HO252 := am (Kd.Y_mono (ok' := fun k_ => True) ho0 (fun k_ hk_ => trivial));replace HB := am (hb);clear HO249; (try clear hb); (try clear hkp); (try clear ho0)));go_ret2;exact ⟨_, by first | rfl | (simp [errW_none, errW_some] <;> rfl) | (simp [*, errW_none, errW_some] <;> rfl), Kd.ym HO252.out, bm HB.out⟩

/-! ### impl_HydraCut: function 11 -/
def impl_HydraCut.f (k : Nat) (l0 : List Int) (a1 a2 : Int) : Option (List Int × Bool) := (impl_hydraOf.f k l0).bind fun p => if p.2 = true then (if a2 < 1 then some ([], false) else if a2 > 9 then some ([], false) else if a1 < 0 then some ([], false) else ((impl_hydra_heads.f k p.1).bind fun n => if a1 ≥ n then some ([], false) else ((impl_hydra_cut.f k p.1 a1 a2 true).bind fun c => impl_grown.f k c.1))) else some ([], false)
theorem impl_HydraCut.mono : ∀ a0 a1 a2 k, LeO (impl_HydraCut.f k a0 a1 a2) (impl_HydraCut.f (k + 1) a0 a1 a2) := by
 intro a0 a1 a2 k;unfold impl_HydraCut.f
 repeat' first | (with_reducible exact impl_hydraOf.mono _ _) | (with_reducible exact impl_hydra_heads.mono _ _) | (with_reducible exact impl_hydra_cut.mono _ _ _ _ _) | (with_reducible exact impl_grown.mono _ _) | (with_reducible exact LeO.refl _) | (with_reducible exact LeO.none _) | (with_reducible refine LeO.ite ?_ ?_) | (with_reducible refine LeO.bind ?_ (fun _ => ?_))
set_option maxHeartbeats 8000000 in
set_option maxRecDepth 100000 in
theorem impl_HydraCut.calls (k : Nat) (A0 : Option Addr) (c0 : Nat) (l0 : List Int) (a1 : Int) (a2 : Int) (r1 : List Int) (r2 : Bool) (w : World) (hr0 : Kd.C (Kd.int .i64) w A0 l0.length l0) (hc0 : l0.length ≤ c0) (h : impl_HydraCut.f k l0 a1 a2 = some (r1, r2)) :
  Calls Try.prog 11 #[.slice A0 l0.length c0, .int .i64 a1, .int .i64 a2] w fun e w' => ∃ v0_ : Value, e = .returned (.tuple #[v0_, .bool r2]) ∧ Kd.Y (Kd.int .i64) 3 w' w.heap.size (fun _ => True) v0_ r1 ∧ Below w.heap.size w w' := by
 have HR0 := am hr0;have HC0 := am hc0;clear hr0 hc0;have HB := am (Below.refl w.heap.size w);obtain ⟨⟨x, ok⟩, v0, h⟩ := Option.bind_eq_some_iff.mp h;have V0 := am v0;clear v0
 cases ok with
 | false =>
  rw [if_neg (by simp)] at h
  injection h with h
  injection h with h1 h2
  subst h1;subst h2;go_enter Try.func11, Try.ntmps11;go_wp2_with (first | ((with_reducible refine gate_callee (f := 33) rfl ?_); refine goesL_ (some 14) rfl rfl Try.func33 (by kernel_rfl) rfl #[.slice A0 l0.length c0] rfl (by (try simp only [mA, mB, mC]); first | done | rfl) ?_; (with_reducible refine (impl_hydraOf.calls k _ _ l0 x false _ ?side1 ?side2 V0.out).mono ?_); (case side1 => exact Kd.C_below HR0.out (bm HB.out)); (case side2 => exact HC0.out); rintro e w8 ⟨vx, rfl, hox, hb⟩; refine ⟨_, rfl, ?_⟩; have HX := am (Kd.R_lower hox (below_size (bm HB.out))); have HF_ := am hox; have HB_ := am (below_step (bm HB.out) hb); have HI_ : Aside0 (w8.heap[w.heap.size]? = some (.cells #[.int .i64 a1] 3 (0, 0))) := ⟨(hb.block w.heap.size (by simp)).trans (heap_alloc_new w _)⟩; clear HB hb hox; have HB := HB_; clear HB_; obtain ⟨Ax, cx, ex⟩ := Kd.R_slice HX.out; subst ex));go_region;go_wp2;go_ret2;exact ⟨_, by first | rfl | (simp; done) | (simp [*]; done), Kd.Y_nil _ _ _ _ _, bm HB.out⟩
 | true =>
  rw [if_pos rfl] at h;by_cases c1 : a2 < 1
  ·
   rw [if_pos c1] at h;have c1b : decide (a2 < 1) = true := decide_eq_true c1;clear c1
   injection h with h
   injection h with h1 h2
   subst h1;subst h2;go_enter Try.func11, Try.ntmps11;go_wp2_with (first | ((with_reducible refine gate_callee (f := 33) rfl ?_); refine goesL_ (some 14) rfl rfl Try.func33 (by kernel_rfl) rfl #[.slice A0 l0.length c0] rfl (by (try simp only [mA, mB, mC]); first | done | rfl) ?_; (with_reducible refine (impl_hydraOf.calls k _ _ l0 x true _ ?side1 ?side2 V0.out).mono ?_); (case side1 => exact Kd.C_below HR0.out (bm HB.out)); (case side2 => exact HC0.out); rintro e w8 ⟨vx, rfl, hox, hb⟩; refine ⟨_, rfl, ?_⟩; have HX := am (Kd.R_lower hox (below_size (bm HB.out))); have HF_ := am hox; have HB_ := am (below_step (bm HB.out) hb); have HI_ : Aside0 (w8.heap[w.heap.size]? = some (.cells #[.int .i64 a1] 3 (0, 0))) := ⟨(hb.block w.heap.size (by simp)).trans (heap_alloc_new w _)⟩; clear HB hb hox; have HB := HB_; clear HB_; obtain ⟨Ax, cx, ex⟩ := Kd.R_slice HX.out; subst ex));go_region;go_wp2;go_ret2;exact ⟨_, by first | rfl | (simp; done) | (simp [*]; done), Kd.Y_nil _ _ _ _ _, bm HB.out⟩
  ·
   rw [if_neg c1] at h;have c1b : decide (a2 < 1) = false := decide_eq_false c1;clear c1;by_cases c2 : a2 > 9
   ·
    rw [if_pos c2] at h;have c2b : decide (a2 > 9) = true := decide_eq_true c2;clear c2
    injection h with h
    injection h with h1 h2
    subst h1;subst h2;go_enter Try.func11, Try.ntmps11;go_wp2_with (first | ((with_reducible refine gate_callee (f := 33) rfl ?_); refine goesL_ (some 14) rfl rfl Try.func33 (by kernel_rfl) rfl #[.slice A0 l0.length c0] rfl (by (try simp only [mA, mB, mC]); first | done | rfl) ?_; (with_reducible refine (impl_hydraOf.calls k _ _ l0 x true _ ?side1 ?side2 V0.out).mono ?_); (case side1 => exact Kd.C_below HR0.out (bm HB.out)); (case side2 => exact HC0.out); rintro e w8 ⟨vx, rfl, hox, hb⟩; refine ⟨_, rfl, ?_⟩; have HX := am (Kd.R_lower hox (below_size (bm HB.out))); have HF_ := am hox; have HB_ := am (below_step (bm HB.out) hb); have HI_ : Aside0 (w8.heap[w.heap.size]? = some (.cells #[.int .i64 a1] 3 (0, 0))) := ⟨(hb.block w.heap.size (by simp)).trans (heap_alloc_new w _)⟩; clear HB hb hox; have HB := HB_; clear HB_; obtain ⟨Ax, cx, ex⟩ := Kd.R_slice HX.out; subst ex));go_region;go_wp2;go_ret2;exact ⟨_, by first | rfl | (simp; done) | (simp [*]; done), Kd.Y_nil _ _ _ _ _, bm HB.out⟩
   ·
    rw [if_neg c2] at h;have c2b : decide (a2 > 9) = false := decide_eq_false c2;clear c2;by_cases c3 : a1 < 0
    ·
     rw [if_pos c3] at h;have c3b : decide (a1 < 0) = true := decide_eq_true c3;clear c3
     injection h with h
     injection h with h1 h2
     subst h1;subst h2;go_enter Try.func11, Try.ntmps11;go_wp2_with (first | ((with_reducible refine gate_callee (f := 33) rfl ?_); refine goesL_ (some 14) rfl rfl Try.func33 (by kernel_rfl) rfl #[.slice A0 l0.length c0] rfl (by (try simp only [mA, mB, mC]); first | done | rfl) ?_; (with_reducible refine (impl_hydraOf.calls k _ _ l0 x true _ ?side1 ?side2 V0.out).mono ?_); (case side1 => exact Kd.C_below HR0.out (bm HB.out)); (case side2 => exact HC0.out); rintro e w8 ⟨vx, rfl, hox, hb⟩; refine ⟨_, rfl, ?_⟩; have HX := am (Kd.R_lower hox (below_size (bm HB.out))); have HF_ := am hox; have HB_ := am (below_step (bm HB.out) hb); have HI_ : Aside0 (w8.heap[w.heap.size]? = some (.cells #[.int .i64 a1] 3 (0, 0))) := ⟨(hb.block w.heap.size (by simp)).trans (heap_alloc_new w _)⟩; clear HB hb hox; have HB := HB_; clear HB_; obtain ⟨Ax, cx, ex⟩ := Kd.R_slice HX.out; subst ex));have hcI : w8.cell? ⟨w.heap.size, 0, none⟩ = some (.int .i64 a1) := (blk_cell HI_.out 0).trans rfl
     first | go_region | go_big_region_o
     go_wp2;go_ret2;exact ⟨_, by first | rfl | (simp; done) | (simp [*]; done), Kd.Y_nil _ _ _ _ _, bm HB.out⟩
    ·
     rw [if_neg c3] at h;have c3b : decide (a1 < 0) = false := decide_eq_false c3;clear c3;obtain ⟨n, v1, h⟩ := Option.bind_eq_some_iff.mp h;have V1 := am v1;clear v1;by_cases c4 : a1 ≥ n
     ·
      rw [if_pos c4] at h;have c4b : decide (a1 ≥ n) = true := decide_eq_true c4;clear c4
      injection h with h
      injection h with h1 h2
      subst h1;subst h2;go_enter Try.func11, Try.ntmps11;go_wp2_with (first | ((with_reducible refine gate_callee (f := 33) rfl ?_); refine goesL_ (some 14) rfl rfl Try.func33 (by kernel_rfl) rfl #[.slice A0 l0.length c0] rfl (by (try simp only [mA, mB, mC]); first | done | rfl) ?_; (with_reducible refine (impl_hydraOf.calls k _ _ l0 x true _ ?side1 ?side2 V0.out).mono ?_); (case side1 => exact Kd.C_below HR0.out (bm HB.out)); (case side2 => exact HC0.out); rintro e w8 ⟨vx, rfl, hox, hb⟩; refine ⟨_, rfl, ?_⟩; have HX := am (Kd.R_lower hox (below_size (bm HB.out))); have HF_ := am hox; have HB_ := am (below_step (bm HB.out) hb); have HI_ : Aside0 (w8.heap[w.heap.size]? = some (.cells #[.int .i64 a1] 3 (0, 0))) := ⟨(hb.block w.heap.size (by simp)).trans (heap_alloc_new w _)⟩; clear HB hb hox; have HB := HB_; clear HB_; obtain ⟨Ax, cx, ex⟩ := Kd.R_slice HX.out; subst ex));have hcI : w8.cell? ⟨w.heap.size, 0, none⟩ = some (.int .i64 a1) := (blk_cell HI_.out 0).trans rfl;go_region_held3 (fun w' => w'.cell? ⟨w.heap.size, 0, none⟩ = some (.int .i64 a1)) (go_keep) (first | (go_at_call 34; (with_reducible refine (impl_hydra_heads.calls k _ _ x n _ ?side1 ?side2 V1.out).mono ?_); (case side1 => exact Kd.cm ((Kd.R_reads' HX.out).2.2)); (case side2 => exact (Kd.R_reads' HX.out).2.1); rintro e w' ⟨rfl, ⟨nd, rfl⟩⟩));go_wp2;go_ret2;exact ⟨_, by first | rfl | (simp; done) | (simp [*]; done), Kd.Y_nil _ _ _ _ _, bm HB.out⟩
     ·
      rw [if_neg c4] at h;have c4b : decide (a1 ≥ n) = false := decide_eq_false c4;clear c4;obtain ⟨⟨y, own, s1⟩, v2, h⟩ := Option.bind_eq_some_iff.mp h;have V2 := am v2;have V3 := am h;clear v2 h;go_enter Try.func11, Try.ntmps11;go_wp2_with (first | ((with_reducible refine gate_callee (f := 33) rfl ?_); refine goesL_ (some 14) rfl rfl Try.func33 (by kernel_rfl) rfl #[.slice A0 l0.length c0] rfl (by (try simp only [mA, mB, mC]); first | done | rfl) ?_; (with_reducible refine (impl_hydraOf.calls k _ _ l0 x true _ ?side1 ?side2 V0.out).mono ?_); (case side1 => exact Kd.C_below HR0.out (bm HB.out)); (case side2 => exact HC0.out); rintro e w8 ⟨vx, rfl, hox, hb⟩; refine ⟨_, rfl, ?_⟩; have HX := am (Kd.R_lower hox (below_size (bm HB.out))); have HF_ := am hox; have HB_ := am (below_step (bm HB.out) hb); have HI_ : Aside0 (w8.heap[w.heap.size]? = some (.cells #[.int .i64 a1] 3 (0, 0))) := ⟨(hb.block w.heap.size (by simp)).trans (heap_alloc_new w _)⟩; clear HB hb hox; have HB := HB_; clear HB_; obtain ⟨Ax, cx, ex⟩ := Kd.R_slice HX.out; subst ex));have hcI : w8.cell? ⟨w.heap.size, 0, none⟩ = some (.int .i64 a1) := (blk_cell HI_.out 0).trans rfl;go_region_held3 (fun w' => w'.cell? ⟨w.heap.size, 0, none⟩ = some (.int .i64 a1)) (go_keep) (first | (go_at_call 34; (with_reducible refine (impl_hydra_heads.calls k _ _ x n _ ?side1 ?side2 V1.out).mono ?_); (case side1 => exact Kd.cm ((Kd.R_reads' HX.out).2.2)); (case side2 => exact (Kd.R_reads' HX.out).2.1); rintro e w' ⟨rfl, ⟨nd, rfl⟩⟩));clear hcI;go_wp2_with (first | ((with_reducible refine gate_callee (f := 35) rfl ?_); refine goesL_ (some 40) rfl rfl Try.func35 (by kernel_rfl) rfl #[.slice Ax x.length cx, .pointer (some ⟨w.heap.size, 0, none⟩), .int .i64 a2, .bool true] rfl (by (try simp only [mA, mB, mC]); first | done | rfl) ?_; (with_reducible refine (impl_hydra_cut.calls k (fun _ => True) _ _ x w.heap.size a1 a2 true y own s1 w _ ?side1 ?side2 ?side3 V2.out).mono ?_); (case side1 => exact ⟨HI_.out, Nat.le_refl _⟩); (case side2 => exact (bm HB.out)); (case side3 => exact Kd.V_mono (Kd.V_drewN (Kd.R_V (IsS3.apart (w0 := w) (f0 := a1) ⟨HI_.out, Nat.le_refl _⟩ HX.out (by decide))) _) (fun k_ hk => hk)); rintro e w9 ⟨vy, rfl, hoy, hi, hb, hk⟩; refine ⟨_, rfl, ?_⟩; have HY := am hoy; have HB_ := am hb; clear HB hb hk hi hoy; have HB := HB_; clear HB_; obtain ⟨Ay, cy, ey⟩ := Kd.V_slice HY.out; subst ey) | ((with_reducible refine gate_callee (f := 36) rfl ?_); refine goesL_ (some 44) rfl rfl Try.func36 (by kernel_rfl) rfl #[.slice Ay y.length cy] rfl (by (try simp only [mA, mB, mC]); first | done | rfl) ?_; (with_reducible refine (impl_grown.calls k _ _ y r1 r2 _ ?side1 ?side2 V3.out).mono ?_); (case side1 => exact (Kd.V_reads' HY.out).2.2); (case side2 => exact (Kd.V_reads' HY.out).2.1); rintro e w10 ⟨v10, rfl, ho10, hb10⟩; refine ⟨_, rfl, ?_⟩; have HO := am (Kd.Y_lower ho10 (below_size (bm HB.out))); have HB_ := am (below_step (bm HB.out) hb10); clear HB hb10 ho10; have HB := HB_; clear HB_));go_ret2;exact ⟨_, by first | rfl | (simp; done) | (simp [*]; done), HO.out, HB.out⟩

/-! ### impl_HydraValid: function 22 -/
def impl_HydraValid.f (k : Nat) (l0 : List Int) : Option (Bool) := (impl_hydraOf.f k l0).bind fun bt253 => (some bt253.2)
theorem impl_HydraValid.mono : ∀ a0 k, LeO (impl_HydraValid.f k a0) (impl_HydraValid.f (k + 1) a0) := by
 intro a0 k;unfold impl_HydraValid.f
 repeat' first | (with_reducible exact impl_hydraOf.mono _ _) | (with_reducible exact LeO.refl _) | (with_reducible exact LeO.none _) | (with_reducible refine LeO.ite ?_ ?_) | (with_reducible refine LeO.bind ?_ (fun _ => ?_))
set_option maxHeartbeats 8000000 in
set_option maxRecDepth 100000 in
theorem impl_HydraValid.calls (k : Nat) (A0 : Option Addr) (c0 : Nat) (l0 : List Int) (r : Bool) (w : World) (hr0 : Kd.C (Kd.int .i64) w A0 l0.length l0) (hc0 : l0.length ≤ c0) (h : impl_HydraValid.f k l0 = some r) :
  Calls Try.prog 22 #[.slice A0 l0.length c0] w fun e w' => e = .returned (.bool r) ∧ Below w.heap.size w w' := by
 have HR0 := am hr0;have HC0 := am hc0;clear hr0 hc0;have HB := am (Below.refl w.heap.size w);have H : ((impl_hydraOf.f k l0).bind fun bt253 => (some bt253.2)) = some r := h;clear h;replace H := oE H;obtain ⟨⟨t253, t254⟩, A2, H⟩ := H;replace H : (some t254) = some r := H;replace A2 := am A2;obtain rfl := Option.some.inj H;go_enter Try.func22, Try.ntmps22;go_wp2_with (first | ((with_reducible refine gate_callee (f := 33) rfl ?_); refine goesL_ (some 7) rfl rfl Try.func33 (by kernel_rfl) rfl #[.slice A0 l0.length c0] rfl (by (try simp only [mA, mB, mC]); first | done | rfl) ?_; (with_reducible refine (impl_hydraOf.calls k _ _ l0 t253 t254 _ ?side1 ?side2 A2.out).mono ?_); (case side1 => exact Kd.cm HR0.out); (case side2 => exact HC0.out); rintro e w3 ⟨v255, rfl, ho0, hb⟩; refine ⟨_, rfl, ?_⟩; have HO256 := am (Kd.R_lower ho0 (below_size (bm HB.out)));replace HB := am (below_step (bm HB.out) hb); (try clear hb); (try clear ho0)));go_ret;exact ⟨by first | rfl | (simp [errW_none, errW_some] <;> rfl) | (simp [*, errW_none, errW_some] <;> rfl), bm HB.out⟩

/-! ### impl_HydraHeads: function 37 -/
def impl_HydraHeads.f (k : Nat) (l0 : List Int) : Option (Int) := (impl_hydraOf.f k l0).bind fun bt257 => (if bt257.2 = true then ((impl_hydra_heads.f k bt257.1).bind fun t261 => (some t261)) else (some (-1)))
theorem impl_HydraHeads.mono : ∀ a0 k, LeO (impl_HydraHeads.f k a0) (impl_HydraHeads.f (k + 1) a0) := by
 intro a0 k;unfold impl_HydraHeads.f
 repeat' first | (with_reducible exact impl_hydraOf.mono _ _) | (with_reducible exact impl_hydra_heads.mono _ _) | (with_reducible exact LeO.refl _) | (with_reducible exact LeO.none _) | (with_reducible refine LeO.ite ?_ ?_) | (with_reducible refine LeO.bind ?_ (fun _ => ?_))
set_option maxHeartbeats 8000000 in
set_option maxRecDepth 100000 in
theorem impl_HydraHeads.calls (k : Nat) (A0 : Option Addr) (c0 : Nat) (l0 : List Int) (r : Int) (w : World) (hr0 : Kd.C (Kd.int .i64) w A0 l0.length l0) (hc0 : l0.length ≤ c0) (h : impl_HydraHeads.f k l0 = some r) :
  Calls Try.prog 37 #[.slice A0 l0.length c0] w fun e w' => e = .returned (.int .i64 r) ∧ Below w.heap.size w w' := by
 have HR0 := am hr0;have HC0 := am hc0;clear hr0 hc0;have HB := am (Below.refl w.heap.size w);have H : ((impl_hydraOf.f k l0).bind fun bt257 => (if bt257.2 = true then ((impl_hydra_heads.f k bt257.1).bind fun t261 => (some t261)) else (some (-1)))) = some r := h;clear h;replace H := oE H;obtain ⟨⟨t257, t258⟩, A2, H⟩ := H;replace H : (if t258 = true then ((impl_hydra_heads.f k t257).bind fun t261 => (some t261)) else (some (-1))) = some r := H;replace A2 := am A2;by_cases c3 : t258 = true
 ·
  subst c3
  have H1 : ((impl_hydra_heads.f k t257).bind fun t261 => (some t261)) = some r := by rw [if_pos rfl] at H; exact H
  clear H;have H := H1;clear H1;replace H := oE H;obtain ⟨t261, A4, H⟩ := H;replace H : (some t261) = some r := H;replace A4 := am A4;obtain rfl := Option.some.inj H;go_enter Try.func37, Try.ntmps37;go_wp2_with (first | ((with_reducible refine gate_callee (f := 33) rfl ?_); refine goesL_ (some 7) rfl rfl Try.func33 (by kernel_rfl) rfl #[.slice A0 l0.length c0] rfl (by (try simp only [mA, mB, mC]); first | done | rfl) ?_; (with_reducible refine (impl_hydraOf.calls k _ _ l0 t257 true _ ?side1 ?side2 A2.out).mono ?_); (case side1 => exact Kd.cm HR0.out); (case side2 => exact HC0.out); rintro e w5 ⟨v259, rfl, ho0, hb⟩; refine ⟨_, rfl, ?_⟩; have HO260 := am (Kd.R_lower ho0 (below_size (bm HB.out)));replace HB := am (below_step (bm HB.out) hb); (try clear hb); (try clear ho0); obtain ⟨Ao6, co6, eo6⟩ := Kd.R_slice HO260.out; subst eo6) | ((with_reducible refine gate_callee (f := 34) rfl ?_); refine goesL_ (some 13) rfl rfl Try.func34 (by kernel_rfl) rfl #[.slice Ao6 t257.length co6] rfl (by (try simp only [mA, mB, mC]); first | done | rfl) ?_; (with_reducible refine (impl_hydra_heads.calls k _ _ t257 t261 _ ?side1 ?side2 A4.out).mono ?_); (case side1 => exact Kd.cm ((Kd.R_reads' HO260.out).2.2)); (case side2 => exact (Kd.R_reads' HO260.out).2.1); rintro e w' ⟨rfl, ⟨nd, rfl⟩⟩; refine ⟨_, rfl, ?_⟩));go_ret;exact ⟨by first | rfl | (simp [errW_none, errW_some] <;> rfl) | (simp [*, errW_none, errW_some] <;> rfl), bm HB.out⟩
 ·
  replace c3 := Bool.eq_false_iff.mpr c3;subst c3
  have H1 : (some (-1)) = some r := by rw [if_neg (show ¬ (false = true) by decide)] at H; exact H
  clear H;have H := H1;clear H1;obtain rfl := Option.some.inj H;go_enter Try.func37, Try.ntmps37;go_wp2_with (first | ((with_reducible refine gate_callee (f := 33) rfl ?_); refine goesL_ (some 7) rfl rfl Try.func33 (by kernel_rfl) rfl #[.slice A0 l0.length c0] rfl (by (try simp only [mA, mB, mC]); first | done | rfl) ?_; (with_reducible refine (impl_hydraOf.calls k _ _ l0 t257 false _ ?side1 ?side2 A2.out).mono ?_); (case side1 => exact Kd.cm HR0.out); (case side2 => exact HC0.out); rintro e w7 ⟨v259, rfl, ho0, hb⟩; refine ⟨_, rfl, ?_⟩; have HO260 := am (Kd.R_lower ho0 (below_size (bm HB.out)));replace HB := am (below_step (bm HB.out) hb); (try clear hb); (try clear ho0)));go_ret;exact ⟨by first | rfl | (simp [errW_none, errW_some] <;> rfl) | (simp [*, errW_none, errW_some] <;> rfl), bm HB.out⟩

/-! ### impl_HydraFight: function 16 -/
mutual
def impl_HydraFight.j0 : Nat → List Int → Int → Bool → Option (Int)
 | 0, _, _, _ => none
 | k + 1, x0, x1, x18 => if x18 = true then (some (-1)) else (impl_HydraFight.l0 k x0 x1 0)
def impl_HydraFight.l0 : Nat → List Int → Int → Int → Option (Int)
 | 0, _, _, _ => none
 | k + 1, x0, x1, x5 => if x5 ≤ 400 then (if 0 < (x0.length : Int) then (if (rd x0 0) = 0 then (some x5) else ((impl_HydraHeads.f k x0).bind fun t264 => ((impl_HydraCut.f k x0 (wrap64 (t264 - 1)) x1).bind fun bt265 => (if bt265.2 = true then (impl_HydraFight.l0 k bt265.1 x1 (wrap64 (x5 + 1))) else (some (-1)))))) else (none)) else (some (-1))
end
def impl_HydraFight.f (k : Nat) (l0 : List Int) (a1 : Int) : Option (Int) := (impl_HydraValid.f k l0).bind fun t262 => (if t262 = true then (if a1 < 1 then (impl_HydraFight.j0 k l0 a1 true) else (impl_HydraFight.j0 k l0 a1 (decide (a1 > 9)))) else (impl_HydraFight.j0 k l0 a1 true))
theorem impl_HydraFight.mono_l : ∀ k, (∀ y0 y1 y2, LeO (impl_HydraFight.j0 k y0 y1 y2) (impl_HydraFight.j0 (k + 1) y0 y1 y2)) ∧ (∀ y0 y1 y2, LeO (impl_HydraFight.l0 k y0 y1 y2) (impl_HydraFight.l0 (k + 1) y0 y1 y2))
 | 0 => ⟨fun _ _ _ r h => by simp [impl_HydraFight.j0] at h, fun _ _ _ r h => by simp [impl_HydraFight.l0] at h⟩
 | k + 1 => by
  obtain ⟨ih0, ih1⟩ := impl_HydraFight.mono_l k;refine ⟨?_, ?_⟩
  all_goals (intros; first | unfold impl_HydraFight.j0 | unfold impl_HydraFight.l0)
  all_goals repeat' first | (with_reducible exact ih0 _ _ _) | (with_reducible exact ih1 _ _ _) | (with_reducible exact impl_HydraCut.mono _ _ _ _) | (with_reducible exact impl_HydraHeads.mono _ _) | (with_reducible exact impl_HydraValid.mono _ _) | (with_reducible exact LeO.refl _) | (with_reducible exact LeO.none _) | (with_reducible refine LeO.ite ?_ ?_) | (with_reducible refine LeO.bind ?_ (fun _ => ?_))
theorem impl_HydraFight.mono : ∀ a0 a1 k, LeO (impl_HydraFight.f k a0 a1) (impl_HydraFight.f (k + 1) a0 a1) := by
 intro a0 a1 k;obtain ⟨ih0, ih1⟩ := impl_HydraFight.mono_l k;unfold impl_HydraFight.f
 repeat' first | (with_reducible exact ih0 _ _ _) | (with_reducible exact ih1 _ _ _) | (with_reducible exact impl_HydraCut.mono _ _ _ _) | (with_reducible exact impl_HydraHeads.mono _ _) | (with_reducible exact impl_HydraValid.mono _ _) | (with_reducible exact LeO.refl _) | (with_reducible exact LeO.none _) | (with_reducible refine LeO.ite ?_ ?_) | (with_reducible refine LeO.bind ?_ (fun _ => ?_))
set_option maxHeartbeats 8000000 in
set_option maxRecDepth 100000 in
theorem impl_HydraFight.calls (k : Nat) (P0_ : Nat → Prop) (A0 : Option Addr) (c0 : Nat) (l0 : List Int) (a1 : Int) (r : Int) (w : World) (hs0 : Kd.V (Kd.int .i64) 3 w w.heap.size (fun k_ => P0_ k_) (.slice A0 l0.length c0) l0) (h : impl_HydraFight.f k l0 a1 = some r) :
  Calls Try.prog 16 #[.slice A0 l0.length c0, .int .i64 a1] w fun e w' => e = .returned (.int .i64 r) ∧ Below w.heap.size w w' := by
 have HO0 := am (show Kd.V (Kd.int .i64) 3 w w.heap.size (fun k_ => (P0_ k_ ∨ w.heap.size ≤ k_)) (.slice A0 l0.length c0) l0 from Kd.V_mono hs0 (fun k_ hk => .inl hk));have HB := am (Below.refl w.heap.size w);have H : ((impl_HydraValid.f k l0).bind fun t262 => (if t262 = true then (if a1 < 1 then (impl_HydraFight.j0 k l0 a1 true) else (impl_HydraFight.j0 k l0 a1 (decide (a1 > 9)))) else (impl_HydraFight.j0 k l0 a1 true))) = some r := h;clear h;have HC3 := am H;clear H;go_enter Try.func16, Try.ntmps16
 go_upto_region 1 with (fail)
 go_cut [18] (fun v18 wc => ∃ (kq : Nat) (x18_2 : Bool), v18 = .bool x18_2 ∧ Aside0 (impl_HydraFight.j0 kq l0 a1 x18_2 = some r) ∧ Aside0 (kq ≤ k) ∧ Aside0 (Kd.V (Kd.int .i64) 3 wc w.heap.size (fun k_ => (P0_ k_ ∨ w.heap.size ≤ k_)) (.slice A0 l0.length c0) l0) ∧ Aside0 (Below w.heap.size w wc))
 case first =>
  have H := HC3.out;clear HC3;replace H := oE H;obtain ⟨t262, A4, H⟩ := H;replace H : (if t262 = true then (if a1 < 1 then (impl_HydraFight.j0 k l0 a1 true) else (impl_HydraFight.j0 k l0 a1 (decide (a1 > 9)))) else (impl_HydraFight.j0 k l0 a1 true)) = some r := H;replace A4 := am A4;by_cases c5 : t262 = true
  ·
   subst c5
   have H1 : (if a1 < 1 then (impl_HydraFight.j0 k l0 a1 true) else (impl_HydraFight.j0 k l0 a1 (decide (a1 > 9)))) = some r := by rw [if_pos rfl] at H; exact H
   clear H;have H := H1;clear H1;by_cases c6 : a1 < 1
   ·
    rw [if_pos c6] at H;have c6b0 : decide (a1 < 1) = true := decide_eq_true c6;clear c6
    (first | rw [c6b0] | (simp only [i64_w, i32_w]; rw [c6b0]) | skip)
    have H' := am H;clear H;go_wp2_with (first | ((with_reducible refine gate_callee (f := 22) rfl ?_); refine goesL_ (some 9) rfl rfl Try.func22 (by kernel_rfl) rfl #[.slice A0 l0.length c0] rfl (by (try simp only [mA, mB, mC]); first | done | rfl) ?_; (with_reducible refine (impl_HydraValid.calls k _ _ l0 true _ ?side1 ?side2 A4.out).mono ?_); (case side1 => exact Kd.cm ((Kd.V_reads' HO0.out).2.2)); (case side2 => exact (Kd.V_reads' HO0.out).2.1); rintro e w7 ⟨rfl, hb⟩; refine ⟨_, rfl, ?_⟩; replace HO0 := am (Kd.V_below (Kd.vm HO0.out) hb);replace HB := am (below_step (bm HB.out) hb); (try clear hb)));go_meet
    case rel => exact ⟨_, (true), (by first | rfl | (simp; done) | (simp [*]; done)), H', ⟨by first | omega | exact Nat.le_refl _⟩, ⟨Kd.vm HO0.out⟩, ⟨bm HB.out⟩⟩
   ·
    rw [if_neg c6] at H;have c6b0 : decide (a1 < 1) = false := decide_eq_false c6;clear c6
    (first | rw [c6b0] | (simp only [i64_w, i32_w]; rw [c6b0]) | skip)
    have H' := am H;clear H;go_wp2_with (first | ((with_reducible refine gate_callee (f := 22) rfl ?_); refine goesL_ (some 9) rfl rfl Try.func22 (by kernel_rfl) rfl #[.slice A0 l0.length c0] rfl (by (try simp only [mA, mB, mC]); first | done | rfl) ?_; (with_reducible refine (impl_HydraValid.calls k _ _ l0 true _ ?side1 ?side2 A4.out).mono ?_); (case side1 => exact Kd.cm ((Kd.V_reads' HO0.out).2.2)); (case side2 => exact (Kd.V_reads' HO0.out).2.1); rintro e w8 ⟨rfl, hb⟩; refine ⟨_, rfl, ?_⟩; replace HO0 := am (Kd.V_below (Kd.vm HO0.out) hb);replace HB := am (below_step (bm HB.out) hb); (try clear hb)));go_meet
    case rel => exact ⟨_, (decide (a1 > 9)), (by first | rfl | (simp; done) | (simp [*]; done)), H', ⟨by first | omega | exact Nat.le_refl _⟩, ⟨Kd.vm HO0.out⟩, ⟨bm HB.out⟩⟩
  ·
   replace c5 := Bool.eq_false_iff.mpr c5;subst c5
   have H1 : (impl_HydraFight.j0 k l0 a1 true) = some r := by rw [if_neg (show ¬ (false = true) by decide)] at H; exact H
   clear H;have H := H1;clear H1;have H' := am H;clear H;go_wp2_with (first | ((with_reducible refine gate_callee (f := 22) rfl ?_); refine goesL_ (some 9) rfl rfl Try.func22 (by kernel_rfl) rfl #[.slice A0 l0.length c0] rfl (by (try simp only [mA, mB, mC]); first | done | rfl) ?_; (with_reducible refine (impl_HydraValid.calls k _ _ l0 false _ ?side1 ?side2 A4.out).mono ?_); (case side1 => exact Kd.cm ((Kd.V_reads' HO0.out).2.2)); (case side2 => exact (Kd.V_reads' HO0.out).2.1); rintro e w9 ⟨rfl, hb⟩; refine ⟨_, rfl, ?_⟩; replace HO0 := am (Kd.V_below (Kd.vm HO0.out) hb);replace HB := am (below_step (bm HB.out) hb); (try clear hb)));go_meet
   case rel => exact ⟨_, (true), (by first | rfl | (simp; done) | (simp [*]; done)), H', ⟨by first | omega | exact Nat.le_refl _⟩, ⟨Kd.vm HO0.out⟩, ⟨bm HB.out⟩⟩
 case rest =>
  clear HC3;(try clear c1);(try clear c2);(try clear p2);(try clear c5);(try clear c6);(try clear c6b0);obtain ⟨kq, x18_2, rfl, HA, HJ2, HO_0, HB⟩ := hcut
  cases kq with
  | zero => exact absurd HA.out (by simp [impl_HydraFight.j0])
  | succ kj2 =>
   have H := HA.out;clear HA;simp only [impl_HydraFight.j0] at H;by_cases c10 : x18_2 = true
   ·
    subst c10
    have H1 : (some (-1)) = some r := by rw [if_pos rfl] at H; exact H
    clear H;have H := H1;clear H1;obtain rfl := Option.some.inj H;go_wp2;go_ret;exact ⟨by first | rfl | (simp [errW_none, errW_some] <;> rfl) | (simp [*, errW_none, errW_some] <;> rfl), bm HB.out⟩
   ·
    replace c10 := Bool.eq_false_iff.mpr c10;subst c10
    have H1 : (impl_HydraFight.l0 kj2 l0 a1 0) = some r := by rw [if_neg (show ¬ (false = true) by decide)] at H; exact H
    clear H;have H := H1;clear H1;have H' := am H;clear H;go_wp2
    go_loopg [0, 5] kj2 (fun kq v0 v5 w' => ∃ (x0_2 : List Int) (x5_2 : Int), v5 = .int .i64 x5_2 ∧ Aside0 (impl_HydraFight.l0 kq x0_2 a1 x5_2 = some r) ∧ Aside0 (kq ≤ kj2) ∧ Aside0 (Kd.V (Kd.int .i64) 3 w' w.heap.size (fun k_ => (P0_ k_ ∨ w.heap.size ≤ k_)) v0 x0_2) ∧ Aside0 (Below w.heap.size w w'))
    case atStart => exact ⟨(l0), (0), (by first | rfl | (simp; done) | (simp [*]; done)), H', ⟨Nat.le_refl _⟩, ⟨Kd.vm HO_0.out⟩, ⟨bm HB.out⟩⟩
    case round =>
     clear H';(try clear c1);(try clear c2);(try clear p2);(try clear c5);(try clear c6);(try clear c6b0);(try clear c10);(try clear p2);(try clear HO_0);(try clear HB);obtain ⟨x0_2, x5_2, rfl, HA, HK2, HO_0, HB⟩ := hrel
     cases gk with
     | zero => exact absurd HA.out (by simp [impl_HydraFight.l0])
     | succ k2 =>
      have H := HA.out;clear HA;simp only [impl_HydraFight.l0] at H;by_cases c11 : x5_2 ≤ 400
      ·
       rw [if_pos c11] at H;have c11b0 : decide (x5_2 ≤ 400) = true := decide_eq_true c11;clear c11;by_cases c12 : 0 < (x0_2.length : Int)
       ·
        rw [if_pos c12] at H;have c12b0 : decide (0 < (x0_2.length : Int)) = true := decide_eq_true c12;have c12b1 : decide (0 < x0_2.length) = true := decide_eq_true (by omega);clear c12;by_cases c13 : (rd x0_2 0) = 0
        ·
         rw [if_pos c13] at H;have c13b0 : ((rd x0_2 0) == 0) = true := beq_iff_eq.mpr c13;have c13b1 : ((rd x0_2 0) != 0) = false := bne_eq_false_iff_eq.mpr c13;clear c13;obtain rfl := Option.some.inj H;obtain ⟨Ao14, co14, eo14⟩ := Kd.V_slice HO_0.out;subst eo14;have p263 : 0 ≤ (0 : Int) := (by omega);have q263 : 0 < (x0_2.length : Int) := of_decide_eq_true (by assumption);obtain ⟨ad263, e263, hx263_0⟩ := Kd.at_int (Kd.V_reads' HO_0.out).2.2 0 p263 q263;cases e263
         have qi263 : (0 < x0_2.length) = True := eq_true (by omega);(try rw [show ((0 : Int)).toNat = 0 from rfl] at hx263_0);(try rw [Addr.add_zero'] at hx263_0);replace p263 := eq_true p263;replace q263 := eq_true q263;go_wp2;go_ret;exact ⟨by first | rfl | (simp [errW_none, errW_some] <;> rfl) | (simp [*, errW_none, errW_some] <;> rfl), bm HB.out⟩
        ·
         rw [if_neg c13] at H;have c13b0 : ((rd x0_2 0) == 0) = false := beq_eq_false_iff_ne.mpr c13;have c13b1 : ((rd x0_2 0) != 0) = true := bne_iff_ne.mpr c13;replace H := oE H;obtain ⟨t264, A15, H⟩ := H;replace H : ((impl_HydraCut.f k2 x0_2 (wrap64 (t264 - 1)) a1).bind fun bt265 => (if bt265.2 = true then (impl_HydraFight.l0 k2 bt265.1 a1 (wrap64 (x5_2 + 1))) else (some (-1)))) = some r := H;replace A15 := am A15;replace H := oE H;obtain ⟨⟨t265, t266⟩, A16, H⟩ := H;replace H : (if t266 = true then (impl_HydraFight.l0 k2 t265 a1 (wrap64 (x5_2 + 1))) else (some (-1))) = some r := H;replace A16 := am A16;by_cases c17 : t266 = true
         ·
          subst c17
          have H1 : (impl_HydraFight.l0 k2 t265 a1 (wrap64 (x5_2 + 1))) = some r := by rw [if_pos rfl] at H; exact H
          clear H;have H := H1;clear H1;have H' := am H;clear H;obtain ⟨Ao18, co18, eo18⟩ := Kd.V_slice HO_0.out;subst eo18;have p263 : 0 ≤ (0 : Int) := (by omega);have q263 : 0 < (x0_2.length : Int) := of_decide_eq_true (by assumption);obtain ⟨ad263, e263, hx263_0⟩ := Kd.at_int (Kd.V_reads' HO_0.out).2.2 0 p263 q263;cases e263
          have qi263 : (0 < x0_2.length) = True := eq_true (by omega);(try rw [show ((0 : Int)).toNat = 0 from rfl] at hx263_0);(try rw [Addr.add_zero'] at hx263_0);replace p263 := eq_true p263;replace q263 := eq_true q263;go_wp2_with (first | ((with_reducible refine gate_callee (f := 37) rfl ?_); refine goesL_ (some 31) rfl rfl Try.func37 (by kernel_rfl) rfl #[.slice (some ad263) x0_2.length co18] rfl (by (try simp only [mA, mB, mC]); first | done | rfl) ?_; (with_reducible refine (impl_HydraHeads.calls k2 _ _ x0_2 t264 _ ?side1 ?side2 A15.out).mono ?_); (case side1 => exact Kd.cm ((Kd.V_reads' HO_0.out).2.2)); (case side2 => exact (Kd.V_reads' HO_0.out).2.1); rintro e w19 ⟨rfl, hb⟩; refine ⟨_, rfl, ?_⟩; replace HO_0 := am (Kd.V_below (Kd.vm HO_0.out) hb);replace HB := am (below_step (bm HB.out) hb); (try clear hb)) | ((with_reducible refine gate_callee (f := 11) rfl ?_); refine goesL_ (some 34) rfl rfl Try.func11 (by kernel_rfl) rfl #[.slice (some ad263) x0_2.length co18, .int .i64 (wrap64 (t264 - 1)), .int .i64 a1] rfl (by (try simp only [mA, mB, mC]); first | done | rfl) ?_; (with_reducible refine (impl_HydraCut.calls k2 _ _ x0_2 (wrap64 (t264 - 1)) a1 t265 true _ ?side1 ?side2 A16.out).mono ?_); (case side1 => exact Kd.cm ((Kd.V_reads' HO_0.out).2.2)); (case side2 => exact (Kd.V_reads' HO_0.out).2.1); rintro e w20 ⟨v267, rfl, ho0, hb⟩; refine ⟨_, rfl, ?_⟩; replace HO_0 := am (Kd.V_elder' (Kd.vm HO_0.out) (Kd.Y_base ho0) hb);have HO268 := am (Kd.Y_lower (Kd.Y_newM (M := fun k_ => (w.heap.size ≤ k_)) ho0 (below_size (bm HB.out)) (fun k_ h_ => h_)) (below_size (bm HB.out)));replace HB := am (below_step (bm HB.out) hb); (try clear hb); (try clear ho0)))
          go_roundg k2
          case measure => have := HJ2.out; have := HK2.out; omega
          case rel => exact ⟨(t265), (wrap64 (x5_2 + 1)), (by first | rfl | (simp; done) | (simp [*]; done)), H', ⟨by have := HJ2.out; have := HK2.out; omega⟩, ⟨Kd.V_mono (Kd.Y_V (Kd.ym (Kd.Y_mono HO268.out (fun _ hk => hk.1)))) (fun k_ hk => by first | exact ⟨(.inr (hk.1)), hk.2⟩ | exact (.inr (hk)))⟩, ⟨bm HB.out⟩⟩
         ·
          replace c17 := Bool.eq_false_iff.mpr c17;subst c17
          have H1 : (some (-1)) = some r := by rw [if_neg (show ¬ (false = true) by decide)] at H; exact H
          clear H;have H := H1;clear H1;obtain rfl := Option.some.inj H;obtain ⟨Ao21, co21, eo21⟩ := Kd.V_slice HO_0.out;subst eo21;have p263 : 0 ≤ (0 : Int) := (by omega);have q263 : 0 < (x0_2.length : Int) := of_decide_eq_true (by assumption);obtain ⟨ad263, e263, hx263_0⟩ := Kd.at_int (Kd.V_reads' HO_0.out).2.2 0 p263 q263;cases e263
          have qi263 : (0 < x0_2.length) = True := eq_true (by omega);(try rw [show ((0 : Int)).toNat = 0 from rfl] at hx263_0);(try rw [Addr.add_zero'] at hx263_0);replace p263 := eq_true p263;replace q263 := eq_true q263;go_wp2_with (first | ((with_reducible refine gate_callee (f := 37) rfl ?_); refine goesL_ (some 31) rfl rfl Try.func37 (by kernel_rfl) rfl #[.slice (some ad263) x0_2.length co21] rfl (by (try simp only [mA, mB, mC]); first | done | rfl) ?_; (with_reducible refine (impl_HydraHeads.calls k2 _ _ x0_2 t264 _ ?side1 ?side2 A15.out).mono ?_); (case side1 => exact Kd.cm ((Kd.V_reads' HO_0.out).2.2)); (case side2 => exact (Kd.V_reads' HO_0.out).2.1); rintro e w22 ⟨rfl, hb⟩; refine ⟨_, rfl, ?_⟩; replace HO_0 := am (Kd.V_below (Kd.vm HO_0.out) hb);replace HB := am (below_step (bm HB.out) hb); (try clear hb)) | ((with_reducible refine gate_callee (f := 11) rfl ?_); refine goesL_ (some 34) rfl rfl Try.func11 (by kernel_rfl) rfl #[.slice (some ad263) x0_2.length co21, .int .i64 (wrap64 (t264 - 1)), .int .i64 a1] rfl (by (try simp only [mA, mB, mC]); first | done | rfl) ?_; (with_reducible refine (impl_HydraCut.calls k2 _ _ x0_2 (wrap64 (t264 - 1)) a1 t265 false _ ?side1 ?side2 A16.out).mono ?_); (case side1 => exact Kd.cm ((Kd.V_reads' HO_0.out).2.2)); (case side2 => exact (Kd.V_reads' HO_0.out).2.1); rintro e w23 ⟨v267, rfl, ho0, hb⟩; refine ⟨_, rfl, ?_⟩; replace HO_0 := am (Kd.V_elder' (Kd.vm HO_0.out) (Kd.Y_base ho0) hb);have HO268 := am (Kd.Y_lower (Kd.Y_newM (M := fun k_ => (w.heap.size ≤ k_)) ho0 (below_size (bm HB.out)) (fun k_ h_ => h_)) (below_size (bm HB.out)));replace HB := am (below_step (bm HB.out) hb); (try clear hb); (try clear ho0)));go_ret;exact ⟨by first | rfl | (simp [errW_none, errW_some] <;> rfl) | (simp [*, errW_none, errW_some] <;> rfl), bm HB.out⟩
       ·
        rw [if_neg c12] at H;exact absurd H (by simp)
      ·
       rw [if_neg c11] at H;have c11b0 : decide (x5_2 ≤ 400) = false := decide_eq_false c11;clear c11;obtain rfl := Option.some.inj H;go_wp2;go_ret;exact ⟨by first | rfl | (simp [errW_none, errW_some] <;> rfl) | (simp [*, errW_none, errW_some] <;> rfl), bm HB.out⟩

/-! ### impl_rowOf: function 61 -/
mutual
def impl_rowOf.l0 : Nat → List Int → List (S89) → Int → Int → Option (List Int)
 | 0, _, _, _, _ => none
 | k + 1, x3, x9, x10, x11 => if x11 < x10 then (if 0 ≤ x11 then (if x11 < (x9.length : Int) then (if x3.length < 17592186044416 then ((some (x3 ++ [(rd_T89 x9 x11).f0] : List Int)).bind fun y274 => ((impl_rowOf.f k ((rd_T89 x9 x11).f1)).bind fun t277 => (if y274.length + t277.length < 17592186044416 then (impl_rowOf.l0 k (y274 ++ t277) x9 x10 (wrap64 (x11 + 1))) else (none)))) else (none)) else (none)) else (none)) else (some x3)
def impl_rowOf.f : Nat → List (S89) → Option (List Int)
 | 0, _ => none
 | k + 1, l0 => impl_rowOf.l0 k (([(l0.length : Int)] : List Int)) l0 (l0.length : Int) 0
end
theorem impl_rowOf.mono_l : ∀ k, (∀ y0, LeO (impl_rowOf.f k y0) (impl_rowOf.f (k + 1) y0)) ∧ (∀ y0 y1 y2 y3, LeO (impl_rowOf.l0 k y0 y1 y2 y3) (impl_rowOf.l0 (k + 1) y0 y1 y2 y3))
 | 0 => ⟨fun _ r h => by simp [impl_rowOf.f] at h, fun _ _ _ _ r h => by simp [impl_rowOf.l0] at h⟩
 | k + 1 => by
  obtain ⟨ih0, ih1⟩ := impl_rowOf.mono_l k;refine ⟨?_, ?_⟩
  all_goals (intros; first | unfold impl_rowOf.f | unfold impl_rowOf.l0)
  all_goals repeat' first | (with_reducible exact ih0 _) | (with_reducible exact ih1 _ _ _ _) | (with_reducible exact LeO.refl _) | (with_reducible exact LeO.none _) | (with_reducible refine LeO.ite ?_ ?_) | (with_reducible refine LeO.bind ?_ (fun _ => ?_))
theorem impl_rowOf.mono : ∀ a0 k, LeO (impl_rowOf.f k a0) (impl_rowOf.f (k + 1) a0) := by
 intro a0 k;obtain ⟨ih0, ih1⟩ := impl_rowOf.mono_l k;exact ih0 a0
set_option maxHeartbeats 8000000 in
set_option maxRecDepth 100000 in
theorem impl_rowOf.calls (k : Nat) : ∀ (A0 : Option Addr) (c0 : Nat) (l0 : List (S89)) (r : List Int) (w : World) (hr0 : Kd.C k89 w A0 l0.length l0) (hc0 : l0.length ≤ c0) (h : impl_rowOf.f k l0 = some r),
  Calls Try.prog 61 #[.slice A0 l0.length c0] w fun e w' => ∃ v0_ : Value, e = .returned (v0_) ∧ Kd.R (Kd.int .i64) 3 w' w.heap.size (fun _ => True) v0_ r ∧ Below w.heap.size w w' := by
 induction k using Nat.strongRecOn with
 | _ k ih =>
 intro A0 c0 l0 r w hr0 hc0 h
 cases k with
 | zero => exact absurd h (by simp [impl_rowOf.f])
 | succ k =>
 simp only [impl_rowOf.f] at h;have hu89 := Try.underlying89;have HR0 := am hr0;have HC0 := am hc0;clear hr0 hc0;have HB := am (Below.refl w.heap.size w);have H : (impl_rowOf.l0 k (([(l0.length : Int)] : List Int)) l0 (l0.length : Int) 0) = some r := h;clear h
 obtain ⟨y269, hy269⟩ : ∃ y_ : List Int, y_ = (([(l0.length : Int)] : List Int)) := ⟨_, rfl⟩
 replace H : (impl_rowOf.l0 k y269 l0 (l0.length : Int) 0) = some r := by first | (rw [hy269]; with_reducible exact H) | (have H2_ := oB H; rw [hy269]; with_reducible exact H2_) | (have H2_ := oB H; with_reducible exact H2_) | with_reducible exact H | (rw [hy269]; exact H) | exact H
 replace hy269 := am hy269;have H' := am H;clear H;go_enter Try.func61, Try.ntmps61;go_wp2_with (first | ((with_reducible refine gate_dst (N := 8) rfl ?_); refine Kd.R_lit (Kd.int .i64) _ 3 ?hg (N := 8) ?hd (xs := ([(l0.length : Int)] : List Int)) (inner := [.int .i64 (l0.length : Int)]) (ok := fun _ => True) (okp := fun _ => True) ?hr ?hp (fun _ hk => hk) trivial (Below.refl _ _) (Nat.le_refl _) (by simp) ?_; (case hd => rfl); (case hg => rfl); (case hr => first | (go_simp; done) | (go_simp; rfl)); (case hp => exact (Reps.one (show Kd.M (Kd.int .i64) _ _ _ (l0.length : Int) [.int .i64 (l0.length : Int)] from rfl) (Reps.none _ _))); intro v270 w2 ho3 hb hg_ hnew_; clear hg_ hnew_; (first | rw [← hy269.out] at ho3 | (simp only [Int.reduceToNat] at ho3; rw [← hy269.out] at ho3)); have HO271 := am (Kd.R_lower ho3 (below_size (bm HB.out)));replace HB := am (below_step (bm HB.out) hb); clear hb ho3))
 go_loopg [3, 11] k (fun kq v3 v11 w' => ∃ (x3_1 : List Int) (x11_1 : Int), v11 = .int .i64 x11_1 ∧ Aside0 (impl_rowOf.l0 kq x3_1 l0 (l0.length : Int) x11_1 = some r) ∧ Aside0 (kq ≤ k) ∧ Aside0 (Kd.R (Kd.int .i64) 3 w' w.heap.size (fun _ => True) v3 x3_1) ∧ Aside0 (Below w.heap.size w w'))
 case atStart => exact ⟨(y269), (0), (by first | rfl | (simp; done) | (simp [*]; done)), H', ⟨Nat.le_refl _⟩, ⟨Kd.rm HO271.out⟩, ⟨bm HB.out⟩⟩
 case round =>
  clear H';(try clear p2);(try clear HO_3);(try clear HB);obtain ⟨x3_1, x11_1, rfl, HA, HK1, HO_3, HB⟩ := hrel
  cases gk with
  | zero => exact absurd HA.out (by simp [impl_rowOf.l0])
  | succ k1 =>
   have H := HA.out;clear HA;simp only [impl_rowOf.l0] at H;by_cases c4 : x11_1 < (l0.length : Int)
   ·
    rw [if_pos c4] at H;have c4b0 : decide (x11_1 < (l0.length : Int)) = true := decide_eq_true c4;clear c4;by_cases c5 : 0 ≤ x11_1
    ·
     rw [if_pos c5] at H;have c5b0 : decide (0 ≤ x11_1) = true := decide_eq_true c5;clear c5;by_cases c6 : x11_1 < (l0.length : Int)
     ·
      rw [if_pos c6] at H;have c6b0 : decide (x11_1 < (l0.length : Int)) = true := decide_eq_true c6;clear c6;by_cases c7 : x3_1.length < 17592186044416
      ·
       rw [if_pos c7] at H;have LMc7 := am c7;clear c7
       obtain ⟨y274, hy274⟩ : ∃ y_ : List Int, y_ = (x3_1 ++ [(rd_T89 l0 x11_1).f0]) := ⟨_, rfl⟩
       replace H : ((impl_rowOf.f k1 ((rd_T89 l0 x11_1).f1)).bind fun t277 => (if y274.length + t277.length < 17592186044416 then (impl_rowOf.l0 k1 (y274 ++ t277) l0 (l0.length : Int) (wrap64 (x11_1 + 1))) else (none))) = some r := by first | (rw [hy274]; with_reducible exact H) | (have H2_ := oB H; rw [hy274]; with_reducible exact H2_) | (have H2_ := oB H; with_reducible exact H2_) | with_reducible exact H | (rw [hy274]; exact H) | exact H
       replace hy274 := am hy274;replace H := oE H;obtain ⟨t277, A8, H⟩ := H;replace H : (if y274.length + t277.length < 17592186044416 then (impl_rowOf.l0 k1 (y274 ++ t277) l0 (l0.length : Int) (wrap64 (x11_1 + 1))) else (none)) = some r := H;replace A8 := am A8;by_cases c9 : y274.length + t277.length < 17592186044416
       ·
        rw [if_pos c9] at H;have LMc9 := am c9;clear c9
        obtain ⟨y280, hy280⟩ : ∃ y_ : List Int, y_ = (y274 ++ t277) := ⟨_, rfl⟩
        replace H : (impl_rowOf.l0 k1 y280 l0 (l0.length : Int) (wrap64 (x11_1 + 1))) = some r := by first | (rw [hy280]; with_reducible exact H) | (have H2_ := oB H; rw [hy280]; with_reducible exact H2_) | (have H2_ := oB H; with_reducible exact H2_) | with_reducible exact H | (rw [hy280]; exact H) | exact H
        replace hy280 := am hy280;have H' := am H;clear H;have p272 : 0 ≤ (x11_1 : Int) := of_decide_eq_true (by assumption);have q272 : x11_1 < (l0.length : Int) := of_decide_eq_true (by assumption);obtain ⟨ad272, A272_1, c272_1, e272, hx272_0, hx272_1, hl272_1, hi272_1⟩ := at_T89 HR0.out x11_1 p272 q272;cases e272
        replace hx272_0 := (HB.out.cell (World.block_lt_of_cell? w _ hx272_0)).trans hx272_0;replace hx272_1 := (HB.out.cell (World.block_lt_of_cell? w _ hx272_1)).trans hx272_1;have HR272_1 := am hi272_1;have HC272_1 := am hl272_1;clear hi272_1 hl272_1;replace p272 := eq_true p272;replace q272 := eq_true q272;go_wp2_with (first | ((with_reducible refine gate_dst (N := 5) rfl ?_); refine box_event ?hg (N := 5) ?hd (cs := #[.int .i64 0, .slice none 0 0]) (t := 89) ?hr ?_; (case hd => rfl); (case hg => rfl); (case hr => first | (go_simp; done) | (go_simp; rfl)); intro gb273 hg w10 hbox hb; replace HO_3 := am (Kd.R_below (Kd.rm HO_3.out) hb);have BK273 := am (hbox);have GW273 := am ((by rw [hg]; exact (below_size (bm HB.out)) : w.heap.size ≤ gb273));have GE273 := am ((by rw [hg]; exact (below_size (bm HB.out)) : w.heap.size ≤ gb273));replace HB := am (below_step (bm HB.out) hb); clear hb hbox hg; have hcz11_0 : w10.cell? ⟨gb273, 0, none⟩ = some (.int .i64 0) := (blk_cell BK273.out 0).trans rfl; have hcz11_1 : w10.cell? ⟨gb273, 1, none⟩ = some (.slice none 0 0) := (blk_cell BK273.out 1).trans rfl; have hfz11_0 := blk_frozen BK273.out 0; have hfz11_1 := blk_frozen BK273.out 1) | ((with_reducible refine gate_builtin (b := .append) (xs := #[.tmp 15, .tmp 18]) rfl ?_); at_builtin; refine Kd.R_append (Kd.int .i64) (w0 := w) w.heap.size rfl (.tmp 15) (.tmp 18) 22 3 (.int .i64 0) 8 rfl Try.underlying22 info3 rfl (by decide) (by omega) u3 x3_1 ((rd_T89 l0 x11_1).f0) [.int .i64 ((rd_T89 l0 x11_1).f0)] (fun _ => True) (fun _ => False) rfl (by first | (go_simp; done) | (go_simp; rfl)) ?aP (fun _ hk => hk.elim) ?aF ?aO ?aB ?aS ?aL ?_; (case aP => exact rfl); (case aB => exact (by repeat (first | (with_reducible first | exact HB.out | apply below_alloc | apply pw_below_drewN | apply below_drew1 | refine below_set ?_ GE273.out) | exact HB.out))); (case aF => exact (fun _ _ => trivial)); (case aO => exact (Kd.rm (Kd.R_mono (Kd.R_far (p := ⟨gb273, 1, none⟩) (Kd.R_far (p := ⟨gb273, 0, none⟩) (Kd.R_types HO_3.out BK273.out (by decide)) (fun _ hk => hk.2) (.int .i64 ((rd_T89 l0 x11_1).f0))) (fun _ hk => hk.2) (.slice A272_1 ((rd_T89 l0 x11_1).f1).length c272_1)) (fun _ hk => trivial)))); (case aS => exact (below_size (by repeat (first | (with_reducible first | exact HB.out | apply below_alloc | apply pw_below_drewN | apply below_drew1 | refine below_set ?_ GE273.out) | exact HB.out)))); (case aL => have := LMc7.out; omega); intro v275 w12 ho hb hg hat; rw [← hy274.out] at ho; replace BK273 := am (blk_grown (g := gb273) (o := .cells #[.int .i64 ((rd_T89 l0 x11_1).f0), .slice A272_1 ((rd_T89 l0 x11_1).f1).length c272_1] 89 (0, 0)) (by (with_reducible repeat (first | refine blk_drewN ?_ _ | refine blk_drew ?_ | refine blk_alloc ?_ _)); refine blk_put (cs := #[.int .i64 ((rd_T89 l0 x11_1).f0), .slice none 0 0]) ?_ 1 _ rfl; (with_reducible repeat (first | refine blk_drewN ?_ _ | refine blk_drew ?_ | refine blk_alloc ?_ _)); refine blk_put (cs := #[.int .i64 0, .slice none 0 0]) ?_ 0 _ rfl; (with_reducible repeat (first | refine blk_drewN ?_ _ | refine blk_drew ?_ | refine blk_alloc ?_ _)); exact BK273.out) hg (Kd.R_ne HO_3.out BK273.out (by decide)));replace HB := am (hb);have HO276 := am (ho);clear HO_3; clear ho hb hg hat; have hcz13_0 : w12.cell? ⟨gb273, 0, none⟩ = some (.int .i64 ((rd_T89 l0 x11_1).f0)) := (blk_cell BK273.out 0).trans rfl; have hcz13_1 : w12.cell? ⟨gb273, 1, none⟩ = some (.slice A272_1 ((rd_T89 l0 x11_1).f1).length c272_1) := (blk_cell BK273.out 1).trans rfl; have hfz13_0 := blk_frozen BK273.out 0; have hfz13_1 := blk_frozen BK273.out 1) | ((with_reducible refine gate_callee (f := 61) rfl ?_); refine goesL_ (some 23) rfl rfl Try.func61 (by kernel_rfl) rfl #[.slice A272_1 ((rd_T89 l0 x11_1).f1).length c272_1] rfl (by (try simp only [mA, mB, mC]); first | done | rfl) ?_; (with_reducible refine (ih k1 (by have := HK1.out; omega) _ _ ((rd_T89 l0 x11_1).f1) t277 _ ?side1 ?side2 A8.out).mono ?_); (case side1 => exact Kd.cm ((Kd.C_below HR272_1.out HB.out))); (case side2 => exact HC272_1.out); rintro e w14 ⟨v278, rfl, ho0, hb⟩; refine ⟨_, rfl, ?_⟩; have HO279 := am (Kd.R_lower (Kd.R_new' ho0 (Kd.R_lt (Kd.rm HO276.out))) (below_size (by repeat (first | (with_reducible first | exact HB.out | apply below_alloc | apply pw_below_drewN | apply below_drew1 | refine below_set ?_ GE273.out) | exact HB.out))));replace HO276 := am (Kd.R_elder' (Kd.rm HO276.out) (Kd.R_base ho0) hb);replace BK273 := am (blk_below (g := gb273) (o := .cells #[.int .i64 ((rd_T89 l0 x11_1).f0), .slice A272_1 ((rd_T89 l0 x11_1).f1).length c272_1] 89 (0, 0)) (by (with_reducible repeat (first | refine blk_drewN ?_ _ | refine blk_drew ?_ | refine blk_alloc ?_ _)); exact BK273.out) hb);replace HB := am (below_step (by repeat (first | (with_reducible first | exact HB.out | apply below_alloc | apply pw_below_drewN | apply below_drew1 | refine below_set ?_ GE273.out) | exact HB.out)) hb); (try clear hb); (try clear hk); (try clear ho0); obtain ⟨Ao16, co16, eo16⟩ := Kd.R_slice HO279.out; subst eo16) | ((with_reducible refine gate_builtin (b := .append) (xs := #[.tmp 20, .tmp 23]) rfl ?_); at_builtin; refine Kd.R_append_rows (Kd.int .i64) (w0 := w) w.heap.size rfl (.tmp 20) (.tmp 23) 22 3 (.int .i64 0) 8 rfl Try.underlying22 info3 rfl (by decide) (by omega) v275 y274 t277 _ _ _ (fun k_ => some k_ ≠ (.slice Ao16 t277.length co16 : Value).ownBlock) (fun _ => False) rfl rfl ?aO ?aR (fun _ _ h => h) (fun _ h => h.elim) ?aF ?aB ?aS ?aL ?_; (case aR => exact Kd.cm ((Kd.R_reads' HO279.out).2.2)); (case aB => exact (by repeat (first | (with_reducible first | exact HB.out | apply below_alloc | apply pw_below_drewN | apply below_drew1 | refine below_set ?_ GE273.out) | exact HB.out))); (case aF => exact (fun k_ hk => Kd.fresh' (Kd.R_lt (Kd.rm HO279.out)) k_ hk)); (case aO => exact (Kd.rm (Kd.R_mono HO276.out (fun _ hk => hk.2)))); (case aS => exact (below_size (by repeat (first | (with_reducible first | exact HB.out | apply below_alloc | apply pw_below_drewN | apply below_drew1 | refine below_set ?_ GE273.out) | exact HB.out)))); (case aL => have := LMc9.out; omega); intro v281 w15 ho hb hg hat; rw [← hy280.out] at ho; replace BK273 := am (blk_grown (g := gb273) (o := .cells #[.int .i64 ((rd_T89 l0 x11_1).f0), .slice A272_1 ((rd_T89 l0 x11_1).f1).length c272_1] 89 (0, 0)) (by (with_reducible repeat (first | refine blk_drewN ?_ _ | refine blk_drew ?_ | refine blk_alloc ?_ _)); exact BK273.out) hg (Kd.R_ne HO276.out BK273.out (by decide)));replace HO279 := am (Kd.R_after (ok := (fun _ => True)) (Kd.rm HO279.out) hg hat);replace HB := am (hb);have HO282 := am (ho);clear HO276; clear ho hb hg hat))
        go_roundg k1
        case measure => have := HK1.out; omega
        case rel => exact ⟨(y280), (wrap64 (x11_1 + 1)), (by first | rfl | (simp; done) | (simp [*]; done)), H', ⟨by have := HK1.out; omega⟩, ⟨Kd.rm (Kd.R_mono HO282.out (fun _ hk => trivial))⟩, ⟨by repeat (first | (with_reducible first | exact HB.out | apply below_alloc | apply pw_below_drewN | apply below_drew1 | refine below_set ?_ GE273.out) | exact HB.out)⟩⟩
       ·
        rw [if_neg c9] at H;exact absurd H (by simp)
      ·
       rw [if_neg c7] at H;exact absurd H (by simp)
     ·
      rw [if_neg c6] at H;exact absurd H (by simp)
    ·
     rw [if_neg c5] at H;exact absurd H (by simp)
   ·
    rw [if_neg c4] at H;have c4b0 : decide (x11_1 < (l0.length : Int)) = false := decide_eq_false c4;clear c4;obtain rfl := Option.some.inj H;go_wp2;go_ret;exact ⟨_, by first | rfl | (simp [errW_none, errW_some] <;> rfl) | (simp [*, errW_none, errW_some] <;> rfl), Kd.rm HO_3.out, bm HB.out⟩

end Go.Proofs.Ytmidgjmlgjjobaa.Ig

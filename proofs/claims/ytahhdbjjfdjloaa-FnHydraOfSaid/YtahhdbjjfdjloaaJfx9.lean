-- half
-- Written by a program of this session's (wip/mp) out of the translation, over the kit's print with changes.
import Derived.Test.YtahhdbjjfdjloaaJfx0
import Derived.Test.YtahhdbjjfdjloaaJfx7
import Derived.Test.YtahhdbjjfdjloaaJfx8
namespace Go.Proofs.Ytahhdbjjfdjloaa.Jf
open Go.RowKit Go.Proofs.YtahhdbjjfdjloaaW.PrintWords Go.Proofs.YtahhdbjjfdjloaaW.PrintLast Go.Proofs.YtahhdbjjfdjloaaW.PrintMore
attribute [local go_sem] max2_int min2_int max_two min_two max_three min_three max_four min_four   -- for this text's walks alone
set_option linter.unusedVariables false
set_option linter.unusedSimpArgs false

/-! ### impl_rowOf: function 71 -/
mutual
def impl_rowOf.l0 : Nat -> List Int -> List (S72) -> Int -> Int -> Option (List Int)
 | 0, _, _, _, _ => none
 | k + 1, x3, x9, x10, x11 => if x11 < x10 then (if 0 <= x11 then (if x11 < (x9.length : Int) then (if x3.length < 17592186044416 then ((some (x3 ++ [(rd_T72 x9 x11).f0] : List Int)).bind fun y341 => ((impl_rowOf.f k ((rd_T72 x9 x11).f1)).bind fun t344 => (if y341.length + t344.length < 17592186044416 then (impl_rowOf.l0 k (y341 ++ t344) x9 x10 (wrap64 (x11 + 1))) else (none)))) else (none)) else (none)) else (none)) else (some x3)
def impl_rowOf.f : Nat -> List (S72) -> Option (List Int)
 | 0, _ => none
 | k + 1, l0 => impl_rowOf.l0 k (([(l0.length : Int)] : List Int)) l0 (l0.length : Int) 0
end
theorem impl_rowOf.mono_l : ∀ k, (∀ y0, LeO (impl_rowOf.f k y0) (impl_rowOf.f (k + 1) y0)) /\ (∀ y0 y1 y2 y3, LeO (impl_rowOf.l0 k y0 y1 y2 y3) (impl_rowOf.l0 (k + 1) y0 y1 y2 y3))
 | 0 => ⟨fun _ r h => by simp [impl_rowOf.f] at h, fun _ _ _ _ r h => by simp [impl_rowOf.l0] at h⟩
 | k + 1 => by
  obtain ⟨ih0, ih1⟩ := impl_rowOf.mono_l k;refine ⟨?_, ?_⟩
  all_goals (intros; first | unfold impl_rowOf.f | unfold impl_rowOf.l0)
  all_goals repeat' with_reducible first | exact ih0 _ | exact ih1 _ _ _ _ | exact LeO.refl _ | refine LeO.ite ?_ ?_ | refine LeO.bind ?_ (fun _ => ?_)
theorem impl_rowOf.mono : ∀ a0 k, LeO (impl_rowOf.f k a0) (impl_rowOf.f (k + 1) a0) := by
 intro a0 k;obtain ⟨ih0, ih1⟩ := impl_rowOf.mono_l k;exact ih0 a0
set_option maxHeartbeats 8000000 in
set_option maxRecDepth 100000 in
theorem impl_rowOf.calls (k : Nat) : ∀ (A0 : Option Addr) (c0 : Nat) (l0 : List (S72)) (r : List Int) (w : World) (hr0 : Kd.C k72 w A0 l0.length l0) (hc0 : l0.length <= c0) (h : impl_rowOf.f k l0 = some r),
  Calls Try.prog 71 #[.slice A0 l0.length c0] w fun e w' => ∃ v0_ : Value, e = .returned (v0_) /\ Kd.R (Kd.int .i64) 3 w' w.heap.size (fun _ => True) v0_ r /\ Below w.heap.size w w' := by
 induction k using Nat.strongRecOn with
 | _ k ih =>
 intro A0 c0 l0 r w hr0 hc0 h
 cases k with
 | zero => exact absurd h (by simp [impl_rowOf.f])
 | succ k =>
 simp only [impl_rowOf.f] at h;have hu72 := Try.underlying72;have HR0 := am hr0;have HC0 := am hc0;clear hr0 hc0;have HB := am (Below.refl w.heap.size w);have H : (impl_rowOf.l0 k (([(l0.length : Int)] : List Int)) l0 (l0.length : Int) 0) = some r := h;clear h
 obtain ⟨y336, hy336⟩ : ∃ y_ : List Int, y_ = (([(l0.length : Int)] : List Int)) := ⟨_, rfl⟩
 replace H : (impl_rowOf.l0 k y336 l0 (l0.length : Int) 0) = some r := by (rw [hy336]; with_reducible exact H)
 replace hy336 := am hy336;have H' := am H;clear H;go_enter Try.func71, Try.ntmps71;go_wp2_with (((with_reducible refine gate_dst (N := 8) rfl ?_); refine Kd.R_lit (Kd.int .i64) _ 3 ?hg (N := 8) ?hd (xs := ([(l0.length : Int)] : List Int)) (inner := [.int .i64 (l0.length : Int)]) (ok := fun _ => True) (okp := fun _ => True) ?hr ?hp (fun _ hk => hk) trivial (Below.refl _ _) (Nat.le_refl _) (by simp) ?_; (case hd => rfl); (case hg => rfl); (case hr => (go_simp; done)); (case hp => exact (Reps.one (show Kd.M (Kd.int .i64) _ _ _ (l0.length : Int) [.int .i64 (l0.length : Int)] from rfl) (Reps.none _ _))); intro v337 w2 ho3 hb hg_ hnew_; clear hg_ hnew_; (rw [<- hy336.out] at ho3); have HO338 := am (Kd.R_lower ho3 (below_size (bm HB.out)));replace HB := am (below_step (bm HB.out) hb); clear hb ho3))
 go_loopg [3, 11] k (fun kq v3 v11 w' => ∃ (x3_1 : List Int) (x11_1 : Int), v11 = .int .i64 x11_1 /\ Aside0 (impl_rowOf.l0 kq x3_1 l0 (l0.length : Int) x11_1 = some r) /\ Aside0 (kq <= k) /\ Aside0 (Kd.R (Kd.int .i64) 3 w' w.heap.size (fun _ => True) v3 x3_1) /\ Aside0 (Below w.heap.size w w'))
 case atStart => exact ⟨(y336), (0), (by rfl), H', ⟨Nat.le_refl _⟩, ⟨Kd.rm HO338.out⟩, ⟨bm HB.out⟩⟩
 case round =>
  clear H';clear HB;obtain ⟨x3_1, x11_1, rfl, HA, HK1, HO_3, HB⟩ := hrel
  cases gk with
  | zero => exact absurd HA.out (by simp [impl_rowOf.l0])
  | succ k1 =>
   have H := HA.out;clear HA;simp only [impl_rowOf.l0] at H;by_cases c4 : x11_1 < (l0.length : Int)
   ·
    rw [if_pos c4] at H;have c4b0 : decide (x11_1 < (l0.length : Int)) = true := decide_eq_true c4;clear c4;by_cases c5 : 0 <= x11_1
    ·
     rw [if_pos c5] at H;have c5b0 : decide (0 <= x11_1) = true := decide_eq_true c5;clear c5;by_cases c6 : x11_1 < (l0.length : Int)
     ·
      rw [if_pos c6] at H;have c6b0 : decide (x11_1 < (l0.length : Int)) = true := decide_eq_true c6;clear c6;by_cases c7 : x3_1.length < 17592186044416
      ·
       rw [if_pos c7] at H;have LMc7 := am c7;clear c7
       obtain ⟨y341, hy341⟩ : ∃ y_ : List Int, y_ = (x3_1 ++ [(rd_T72 l0 x11_1).f0]) := ⟨_, rfl⟩
       replace H : ((impl_rowOf.f k1 ((rd_T72 l0 x11_1).f1)).bind fun t344 => (if y341.length + t344.length < 17592186044416 then (impl_rowOf.l0 k1 (y341 ++ t344) l0 (l0.length : Int) (wrap64 (x11_1 + 1))) else (none))) = some r := by (rw [hy341]; exact H)
       replace hy341 := am hy341;replace H := oE H;obtain ⟨t344, A8, H⟩ := H;replace H : (if y341.length + t344.length < 17592186044416 then (impl_rowOf.l0 k1 (y341 ++ t344) l0 (l0.length : Int) (wrap64 (x11_1 + 1))) else (none)) = some r := H;replace A8 := am A8;by_cases c9 : y341.length + t344.length < 17592186044416
       ·
        rw [if_pos c9] at H;have LMc9 := am c9;clear c9
        obtain ⟨y347, hy347⟩ : ∃ y_ : List Int, y_ = (y341 ++ t344) := ⟨_, rfl⟩
        replace H : (impl_rowOf.l0 k1 y347 l0 (l0.length : Int) (wrap64 (x11_1 + 1))) = some r := by (rw [hy347]; with_reducible exact H)
        replace hy347 := am hy347;have H' := am H;clear H;have p339 : 0 <= (x11_1 : Int) := of_decide_eq_true (by assumption);have q339 : x11_1 < (l0.length : Int) := of_decide_eq_true (by assumption);obtain ⟨ad339, A339_1, c339_1, e339, hx339_0, hx339_1, hl339_1, hi339_1⟩ := at_T72 HR0.out x11_1 p339 q339;cases e339
        replace hx339_0 := (HB.out.cell (World.block_lt_of_cell? w _ hx339_0)).trans hx339_0;replace hx339_1 := (HB.out.cell (World.block_lt_of_cell? w _ hx339_1)).trans hx339_1;have HR339_1 := am hi339_1;have HC339_1 := am hl339_1;clear hi339_1 hl339_1;replace p339 := eq_true p339;replace q339 := eq_true q339;go_wp2_with (first | ((with_reducible refine gate_dst (N := 5) rfl ?_); refine box_event ?hg (N := 5) ?hd (cs := #[.int .i64 0, .slice none 0 0]) (t := 72) ?hr ?_; (case hd => rfl); (case hg => rfl); (case hr => (go_simp; done)); intro gb340 hg w10 hbox hb; replace HO_3 := am (Kd.R_below (Kd.rm HO_3.out) hb);have BK340 := am (hbox);have GW340 := am ((by rw [hg]; exact (below_size (bm HB.out)) : w.heap.size <= gb340));have GE340 := am ((by rw [hg]; exact (below_size (bm HB.out)) : w.heap.size <= gb340));replace HB := am (below_step (bm HB.out) hb); clear hb hbox hg; have hcz11_0 : w10.cell? ⟨gb340, 0, none⟩ = some (.int .i64 0) := (blk_cell BK340.out 0).trans rfl; have hcz11_1 : w10.cell? ⟨gb340, 1, none⟩ = some (.slice none 0 0) := (blk_cell BK340.out 1).trans rfl; have hfz11_0 := blk_frozen BK340.out 0; have hfz11_1 := blk_frozen BK340.out 1) | ((with_reducible refine gate_builtin (b := .append) (xs := #[.tmp 15, .tmp 18]) rfl ?_); at_builtin; refine Kd.R_append (Kd.int .i64) (w0 := w) w.heap.size rfl (.tmp 15) (.tmp 18) 22 3 (.int .i64 0) 8 rfl Try.underlying22 info3 rfl (by decide) (by omega) u3 x3_1 ((rd_T72 l0 x11_1).f0) [.int .i64 ((rd_T72 l0 x11_1).f0)] (fun _ => True) (fun _ => False) rfl (by (go_simp; done)) ?aP (fun _ hk => hk.elim) ?aF ?aO ?aB ?aS ?aL ?_; (case aP => exact rfl); (case aB => exact (by repeat ((with_reducible first | exact HB.out | refine below_set ?_ GE340.out)))); (case aF => exact (fun _ _ => trivial)); (case aO => exact (Kd.rm (Kd.R_mono (Kd.R_far (p := ⟨gb340, 1, none⟩) (Kd.R_far (p := ⟨gb340, 0, none⟩) (Kd.R_types HO_3.out BK340.out (by decide)) (fun _ hk => hk.2) (.int .i64 ((rd_T72 l0 x11_1).f0))) (fun _ hk => hk.2) (.slice A339_1 ((rd_T72 l0 x11_1).f1).length c339_1)) (fun _ hk => trivial)))); (case aS => exact (below_size (by repeat ((with_reducible first | exact HB.out | refine below_set ?_ GE340.out))))); (case aL => have := LMc7.out; omega); intro v342 w12 ho hb hg hat; rw [<- hy341.out] at ho; replace BK340 := am (blk_grown (g := gb340) (o := .cells #[.int .i64 ((rd_T72 l0 x11_1).f0), .slice A339_1 ((rd_T72 l0 x11_1).f1).length c339_1] 72 (0, 0)) (by (with_reducible repeat (first | refine blk_drewN ?_ _ | refine blk_drew ?_ | refine blk_alloc ?_ _)); refine blk_put (cs := #[.int .i64 ((rd_T72 l0 x11_1).f0), .slice none 0 0]) ?_ 1 _ rfl; (with_reducible repeat (first | refine blk_drewN ?_ _ | refine blk_drew ?_ | refine blk_alloc ?_ _)); refine blk_put (cs := #[.int .i64 0, .slice none 0 0]) ?_ 0 _ rfl; (with_reducible repeat (first | refine blk_drewN ?_ _ | refine blk_drew ?_ | refine blk_alloc ?_ _)); exact BK340.out) hg (Kd.R_ne HO_3.out BK340.out (by decide)));replace HB := am (hb);have HO343 := am (ho);clear HO_3; clear ho hb hg hat; have hcz13_0 : w12.cell? ⟨gb340, 0, none⟩ = some (.int .i64 ((rd_T72 l0 x11_1).f0)) := (blk_cell BK340.out 0).trans rfl; have hcz13_1 : w12.cell? ⟨gb340, 1, none⟩ = some (.slice A339_1 ((rd_T72 l0 x11_1).f1).length c339_1) := (blk_cell BK340.out 1).trans rfl; have hfz13_0 := blk_frozen BK340.out 0; have hfz13_1 := blk_frozen BK340.out 1) | ((with_reducible refine gate_callee (f := 71) rfl ?_); refine goesL_ (some 23) rfl rfl Try.func71 (by kernel_rfl) rfl #[.slice A339_1 ((rd_T72 l0 x11_1).f1).length c339_1] rfl (by (try simp only [mA, mB, mC]); rfl) ?_; (with_reducible refine (ih k1 (by have := HK1.out; omega) _ _ ((rd_T72 l0 x11_1).f1) t344 _ ?side1 ?side2 A8.out).mono ?_); (case side1 => exact Kd.cm ((Kd.C_below HR339_1.out HB.out))); (case side2 => exact HC339_1.out); rintro e w14 ⟨v345, rfl, ho0, hb⟩; refine ⟨_, rfl, ?_⟩; have HO346 := am (Kd.R_lower (Kd.R_new' ho0 (Kd.R_lt (Kd.rm HO343.out))) (below_size (by repeat ((with_reducible exact HB.out)))));replace HO343 := am (Kd.R_elder' (Kd.rm HO343.out) (Kd.R_base ho0) hb);replace BK340 := am (blk_below (g := gb340) (o := .cells #[.int .i64 ((rd_T72 l0 x11_1).f0), .slice A339_1 ((rd_T72 l0 x11_1).f1).length c339_1] 72 (0, 0)) (by (with_reducible repeat (first | refine blk_drewN ?_ _ | refine blk_drew ?_ | refine blk_alloc ?_ _)); exact BK340.out) hb);replace HB := am (below_step (by repeat ((with_reducible exact HB.out))) hb); clear hb;clear ho0; obtain ⟨Ao16, co16, eo16⟩ := Kd.R_slice HO346.out; subst eo16) | ((with_reducible refine gate_builtin (b := .append) (xs := #[.tmp 20, .tmp 23]) rfl ?_); at_builtin; refine Kd.R_append_rows (Kd.int .i64) (w0 := w) w.heap.size rfl (.tmp 20) (.tmp 23) 22 3 (.int .i64 0) 8 rfl Try.underlying22 info3 rfl (by decide) (by omega) v342 y341 t344 _ _ _ (fun k_ => some k_ ≠ (.slice Ao16 t344.length co16 : Value).ownBlock) (fun _ => False) rfl rfl ?aO ?aR (fun _ _ h => h) (fun _ h => h.elim) ?aF ?aB ?aS ?aL ?_; (case aR => exact Kd.cm ((Kd.R_reads' HO346.out).2.2)); (case aB => exact (by repeat ((with_reducible exact HB.out)))); (case aF => exact (fun k_ hk => Kd.fresh' (Kd.R_lt (Kd.rm HO346.out)) k_ hk)); (case aO => exact (Kd.rm (Kd.R_mono HO343.out (fun _ hk => hk.2)))); (case aS => exact (below_size (by repeat ((with_reducible exact HB.out))))); (case aL => have := LMc9.out; omega); intro v348 w15 ho hb hg hat; rw [<- hy347.out] at ho; replace BK340 := am (blk_grown (g := gb340) (o := .cells #[.int .i64 ((rd_T72 l0 x11_1).f0), .slice A339_1 ((rd_T72 l0 x11_1).f1).length c339_1] 72 (0, 0)) (by (with_reducible repeat (first | refine blk_drewN ?_ _ | refine blk_drew ?_ | refine blk_alloc ?_ _)); exact BK340.out) hg (Kd.R_ne HO343.out BK340.out (by decide)));replace HO346 := am (Kd.R_after (ok := (fun _ => True)) (Kd.rm HO346.out) hg hat);replace HB := am (hb);have HO349 := am (ho);clear HO343; clear ho hb hg hat))
        go_roundg k1
        case measure => have := HK1.out; omega
        case rel => exact ⟨(y347), (wrap64 (x11_1 + 1)), (by rfl), H', ⟨by have := HK1.out; omega⟩, ⟨Kd.rm (Kd.R_mono HO349.out (fun _ hk => trivial))⟩, ⟨by repeat ((with_reducible exact HB.out))⟩⟩
       · rw [if_neg c9] at H;exact absurd H (by simp)
      · rw [if_neg c7] at H;exact absurd H (by simp)
     · rw [if_neg c6] at H;exact absurd H (by simp)
    · rw [if_neg c5] at H;exact absurd H (by simp)
   · rw [if_neg c4] at H;have c4b0 : decide (x11_1 < (l0.length : Int)) = false := decide_eq_false c4;clear c4;obtain rfl := Option.some.inj H;go_wp2;go_ret;exact ⟨_, by rfl, Kd.rm HO_3.out, bm HB.out⟩

/-- A slice that is nil where the row is empty, and only there. -/
def Nilled (v : Value) (r : List Int) : Prop := ∃ A n c, v = .slice A n c /\ A.isNone = (r.length == 0)
theorem Nilled.of {w : World} {base : Nat} {ok : Nat -> Prop} {v : Value} {r : List Int} (h : Kd.Y (Kd.int .i64) 3 w base ok v r) (hr : r ≠ []) : Nilled v r := by
 obtain ⟨A, c, e, _⟩ := Kd.Y_slice h;subst e;refine ⟨A, r.length, c, rfl, ?_⟩
 have h0 : (r.length == 0) = false := by cases r with
  | nil => exact absurd rfl hr
  | cons x xs => rfl
 rw [h0]
 cases A with
 | some a => rfl
 | none =>
  have hc := (Kd.Y_reads' h).2.2
  have hl : 0 < r.length := by cases r with
   | nil => exact absurd rfl hr
   | cons x xs => simp
  obtain ⟨ad, e, _⟩ := hc.2.2 hl;cases e
theorem impl_rowOf.ne_l : ∀ k x3 x9 x10 x11 t, x3 ≠ [] -> impl_rowOf.l0 k x3 x9 x10 x11 = some t -> t ≠ []
 | 0, _, _, _, _, _, _, h => by simp [impl_rowOf.l0] at h
 | k + 1, x3, x9, x10, x11, t, h0, h => by
  simp only [impl_rowOf.l0] at h
  split at h
  ·
   split at h
   ·
    split at h
    ·
     split at h
     ·
      obtain ⟨y, hy, h⟩ := Option.bind_eq_some_iff.mp h;obtain ⟨z, hz, h⟩ := Option.bind_eq_some_iff.mp h
      split at h
      ·
       refine impl_rowOf.ne_l k _ _ _ _ t ?_ h;obtain rfl := Option.some.inj hy
       simp
      · cases h
     · cases h
    · cases h
   · cases h
  · obtain rfl := Option.some.inj h;exact h0
theorem impl_rowOf.clip {k : Nat} {l : List (S72)} {t s : List Int} (h : impl_rowOf.f k l = some t) (h2 : slices_Clip_int_int.f t = some s) : s ≠ [] := by
 obtain rfl := Option.some.inj h2
 cases k with
 | zero => simp [impl_rowOf.f] at h
 | succ k =>
  simp only [impl_rowOf.f] at h;exact impl_rowOf.ne_l k _ _ _ _ _ (by simp) h

/-! ### impl_told: function 44 -/
def impl_told.j0 : Nat -> List (S72) -> Bool -> Option (List Int × Bool)
 | 0, _, _ => none
 | k + 1, x0, x11 => if x11 = true then (some (([] : List Int), false)) else ((impl_rowOf.f k x0).bind fun t352 => ((slices_Clip_int_int.f t352).bind fun t355 => (some (t355, true))))
def impl_told.f (k : Nat) (l0 : List (S72)) : Option (List Int × Bool) := (impl_sizeOf.f k l0).bind fun t350 => (if t350 > 60 then (impl_told.j0 k l0 true) else ((impl_most.f k l0).bind fun t351 => (impl_told.j0 k l0 (decide (t351 > 9999)))))
theorem impl_told.mono_l : ∀ k, (∀ y0 y1, LeO (impl_told.j0 k y0 y1) (impl_told.j0 (k + 1) y0 y1))
 | 0 => fun _ _ r h => by simp [impl_told.j0] at h
 | k + 1 => by
  have ih0 := impl_told.mono_l k
  ·
   intro y0 y1;unfold impl_told.j0
   repeat' with_reducible first | exact impl_rowOf.mono _ _ | exact LeO.refl _ | refine LeO.ite ?_ ?_ | refine LeO.bind ?_ (fun _ => ?_)
theorem impl_told.mono : ∀ a0 k, LeO (impl_told.f k a0) (impl_told.f (k + 1) a0) := by
 intro a0 k;have ih0 := impl_told.mono_l k;unfold impl_told.f
 repeat' with_reducible first | exact ih0 _ _ | exact impl_most.mono _ _ | exact impl_sizeOf.mono _ _ | refine LeO.ite ?_ ?_ | refine LeO.bind ?_ (fun _ => ?_)
set_option maxHeartbeats 8000000 in
set_option maxRecDepth 100000 in
theorem impl_told.calls (k : Nat) (A0 : Option Addr) (c0 : Nat) (l0 : List (S72)) (r1 : List Int) (r2 : Bool) (w : World) (hr0 : Kd.C k72 w A0 l0.length l0) (hc0 : l0.length <= c0) (h : impl_told.f k l0 = some (r1, r2)) :
  Calls Try.prog 44 #[.slice A0 l0.length c0] w fun e w' => ∃ v0_ : Value, e = .returned (.tuple #[v0_, .bool r2]) /\ (Kd.Y (Kd.int .i64) 3 w' w.heap.size (fun _ => True) v0_ r1 /\ Nilled v0_ r1) /\ Below w.heap.size w w' := by
 have HR0 := am hr0;have HC0 := am hc0;clear hr0 hc0;have HB := am (Below.refl w.heap.size w);have H : ((impl_sizeOf.f k l0).bind fun t350 => (if t350 > 60 then (impl_told.j0 k l0 true) else ((impl_most.f k l0).bind fun t351 => (impl_told.j0 k l0 (decide (t351 > 9999)))))) = some (r1, r2) := h;clear h;have HC2 := am H;clear H;go_enter Try.func44, Try.ntmps44
 go_upto_region 1 with (fail)
 go_cut [11] (fun v11 wc => ∃ (kq : Nat) (x11_1 : Bool), v11 = .bool x11_1 /\ Aside0 (impl_told.j0 kq l0 x11_1 = some (r1, r2)) /\ Aside0 (kq <= k) /\ Aside0 (Below w.heap.size w wc))
 case first =>
  have H := HC2.out;clear HC2;replace H := oE H;obtain ⟨t350, A3, H⟩ := H;replace H : (if t350 > 60 then (impl_told.j0 k l0 true) else ((impl_most.f k l0).bind fun t351 => (impl_told.j0 k l0 (decide (t351 > 9999))))) = some (r1, r2) := H;replace A3 := am A3;by_cases c4 : t350 > 60
  ·
   rw [if_pos c4] at H;have c4b0 : decide (60 < t350) = true := decide_eq_true c4;clear c4
   (skip)
   have H' := am H;clear H;go_wp2_with (((with_reducible refine gate_callee (f := 69) rfl ?_); refine goesL_ (some 5) rfl rfl Try.func69 (by kernel_rfl) rfl #[.slice A0 l0.length c0] rfl (by (try simp only [mA, mB, mC]); rfl) ?_; (with_reducible refine (impl_sizeOf.calls k _ _ l0 t350 _ ?side1 ?side2 A3.out).mono ?_); (case side1 => exact Kd.cm ((Kd.C_below HR0.out HB.out))); (case side2 => exact HC0.out); rintro e w5 ⟨rfl, hb⟩; refine ⟨_, rfl, ?_⟩; replace HB := am (below_step (bm HB.out) hb); clear hb));go_meet
   case rel => exact ⟨_, (true), (by rfl), H', ⟨by omega⟩, ⟨bm HB.out⟩⟩
  ·
   rw [if_neg c4] at H;have c4b0 : decide (60 < t350) = false := decide_eq_false c4;clear c4
   (skip)
   replace H := oE H;obtain ⟨t351, A6, H⟩ := H;replace H : (impl_told.j0 k l0 (decide (t351 > 9999))) = some (r1, r2) := H;replace A6 := am A6;have H' := am H;clear H;go_wp2_with (first | ((with_reducible refine gate_callee (f := 69) rfl ?_); refine goesL_ (some 5) rfl rfl Try.func69 (by kernel_rfl) rfl #[.slice A0 l0.length c0] rfl (by (try simp only [mA, mB, mC]); rfl) ?_; (with_reducible refine (impl_sizeOf.calls k _ _ l0 t350 _ ?side1 ?side2 A3.out).mono ?_); (case side1 => exact Kd.cm ((Kd.C_below HR0.out HB.out))); (case side2 => exact HC0.out); rintro e w7 ⟨rfl, hb⟩; refine ⟨_, rfl, ?_⟩; replace HB := am (below_step (bm HB.out) hb); clear hb) | (go_at_call 70; (with_reducible refine (impl_most.calls k _ _ l0 t351 _ ?side1 ?side2 A6.out).mono ?_); (case side1 => exact Kd.cm ((Kd.C_below HR0.out HB.out))); (case side2 => exact HC0.out); rintro e w8 ⟨rfl, hb⟩; replace HB := am (below_step (bm HB.out) hb); clear hb));go_meet
   case rel => exact ⟨_, (decide (t351 > 9999)), (by rfl), H', ⟨by omega⟩, ⟨bm HB.out⟩⟩
 case rest =>
  clear HC2;obtain ⟨kq, x11_1, rfl, HA, HJ1, HB⟩ := hcut
  cases kq with
  | zero => exact absurd HA.out (by simp [impl_told.j0])
  | succ kj1 =>
   have H := HA.out;clear HA;simp only [impl_told.j0] at H;by_cases c9 : x11_1 = true
   ·
    subst c9
    have H1 : (some (([] : List Int), false)) = some (r1, r2) := by rw [if_pos rfl] at H; exact H
    clear H;have H := H1;clear H1;simp only [Option.some.injEq, Prod.mk.injEq] at H;obtain ⟨rfl, rfl⟩ := H;go_wp2;go_ret2;exact ⟨_, by rfl, ⟨Kd.Y_of_R (by exact Kd.R_nil _ _ _ _ _), none, 0, 0, rfl, rfl⟩, bm HB.out⟩
   ·
    replace c9 := Bool.eq_false_iff.mpr c9;subst c9
    have H1 : ((impl_rowOf.f kj1 l0).bind fun t352 => ((slices_Clip_int_int.f t352).bind fun t355 => (some (t355, true)))) = some (r1, r2) := by rw [if_neg (show ¬ (false = true) by decide)] at H; exact H
    clear H;have H := H1;clear H1;replace H := oE H;obtain ⟨t352, A10, H⟩ := H;replace H : ((slices_Clip_int_int.f t352).bind fun t355 => (some (t355, true))) = some (r1, r2) := H;replace A10 := am A10;replace H := oE H;obtain ⟨t355, A11, H⟩ := H;replace H : (some (t355, true)) = some (r1, r2) := H;replace A11 := am A11;simp only [Option.some.injEq, Prod.mk.injEq] at H;obtain ⟨rfl, rfl⟩ := H;go_wp2_with (first | ((with_reducible refine gate_callee (f := 71) rfl ?_); refine goesL_ (some 13) rfl rfl Try.func71 (by kernel_rfl) rfl #[.slice A0 l0.length c0] rfl (by (try simp only [mA, mB, mC]); rfl) ?_; (with_reducible refine (impl_rowOf.calls kj1 _ _ l0 t352 _ ?side1 ?side2 A10.out).mono ?_); (case side1 => exact Kd.cm ((Kd.C_below HR0.out HB.out))); (case side2 => exact HC0.out); rintro e w12 ⟨v353, rfl, ho0, hb⟩; refine ⟨_, rfl, ?_⟩; have HO354 := am (Kd.R_lower ho0 (below_size (bm HB.out)));replace HB := am (below_step (bm HB.out) hb); clear hb; clear ho0; obtain ⟨Ao13, co13, eo13⟩ := Kd.R_slice HO354.out; subst eo13) | ((with_reducible refine gate_callee (f := 66) rfl ?_); refine goesL_ (some 14) rfl rfl Try.func66 (by kernel_rfl) rfl #[.slice Ao13 t352.length co13] rfl (by (try simp only [mA, mB, mC]); rfl) ?_; (with_reducible refine (slices_Clip_int_int.calls (fun k_ => some k_ = (.slice Ao13 t352.length co13 : Value).ownBlock) (.slice Ao13 t352.length co13) t352 t355 w _ ?side1 ?side2 A11.out).mono ?_); (case side1 => repeat ((with_reducible exact HB.out))); (case side2 => exact Kd.R_tight rfl HO354.out); rintro e w14 ⟨v356, rfl, ho0, hb, hkp⟩; refine ⟨_, rfl, ?_⟩; have HO357 := am (Kd.Y_mono (ok' := fun k_ => True) ho0 (fun k_ hk_ => trivial));replace HB := am (hb);clear HO354; clear hb; clear hkp; clear ho0));go_ret2;exact ⟨_, by rfl, ⟨(Kd.ym HO357.out), Nilled.of HO357.out (impl_rowOf.clip A10.out A11.out)⟩, bm HB.out⟩

end Go.Proofs.Ytahhdbjjfdjloaa.Jf

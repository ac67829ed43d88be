-- half
-- Written by a program of this session's (wip/mp) out of the translation, over the kit's print with changes.
import Derived.Test.YtahhdbjjfdjloaaJfx0
import Derived.Test.YtahhdbjjfdjloaaJfx7
import Derived.Test.YtahhdbjjfdjloaaJfx8
import Derived.Test.YtahhdbjjfdjloaaJfx15
namespace Go.Proofs.Ytahhdbjjfdjloaa.Jf
open Go.RowKit Go.Proofs.YtahhdbjjfdjloaaW.PrintWords Go.Proofs.YtahhdbjjfdjloaaW.PrintLast Go.Proofs.YtahhdbjjfdjloaaW.PrintMore
attribute [local go_sem] max2_int min2_int max_two min_two max_three min_three max_four min_four   -- for this text's walks alone
set_option linter.unusedVariables false
set_option linter.unusedSimpArgs false

/-- A state of type 3 at block g of W; what its slices lead to came in by w0. -/
def IsS3 (w0 W : World) (g : Nat) (f0 : Int) : Prop := W.heap[g]? = some (.cells #[.int .i64 f0] 3 (0, 0)) /\ w0.heap.size <= g
theorem IsS3.grown {w0 W : World} {g : Nat} {f0 : Int} {W1 : World} {row : Option Nat} (h : IsS3 w0 W g f0) (hw : W.grownBy W1 row) (hne : some g ≠ row) : IsS3 w0 W1 g f0 := by
 obtain ⟨hb, hg⟩ := h;exact ⟨blk_grown hb hw hne, hg⟩
theorem IsS3.own_neN {w0 W : World} {g : Nat} {f0 : Int} {α : Type} {d : Kd α} {e : Nat} {base : Nat} {ok : Nat -> Prop} {v : Value} {xs : List α} (h : IsS3 w0 W g f0) (ho : Kd.N d e W base ok v xs) (ht : e ≠ 3) : some g ≠ v.ownBlock := by
 obtain ⟨hb, hg⟩ := h;exact Kd.N_ne ho hb ht
theorem IsS3.fresh {w0 W : World} {g : Nat} {f0 : Int} (h : IsS3 w0 W g f0) : ∀ k, W.heap.size <= k -> k ≠ g := by
 obtain ⟨hb, hg⟩ := h;exact Kd.freshB hb
theorem IsS3.kept {w0 W : World} {g : Nat} {f0 : Int} {W1 : World} {S : Nat -> Prop} (h : IsS3 w0 W g f0) (hk : Kept W W1 S) (hne : ¬ S g) : IsS3 w0 W1 g f0 := by
 obtain ⟨hb, hg⟩ := h;exact ⟨blk_kept hb hk hne, hg⟩
theorem IsS3.below {w0 W : World} {g : Nat} {f0 : Int} {W1 : World} (h : IsS3 w0 W g f0) (hw : Below W.heap.size W W1) : IsS3 w0 W1 g f0 := h.grown (grown_of_below hw none) (by simp)
theorem IsS3.alloc {w0 W : World} {g : Nat} {f0 : Int} (h : IsS3 w0 W g f0) (o : Obj) : IsS3 w0 (W.alloc o) g f0 := h.below (below_alloc (Below.refl _ _) o)
theorem IsS3.drewN {w0 W : World} {g : Nat} {f0 : Int} (h : IsS3 w0 W g f0) (m : Nat) : IsS3 w0 (W.drewN m) g f0 := h
theorem IsS3.drew {w0 W : World} {g : Nat} {f0 : Int} (h : IsS3 w0 W g f0) : IsS3 w0 W.drew g f0 := h
theorem IsS3.at_ {w0 W : World} {g : Nat} {f0 : Int} {w' : World} {m : Nat} (hq : W.drewN m = w') (h : IsS3 w0 W g f0) : IsS3 w0 w' g f0 := by subst hq; exact IsS3.drewN h m
theorem IsS3.apart {w0 W : World} {g : Nat} {f0 : Int} {α : Type} {d : Kd α} {e : Nat} {base : Nat} {ok : Nat -> Prop} {v : Value} {xs : List α} (h : IsS3 w0 W g f0) (ho : d.R e W base ok v xs) (ht : ∀ q, q ∈ e :: d.E -> q ≠ 3) : d.R e W base (fun k => ok k /\ k ≠ g) v xs := by
 obtain ⟨hb, hg⟩ := h;exact Kd.R_types ho hb ht
theorem IsS3.own_ne {w0 W : World} {g : Nat} {f0 : Int} {α : Type} {d : Kd α} {e : Nat} {base : Nat} {ok : Nat -> Prop} {v : Value} {xs : List α} (h : IsS3 w0 W g f0) (ho : d.R e W base ok v xs) (ht : e ≠ 3) : some g ≠ v.ownBlock := by
 obtain ⟨hb, hg⟩ := h;exact Kd.R_ne ho hb ht
theorem IsS3.apartQ {w0 W : World} {g : Nat} {f0 : Int} {α : Type} {d : Kd α} {e : Nat} {base : Nat} {ok : Nat -> Prop} {v : Value} {xs : List α} (h : IsS3 w0 W g f0) (ho : d.Y e W base ok v xs) (ht : ∀ q, q ∈ e :: d.E -> q ≠ 3) : d.Y e W base (fun k => ok k /\ k ≠ g) v xs := by
 obtain ⟨hb, hg⟩ := h;exact Kd.Y_types ho hb ht
theorem IsS3.own_neQ {w0 W : World} {g : Nat} {f0 : Int} {α : Type} {d : Kd α} {e : Nat} {base : Nat} {ok : Nat -> Prop} {v : Value} {xs : List α} (h : IsS3 w0 W g f0) (ho : d.Y e W base ok v xs) (ht : e ≠ 3) : some g ≠ v.ownBlock := by
 obtain ⟨hb, hg⟩ := h;exact Kd.Y_ne ho hb ht
theorem IsS3.apartS {w0 W : World} {g : Nat} {f0 : Int} {α : Type} {d : Kd α} {e : Nat} {base : Nat} {ok : Nat -> Prop} {v : Value} {xs : List α} (h : IsS3 w0 W g f0) (ho : d.S e W base ok v xs) (ht : ∀ q, q ∈ e :: d.E -> q ≠ 3) : d.S e W base (fun k => ok k /\ k ≠ g) v xs := by
 obtain ⟨hb, hg⟩ := h;exact Kd.S_types ho hb ht
theorem IsS3.own_neS {w0 W : World} {g : Nat} {f0 : Int} {α : Type} {d : Kd α} {e : Nat} {base : Nat} {ok : Nat -> Prop} {v : Value} {xs : List α} (h : IsS3 w0 W g f0) (ho : d.S e W base ok v xs) (ht : e ≠ 3) : some g ≠ v.ownBlock := by
 obtain ⟨hb, hg⟩ := h;exact Kd.S_ne ho hb ht
theorem IsS3.lt {w0 W : World} {g : Nat} {f0 : Int} (h : IsS3 w0 W g f0) : g < W.heap.size := by
 obtain ⟨hb, hg⟩ := h;exact blk_lt hb
theorem IsS3.ge {w0 W : World} {g : Nat} {f0 : Int} (h : IsS3 w0 W g f0) : w0.heap.size <= g := by
 obtain ⟨hb, hg⟩ := h;exact hg
theorem IsS3.ne_blk {w0 W : World} {g : Nat} {f0 : Int} {a : Nat} {cs : Array Value} {t : TypeId} {fr : Nat × Nat} (h : IsS3 w0 W g f0) (hb2 : W.heap[a]? = some (.cells cs t fr)) (ht : t ≠ 3) : g ≠ a := by
 obtain ⟨hb, hg⟩ := h
 rintro rfl
 rw [hb] at hb2
 injection hb2 with hb2
 injection hb2 with _ ht2
 exact ht ht2.symm
theorem IsS3.far {w0 W : World} {g : Nat} {f0 : Int} {p : Addr} (h : IsS3 w0 W g f0) (hne : g ≠ p.block) (u : Value) : IsS3 w0 (W.setCell p u) g f0 := by
 obtain ⟨hb, hg⟩ := h;exact ⟨blk_far hb hne u, hg⟩
theorem cellS3_0 {W : World} {g : Nat} {f0 : Int} (h : W.heap[g]? = some (.cells #[.int .i64 f0] 3 (0, 0))) : W.cell? ⟨g, 0, none⟩ = some (.int .i64 f0) := (blk_cell h 0).trans rfl
theorem IsS3.set_0 {w0 W : World} {g : Nat} {f0 : Int} (h : IsS3 w0 W g f0) (x : Int) : IsS3 w0 (W.setCell ⟨g, 0, none⟩ (.int .i64 x)) g x := by
 obtain ⟨hb, hg⟩ := h;exact ⟨by simpa using blk_set hb 0 (.int .i64 x), hg⟩
theorem IsS3.new (w0 W : World) (f0 : Int) (hB : Below w0.heap.size w0 W) : IsS3 w0 (W.alloc (.cells #[.int .i64 f0] 3)) W.heap.size f0 := ⟨by simpa using heap_alloc_new W _, hB.size⟩

/-! ### impl_hydra_cut: function 50 -/
mutual
def impl_hydra_cut.l0 : Nat -> List (S46) -> Int -> List (S46) -> Int -> Int -> Int -> Option ((List (S46)) × Bool × Int)
 | 0, _, _, _, _, _, _ => none
 | k + 1, x0, x2, x15, x16, x17, x2000 => if x17 < x16 then (if 0 <= x17 then (if x17 < (x15.length : Int) then (if (((rd_T46 x15 x17).f0).length : Int) = 0 then (if x2000 = 0 then ((impl_hydra_78.f x0 x17 (wrap64 (x17 + 1))).bind fun t622 => (some (t622, true, (-1)))) else (impl_hydra_cut.l0 k x0 x2 x15 x16 (wrap64 (x17 + 1)) (wrap64 (x2000 - 1)))) else ((impl_hydra_cut.f k ((rd_T46 x15 x17).f0) x2000 x2 false).bind fun bt625 => (if bt625.2.2 >= 0 then (impl_hydra_cut.l0 k x0 x2 x15 x16 (wrap64 (x17 + 1)) bt625.2.2) else (if x17 <= (x0.length : Int) then ((impl_hydra_79.f (x0.take (x17 : Int).toNat)).bind fun t635 => (if bt625.2.1 = true then (impl_hydra_cut.j1 k x0 x2 x17 bt625.1 t635 bt625.2.2) else (impl_hydra_cut.j1 k x0 1 x17 bt625.1 t635 bt625.2.2))) else (none))))) else (none)) else (none)) else (some (x0, false, x2000))
def impl_hydra_cut.j1 : Nat -> List (S46) -> Int -> Int -> List (S46) -> List (S46) -> Int -> Option ((List (S46)) × Bool × Int)
 | 0, _, _, _, _, _, _ => none
 | k + 1, x0, x2, x10, x12, x14, x2000 => impl_hydra_cut.l1 k x0 x10 x12 x14 x2 0 x2000
def impl_hydra_cut.l1 : Nat -> List (S46) -> Int -> List (S46) -> List (S46) -> Int -> Int -> Int -> Option ((List (S46)) × Bool × Int)
 | 0, _, _, _, _, _, _, _ => none
 | k + 1, x0, x10, x12, x14, x59, x60, x2000 => if x60 < x59 then (if x14.length < 5864062014805 then (impl_hydra_cut.l1 k x0 x10 x12 (x14 ++ [(⟨x12⟩ : S46)]) x59 (wrap64 (x60 + 1)) x2000) else (none)) else (if 0 <= (wrap64 (x10 + 1)) then (if (wrap64 (x10 + 1)) <= (x0.length : Int) then ((some (x0.drop ((wrap64 (x10 + 1)) : Int).toNat : List (S46))).bind fun y641 => (if x14.length + y641.length < 5864062014805 then (some ((x14 ++ y641), false, x2000)) else (none))) else (none)) else (none))
def impl_hydra_cut.f : Nat -> List (S46) -> Int -> Int -> Bool -> Option ((List (S46)) × Bool × Int)
 | 0, _, _, _, _ => none
 | k + 1, l0, s1_0, a2, a3 => impl_hydra_cut.l0 k l0 a2 l0 (l0.length : Int) 0 s1_0
end
theorem impl_hydra_cut.mono_l : ∀ k, (∀ y0 y1 y2 y3, LeO (impl_hydra_cut.f k y0 y1 y2 y3) (impl_hydra_cut.f (k + 1) y0 y1 y2 y3)) /\ (∀ y0 y1 y2 y3 y4 y5, LeO (impl_hydra_cut.l0 k y0 y1 y2 y3 y4 y5) (impl_hydra_cut.l0 (k + 1) y0 y1 y2 y3 y4 y5)) /\ (∀ y0 y1 y2 y3 y4 y5, LeO (impl_hydra_cut.j1 k y0 y1 y2 y3 y4 y5) (impl_hydra_cut.j1 (k + 1) y0 y1 y2 y3 y4 y5)) /\ (∀ y0 y1 y2 y3 y4 y5 y6, LeO (impl_hydra_cut.l1 k y0 y1 y2 y3 y4 y5 y6) (impl_hydra_cut.l1 (k + 1) y0 y1 y2 y3 y4 y5 y6))
 | 0 => ⟨fun _ _ _ _ r h => by simp [impl_hydra_cut.f] at h, fun _ _ _ _ _ _ r h => by simp [impl_hydra_cut.l0] at h, fun _ _ _ _ _ _ r h => by simp [impl_hydra_cut.j1] at h, fun _ _ _ _ _ _ _ r h => by simp [impl_hydra_cut.l1] at h⟩
 | k + 1 => by
  obtain ⟨ih0, ih1, ih2, ih3⟩ := impl_hydra_cut.mono_l k;refine ⟨?_, ?_, ?_, ?_⟩
  all_goals (intros; first | unfold impl_hydra_cut.f | unfold impl_hydra_cut.l0 | unfold impl_hydra_cut.j1 | unfold impl_hydra_cut.l1)
  all_goals repeat' with_reducible first | exact ih0 _ _ _ _ | exact ih1 _ _ _ _ _ _ | exact ih2 _ _ _ _ _ _ | exact ih3 _ _ _ _ _ _ _ | exact LeO.refl _ | refine LeO.ite ?_ ?_ | refine LeO.bind ?_ (fun _ => ?_)
theorem impl_hydra_cut.mono : ∀ a0 a1 a2 a3 k, LeO (impl_hydra_cut.f k a0 a1 a2 a3) (impl_hydra_cut.f (k + 1) a0 a1 a2 a3) := by
 intro a0 a1 a2 a3 k;obtain ⟨ih0, ih1, ih2, ih3⟩ := impl_hydra_cut.mono_l k;exact ih0 a0 a1 a2 a3
set_option maxHeartbeats 8000000 in
set_option maxRecDepth 100000 in
theorem impl_hydra_cut.calls (k : Nat) : ∀ (P0_ : Nat -> Prop) (A0 : Option Addr) (c0 : Nat) (l0 : List (S46)) (g : Nat) (s1_0 : Int) (a2 : Int) (a3 : Bool) (r1 : List (S46)) (r2 : Bool) (r3 : Int) (w0 w : World) (hI : IsS3 w0 w g s1_0) (hB : Below w0.heap.size w0 w) (hs0 : Kd.V k46 46 w w.heap.size (fun k_ => P0_ k_ /\ k_ ≠ g) (.slice A0 l0.length c0) l0) (h : impl_hydra_cut.f k l0 s1_0 a2 a3 = some (r1, r2, r3)),
  Calls Try.prog 50 #[.slice A0 l0.length c0, .pointer (some ⟨g, 0, none⟩), .int .i64 a2, .bool a3] w fun e w' => ∃ v0_ : Value, e = .returned (.tuple #[v0_, .bool r2]) /\ Kd.V k46 46 w' w.heap.size (fun k_ => (P0_ k_ \/ w.heap.size <= k_)) v0_ r1 /\ IsS3 w0 w' g r3 /\ Below w0.heap.size w0 w' /\ KeepBut w w' g none := by
 induction k using Nat.strongRecOn with
 | _ k ih =>
 intro P0_ A0 c0 l0 g s1_0 a2 a3 r1 r2 r3 w0 w hI hB hs0 h
 cases k with
 | zero => exact absurd h (by simp [impl_hydra_cut.f])
 | succ k =>
 simp only [impl_hydra_cut.f] at h;have HO0 := am (show Kd.V k46 46 w w.heap.size (fun k_ => (P0_ k_ \/ w.heap.size <= k_) /\ k_ ≠ g) (.slice A0 l0.length c0) l0 from Kd.V_mono hs0 (fun k_ hk => ⟨.inl hk.1, hk.2⟩));have HI1 := am hI;have HK := am (KeepBut.refl w g none);have HL := am hB.size;clear hI;have HW0 := am hB.size;have HB := am hB;clear hB;have H : (impl_hydra_cut.l0 k l0 a2 l0 (l0.length : Int) 0 s1_0) = some (r1, r2, r3) := h;clear h;have H' := am H;clear H;go_enter Try.func50, Try.ntmps50;go_wp2
 go_loopg [2, 17] k (fun kq v2 v17 w' => ∃ (x2_1 : Int) (x17_1 : Int) (x2000_1 : Int), v2 = .int .i64 x2_1 /\ v17 = .int .i64 x17_1 /\ Aside0 (impl_hydra_cut.l0 kq l0 x2_1 l0 (l0.length : Int) x17_1 x2000_1 = some (r1, r2, r3)) /\ Aside0 (kq <= k) /\ Aside0 (Kd.V k46 46 w' w.heap.size (fun k_ => (P0_ k_ \/ w.heap.size <= k_) /\ k_ ≠ g) (.slice A0 l0.length c0) l0) /\ Aside0 (Kd.V k46 46 w' w.heap.size (fun k_ => (P0_ k_ \/ w.heap.size <= k_) /\ k_ ≠ g) (.slice A0 l0.length c0) l0) /\ Aside0 (IsS3 w0 w' g x2000_1) /\ Aside0 (KeepBut w w' g none) /\ Aside0 (Below w0.heap.size w0 w'))
 case atStart => exact ⟨(a2), (0), (s1_0), (by rfl), (by rfl), H', ⟨Nat.le_refl _⟩, ⟨Kd.vm HO0.out⟩, ⟨Kd.vm HO0.out⟩, ⟨by repeat ((with_reducible exact HI1.out))⟩, ⟨km HK.out⟩, ⟨bs (IsS3.ge HI1.out) HB.out⟩⟩
 case round =>
  clear H';clear HK;clear HB;obtain ⟨x2_1, x17_1, x2000_1, rfl, rfl, HA, HK1, HO_0, HO_15, HI1, HK, HB⟩ := hrel
  cases gk with
  | zero => exact absurd HA.out (by simp [impl_hydra_cut.l0])
  | succ k1 =>
   have H := HA.out;clear HA;simp only [impl_hydra_cut.l0] at H;by_cases c5 : x17_1 < (l0.length : Int)
   ·
    rw [if_pos c5] at H;have c5b0 : decide (x17_1 < (l0.length : Int)) = true := decide_eq_true c5;clear c5;by_cases c6 : 0 <= x17_1
    ·
     rw [if_pos c6] at H;have c6b0 : decide (0 <= x17_1) = true := decide_eq_true c6;clear c6;by_cases c7 : x17_1 < (l0.length : Int)
     ·
      rw [if_pos c7] at H;have c7b0 : decide (x17_1 < (l0.length : Int)) = true := decide_eq_true c7;clear c7;by_cases c8 : (((rd_T46 l0 x17_1).f0).length : Int) = 0
      ·
       rw [if_pos c8] at H;have c8b0 : ((((rd_T46 l0 x17_1).f0).length : Int) == 0) = true := beq_iff_eq.mpr c8;have c8b1 : ((((rd_T46 l0 x17_1).f0).length : Int) != 0) = false := bne_eq_false_iff_eq.mpr c8;clear c8;by_cases c9 : x2000_1 = 0
       ·
        rw [if_pos c9] at H;have c9b0 : (x2000_1 == 0) = true := beq_iff_eq.mpr c9;have c9b1 : (x2000_1 != 0) = false := bne_eq_false_iff_eq.mpr c9;clear c9;replace H := oE H;obtain ⟨t622, A10, H⟩ := H;replace H : (some (t622, true, (-1))) = some (r1, r2, r3) := H;replace A10 := am A10;simp only [Option.some.injEq, Prod.mk.injEq] at H;obtain ⟨rfl, rfl, rfl⟩ := H;have p621 : 0 <= (x17_1 : Int) := of_decide_eq_true (by assumption);have q621 : x17_1 < (l0.length : Int) := of_decide_eq_true (by assumption);obtain ⟨ad621, A621_0, c621_0, e621, hx621_0, hl621_0, hi621_0⟩ := at_T46 (Kd.V_reads' HO_15.out).2.2 x17_1 p621 q621;cases e621
        obtain ⟨ce621, hce621, hMe621, hcc621⟩ := Kd.V_get HO_15.out z46 x17_1 p621 (by exact q621);obtain ⟨ua621_0, uc621_0, rfl, ul621_0, ge621_0⟩ := k46_openF hMe621;have hv621_0 := hcc621 0 _ rfl;rw [Nat.add_zero, show (k46).sz = 1 from rfl, Nat.mul_one] at hv621_0;replace hv621_0 := Option.some.inj (hv621_0.symm.trans hx621_0)
        injection hv621_0 with hva_ hvn_ hvc_
        rw [hva_] at ge621_0;rw [hvc_] at ul621_0;have HL621_0 := am (show Kd.V k46 46 _ w.heap.size _ _ ((rd_T46 l0 x17_1).f0) from Kd.V_mk ul621_0 ge621_0);clear hva_ hvn_ hvc_ ge621_0 ul621_0;clear hcc621 hce621;have HR621_0 := am hi621_0;have HC621_0 := am hl621_0;clear hi621_0 hl621_0;replace p621 := eq_true p621;replace q621 := eq_true q621;obtain ⟨HGz11, hgz11⟩ := HI1.out;have hcz11_0 := cellS3_0 HGz11;have hfz11_0 := blk_frozen HGz11 0;clear HGz11 hgz11;go_wp2_with (first | ((with_reducible refine gate_store (t := 3) (p := 30) rfl ?_); refine store_event (t := 3) (p := 30) (v := ?vo_w12) (w1 := (wr.setCell ⟨g, 0, none⟩ (.int .i64 (-1)))) ?hg ?ho ?hn ?hr ?_; (case ho => rfl); (case hg => rfl); (case hn => rfl); (case hr => (go_simp; done)); intro w12 hw; have n0_ : Aside0 (Kd.V k46 46 w12 w.heap.size (fun k_ => (P0_ k_ \/ w.heap.size <= k_) /\ k_ ≠ g) (.slice (some ad621) l0.length c0) l0) := ⟨(by rw [hw]; exact (Kd.vm (Kd.V_mono (Kd.V_far (p := ⟨g, 0, none⟩) (Kd.V_mono HO_0.out (fun k_ hk => (⟨hk, hk.2⟩ : _ /\ k_ ≠ g))) (fun _ hk => hk.2) (.int .i64 (-1))) (fun _ hk => ⟨hk.1.1, hk.1.2⟩))))⟩; have n1_ : Aside0 (Kd.V k46 46 w12 w.heap.size (fun k_ => (P0_ k_ \/ w.heap.size <= k_) /\ k_ ≠ g) (.slice (some ad621) l0.length c0) l0) := ⟨(by rw [hw]; exact (Kd.vm (Kd.V_mono (Kd.V_far (p := ⟨g, 0, none⟩) (Kd.V_mono HO_15.out (fun k_ hk => (⟨hk, hk.2⟩ : _ /\ k_ ≠ g))) (fun _ hk => hk.2) (.int .i64 (-1))) (fun _ hk => ⟨hk.1.1, hk.1.2⟩))))⟩; have n2_ : Aside0 (Kd.V k46 46 w12 w.heap.size (fun k_ => (P0_ k_ \/ w.heap.size <= k_) /\ k_ ≠ g) (.slice A621_0 ((rd_T46 l0 x17_1).f0).length c621_0) ((rd_T46 l0 x17_1).f0)) := ⟨(by rw [hw]; exact (Kd.vm (Kd.V_mono (Kd.V_far (p := ⟨g, 0, none⟩) (Kd.V_mono HL621_0.out (fun k_ hk => (⟨hk, hk.2⟩ : _ /\ k_ ≠ g))) (fun _ hk => hk.2) (.int .i64 (-1))) (fun _ hk => ⟨hk.1.1, hk.1.2⟩))))⟩; have n3_ : Aside0 (IsS3 w0 w12 g (-1)) := ⟨(by rw [hw]; exact (by repeat ((with_reducible first | exact HI1.out | apply IsS3.set_0))))⟩; have n4_ : Aside0 (KeepBut w w12 g none) := ⟨(by rw [hw]; exact (km HK.out))⟩; have n5_ : Aside0 (Below w0.heap.size w0 w12) := ⟨(by rw [hw]; exact (bs (IsS3.ge HI1.out) HB.out))⟩; clear hw; clear HO_0; clear HO_15; clear HL621_0; clear HI1; clear HK; clear HB; have HO_0 := n0_; have HO_15 := n1_; have HL621_0 := n2_; have HI1 := n3_; have HK := n4_; have HB := n5_; clear n0_ n1_ n2_ n3_ n4_ ) | ((with_reducible refine gate_callee (f := 79) rfl ?_); refine goesL_ (some 32) rfl rfl Try.func79 (by kernel_rfl) rfl #[.slice (some ad621) l0.length c0] rfl (by (try simp only [mA, mB, mC]); rfl) ?_; (with_reducible refine (impl_hydra_79.calls (fun k_ => ((P0_ k_ \/ w.heap.size <= k_) /\ k_ ≠ g)) _ _ l0 l0 _ ?side1 (impl_hydra_79.ok (impl_hydra_78.lt A10.out))).mono ?_); (case side1 => exact HO_0.out); rintro e wc_ ⟨vc_, rfl, hoc_, hbc_⟩; refine ⟨_, rfl, ?_⟩) | ((with_reducible refine gate_callee (f := 78) rfl ?_); refine goesL_ (some 36) rfl rfl Try.func78 (by kernel_rfl) rfl #[vc_, .int .i64 x17_1, .int .i64 (wrap64 (x17_1 + 1))] rfl (by (try simp only [mA, mB, mC]); rfl) ?_; (with_reducible refine (impl_hydra_78.calls (fun k_ => ((P0_ k_ \/ w.heap.size <= k_) /\ k_ ≠ g)) vc_ l0 x17_1 (wrap64 (x17_1 + 1)) t622 _ _ hbc_ hoc_ A10.out).mono ?_); rintro e w13 ⟨v623, rfl, ho0, hb⟩; refine ⟨_, rfl, ?_⟩; replace HO_0 := am (Kd.V_elder' (Kd.vm HO_0.out) (Kd.N_base ho0) hb);replace HO_15 := am (Kd.V_elder' (Kd.vm HO_15.out) (Kd.N_base ho0) hb);replace HL621_0 := am (Kd.V_elder' (Kd.vm HL621_0.out) (Kd.N_base ho0) hb);have HO624 := am (Kd.N_lower (Kd.N_mono (ok' := fun k_ => (P0_ k_ \/ w.heap.size <= k_) /\ k_ ≠ g) ho0 (fun k_ hk_ => ⟨Or.elim hk_ (fun hs_ => hs_.1) (fun hn_ => (.inr (Nat.le_trans (keep_size (w := w) (g := g) (row := none) (km HK.out)) hn_))), Or.elim hk_ (fun hs_ => hs_.2) (fun hn_ => (IsS3.fresh (by repeat ((with_reducible exact HI1.out))) k_ hn_))⟩)) (keep_size (w := w) (g := g) (row := none) (km HK.out)));replace HK := am (KeepBut.trans (km HK.out) (KeepBut.of_below hb g none) (.inl rfl));replace HB := am (below_step (bs (IsS3.ge HI1.out) HB.out) hb);replace HI1 := am (IsS3.below (by repeat ((with_reducible exact HI1.out))) hb);clear HR621_0; clear hb;clear ho0));go_ret2;exact ⟨_, by rfl, Kd.N_V (Kd.nm (Kd.N_mono HO624.out (fun _ hk => hk.1))), by repeat ((with_reducible exact HI1.out)), bs (IsS3.ge HI1.out) HB.out, km HK.out⟩
       ·
        rw [if_neg c9] at H;have c9b0 : (x2000_1 == 0) = false := beq_eq_false_iff_ne.mpr c9;have c9b1 : (x2000_1 != 0) = true := bne_iff_ne.mpr c9;have H' := am H;clear H;have p621 : 0 <= (x17_1 : Int) := of_decide_eq_true (by assumption);have q621 : x17_1 < (l0.length : Int) := of_decide_eq_true (by assumption);obtain ⟨ad621, A621_0, c621_0, e621, hx621_0, hl621_0, hi621_0⟩ := at_T46 (Kd.V_reads' HO_15.out).2.2 x17_1 p621 q621;cases e621
        obtain ⟨ce621, hce621, hMe621, hcc621⟩ := Kd.V_get HO_15.out z46 x17_1 p621 (by exact q621);obtain ⟨ua621_0, uc621_0, rfl, ul621_0, ge621_0⟩ := k46_openF hMe621;have hv621_0 := hcc621 0 _ rfl;rw [Nat.add_zero, show (k46).sz = 1 from rfl, Nat.mul_one] at hv621_0;replace hv621_0 := Option.some.inj (hv621_0.symm.trans hx621_0)
        injection hv621_0 with hva_ hvn_ hvc_
        rw [hva_] at ge621_0;rw [hvc_] at ul621_0;have HL621_0 := am (show Kd.V k46 46 _ w.heap.size _ _ ((rd_T46 l0 x17_1).f0) from Kd.V_mk ul621_0 ge621_0);clear hva_ hvn_ hvc_ ge621_0 ul621_0;clear hcc621 hce621;have HR621_0 := am hi621_0;have HC621_0 := am hl621_0;clear hi621_0 hl621_0;replace p621 := eq_true p621;replace q621 := eq_true q621;obtain ⟨HGz14, hgz14⟩ := HI1.out;have hcz14_0 := cellS3_0 HGz14;have hfz14_0 := blk_frozen HGz14 0;clear HGz14 hgz14;go_wp2
        go_roundg k1
        case measure => have := HK1.out; omega
        case rel => exact ⟨(x2_1), (wrap64 (x17_1 + 1)), (wrap64 (x2000_1 - 1)), (by rfl), (by rfl), H', ⟨by have := HK1.out; omega⟩, ⟨Kd.vm (Kd.V_mono (Kd.V_far (p := ⟨g, 0, none⟩) (Kd.V_mono HO_0.out (fun k_ hk => (⟨hk, hk.2⟩ : _ /\ k_ ≠ g))) (fun _ hk => hk.2) (.int .i64 (wrap64 (x2000_1 - 1)))) (fun _ hk => ⟨hk.1.1, hk.1.2⟩))⟩, ⟨Kd.vm (Kd.V_mono (Kd.V_far (p := ⟨g, 0, none⟩) (Kd.V_mono HO_15.out (fun k_ hk => (⟨hk, hk.2⟩ : _ /\ k_ ≠ g))) (fun _ hk => hk.2) (.int .i64 (wrap64 (x2000_1 - 1)))) (fun _ hk => ⟨hk.1.1, hk.1.2⟩))⟩, ⟨by repeat ((with_reducible first | exact HI1.out | apply IsS3.set_0))⟩, ⟨km HK.out⟩, ⟨bs (IsS3.ge HI1.out) HB.out⟩⟩
      ·
       rw [if_neg c8] at H;have c8b0 : ((((rd_T46 l0 x17_1).f0).length : Int) == 0) = false := beq_eq_false_iff_ne.mpr c8;have c8b1 : ((((rd_T46 l0 x17_1).f0).length : Int) != 0) = true := bne_iff_ne.mpr c8
       have c8b2 : ¬ (((rd_T46 l0 x17_1).f0) = []) := fun h_ => c8 (by rw [h_]; rfl)
       replace H := oE H;obtain ⟨⟨t625, t628, t629⟩, A15, H⟩ := H;replace H : (if t629 >= 0 then (impl_hydra_cut.l0 k1 l0 x2_1 l0 (l0.length : Int) (wrap64 (x17_1 + 1)) t629) else (if x17_1 <= (l0.length : Int) then ((impl_hydra_79.f (l0.take (x17_1 : Int).toNat)).bind fun t635 => (if t628 = true then (impl_hydra_cut.j1 k1 l0 x2_1 x17_1 t625 t635 t629) else (impl_hydra_cut.j1 k1 l0 1 x17_1 t625 t635 t629))) else (none))) = some (r1, r2, r3) := H;replace A15 := am A15;by_cases c16 : t629 >= 0
       ·
        rw [if_pos c16] at H;have c16b0 : decide (0 <= t629) = true := decide_eq_true c16;clear c16;have H' := am H;clear H;have p621 : 0 <= (x17_1 : Int) := of_decide_eq_true (by assumption);have q621 : x17_1 < (l0.length : Int) := of_decide_eq_true (by assumption);obtain ⟨ad621, A621_0, c621_0, e621, hx621_0, hl621_0, hi621_0⟩ := at_T46 (Kd.V_reads' HO_15.out).2.2 x17_1 p621 q621;cases e621
        obtain ⟨ce621, hce621, hMe621, hcc621⟩ := Kd.V_get HO_15.out z46 x17_1 p621 (by exact q621);obtain ⟨ua621_0, uc621_0, rfl, ul621_0, ge621_0⟩ := k46_openF hMe621;have hv621_0 := hcc621 0 _ rfl;rw [Nat.add_zero, show (k46).sz = 1 from rfl, Nat.mul_one] at hv621_0;replace hv621_0 := Option.some.inj (hv621_0.symm.trans hx621_0)
        injection hv621_0 with hva_ hvn_ hvc_
        rw [hva_] at ge621_0;rw [hvc_] at ul621_0;have HL621_0 := am (show Kd.V k46 46 _ w.heap.size _ _ ((rd_T46 l0 x17_1).f0) from Kd.V_mk ul621_0 ge621_0);clear hva_ hvn_ hvc_ ge621_0 ul621_0;clear hcc621 hce621;have HR621_0 := am hi621_0;have HC621_0 := am hl621_0;clear hi621_0 hl621_0;replace p621 := eq_true p621;replace q621 := eq_true q621;go_wp2_with (((with_reducible refine gate_callee (f := 50) rfl ?_); refine goesL_ (some 46) rfl rfl Try.func50 (by kernel_rfl) rfl #[.slice A621_0 ((rd_T46 l0 x17_1).f0).length c621_0, .pointer (some ⟨g, 0, none⟩), .int .i64 x2_1, .bool false] rfl (by (try simp only [mA, mB, mC]); rfl) ?_; (with_reducible refine (ih k1 (by have := HK1.out; omega) (fun k_ => ((P0_ k_ \/ w.heap.size <= k_) /\ k_ ≠ g)) _ _ ((rd_T46 l0 x17_1).f0) g x2000_1 x2_1 false t625 t628 t629 w0 _ ?side1 ?side2 ?side3 A15.out).mono ?_); (case side1 => repeat ((with_reducible exact HI1.out))); (case side2 => exact bs (IsS3.ge HI1.out) HB.out); (case side3 => exact Kd.V_mono (HL621_0.out) (fun k_ hk_ => ⟨hk_, hk_.2⟩)); rintro e w17 ⟨v626, rfl, ho0, hi, hb, hk⟩; refine ⟨_, rfl, ?_⟩; replace HO_0 := am (Kd.V_mono (Kd.V_keep (Kd.V_mono (ok := fun k_ => (((P0_ k_ \/ w.heap.size <= k_)) /\ k_ ≠ g)) (Kd.vm HO_0.out) (fun k_ hk_ => (⟨hk_, hk_.2⟩ : _ /\ k_ ≠ g))) hk (fun _ h => h.2)) (fun _ h => h.1));replace HO_15 := am (Kd.V_mono (Kd.V_keep (Kd.V_mono (ok := fun k_ => (((P0_ k_ \/ w.heap.size <= k_)) /\ k_ ≠ g)) (Kd.vm HO_15.out) (fun k_ hk_ => (⟨hk_, hk_.2⟩ : _ /\ k_ ≠ g))) hk (fun _ h => h.2)) (fun _ h => h.1));replace HL621_0 := am (Kd.V_mono (Kd.V_keep (Kd.V_mono (ok := fun k_ => (((P0_ k_ \/ w.heap.size <= k_)) /\ k_ ≠ g)) (Kd.vm HL621_0.out) (fun k_ hk_ => (⟨hk_, hk_.2⟩ : _ /\ k_ ≠ g))) hk (fun _ h => h.2)) (fun _ h => h.1));have HO627 := am (Kd.V_lower (Kd.V_mono (ok' := fun k_ => (P0_ k_ \/ w.heap.size <= k_) /\ k_ ≠ g) ho0 (fun k_ hk_ => ⟨Or.elim hk_ (fun hs_ => hs_.1) (fun hn_ => (.inr (Nat.le_trans (keep_size (w := w) (g := g) (row := none) (km HK.out)) hn_))), Or.elim hk_ (fun hs_ => hs_.2) (fun hn_ => (IsS3.fresh (by repeat ((with_reducible exact HI1.out))) k_ hn_))⟩)) (keep_size (w := w) (g := g) (row := none) (km HK.out)));replace HK := am (KeepBut.trans (km HK.out) hk (.inl rfl));replace HB := am (hb);replace HI1 := am (hi); clear hb; clear hk; clear hi; clear ho0; obtain ⟨HGz18, hgz18⟩ := HI1.out; have hcz18_0 := cellS3_0 HGz18; have hfz18_0 := blk_frozen HGz18 0; clear HGz18 hgz18))
        go_roundg k1
        case measure => have := HK1.out; omega
        case rel => exact ⟨(x2_1), (wrap64 (x17_1 + 1)), (t629), (by rfl), (by rfl), H', ⟨by have := HK1.out; omega⟩, ⟨Kd.vm HO_0.out⟩, ⟨Kd.vm HO_15.out⟩, ⟨by repeat ((with_reducible exact HI1.out))⟩, ⟨km HK.out⟩, ⟨bs (IsS3.ge HI1.out) HB.out⟩⟩
       ·
        rw [if_neg c16] at H;have c16b0 : decide (0 <= t629) = false := decide_eq_false c16;clear c16;have c19b0 := eq_true (of_decide_eq_true (by assumption) : 0 <= x17_1);by_cases c20 : x17_1 <= (l0.length : Int)
        ·
         rw [if_pos c20] at H;have c20b0 := eq_true c20;have c20b1 : decide (x17_1 <= (l0.length : Int)) = true := decide_eq_true c20;clear c20
         obtain ⟨y630, hy630⟩ : ∃ y_ : List (S46), y_ = (l0.take (x17_1 : Int).toNat) := ⟨_, rfl⟩
         replace H : ((impl_hydra_79.f y630).bind fun t635 => (if t628 = true then (impl_hydra_cut.j1 k1 l0 x2_1 x17_1 t625 t635 t629) else (impl_hydra_cut.j1 k1 l0 1 x17_1 t625 t635 t629))) = some (r1, r2, r3) := by (rw [hy630]; with_reducible exact H)
         replace hy630 := am hy630;replace H := oE H;obtain ⟨t635, A21, H⟩ := H;replace H : (if t628 = true then (impl_hydra_cut.j1 k1 l0 x2_1 x17_1 t625 t635 t629) else (impl_hydra_cut.j1 k1 l0 1 x17_1 t625 t635 t629)) = some (r1, r2, r3) := H;replace A21 := am A21;have HC22 := am H;clear H;have p621 : 0 <= (x17_1 : Int) := of_decide_eq_true (by assumption);have q621 : x17_1 < (l0.length : Int) := of_decide_eq_true (by assumption);obtain ⟨ad621, A621_0, c621_0, e621, hx621_0, hl621_0, hi621_0⟩ := at_T46 (Kd.V_reads' HO_15.out).2.2 x17_1 p621 q621;cases e621
         obtain ⟨ce621, hce621, hMe621, hcc621⟩ := Kd.V_get HO_15.out z46 x17_1 p621 (by exact q621);obtain ⟨ua621_0, uc621_0, rfl, ul621_0, ge621_0⟩ := k46_openF hMe621;have hv621_0 := hcc621 0 _ rfl;rw [Nat.add_zero, show (k46).sz = 1 from rfl, Nat.mul_one] at hv621_0;replace hv621_0 := Option.some.inj (hv621_0.symm.trans hx621_0)
         injection hv621_0 with hva_ hvn_ hvc_
         rw [hva_] at ge621_0;rw [hvc_] at ul621_0;have HL621_0 := am (show Kd.V k46 46 _ w.heap.size _ _ ((rd_T46 l0 x17_1).f0) from Kd.V_mk ul621_0 ge621_0);clear hva_ hvn_ hvc_ ge621_0 ul621_0;clear hcc621 hce621;have HR621_0 := am hi621_0;have HC621_0 := am hl621_0;clear hi621_0 hl621_0;replace p621 := eq_true p621;replace q621 := eq_true q621
         go_upto_if 58 with (first | ((with_reducible refine gate_callee (f := 50) rfl ?_); refine goesL_ (some 46) rfl rfl Try.func50 (by kernel_rfl) rfl #[.slice A621_0 ((rd_T46 l0 x17_1).f0).length c621_0, .pointer (some ⟨g, 0, none⟩), .int .i64 x2_1, .bool false] rfl (by (try simp only [mA, mB, mC]); rfl) ?_; (with_reducible refine (ih k1 (by have := HK1.out; omega) (fun k_ => ((P0_ k_ \/ w.heap.size <= k_) /\ k_ ≠ g)) _ _ ((rd_T46 l0 x17_1).f0) g x2000_1 x2_1 false t625 t628 t629 w0 _ ?side1 ?side2 ?side3 A15.out).mono ?_); (case side1 => repeat ((with_reducible exact HI1.out))); (case side2 => exact bs (IsS3.ge HI1.out) HB.out); (case side3 => exact Kd.V_mono (HL621_0.out) (fun k_ hk_ => ⟨hk_, hk_.2⟩)); rintro e w23 ⟨v626, rfl, ho0, hi, hb, hk⟩; refine ⟨_, rfl, ?_⟩; replace HO_0 := am (Kd.V_mono (Kd.V_keep (Kd.V_mono (ok := fun k_ => (((P0_ k_ \/ w.heap.size <= k_)) /\ k_ ≠ g)) (Kd.vm HO_0.out) (fun k_ hk_ => (⟨hk_, hk_.2⟩ : _ /\ k_ ≠ g))) hk (fun _ h => h.2)) (fun _ h => h.1));replace HO_15 := am (Kd.V_mono (Kd.V_keep (Kd.V_mono (ok := fun k_ => (((P0_ k_ \/ w.heap.size <= k_)) /\ k_ ≠ g)) (Kd.vm HO_15.out) (fun k_ hk_ => (⟨hk_, hk_.2⟩ : _ /\ k_ ≠ g))) hk (fun _ h => h.2)) (fun _ h => h.1));replace HL621_0 := am (Kd.V_mono (Kd.V_keep (Kd.V_mono (ok := fun k_ => (((P0_ k_ \/ w.heap.size <= k_)) /\ k_ ≠ g)) (Kd.vm HL621_0.out) (fun k_ hk_ => (⟨hk_, hk_.2⟩ : _ /\ k_ ≠ g))) hk (fun _ h => h.2)) (fun _ h => h.1));have HO627 := am (Kd.V_lower (Kd.V_mono (ok' := fun k_ => (P0_ k_ \/ w.heap.size <= k_) /\ k_ ≠ g) ho0 (fun k_ hk_ => ⟨Or.elim hk_ (fun hs_ => hs_.1) (fun hn_ => (.inr (Nat.le_trans (keep_size (w := w) (g := g) (row := none) (km HK.out)) hn_))), Or.elim hk_ (fun hs_ => hs_.2) (fun hn_ => (IsS3.fresh (by repeat ((with_reducible exact HI1.out))) k_ hn_))⟩)) (keep_size (w := w) (g := g) (row := none) (km HK.out)));replace HK := am (KeepBut.trans (km HK.out) hk (.inl rfl));replace HB := am (hb);replace HI1 := am (hi); clear hb; clear hk; clear hi; clear ho0; obtain ⟨HGz24, hgz24⟩ := HI1.out; have hcz24_0 := cellS3_0 HGz24; have hfz24_0 := blk_frozen HGz24 0; clear HGz24 hgz24; have q25 : (x17_1 : Int) <= ((l0.length : Int) : Int) := of_decide_eq_true (by assumption); obtain ⟨i025, hi025, _, hsz25, _⟩ := info_parts info46; have hroom25 : l0.length <= c0 := (Kd.V_reads' HO_0.out).2.1; have hC25 : Kd.F k46 _ _ (some ad621) l0.length l0 := (Kd.V_at (base := w.heap.size) HO_0.out).2.2; have hcut25 := cut_to (P := Try.prog) 46 46 .i64 Try.underlying46 hi025 (some ad621) l0.length c0 x17_1 (of_decide_eq_true (by assumption)) q25 hroom25; have hr25 := Kd.F_take (m := (x17_1 : Int).toNat) hC25 (by omega); have hy25 : y630.length = (x17_1 : Int).toNat := (by rw [hy630.out, List.length_take]; omega); rw [<- hy630.out] at hr25; rw [<- hy25] at hcut25; have HO634 := am (show Kd.V k46 46 _ w.heap.size _ (.slice (some ad621) y630.length c0) y630 from Kd.V_mk (by omega) hr25); have HC634 := am (show y630.length <= c0 from by omega); clear hr25 hC25 hroom25 hi025 hsz25; have KY25 := am hy25; clear hy25; replace q25 := eq_true q25) | ((with_reducible refine gate_callee (f := 79) rfl ?_); refine goesL_ (some 56) rfl rfl Try.func79 (by kernel_rfl) rfl #[.slice (some ad621) y630.length c0] rfl (by (try simp only [mA, mB, mC]); rfl) ?_; (with_reducible refine (impl_hydra_79.calls (fun k_ => ((P0_ k_ \/ w.heap.size <= k_) /\ k_ ≠ g)) _ _ y630 t635 _ ?side1 A21.out).mono ?_); (case side1 => exact HO634.out); rintro e w26 ⟨v636, rfl, ho0, hb⟩; refine ⟨_, rfl, ?_⟩; replace HO_0 := am (Kd.V_elder' (Kd.vm HO_0.out) (Kd.N_base ho0) hb);replace HO_15 := am (Kd.V_elder' (Kd.vm HO_15.out) (Kd.N_base ho0) hb);replace HL621_0 := am (Kd.V_elder' (Kd.vm HL621_0.out) (Kd.N_base ho0) hb);replace HO627 := am (Kd.V_elder' (Kd.vm HO627.out) (Kd.N_base ho0) hb);replace HO634 := am (Kd.V_elder' (Kd.vm HO634.out) (Kd.N_base ho0) hb);have HO637 := am (Kd.N_lower (Kd.N_mono (ok' := fun k_ => (P0_ k_ \/ w.heap.size <= k_) /\ k_ ≠ g) ho0 (fun k_ hk_ => ⟨Or.elim hk_ (fun hs_ => hs_.1) (fun hn_ => (.inr (Nat.le_trans (keep_size (w := w) (g := g) (row := none) (km HK.out)) hn_))), Or.elim hk_ (fun hs_ => hs_.2) (fun hn_ => (IsS3.fresh (by repeat ((with_reducible exact HI1.out))) k_ hn_))⟩)) (keep_size (w := w) (g := g) (row := none) (km HK.out)));replace HK := am (KeepBut.trans (km HK.out) (KeepBut.of_below hb g none) (.inl rfl));replace HB := am (below_step (bs (IsS3.ge HI1.out) HB.out) hb);replace HI1 := am (IsS3.below (by repeat ((with_reducible exact HI1.out))) hb); clear hb;clear ho0))
         go_cut [2] (fun v2 wc => ∃ (kq : Nat) (x2_21 : Int), v2 = .int .i64 x2_21 /\ Aside0 (impl_hydra_cut.j1 kq l0 x2_21 x17_1 t625 t635 t629 = some (r1, r2, r3)) /\ Aside0 (kq <= k1) /\ Aside0 (Kd.V k46 46 wc w.heap.size (fun k_ => (P0_ k_ \/ w.heap.size <= k_) /\ some k_ ≠ v636.ownBlock /\ k_ ≠ g) (.slice (some ad621) l0.length c0) l0) /\ Aside0 (Kd.V k46 46 wc w.heap.size (fun k_ => (P0_ k_ \/ w.heap.size <= k_) /\ some k_ ≠ v636.ownBlock /\ k_ ≠ g) v626 t625) /\ Aside0 (Kd.N k46 46 wc w.heap.size (fun k_ => (P0_ k_ \/ w.heap.size <= k_) /\ k_ ≠ g) v636 t635) /\ Aside0 (IsS3 w0 wc g t629) /\ Aside0 (KeepBut w wc g none) /\ Aside0 (Below w0.heap.size w0 wc))
         case first =>
          have H := HC22.out;clear HC22;by_cases c27 : t628 = true
          ·
           subst c27
           have H1 : (impl_hydra_cut.j1 k1 l0 x2_1 x17_1 t625 t635 t629) = some (r1, r2, r3) := by rw [if_pos rfl] at H; exact H
           clear H;have H := H1;clear H1;have H' := am H;clear H;go_wp2;go_meet
           case rel => exact ⟨_, (x2_1), (by rfl), H', ⟨by have := HK1.out; omega⟩, ⟨Kd.vm (Kd.V_mono HO_0.out (fun _ hk => ⟨hk.1.1, ⟨hk.2, hk.1.2⟩⟩))⟩, ⟨Kd.vm (Kd.V_mono HO627.out (fun _ hk => ⟨hk.1.1, ⟨hk.2, hk.1.2⟩⟩))⟩, ⟨Kd.nm HO637.out⟩, ⟨by repeat ((with_reducible exact HI1.out))⟩, ⟨km HK.out⟩, ⟨bs (IsS3.ge HI1.out) HB.out⟩⟩
          ·
           replace c27 := Bool.eq_false_iff.mpr c27;subst c27
           have H1 : (impl_hydra_cut.j1 k1 l0 1 x17_1 t625 t635 t629) = some (r1, r2, r3) := by rw [if_neg (show ¬ (false = true) by decide)] at H; exact H
           clear H;have H := H1;clear H1;have H' := am H;clear H;go_wp2;go_meet
           case rel => exact ⟨_, (1), (by rfl), H', ⟨by have := HK1.out; omega⟩, ⟨Kd.vm (Kd.V_mono HO_0.out (fun _ hk => ⟨hk.1.1, ⟨hk.2, hk.1.2⟩⟩))⟩, ⟨Kd.vm (Kd.V_mono HO627.out (fun _ hk => ⟨hk.1.1, ⟨hk.2, hk.1.2⟩⟩))⟩, ⟨Kd.nm HO637.out⟩, ⟨by repeat ((with_reducible exact HI1.out))⟩, ⟨km HK.out⟩, ⟨bs (IsS3.ge HI1.out) HB.out⟩⟩
         case rest =>
          clear HC22;clear c5b0;clear c6b0;clear c7b0;clear c8;clear c8b0;clear c8b1;clear c8b2;clear c16b0;clear c19b0;clear c20b0;clear c20b1;clear q25;clear hcz24_0;clear hfz24_0;clear hx621_0;clear p621;clear q621;obtain ⟨kq, x2_21, rfl, HA, HJ21, HO_0, HO_12, HO_14, HI1, HK, HB⟩ := hcut
          cases kq with
          | zero => exact absurd HA.out (by simp [impl_hydra_cut.j1])
          | succ kj21 =>
           have H := HA.out;clear HA;simp only [impl_hydra_cut.j1] at H;have H' := am H;clear H;go_wp2
           go_loopg [14, 60] kj21 (fun kq v14 v60 w' => ∃ (x14_3 : List (S46)) (x60_3 : Int), v60 = .int .i64 x60_3 /\ Aside0 (impl_hydra_cut.l1 kq l0 x17_1 t625 x14_3 x2_21 x60_3 t629 = some (r1, r2, r3)) /\ Aside0 (kq <= kj21) /\ Aside0 (Kd.V k46 46 w' w.heap.size (fun k_ => (P0_ k_ \/ w.heap.size <= k_) /\ some k_ ≠ v14.ownBlock /\ k_ ≠ g) (.slice (some ad621) l0.length c0) l0) /\ Aside0 (Kd.V k46 46 w' w.heap.size (fun k_ => (P0_ k_ \/ w.heap.size <= k_) /\ some k_ ≠ v14.ownBlock /\ k_ ≠ g) v626 t625) /\ Aside0 (Kd.N k46 46 w' w.heap.size (fun k_ => (P0_ k_ \/ w.heap.size <= k_) /\ k_ ≠ g) v14 x14_3) /\ Aside0 (IsS3 w0 w' g t629) /\ Aside0 (KeepBut w w' g none) /\ Aside0 (Below w0.heap.size w0 w'))
           case atStart => exact ⟨(t635), (0), (by rfl), H', ⟨Nat.le_refl _⟩, ⟨Kd.vm HO_0.out⟩, ⟨Kd.vm HO_12.out⟩, ⟨Kd.nm HO_14.out⟩, ⟨by repeat ((with_reducible exact HI1.out))⟩, ⟨km HK.out⟩, ⟨bs (IsS3.ge HI1.out) HB.out⟩⟩
           case round =>
            clear H';clear HO_0;clear HO_12;clear HO_14;clear HK;clear HB;obtain ⟨x14_3, x60_3, rfl, HA, HK3, HO_0, HO_12, HO_14, HI1, HK, HB⟩ := hrel
            cases gk with
            | zero => exact absurd HA.out (by simp [impl_hydra_cut.l1])
            | succ k3 =>
             have H := HA.out;clear HA;simp only [impl_hydra_cut.l1] at H;by_cases c28 : x60_3 < x2_21
             ·
              rw [if_pos c28] at H;have c28b0 : decide (x60_3 < x2_21) = true := decide_eq_true c28;clear c28;by_cases c29 : x14_3.length < 5864062014805
              ·
               rw [if_pos c29] at H;have LMc29 := am c29;clear c29
               obtain ⟨y638, hy638⟩ : ∃ y_ : List (S46), y_ = (x14_3 ++ [(⟨t625⟩ : S46)]) := ⟨_, rfl⟩
               replace H : (impl_hydra_cut.l1 k3 l0 x17_1 t625 y638 x2_21 (wrap64 (x60_3 + 1)) t629) = some (r1, r2, r3) := by (rw [hy638]; with_reducible exact H)
               replace hy638 := am hy638;have H' := am H;clear H;obtain ⟨Ao31, co31, eo31⟩ := Kd.V_slice HO_12.out;subst eo31;go_wp2_with (((with_reducible refine gate_builtin (b := .append) (xs := #[.tmp 62, .tmp 64]) rfl ?_); at_builtin; refine Kd.N_append k46 w.heap.size rfl (.tmp 62) (.tmp 64) 46 46 (.slice none 0 0) 24 rfl Try.underlying46 info46 rfl (by decide) (by omega) u14 x14_3 (⟨t625⟩ : S46) [.slice Ao31 t625.length co31] (fun k_ => (P0_ k_ \/ w.heap.size <= k_) /\ k_ ≠ g) (fun k_ => ((fun k_ => (P0_ k_ \/ w.heap.size <= k_) /\ k_ ≠ g)) k_ /\ some k_ ≠ (u14 : Value).ownBlock) rfl rfl ?aP (fun _ hk => hk) ?aF ?aO (Below.refl _ _) ?aS ?aL ?_; (case aP => exact (k46_mkF _ _ (⟨t625⟩ : S46) (Kd.V_reads' (Kd.V_mono (ok' := (fun k_ => ((fun k_ => (P0_ k_ \/ w.heap.size <= k_) /\ k_ ≠ g)) k_ /\ some k_ ≠ (u14 : Value).ownBlock)) (HO_12.out) (fun k_ hk => ⟨⟨hk.1, hk.2.2⟩, hk.2.1⟩))).2.1 (Kd.V_F (Kd.V_mono (ok' := (fun k_ => ((fun k_ => (P0_ k_ \/ w.heap.size <= k_) /\ k_ ≠ g)) k_ /\ some k_ ≠ (u14 : Value).ownBlock)) (HO_12.out) (fun k_ hk => ⟨⟨hk.1, hk.2.2⟩, hk.2.1⟩))))); (case aF => exact (fun k_ hk => ⟨(.inr (Nat.le_trans (keep_size (w := w) (g := g) (row := none) (km HK.out)) hk)), IsS3.fresh (by repeat ((with_reducible exact HI1.out))) k_ hk⟩)); (case aO => exact (Kd.nm HO_14.out)); (case aS => exact (keep_size (w := w) (g := g) (row := none) (km HK.out))); (case aL => have := LMc29.out; omega); intro v639 w30 ho hb hg hat; rw [<- hy638.out] at ho; replace HO_0 := am (Kd.V_afterv (ok := (fun k_ => (P0_ k_ \/ w.heap.size <= k_) /\ k_ ≠ g)) (Kd.vm (Kd.V_mono HO_0.out (fun _ hk => ⟨⟨hk.1, hk.2.2⟩, hk.2.1⟩))) hg hat);replace HO_12 := am (Kd.V_afterv (ok := (fun k_ => (P0_ k_ \/ w.heap.size <= k_) /\ k_ ≠ g)) (Kd.vm (Kd.V_mono HO_12.out (fun _ hk => ⟨⟨hk.1, hk.2.2⟩, hk.2.1⟩))) hg hat);replace HB := am (below_weaken (bs (IsS3.ge HI1.out) HB.out) HL.out hb);replace HI1 := am (IsS3.grown (by repeat ((with_reducible exact HI1.out))) hg (IsS3.own_neN HI1.out HO_14.out (by decide)));replace HK := am (KeepBut.trans (km HK.out) (KeepBut.of_grown hg g) (Kd.N_base2 HO_14.out));have HO640 := am (ho);clear HO_14; clear ho hb hg hat))
               go_roundg k3
               case measure => have := HK1.out; have := HJ21.out; have := HK3.out; omega
               case rel => exact ⟨(y638), (wrap64 (x60_3 + 1)), (by rfl), H', ⟨by have := HK1.out; have := HJ21.out; have := HK3.out; omega⟩, ⟨Kd.vm (Kd.V_mono HO_0.out (fun _ hk => ⟨hk.1.1, ⟨hk.2, hk.1.2⟩⟩))⟩, ⟨Kd.vm (Kd.V_mono HO_12.out (fun _ hk => ⟨hk.1.1, ⟨hk.2, hk.1.2⟩⟩))⟩, ⟨Kd.nm HO640.out⟩, ⟨by repeat ((with_reducible exact HI1.out))⟩, ⟨km HK.out⟩, ⟨bs (IsS3.ge HI1.out) HB.out⟩⟩
              · rw [if_neg c29] at H;exact absurd H (by simp)
             ·
              rw [if_neg c28] at H;have c28b0 : decide (x60_3 < x2_21) = false := decide_eq_false c28;clear c28
              obtain ⟨ji32, hji32⟩ : ∃ j_ : Int, (wrap64 (x17_1 + 1)) = j_ := ⟨_, rfl⟩
              replace H : (if 0 <= (ji32) then (if (ji32) <= (l0.length : Int) then ((some (l0.drop ((ji32) : Int).toNat : List (S46))).bind fun y641 => (if x14_3.length + y641.length < 5864062014805 then (some ((x14_3 ++ y641), false, t629)) else (none))) else (none)) else (none)) = some (r1, r2, r3) := by (rw [hji32] at H; exact H)
              have hji32w : (IntKind.i64.wrap (x17_1 + 1)) = ji32 := (i64_w _).trans hji32;by_cases c33 : 0 <= (ji32)
              ·
               rw [if_pos c33] at H;have c33b0 := eq_true c33;have c33b1 : decide (0 <= (ji32)) = true := decide_eq_true c33;clear c33;by_cases c34 : (ji32) <= (l0.length : Int)
               ·
                rw [if_pos c34] at H;have c34b0 := eq_true c34;have c34b1 : decide ((ji32) <= (l0.length : Int)) = true := decide_eq_true c34;clear c34
                obtain ⟨y641, hy641⟩ : ∃ y_ : List (S46), y_ = (l0.drop ((ji32) : Int).toNat) := ⟨_, rfl⟩
                replace H : (if x14_3.length + y641.length < 5864062014805 then (some ((x14_3 ++ y641), false, t629)) else (none)) = some (r1, r2, r3) := by (rw [hy641]; exact H)
                replace hy641 := am hy641;by_cases c35 : x14_3.length + y641.length < 5864062014805
                ·
                 rw [if_pos c35] at H;have LMc35 := am c35;clear c35
                 obtain ⟨y646, hy646⟩ : ∃ y_ : List (S46), y_ = (x14_3 ++ y641) := ⟨_, rfl⟩
                 replace H : (some (y646, false, t629)) = some (r1, r2, r3) := by (rw [hy646]; with_reducible exact H)
                 replace hy646 := am hy646;simp only [Option.some.injEq, Prod.mk.injEq] at H;obtain ⟨rfl, rfl, rfl⟩ := H;have q36 : ((ji32) : Int) <= ((l0.length : Int) : Int) := of_decide_eq_true (by assumption);obtain ⟨i036, hi036, _, hsz36, _⟩ := info_parts info46;have hroom36 : l0.length <= c0 := (Kd.V_reads' HO_0.out).2.1;have hC36 : Kd.F k46 _ _ (some ad621) l0.length l0 := (Kd.V_at (base := w.heap.size) HO_0.out).2.2;have q036 : (0 : Int) <= ((ji32) : Int) := of_decide_eq_true (by assumption);have hcut36 := cut_from (P := Try.prog) 46 46 .i64 Try.underlying46 hi036 1 hsz36 (some ad621) l0.length c0 (ji32) q036 q36;have hr36 := Kd.F_cut (m := ((ji32) : Int).toNat) (c := c0) hC36 (by omega) hroom36
                 obtain ⟨A36, hA36⟩ : ∃ A_, A_ = (if c0 = ((ji32) : Int).toNat then (some ad621) else ((some ad621) : Option Addr).map (·.add (((ji32) : Int).toNat * 1))) := ⟨_, rfl⟩
                 obtain ⟨c36, hc36⟩ : ∃ c_, c_ = c0 - ((ji32) : Int).toNat := ⟨_, rfl⟩
                 have hy36 : y641.length = l0.length - ((ji32) : Int).toNat := (by rw [hy641.out, List.length_drop] <;> omega);rw [show (l0).drop ((ji32) : Int).toNat = y641 from hy641.out.symm] at hr36;replace hr36 : Kd.F k46 _ _ A36 y641.length y641 := (by rw [hA36]; exact hr36);rw [<- hy36, <- hA36, <- hc36] at hcut36;have HO645 := am (show Kd.V k46 46 _ w.heap.size _ (.slice A36 y641.length c36) y641 from Kd.V_mk (by rw [hy36, hc36]; exact Nat.sub_le_sub_right hroom36 _) hr36);have HC645 := am (show y641.length <= c36 from by rw [hy36, hc36]; exact Nat.sub_le_sub_right hroom36 _);clear hr36 hC36 hroom36 hi036 hsz36 hc36;have KY36 := am hy36;have KA36 := am hA36;clear hy36 hA36;replace q36 := eq_true q36;go_wp2_with (((with_reducible refine gate_builtin (b := .append) (xs := #[.tmp 67, .tmp 71]) rfl ?_); at_builtin; refine Kd.N_append_rows k46 w.heap.size rfl (.tmp 67) (.tmp 71) 46 46 (.slice none 0 0) 24 rfl Try.underlying46 info46 rfl (by decide) (by omega) u14 x14_3 y641 _ _ _ (fun k_ => (P0_ k_ \/ w.heap.size <= k_) /\ k_ ≠ g) (fun k_ => ((fun k_ => (P0_ k_ \/ w.heap.size <= k_) /\ k_ ≠ g)) k_ /\ some k_ ≠ (u14 : Value).ownBlock) rfl rfl ?aO ?aR (fun _ hk => hk) ?aF (Below.refl _ _) ?aS ?aL ?_; (case aR => exact (by skip; exact Kd.V_F (Kd.V_mono (ok' := (fun k_ => ((fun k_ => (P0_ k_ \/ w.heap.size <= k_) /\ k_ ≠ g)) k_ /\ some k_ ≠ (u14 : Value).ownBlock)) (HO645.out) (fun k_ hk => ⟨⟨hk.1, hk.2.2⟩, hk.2.1⟩)))); (case aF => exact (fun k_ hk => ⟨(.inr (Nat.le_trans (keep_size (w := w) (g := g) (row := none) (km HK.out)) hk)), IsS3.fresh (by repeat ((with_reducible exact HI1.out))) k_ hk⟩)); (case aO => exact (Kd.nm HO_14.out)); (case aS => exact (keep_size (w := w) (g := g) (row := none) (km HK.out))); (case aL => have := LMc35.out; omega); intro v647 w37 ho hb hg hat; rw [<- hy646.out] at ho; replace HO_0 := am (Kd.V_afterv (ok := (fun k_ => (P0_ k_ \/ w.heap.size <= k_) /\ k_ ≠ g)) (Kd.vm (Kd.V_mono HO_0.out (fun _ hk => ⟨⟨hk.1, hk.2.2⟩, hk.2.1⟩))) hg hat);replace HO_12 := am (Kd.V_afterv (ok := (fun k_ => (P0_ k_ \/ w.heap.size <= k_) /\ k_ ≠ g)) (Kd.vm (Kd.V_mono HO_12.out (fun _ hk => ⟨⟨hk.1, hk.2.2⟩, hk.2.1⟩))) hg hat);replace HO645 := am (Kd.V_afterv (ok := (fun k_ => (P0_ k_ \/ w.heap.size <= k_) /\ k_ ≠ g)) (Kd.vm (Kd.V_mono HO645.out (fun _ hk => ⟨⟨hk.1, hk.2.2⟩, hk.2.1⟩))) hg hat);replace HB := am (below_weaken (bs (IsS3.ge HI1.out) HB.out) HL.out hb);replace HI1 := am (IsS3.grown (by repeat ((with_reducible exact HI1.out))) hg (IsS3.own_neN HI1.out HO_14.out (by decide)));replace HK := am (KeepBut.trans (km HK.out) (KeepBut.of_grown hg g) (Kd.N_base2 HO_14.out));have HO648 := am (ho);clear HO_14; clear ho hb hg hat));go_ret2;exact ⟨_, by rfl, Kd.N_V (Kd.nm (Kd.N_mono HO648.out (fun _ hk => hk.1))), by repeat ((with_reducible exact HI1.out)), bs (IsS3.ge HI1.out) HB.out, km HK.out⟩
                · rw [if_neg c35] at H;exact absurd H (by simp)
               · rw [if_neg c34] at H;exact absurd H (by simp)
              · rw [if_neg c33] at H;exact absurd H (by simp)
        · rw [if_neg c20] at H;exact absurd H (by simp)
     · rw [if_neg c7] at H;exact absurd H (by simp)
    · rw [if_neg c6] at H;exact absurd H (by simp)
   · rw [if_neg c5] at H;have c5b0 : decide (x17_1 < (l0.length : Int)) = false := decide_eq_false c5;clear c5;simp only [Option.some.injEq, Prod.mk.injEq] at H;obtain ⟨rfl, rfl, rfl⟩ := H;go_wp2;go_ret2;exact ⟨_, by rfl, Kd.vm (Kd.V_mono HO_0.out (fun _ hk => hk.1)), by repeat ((with_reducible exact HI1.out)), bs (IsS3.ge HI1.out) HB.out, km HK.out⟩

/-! ### impl_HydraCut: function 22 -/
def impl_HydraCut.f (k : Nat) (l0 : List Int) (a1 a2 : Int) : Option (List Int × Bool) := (impl_hydraOf.f k l0).bind fun p => if p.2 = true then (if a2 < 1 then some ([], false) else if a2 > 9 then some ([], false) else if a1 < 0 then some ([], false) else ((impl_hydra_heads.f k p.1).bind fun n => if a1 >= n then some ([], false) else ((impl_hydra_cut.f k p.1 a1 a2 true).bind fun c => impl_grown.f k c.1))) else some ([], false)
theorem impl_HydraCut.mono : ∀ a0 a1 a2 k, LeO (impl_HydraCut.f k a0 a1 a2) (impl_HydraCut.f (k + 1) a0 a1 a2) := by
 intro a0 a1 a2 k;unfold impl_HydraCut.f
 repeat' with_reducible first | exact impl_hydraOf.mono _ _ | exact impl_hydra_heads.mono _ _ | exact impl_hydra_cut.mono _ _ _ _ _ | exact impl_grown.mono _ _ | exact LeO.refl _ | refine LeO.ite ?_ ?_ | refine LeO.bind ?_ (fun _ => ?_)
set_option maxHeartbeats 8000000 in
set_option maxRecDepth 100000 in
theorem impl_HydraCut.calls (k : Nat) (A0 : Option Addr) (c0 : Nat) (l0 : List Int) (a1 : Int) (a2 : Int) (r1 : List Int) (r2 : Bool) (w : World) (hr0 : Kd.C (Kd.int .i64) w A0 l0.length l0) (hc0 : l0.length <= c0) (h : impl_HydraCut.f k l0 a1 a2 = some (r1, r2)) :
  Calls Try.prog 22 #[.slice A0 l0.length c0, .int .i64 a1, .int .i64 a2] w fun e w' => ∃ v0_ : Value, e = .returned (.tuple #[v0_, .bool r2]) /\ Kd.Y (Kd.int .i64) 3 w' w.heap.size (fun _ => True) v0_ r1 /\ Below w.heap.size w w' := by
 have HR0 := am hr0;have HC0 := am hc0;clear hr0 hc0;have HB := am (Below.refl w.heap.size w);obtain ⟨⟨x, ok⟩, v0, h⟩ := Option.bind_eq_some_iff.mp h;have V0 := am v0;clear v0
 cases ok with
 | false =>
  rw [if_neg (by simp)] at h
  injection h with h
  injection h with h1 h2
  subst h1;subst h2;go_enter Try.func22, Try.ntmps22;go_wp2_with (((with_reducible refine gate_callee (f := 43) rfl ?_); refine goesL_ (some 14) rfl rfl Try.func43 (by kernel_rfl) rfl #[.slice A0 l0.length c0] rfl (by (try simp only [mA, mB, mC]); rfl) ?_; (with_reducible refine (impl_hydraOf.calls k _ _ l0 x false _ ?side1 ?side2 V0.out).mono ?_); (case side1 => exact Kd.C_below HR0.out (bm HB.out)); (case side2 => exact HC0.out); rintro e w8 ⟨vx, rfl, hox, hb⟩; refine ⟨_, rfl, ?_⟩; have HX := am (Kd.R_lower hox (below_size (bm HB.out))); have HF_ := am hox; have HB_ := am (below_step (bm HB.out) hb); have HI_ : Aside0 (w8.heap[w.heap.size]? = some (.cells #[.int .i64 a1] 3 (0, 0))) := ⟨(hb.block w.heap.size (by simp)).trans (heap_alloc_new w _)⟩; clear HB hb hox; have HB := HB_; clear HB_; obtain ⟨Ax, cx, ex⟩ := Kd.R_slice HX.out; subst ex));go_region;go_wp2;go_ret2;exact ⟨_, by rfl, Kd.Y_nil _ _ _ _ _, bm HB.out⟩
 | true =>
  rw [if_pos rfl] at h;by_cases c1 : a2 < 1
  ·
   rw [if_pos c1] at h;have c1b : decide (a2 < 1) = true := decide_eq_true c1;clear c1
   injection h with h
   injection h with h1 h2
   subst h1;subst h2;go_enter Try.func22, Try.ntmps22;go_wp2_with (((with_reducible refine gate_callee (f := 43) rfl ?_); refine goesL_ (some 14) rfl rfl Try.func43 (by kernel_rfl) rfl #[.slice A0 l0.length c0] rfl (by (try simp only [mA, mB, mC]); rfl) ?_; (with_reducible refine (impl_hydraOf.calls k _ _ l0 x true _ ?side1 ?side2 V0.out).mono ?_); (case side1 => exact Kd.C_below HR0.out (bm HB.out)); (case side2 => exact HC0.out); rintro e w8 ⟨vx, rfl, hox, hb⟩; refine ⟨_, rfl, ?_⟩; have HX := am (Kd.R_lower hox (below_size (bm HB.out))); have HF_ := am hox; have HB_ := am (below_step (bm HB.out) hb); have HI_ : Aside0 (w8.heap[w.heap.size]? = some (.cells #[.int .i64 a1] 3 (0, 0))) := ⟨(hb.block w.heap.size (by simp)).trans (heap_alloc_new w _)⟩; clear HB hb hox; have HB := HB_; clear HB_; obtain ⟨Ax, cx, ex⟩ := Kd.R_slice HX.out; subst ex));go_region;go_wp2;go_ret2;exact ⟨_, by rfl, Kd.Y_nil _ _ _ _ _, bm HB.out⟩
  ·
   rw [if_neg c1] at h;have c1b : decide (a2 < 1) = false := decide_eq_false c1;clear c1;by_cases c2 : a2 > 9
   ·
    rw [if_pos c2] at h;have c2b : decide (a2 > 9) = true := decide_eq_true c2;clear c2
    injection h with h
    injection h with h1 h2
    subst h1;subst h2;go_enter Try.func22, Try.ntmps22;go_wp2_with (((with_reducible refine gate_callee (f := 43) rfl ?_); refine goesL_ (some 14) rfl rfl Try.func43 (by kernel_rfl) rfl #[.slice A0 l0.length c0] rfl (by (try simp only [mA, mB, mC]); rfl) ?_; (with_reducible refine (impl_hydraOf.calls k _ _ l0 x true _ ?side1 ?side2 V0.out).mono ?_); (case side1 => exact Kd.C_below HR0.out (bm HB.out)); (case side2 => exact HC0.out); rintro e w8 ⟨vx, rfl, hox, hb⟩; refine ⟨_, rfl, ?_⟩; have HX := am (Kd.R_lower hox (below_size (bm HB.out))); have HF_ := am hox; have HB_ := am (below_step (bm HB.out) hb); have HI_ : Aside0 (w8.heap[w.heap.size]? = some (.cells #[.int .i64 a1] 3 (0, 0))) := ⟨(hb.block w.heap.size (by simp)).trans (heap_alloc_new w _)⟩; clear HB hb hox; have HB := HB_; clear HB_; obtain ⟨Ax, cx, ex⟩ := Kd.R_slice HX.out; subst ex));go_region;go_wp2;go_ret2;exact ⟨_, by rfl, Kd.Y_nil _ _ _ _ _, bm HB.out⟩
   ·
    rw [if_neg c2] at h;have c2b : decide (a2 > 9) = false := decide_eq_false c2;clear c2;by_cases c3 : a1 < 0
    ·
     rw [if_pos c3] at h;have c3b : decide (a1 < 0) = true := decide_eq_true c3;clear c3
     injection h with h
     injection h with h1 h2
     subst h1;subst h2;go_enter Try.func22, Try.ntmps22;go_wp2_with (((with_reducible refine gate_callee (f := 43) rfl ?_); refine goesL_ (some 14) rfl rfl Try.func43 (by kernel_rfl) rfl #[.slice A0 l0.length c0] rfl (by (try simp only [mA, mB, mC]); rfl) ?_; (with_reducible refine (impl_hydraOf.calls k _ _ l0 x true _ ?side1 ?side2 V0.out).mono ?_); (case side1 => exact Kd.C_below HR0.out (bm HB.out)); (case side2 => exact HC0.out); rintro e w8 ⟨vx, rfl, hox, hb⟩; refine ⟨_, rfl, ?_⟩; have HX := am (Kd.R_lower hox (below_size (bm HB.out))); have HF_ := am hox; have HB_ := am (below_step (bm HB.out) hb); have HI_ : Aside0 (w8.heap[w.heap.size]? = some (.cells #[.int .i64 a1] 3 (0, 0))) := ⟨(hb.block w.heap.size (by simp)).trans (heap_alloc_new w _)⟩; clear HB hb hox; have HB := HB_; clear HB_; obtain ⟨Ax, cx, ex⟩ := Kd.R_slice HX.out; subst ex));have hcI : w8.cell? ⟨w.heap.size, 0, none⟩ = some (.int .i64 a1) := (blk_cell HI_.out 0).trans rfl
     go_region
     go_wp2;go_ret2;exact ⟨_, by rfl, Kd.Y_nil _ _ _ _ _, bm HB.out⟩
    ·
     rw [if_neg c3] at h;have c3b : decide (a1 < 0) = false := decide_eq_false c3;clear c3;obtain ⟨n, v1, h⟩ := Option.bind_eq_some_iff.mp h;have V1 := am v1;clear v1;by_cases c4 : a1 >= n
     ·
      rw [if_pos c4] at h;have c4b : decide (a1 >= n) = true := decide_eq_true c4;clear c4
      injection h with h
      injection h with h1 h2
      subst h1;subst h2;go_enter Try.func22, Try.ntmps22;go_wp2_with (((with_reducible refine gate_callee (f := 43) rfl ?_); refine goesL_ (some 14) rfl rfl Try.func43 (by kernel_rfl) rfl #[.slice A0 l0.length c0] rfl (by (try simp only [mA, mB, mC]); rfl) ?_; (with_reducible refine (impl_hydraOf.calls k _ _ l0 x true _ ?side1 ?side2 V0.out).mono ?_); (case side1 => exact Kd.C_below HR0.out (bm HB.out)); (case side2 => exact HC0.out); rintro e w8 ⟨vx, rfl, hox, hb⟩; refine ⟨_, rfl, ?_⟩; have HX := am (Kd.R_lower hox (below_size (bm HB.out))); have HF_ := am hox; have HB_ := am (below_step (bm HB.out) hb); have HI_ : Aside0 (w8.heap[w.heap.size]? = some (.cells #[.int .i64 a1] 3 (0, 0))) := ⟨(hb.block w.heap.size (by simp)).trans (heap_alloc_new w _)⟩; clear HB hb hox; have HB := HB_; clear HB_; obtain ⟨Ax, cx, ex⟩ := Kd.R_slice HX.out; subst ex));have hcI : w8.cell? ⟨w.heap.size, 0, none⟩ = some (.int .i64 a1) := (blk_cell HI_.out 0).trans rfl;go_region_held3 (fun w' => w'.cell? ⟨w.heap.size, 0, none⟩ = some (.int .i64 a1)) (go_keep) ((go_at_call 49; (with_reducible refine (impl_hydra_heads.calls k _ _ x n _ ?side1 ?side2 V1.out).mono ?_); (case side1 => exact Kd.cm ((Kd.R_reads' HX.out).2.2)); (case side2 => exact (Kd.R_reads' HX.out).2.1); rintro e w' ⟨rfl, ⟨nd, rfl⟩⟩));go_wp2;go_ret2;exact ⟨_, by rfl, Kd.Y_nil _ _ _ _ _, bm HB.out⟩
     · rw [if_neg c4] at h;have c4b : decide (a1 >= n) = false := decide_eq_false c4;clear c4;obtain ⟨⟨y, own, s1⟩, v2, h⟩ := Option.bind_eq_some_iff.mp h;have V2 := am v2;have V3 := am h;clear v2 h;go_enter Try.func22, Try.ntmps22;go_wp2_with (((with_reducible refine gate_callee (f := 43) rfl ?_); refine goesL_ (some 14) rfl rfl Try.func43 (by kernel_rfl) rfl #[.slice A0 l0.length c0] rfl (by (try simp only [mA, mB, mC]); rfl) ?_; (with_reducible refine (impl_hydraOf.calls k _ _ l0 x true _ ?side1 ?side2 V0.out).mono ?_); (case side1 => exact Kd.C_below HR0.out (bm HB.out)); (case side2 => exact HC0.out); rintro e w8 ⟨vx, rfl, hox, hb⟩; refine ⟨_, rfl, ?_⟩; have HX := am (Kd.R_lower hox (below_size (bm HB.out))); have HF_ := am hox; have HB_ := am (below_step (bm HB.out) hb); have HI_ : Aside0 (w8.heap[w.heap.size]? = some (.cells #[.int .i64 a1] 3 (0, 0))) := ⟨(hb.block w.heap.size (by simp)).trans (heap_alloc_new w _)⟩; clear HB hb hox; have HB := HB_; clear HB_; obtain ⟨Ax, cx, ex⟩ := Kd.R_slice HX.out; subst ex));have hcI : w8.cell? ⟨w.heap.size, 0, none⟩ = some (.int .i64 a1) := (blk_cell HI_.out 0).trans rfl;go_region_held3 (fun w' => w'.cell? ⟨w.heap.size, 0, none⟩ = some (.int .i64 a1)) (go_keep) ((go_at_call 49; (with_reducible refine (impl_hydra_heads.calls k _ _ x n _ ?side1 ?side2 V1.out).mono ?_); (case side1 => exact Kd.cm ((Kd.R_reads' HX.out).2.2)); (case side2 => exact (Kd.R_reads' HX.out).2.1); rintro e w' ⟨rfl, ⟨nd, rfl⟩⟩));clear hcI;go_wp2_with (first | ((with_reducible refine gate_callee (f := 50) rfl ?_); refine goesL_ (some 40) rfl rfl Try.func50 (by kernel_rfl) rfl #[.slice Ax x.length cx, .pointer (some ⟨w.heap.size, 0, none⟩), .int .i64 a2, .bool true] rfl (by (try simp only [mA, mB, mC]); rfl) ?_; (with_reducible refine (impl_hydra_cut.calls k (fun _ => True) _ _ x w.heap.size a1 a2 true y own s1 w _ ?side1 ?side2 ?side3 V2.out).mono ?_); (case side1 => exact ⟨HI_.out, Nat.le_refl _⟩); (case side2 => exact (bm HB.out)); (case side3 => exact Kd.V_mono (Kd.V_drewN (Kd.R_V (IsS3.apart (w0 := w) (f0 := a1) ⟨HI_.out, Nat.le_refl _⟩ HX.out (by decide))) _) (fun k_ hk => hk)); rintro e w9 ⟨vy, rfl, hoy, hi, hb, hk⟩; refine ⟨_, rfl, ?_⟩; have HY := am hoy; have HB_ := am hb; clear HB hb hk hi hoy; have HB := HB_; clear HB_; obtain ⟨Ay, cy, ey⟩ := Kd.V_slice HY.out; subst ey) | ((with_reducible refine gate_callee (f := 39) rfl ?_); refine goesL_ (some 44) rfl rfl Try.func39 (by kernel_rfl) rfl #[.slice Ay y.length cy] rfl (by (try simp only [mA, mB, mC]); rfl) ?_; (with_reducible refine (impl_grown.calls k _ _ y r1 r2 _ ?side1 ?side2 V3.out).mono ?_); (case side1 => exact (Kd.V_reads' HY.out).2.2); (case side2 => exact (Kd.V_reads' HY.out).2.1); rintro e w10 ⟨v10, rfl, ho10, hb10⟩; refine ⟨_, rfl, ?_⟩; have HO := am (Kd.Y_lower ho10 (below_size (bm HB.out))); have HB_ := am (below_step (bm HB.out) hb10); clear HB hb10 ho10; have HB := HB_; clear HB_));go_ret2;exact ⟨_, by rfl, HO.out, HB.out⟩

/-! ### impl_HydraHeads: function 23 -/
def impl_HydraHeads.f (k : Nat) (l0 : List Int) : Option (Int) := (impl_hydraOf.f k l0).bind fun bt649 => (if bt649.2 = true then ((impl_hydra_heads.f k bt649.1).bind fun t653 => (some t653)) else (some (-1)))
theorem impl_HydraHeads.mono : ∀ a0 k, LeO (impl_HydraHeads.f k a0) (impl_HydraHeads.f (k + 1) a0) := by
 intro a0 k;unfold impl_HydraHeads.f
 repeat' with_reducible first | exact impl_hydraOf.mono _ _ | exact impl_hydra_heads.mono _ _ | exact LeO.refl _ | refine LeO.ite ?_ ?_ | refine LeO.bind ?_ (fun _ => ?_)
set_option maxHeartbeats 8000000 in
set_option maxRecDepth 100000 in
theorem impl_HydraHeads.calls (k : Nat) (A0 : Option Addr) (c0 : Nat) (l0 : List Int) (r : Int) (w : World) (hr0 : Kd.C (Kd.int .i64) w A0 l0.length l0) (hc0 : l0.length <= c0) (h : impl_HydraHeads.f k l0 = some r) :
  Calls Try.prog 23 #[.slice A0 l0.length c0] w fun e w' => e = .returned (.int .i64 r) /\ Below w.heap.size w w' := by
 have HR0 := am hr0;have HC0 := am hc0;clear hr0 hc0;have HB := am (Below.refl w.heap.size w);have H : ((impl_hydraOf.f k l0).bind fun bt649 => (if bt649.2 = true then ((impl_hydra_heads.f k bt649.1).bind fun t653 => (some t653)) else (some (-1)))) = some r := h;clear h;replace H := oE H;obtain ⟨⟨t649, t650⟩, A2, H⟩ := H;replace H : (if t650 = true then ((impl_hydra_heads.f k t649).bind fun t653 => (some t653)) else (some (-1))) = some r := H;replace A2 := am A2;by_cases c3 : t650 = true
 ·
  subst c3
  have H1 : ((impl_hydra_heads.f k t649).bind fun t653 => (some t653)) = some r := by rw [if_pos rfl] at H; exact H
  clear H;have H := H1;clear H1;replace H := oE H;obtain ⟨t653, A4, H⟩ := H;replace H : (some t653) = some r := H;replace A4 := am A4;obtain rfl := Option.some.inj H;go_enter Try.func23, Try.ntmps23;go_wp2_with (first | ((with_reducible refine gate_callee (f := 43) rfl ?_); refine goesL_ (some 7) rfl rfl Try.func43 (by kernel_rfl) rfl #[.slice A0 l0.length c0] rfl (by (try simp only [mA, mB, mC]); rfl) ?_; (with_reducible refine (impl_hydraOf.calls k _ _ l0 t649 true _ ?side1 ?side2 A2.out).mono ?_); (case side1 => exact Kd.cm HR0.out); (case side2 => exact HC0.out); rintro e w5 ⟨v651, rfl, ho0, hb⟩; refine ⟨_, rfl, ?_⟩; have HO652 := am (Kd.R_lower ho0 (below_size (bm HB.out)));replace HB := am (below_step (bm HB.out) hb); clear hb; clear ho0; obtain ⟨Ao6, co6, eo6⟩ := Kd.R_slice HO652.out; subst eo6) | ((with_reducible refine gate_callee (f := 49) rfl ?_); refine goesL_ (some 13) rfl rfl Try.func49 (by kernel_rfl) rfl #[.slice Ao6 t649.length co6] rfl (by (try simp only [mA, mB, mC]); rfl) ?_; (with_reducible refine (impl_hydra_heads.calls k _ _ t649 t653 _ ?side1 ?side2 A4.out).mono ?_); (case side1 => exact Kd.cm ((Kd.R_reads' HO652.out).2.2)); (case side2 => exact (Kd.R_reads' HO652.out).2.1); rintro e w' ⟨rfl, ⟨nd, rfl⟩⟩; refine ⟨_, rfl, ?_⟩));go_ret;exact ⟨by rfl, bm HB.out⟩
 ·
  replace c3 := Bool.eq_false_iff.mpr c3;subst c3
  have H1 : (some (-1)) = some r := by rw [if_neg (show ¬ (false = true) by decide)] at H; exact H
  clear H;have H := H1;clear H1;obtain rfl := Option.some.inj H;go_enter Try.func23, Try.ntmps23;go_wp2_with (((with_reducible refine gate_callee (f := 43) rfl ?_); refine goesL_ (some 7) rfl rfl Try.func43 (by kernel_rfl) rfl #[.slice A0 l0.length c0] rfl (by (try simp only [mA, mB, mC]); rfl) ?_; (with_reducible refine (impl_hydraOf.calls k _ _ l0 t649 false _ ?side1 ?side2 A2.out).mono ?_); (case side1 => exact Kd.cm HR0.out); (case side2 => exact HC0.out); rintro e w7 ⟨v651, rfl, ho0, hb⟩; refine ⟨_, rfl, ?_⟩; have HO652 := am (Kd.R_lower ho0 (below_size (bm HB.out)));replace HB := am (below_step (bm HB.out) hb); clear hb; clear ho0));go_ret;exact ⟨by rfl, bm HB.out⟩

/-! ### impl_kind: function 80 -/
def impl_kind.f (l0 : List (S72)) : Option (Int) := if (l0.length : Int) = 0 then (some 0) else (if 0 <= (wrap64 ((l0.length : Int) - 1)) then (if (wrap64 ((l0.length : Int) - 1)) < (l0.length : Int) then (if (((rd_T72 l0 (wrap64 ((l0.length : Int) - 1))).f1).length : Int) = 0 then (some 1) else (some 2)) else (none)) else (none))
set_option maxHeartbeats 8000000 in
set_option maxRecDepth 100000 in
theorem impl_kind.calls (A0 : Option Addr) (c0 : Nat) (l0 : List (S72)) (r : Int) (w : World) (hr0 : Kd.C k72 w A0 l0.length l0) (hc0 : l0.length <= c0) (h : impl_kind.f l0 = some r) :
  Calls Try.prog 80 #[.slice A0 l0.length c0] w fun e w' => e = .returned (.int .i64 r) /\ Drawn0 w w' := by
 have HR0 := am hr0;have HC0 := am hc0;clear hr0 hc0;have H : (if (l0.length : Int) = 0 then (some 0) else (if 0 <= (wrap64 ((l0.length : Int) - 1)) then (if (wrap64 ((l0.length : Int) - 1)) < (l0.length : Int) then (if (((rd_T72 l0 (wrap64 ((l0.length : Int) - 1))).f1).length : Int) = 0 then (some 1) else (some 2)) else (none)) else (none))) = some r := h;clear h;by_cases c2 : (l0.length : Int) = 0
 · rw [if_pos c2] at H;have c2b0 : ((l0.length : Int) == 0) = true := beq_iff_eq.mpr c2;have c2b1 : ((l0.length : Int) != 0) = false := bne_eq_false_iff_eq.mpr c2;clear c2;obtain rfl := Option.some.inj H;go_enter Try.func80, Try.ntmps80;go_wp2;go_ret;exact ⟨by rfl, by repeat (exact Drawn0.refl _)⟩
 ·
  rw [if_neg c2] at H;have c2b0 : ((l0.length : Int) == 0) = false := beq_eq_false_iff_ne.mpr c2;have c2b1 : ((l0.length : Int) != 0) = true := bne_iff_ne.mpr c2
  have c2b2 : ¬ (l0 = []) := fun h_ => c2 (by rw [h_]; rfl)
  obtain ⟨ji3, hji3⟩ : ∃ j_ : Int, (wrap64 ((l0.length : Int) - 1)) = j_ := ⟨_, rfl⟩
  replace H : (if 0 <= (ji3) then (if (ji3) < (l0.length : Int) then (if (((rd_T72 l0 (ji3)).f1).length : Int) = 0 then (some 1) else (some 2)) else (none)) else (none)) = some r := by (rw [hji3] at H; exact H)
  have hji3w : (IntKind.i64.wrap ((l0.length : Int) - 1)) = ji3 := (i64_w _).trans hji3;by_cases c4 : 0 <= (ji3)
  ·
   rw [if_pos c4] at H;have c4b0 : decide (0 <= (ji3)) = true := decide_eq_true c4;clear c4;by_cases c5 : (ji3) < (l0.length : Int)
   ·
    rw [if_pos c5] at H;have c5b0 : decide ((ji3) < (l0.length : Int)) = true := decide_eq_true c5;clear c5;by_cases c6 : (((rd_T72 l0 (ji3)).f1).length : Int) = 0
    ·
     rw [if_pos c6] at H;have c6b0 : ((((rd_T72 l0 (ji3)).f1).length : Int) == 0) = true := beq_iff_eq.mpr c6;have c6b1 : ((((rd_T72 l0 (ji3)).f1).length : Int) != 0) = false := bne_eq_false_iff_eq.mpr c6;clear c6;obtain rfl := Option.some.inj H;have p654 : 0 <= ((ji3) : Int) := of_decide_eq_true (by assumption);have q654 : (ji3) < (l0.length : Int) := of_decide_eq_true (by assumption);obtain ⟨ad654, A654_1, c654_1, e654, hx654_0, hx654_1, hl654_1, hi654_1⟩ := at_T72 HR0.out (ji3) p654 q654;cases e654
     have HR654_1 := am hi654_1;have HC654_1 := am hl654_1;clear hi654_1 hl654_1;replace p654 := eq_true p654;replace q654 := eq_true q654;go_enter Try.func80, Try.ntmps80;go_wp2;go_ret;exact ⟨by rfl, by repeat (exact Drawn0.refl _)⟩
    ·
     rw [if_neg c6] at H;have c6b0 : ((((rd_T72 l0 (ji3)).f1).length : Int) == 0) = false := beq_eq_false_iff_ne.mpr c6;have c6b1 : ((((rd_T72 l0 (ji3)).f1).length : Int) != 0) = true := bne_iff_ne.mpr c6
     have c6b2 : ¬ (((rd_T72 l0 (ji3)).f1) = []) := fun h_ => c6 (by rw [h_]; rfl)
     obtain rfl := Option.some.inj H;have p654 : 0 <= ((ji3) : Int) := of_decide_eq_true (by assumption);have q654 : (ji3) < (l0.length : Int) := of_decide_eq_true (by assumption);obtain ⟨ad654, A654_1, c654_1, e654, hx654_0, hx654_1, hl654_1, hi654_1⟩ := at_T72 HR0.out (ji3) p654 q654;cases e654
     have HR654_1 := am hi654_1;have HC654_1 := am hl654_1;clear hi654_1 hl654_1;replace p654 := eq_true p654;replace q654 := eq_true q654;go_enter Try.func80, Try.ntmps80;go_wp2;go_ret;exact ⟨by rfl, by repeat (exact Drawn0.refl _)⟩
   · rw [if_neg c5] at H;exact absurd H (by simp)
  · rw [if_neg c4] at H;exact absurd H (by simp)

/-! ### impl_term_91: function 91 -/
def impl_term_91.f (l0 : List S72) : Option (List S72) := if l0.length < 4398046511104 then some l0 else none
theorem impl_term_91.ok {l0 : List S72} (h : l0.length < 4398046511104) : impl_term_91.f l0 = some l0 := if_pos h
set_option maxHeartbeats 8000000 in
set_option maxRecDepth 100000 in
theorem impl_term_91.calls (P0_ : Nat -> Prop) (A0 : Option Addr) (c0 : Nat) (l0 : List S72) (r : List S72) (w : World) (hs0 : Kd.V k72 72 w w.heap.size (fun k_ => P0_ k_) (.slice A0 l0.length c0) l0) (h : impl_term_91.f l0 = some r) :
  Calls Try.prog 91 #[.slice A0 l0.length c0] w fun e w' => ∃ v0_ : Value, e = .returned (v0_) /\ Kd.N k72 72 w' w.heap.size (fun k_ => (P0_ k_ \/ w.heap.size <= k_)) v0_ r /\ Below w.heap.size w w' := by
 have HO0 := am (show Kd.V k72 72 w w.heap.size (fun k_ => (P0_ k_ \/ w.heap.size <= k_)) (.slice A0 l0.length c0) l0 from Kd.V_mono hs0 (fun k_ hk => .inl hk));have HB := am (Below.refl w.heap.size w);unfold impl_term_91.f at h
 have LM := am (show l0.length < 4398046511104 by
  by_cases h' : l0.length < 4398046511104
  · exact h'
  · rw [if_neg h'] at h; cases h)
 rw [if_pos LM.out] at h;obtain rfl := Option.some.inj h;clear h
 cases hA : A0 with
 | none =>
  subst hA
  have hl0 : l0 = [] := by
   cases l0 with
   | nil => rfl
   | cons x xs => obtain ⟨ad, h, _⟩ := (Kd.F_now (Kd.V_F hs0)).2.2 (by simp); cases h
  subst hl0;clear hs0
  have NE := fun (W : World) => Lib.run_eql_slice_nil (P := Try.prog) W 40 72 none 0 c0 0 0 Try.underlying40
  go_enter Try.func91, Try.ntmps91;go_wp2;go_ret;exact ⟨_, rfl, Kd.N_nil _ _ _ _ _, HB.out⟩
 | some ad =>
  subst hA;clear hs0
  have NE := fun (W : World) => Lib.run_eql_slice_nil (P := Try.prog) W 40 72 (some ad) l0.length c0 0 0 Try.underlying40
  go_enter Try.func91, Try.ntmps91;go_wp2_with (first | ((with_reducible refine gate_dst (N := 5) rfl ?_); refine Kd.N_lit k72 _ 72 ?hg (N' := 5) ?hd (xs := ([] : List S72)) (inner := []) (ok := (fun k_ => (P0_ k_ \/ w.heap.size <= k_))) (okp := (fun k_ => (P0_ k_ \/ w.heap.size <= k_))) ?hr ?hp (fun _ hk => hk) ((show ∀ k_, w.heap.size <= k_ -> (fun k_ => (P0_ k_ \/ w.heap.size <= k_)) k_ from fun k_ hk => (.inr hk)) _ (Nat.le_refl _)) (Below.refl _ _) (Nat.le_refl _) (by simp) ?_; (case hd => rfl); (case hg => rfl); (case hr => (go_simp; done)); (case hp => exact (Reps.none _ _)); intro v134 w4 ho5 hb hg_ hnew_; clear hg_ hnew_; have n0_ := am (Kd.V_elder' HO0.out (Kd.N_base ho5) hb); have n1_ := am (below_step HB.out hb); clear HB HO0; have HO0 := n0_; have HO135 := am ho5; have HB := n1_; clear n0_ n1_; clear hb ho5) | ((with_reducible refine gate_builtin (b := .append) (xs := #[.tmp 5, .tmp 6]) rfl ?_); at_builtin; refine Kd.N_append_rows k72 (w0 := w) w.heap.size rfl (.tmp 5) (.tmp 6) 40 72 (.agg #[(.int .i64 0), (.slice none 0 0)]) 32 rfl Try.underlying40 info72 rfl (by decide) (by omega) v134 [] l0 _ _ _ (fun k_ => (P0_ k_ \/ w.heap.size <= k_)) (fun k_ => ((fun k_ => (P0_ k_ \/ w.heap.size <= k_))) k_ /\ some k_ ≠ v134.ownBlock) rfl rfl ?aO ?aR (fun _ hk => hk) ?aF ?aB ?aS ?aL ?_; (case aR => exact (Kd.V_F HO0.out)); (case aB => exact HB.out); (case aF => exact (fun k_ hk => (.inr (Nat.le_trans (below_size HB.out) hk)))); (case aO => exact HO135.out); (case aS => exact (below_size HB.out)); (case aL => have := LM.out; simp; omega); intro v120 w15 ho hb hg hat; have n0_ := am hb; have n1_ := am ho; clear HB HO135 HO0; have HB := n0_; have HO := n1_; clear n0_ n1_ ho hb hg hat));go_ret;exact ⟨_, rfl, by simpa using HO.out, HB.out⟩

end Go.Proofs.Ytahhdbjjfdjloaa.Jf

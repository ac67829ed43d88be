-- half
-- Written by a program of this session's (wip/mp) out of the translation, over the kit's print with changes.
import Derived.Test.YtahhdbjjfdjloaaJdx0
import Derived.Test.YtahhdbjjfdjloaaJdx4
import Derived.Test.YtahhdbjjfdjloaaJdx10
import Derived.Test.YtahhdbjjfdjloaaJdx13
import Derived.Test.YtahhdbjjfdjloaaJdx15
namespace Go.Proofs.Ytahhdbjjfdjloaa.Jd
open Go.RowKit Go.Proofs.YtahhdbjjfdjloaaW.PrintWords Go.Proofs.YtahhdbjjfdjloaaW.PrintLast Go.Proofs.YtahhdbjjfdjloaaW.PrintMore
attribute [local go_sem] max2_int min2_int max_two min_two max_three min_three max_four min_four   -- for this text's walks alone
set_option linter.unusedVariables false
set_option linter.unusedSimpArgs false

/-! ### impl_hydra: function 84 -/
mutual
def impl_hydra.eqS : S46 → S46 → Bool
 | ⟨xs⟩, ⟨ys⟩ => impl_hydra.eqL xs ys
def impl_hydra.eqL : List S46 → List S46 → Bool
 | [], [] => true
 | x :: xs, y :: ys => impl_hydra.eqS x y && impl_hydra.eqL xs ys
 | [], _ :: _ => false
 | _ :: _, [] => false
end
mutual
theorem impl_hydra.eqS_eq : ∀ x y : S46, impl_hydra.eqS x y = true → x = y
 | ⟨xs⟩, ⟨ys⟩, h => by
  rw [impl_hydra.eqS] at h;rw [impl_hydra.eqL_eq xs ys h]
theorem impl_hydra.eqL_eq : ∀ xs ys : List S46, impl_hydra.eqL xs ys = true → xs = ys
 | [], [], _ => rfl
 | x :: xs, y :: ys, h => by
  rw [impl_hydra.eqL, Bool.and_eq_true] at h;rw [impl_hydra.eqS_eq x y h.1, impl_hydra.eqL_eq xs ys h.2]
 | [], _ :: _, h => by rw [impl_hydra.eqL] at h; cases h
 | _ :: _, [], h => by rw [impl_hydra.eqL] at h; cases h
end
/-- The comparison tells the first one less. -/
def impl_hydra.lt (k : Nat) (x y : S46) : Bool := match impl_hydra_sortedLit1.f k x.f0 y.f0 with | some c => decide (c < 0) | none => false
/-- The comparison ends for all of them, it is a strict weak order, and equals are one. -/
def impl_hydra.good (k : Nat) (l0 : List S46) : Bool :=
 decide (l0.length < 1152921504606846976) && (l0.all fun x => l0.all fun y => (impl_hydra_sortedLit1.f k x.f0 y.f0).isSome && (impl_hydra.lt k x y || impl_hydra.lt k y x || impl_hydra.eqS x y)) &&
 (l0.all fun x => !impl_hydra.lt k x x) && (l0.all fun x => l0.all fun y => l0.all fun z => (!(impl_hydra.lt k x y && impl_hydra.lt k y z) || impl_hydra.lt k x z) && (impl_hydra.lt k x y || impl_hydra.lt k y z || !impl_hydra.lt k x z))
structure impl_hydra.Good (k : Nat) (l0 : List S46) : Prop where
 len : l0.length < 1152921504606846976
 all : ∀ x ∈ l0, ∀ y ∈ l0, ∃ c, impl_hydra_sortedLit1.f k x.f0 y.f0 = some c
 same : ∀ x ∈ l0, ∀ y ∈ l0, impl_hydra.lt k x y = false → impl_hydra.lt k y x = false → x = y
 irr : ∀ x ∈ l0, impl_hydra.lt k x x = false
 trans : ∀ x ∈ l0, ∀ y ∈ l0, ∀ z ∈ l0, impl_hydra.lt k x y = true → impl_hydra.lt k y z = true → impl_hydra.lt k x z = true
 ntrans : ∀ x ∈ l0, ∀ y ∈ l0, ∀ z ∈ l0, impl_hydra.lt k x y = false → impl_hydra.lt k y z = false → impl_hydra.lt k x z = false
theorem impl_hydra.good_Good {k : Nat} {l0 : List S46} (h : impl_hydra.good k l0 = true) : impl_hydra.Good k l0 := by
 simp only [impl_hydra.good, Bool.and_eq_true, decide_eq_true_eq, List.all_eq_true, Bool.or_eq_true, Bool.not_eq_true'] at h;obtain ⟨⟨⟨h1, h2⟩, h3⟩, h4⟩ := h;refine ⟨h1, fun x hx y hy => Option.isSome_iff_exists.mp (h2 x hx y hy).1, fun x hx y hy e1 e2 => ?_, h3, fun x hx y hy z hz e1 e2 => ?_, fun x hx y hy z hz e1 e2 => ?_⟩
 ·
  rcases (h2 x hx y hy).2 with (h | h) | h
  ·
   rw [e1] at h; cases h
  ·
   rw [e2] at h; cases h
  ·
   exact impl_hydra.eqS_eq x y h
 ·
  rcases (h4 x hx y hy z hz).1 with h | h
  ·
   rw [e1, e2] at h; cases h
  ·
   exact h
 ·
  rcases (h4 x hx y hy z hz).2 with (h | h) | h
  ·
   rw [e1] at h; cases h
  ·
   rw [e2] at h; cases h
  ·
   exact h
theorem impl_hydra.Good_good {k : Nat} {l0 : List S46} (eqS_self : ∀ x ∈ l0, ∀ y ∈ l0, x = y → impl_hydra.eqS x y = true) (h : impl_hydra.Good k l0) : impl_hydra.good k l0 = true := by
 simp only [impl_hydra.good, Bool.and_eq_true, decide_eq_true_eq, List.all_eq_true, Bool.or_eq_true, Bool.not_eq_true'];refine ⟨⟨⟨h.len, fun x hx y hy => ⟨Option.isSome_iff_exists.mpr (h.all x hx y hy), ?_⟩⟩, h.irr⟩, fun x hx y hy z hz => ⟨?_, ?_⟩⟩
 ·
  cases e1 : impl_hydra.lt k x y with
  | true => exact .inl (.inl rfl)
  | false =>
   cases e2 : impl_hydra.lt k y x with
   | true => exact .inl (.inr rfl)
   | false => exact .inr (eqS_self x hx y hy (h.same x hx y hy e1 e2))
 ·
  cases e1 : impl_hydra.lt k x y with
  | false => exact .inl rfl
  | true =>
   cases e2 : impl_hydra.lt k y z with
   | false => exact .inl rfl
   | true => exact .inr (h.trans x hx y hy z hz e1 e2)
 ·
  cases e1 : impl_hydra.lt k x y with
  | true => exact .inl (.inl rfl)
  | false =>
   cases e2 : impl_hydra.lt k y z with
   | true => exact .inl (.inr rfl)
   | false => exact .inr (h.ntrans x hx y hy z hz e1 e2)
mutual
theorem impl_hydra.eqS_self : ∀ x : S46, impl_hydra.eqS x x = true
 | ⟨xs⟩ => by rw [impl_hydra.eqS]; exact impl_hydra.eqL_self xs
theorem impl_hydra.eqL_self : ∀ xs : List S46, impl_hydra.eqL xs xs = true
 | [] => by rw [impl_hydra.eqL]
 | x :: xs => by rw [impl_hydra.eqL, impl_hydra.eqS_self x, impl_hydra.eqL_self xs]; rfl
end
theorem impl_hydra.good_iff {k : Nat} {l0 : List S46} : impl_hydra.good k l0 = true ↔ impl_hydra.Good k l0 := ⟨impl_hydra.good_Good, impl_hydra.Good_good (fun x _ y _ e => e ▸ impl_hydra.eqS_self x)⟩
def impl_hydra.f (k : Nat) (l0 : List S46) : Option (List S46) := if impl_hydra.good k l0 = true then some (l0.mergeSort (fun x y => !impl_hydra.lt k y x)) else none
theorem impl_hydra.mono : ∀ a0 k, LeO (impl_hydra.f k a0) (impl_hydra.f (k + 1) a0) := by
 intro l0 k r h;unfold impl_hydra.f at h;by_cases hg : impl_hydra.good k l0 = true
 ·
  rw [if_pos hg] at h;have G := impl_hydra.good_iff.mp hg
  have hlt : ∀ x ∈ l0, ∀ y ∈ l0, impl_hydra_sortedLit1.f (k + 1) x.f0 y.f0 = impl_hydra_sortedLit1.f k x.f0 y.f0 := fun x hx y hy => by
   obtain ⟨c, hc⟩ := G.all x hx y hy;rw [hc];exact impl_hydra_sortedLit1.mono _ _ k c hc
  have hl2 : ∀ x ∈ l0, ∀ y ∈ l0, impl_hydra.lt (k + 1) x y = impl_hydra.lt k x y := fun x hx y hy => by unfold impl_hydra.lt; rw [hlt x hx y hy]
  have G2 : impl_hydra.Good (k + 1) l0 := ⟨G.len, fun x hx y hy => by rw [hlt x hx y hy]; exact G.all x hx y hy, fun x hx y hy => by rw [hl2 x hx y hy, hl2 y hy x hx]; exact G.same x hx y hy, fun x hx => by rw [hl2 x hx x hx]; exact G.irr x hx,
   fun x hx y hy z hz => by rw [hl2 x hx y hy, hl2 y hy z hz, hl2 x hx z hz]; exact G.trans x hx y hy z hz, fun x hx y hy z hz => by rw [hl2 x hx y hy, hl2 y hy z hz, hl2 x hx z hz]; exact G.ntrans x hx y hy z hz⟩
  unfold impl_hydra.f;rw [if_pos (impl_hydra.good_iff.mpr G2), ← h]
  congr 1
  have := List.map_mergeSort (f := id) (r := fun x y => !impl_hydra.lt (k + 1) y x) (s := fun x y => !impl_hydra.lt k y x) (l := l0) (fun a ha b hb => by simp only [id]; rw [hl2 b hb a ha])
  simpa using this
 ·
  rw [if_neg hg] at h; cases h
theorem impl_hydra.unique {lt : S46 → S46 → Bool} : ∀ {x y : List S46}, (∀ a ∈ x, ∀ b ∈ x, lt a b = false → lt b a = false → a = b) → x.Pairwise (fun a b => lt b a = false) → y.Pairwise (fun a b => lt b a = false) → x.Perm y → x = y
 | [], y, _, _, _, h => (List.Perm.nil_eq h)
 | a :: x, [], _, _, _, h => absurd h.length_eq (by simp)
 | a :: x, b :: y, he, hx, hy, h => by
  have hab : a = b := by
   have h1 : b ∈ a :: x := h.mem_iff.mpr List.mem_cons_self;have h2 : a ∈ b :: y := h.mem_iff.mp List.mem_cons_self
   rcases List.mem_cons.mp h1 with rfl | h1'
   ·
    rfl
   ·
    rcases List.mem_cons.mp h2 with rfl | h2'
    ·
     rfl
    ·
     exact he a List.mem_cons_self b h1 ((List.pairwise_cons.mp hy).1 a h2') ((List.pairwise_cons.mp hx).1 b h1')
  subst hab;rw [impl_hydra.unique (fun u hu v hv => he u (List.mem_cons_of_mem _ hu) v (List.mem_cons_of_mem _ hv)) (List.pairwise_cons.mp hx).2 (List.pairwise_cons.mp hy).2 (List.perm_cons a |>.mp h)]
/-- An element of the row: its value, and what it reads as. -/
structure impl_hydra.El (w : World) (base : Nat) (ok : Nat → Prop) (l0 : List S46) where
 val : Value
 tree : S46
 mem : k46.M w base ok tree [val]
 inn : tree ∈ l0
theorem impl_hydra.els {w : World} {base : Nat} {ok : Nat → Prop} {l0 : List S46} : ∀ (l : List S46) (inner : List Value), Reps (k46.M w base ok) 1 l inner → (∀ x ∈ l, x ∈ l0) → ∃ vs : List (impl_hydra.El w base ok l0), vs.map (·.val) = inner ∧ vs.map (·.tree) = l
 | [], inner, hr, _ => by
  have : inner = [] := List.length_eq_zero_iff.mp (by have := hr.1; simpa using this);subst this;exact ⟨[], rfl, rfl⟩
 | x :: xs, [], hr, _ => by have := hr.1; simp at this
 | x :: xs, u :: us, hr, hl => by
  have h0 := hr.2 0 x rfl;simp only [Nat.zero_mul, List.drop_zero, List.take_succ_cons, List.take_zero] at h0
  have ht : Reps (k46.M w base ok) 1 xs us := ⟨by have := hr.1; simp only [List.length_cons, Nat.mul_one] at this ⊢; omega, fun j p hp => by
   have h1 := hr.2 (j + 1) p (by simpa using hp);rw [Nat.mul_one] at h1 ⊢
   simpa using h1⟩
  obtain ⟨vs, h1, h2⟩ := impl_hydra.els xs us ht (fun y hy => hl y (List.mem_cons_of_mem _ hy));exact ⟨⟨u, x, h0, hl x List.mem_cons_self⟩ :: vs, by simp [h1], by simp [h2]⟩
theorem impl_hydra.grown {α : Type} [Inhabited α] {enc : α → Value} {w W : World} {g : Nat} {dk : Array α} (h : Stab.SD enc w g 0 dk W) : w.grownBy W (some g) := by
 obtain ⟨d, W0, ⟨n, os, rfl⟩, rfl⟩ := h
 exact ⟨rfl, rfl, rfl, by simp [Go.redrawn, Go.Proofs.sortWorld, Go.Sort.grow, Go.Sort.putRow, Go.Sort.mapBlock, Go.Sort.ahead], fun k hk hne => by
  have hg : g ≠ k := fun e => hne (by rw [e])
  simp only [Go.redrawn, Go.Proofs.sortWorld, Go.Sort.grow, Go.Sort.putRow, Go.Sort.mapBlock, Go.Sort.ahead]
  rw [Array.getElem?_append_left (by simpa using hk), Array.getElem?_modify, if_neg hg]⟩
theorem impl_hydra.block {α : Type} [Inhabited α] {enc : α → Value} {w W : World} {g : Nat} {dk : Array α} (h : Stab.SD enc w g 0 dk W) {cur : Array Value} {t : TypeId} {fr : Nat × Nat} (hb : w.heap[g]? = some (.cells cur t fr)) : W.heap[g]? = some (.cells (Go.Sort.putCells enc 0 dk cur) t fr) := by
 obtain ⟨d, W0, ⟨n, os, rfl⟩, rfl⟩ := h;have hg : g < w.heap.size := (Array.getElem?_eq_some_iff.1 hb).1;simp only [Go.redrawn, Go.Proofs.sortWorld, Go.Sort.grow, Go.Sort.putRow, Go.Sort.mapBlock, Go.Sort.ahead];rw [Array.getElem?_append_left (by simpa using hg), Array.getElem?_modify, if_pos rfl, hb];rfl
theorem impl_hydra.putCells_all {α : Type} [Inhabited α] (enc : α → Value) (ys : Array α) (cur : Array Value) (h : ys.size ≤ cur.size) : (Go.Sort.putCells enc 0 ys cur).size = cur.size ∧ (Go.Sort.putCells enc 0 ys cur).toList.take ys.size = ys.toList.map enc := by
 refine ⟨by simp [Go.Sort.putCells], ?_⟩
 refine List.ext_getElem (by simp [Go.Sort.putCells]; omega) fun i h1 h2 => ?_
 have hi : i < ys.size := by simpa using h2
 simp [Go.Sort.putCells, hi]
set_option maxHeartbeats 1000000 in
theorem impl_hydra.calls (k : Nat) (P0_ : Nat → Prop) (u : Value) (l0 : List S46) (r : List S46) (w0 w : World) (hB : Below w0.heap.size w0 w) (ho0 : Kd.R k46 46 w w0.heap.size P0_ u l0) (h : impl_hydra.f k l0 = some r) :
  Calls Try.prog 84 #[u, .func (.func 85) #[] #[]] w fun e w' => e = .returned (.tuple #[]) ∧ Kd.R k46 46 w' w0.heap.size P0_ u r ∧ Below w0.heap.size w0 w' ∧ Kept w w' (fun k_ => P0_ k_) := by
 unfold impl_hydra.f at h;by_cases hg : impl_hydra.good k l0 = true
 ·
  rw [if_pos hg] at h;obtain rfl := Option.some.inj h;have G := impl_hydra.good_iff.mp hg;clear hg h;obtain ⟨A, c, rfl⟩ := Kd.R_slice ho0;by_cases h0 : 0 < l0.length
  ·
   obtain ⟨g, cap, hv, hb0, hlt0, _⟩ := Kd.R_form ho0 h0
   injection hv with ha hn hc
   subst ha; subst hc;have hP : P0_ g := ho0.1 g rfl;obtain ⟨h1, inner, ho, hr⟩ := ho0;obtain ⟨hl2, ho2⟩ := ho
   rcases ho2 with ⟨hv, _⟩ | ⟨g', cap', cur, hv, hb, hh, hn2, hm, hs, ht⟩
   ·
    exact absurd hv (by simp)
   injection hv with ha hn' hc'
   injection ha with ha
   injection ha with ha _ _
   subst ha; subst hc';have hs1 : cur.size = c := hs.trans (Nat.mul_one c)
   have ht1 : cur.toList.take l0.length = inner := by have ht := ht; rw [show k46.sz = 1 from rfl, Nat.mul_one] at ht; exact ht
   obtain ⟨vs, hvs1, hvs2⟩ := impl_hydra.els l0 inner hr (fun x hx => hx)
   have hvl : vs.length = l0.length := by have := congrArg List.length hvs2; rw [List.length_map] at this; exact this
   obtain ⟨v0, hv0⟩ : ∃ v, v ∈ vs := List.exists_mem_of_length_pos (by omega)
   have hI : Inhabited (impl_hydra.El w w0.heap.size (fun k_ => P0_ k_ ∧ some k_ ≠ (Value.slice (some ⟨g, 0, none⟩) l0.length c).ownBlock) l0) := ⟨v0⟩
   -- the comparison
   have hlt2 : ∀ x y : impl_hydra.El w w0.heap.size (fun k_ => P0_ k_ ∧ some k_ ≠ (Value.slice (some ⟨g, 0, none⟩) l0.length c).ownBlock) l0, ltOf (fun x y : impl_hydra.El w w0.heap.size (fun k_ => P0_ k_ ∧ some k_ ≠ (Value.slice (some ⟨g, 0, none⟩) l0.length c).ownBlock) l0 => (impl_hydra_sortedLit1.f k x.tree.f0 y.tree.f0).getD 0) x y = impl_hydra.lt k x.tree y.tree := fun x y => by
    obtain ⟨q, hq⟩ := G.all _ x.inn _ y.inn;simp only [ltOf, impl_hydra.lt, hq, Option.getD_some]
   have hO : Go.Sort.SWO (ltOf (fun x y : impl_hydra.El w w0.heap.size (fun k_ => P0_ k_ ∧ some k_ ≠ (Value.slice (some ⟨g, 0, none⟩) l0.length c).ownBlock) l0 => (impl_hydra_sortedLit1.f k x.tree.f0 y.tree.f0).getD 0)) := ⟨fun x => by rw [hlt2]; exact G.irr _ x.inn,
    fun x y z => by rw [hlt2, hlt2, hlt2]; exact G.trans _ x.inn _ y.inn _ z.inn, fun x y z => by rw [hlt2, hlt2, hlt2]; exact G.ntrans _ x.inn _ y.inn _ z.inn⟩
   have hcmp : Stab.CmpB 85 #[] (·.val) (fun x y : impl_hydra.El w w0.heap.size (fun k_ => P0_ k_ ∧ some k_ ≠ (Value.slice (some ⟨g, 0, none⟩) l0.length c).ownBlock) l0 => (impl_hydra_sortedLit1.f k x.tree.f0 y.tree.f0).getD 0) g 0 vs.toArray.size w := by
    intro W dk _ hS x y;have hgr := impl_hydra.grown hS;obtain ⟨Ax, cx, ex, hx1, hx2⟩ := k46_open (k46.K_of_M (Kd.M_grown x.mem hgr (fun k hk e => hk.2 (by rw [e]; rfl))));obtain ⟨Ay, cy, ey, hy1, hy2⟩ := k46_open (k46.K_of_M (Kd.M_grown y.mem hgr (fun k hk e => hk.2 (by rw [e]; rfl))));obtain ⟨q, hq⟩ := G.all _ x.inn _ y.inn
    injection ex with ex _
    injection ey with ey _
    have e1 : (#[x.val, y.val] ++ #[] : Array Value) = #[.slice Ax x.tree.f0.length cx, .slice Ay y.tree.f0.length cy] := by rw [ex, ey]; rfl
    show Calls Try.prog 85 (#[x.val, y.val] ++ #[]) W _
    rw [e1];simp only [hq, Option.getD_some];exact impl_hydra_sortedLit1.calls k Ax cx _ Ay cy _ q W hx2 hx1 hy2 hy1 hq
   have R1 : Row1 (·.val) w g 0 vs.toArray := by
    refine ⟨fun x => k46.K_one (k46.K_of_M x.mem) _ List.mem_cons_self, fun j hj => ?_, (Array.getElem?_eq_some_iff.1 hh).1⟩
    have hj' : j < vs.length := by simpa using hj
    have hcj : cur[j]? = some vs[j].val := by
     have e1 : (cur.toList.take l0.length)[j]? = some vs[j].val := by
      rw [ht1, ← hvs1, List.getElem?_map, List.getElem?_eq_getElem hj']; rfl
     rw [List.getElem?_take, if_pos (by omega)] at e1
     simpa using e1
    have e2 : vs.toArray[j]! = vs[j] := by simp [hj']
    rw [e2, Nat.zero_add];exact ⟨by simp [World.cell?, hh, hcj], by simp [World.frozen?, hh]⟩
   have hc := Stab.sortStable (·.val) _ hO 85 #[] g 0 c vs.toArray w (enters_of Try.func85 (by kernel_rfl) rfl) hcmp R1 (by have := G.len; simp; omega)
   have hsz2 : vs.toArray.size = l0.length := by simp [hvl]
   rw [hsz2] at hc;refine Calls.mono hc ?_
   rintro e w' ⟨rfl, d', hS, hsrt, hperm⟩
   have hgr := impl_hydra.grown hS;have hblk := impl_hydra.block hS hh
   have hd1 : d'.size = l0.length := by rw [hperm.1, hsz2]
   have hp := impl_hydra.putCells_all (·.val) d' cur (by omega)
   have hpl : d'.toList.Perm vs := by
    have h5 := hperm.2.2
    have e1 : ∀ n, n = d'.size → d'.extract 0 n = d' := fun n h => by subst h; simp
    have e2 : ∀ n, n = vs.toArray.size → vs.toArray.extract 0 n = vs.toArray := fun n h => by subst h; simp
    rw [e1 _ hd1.symm, e2 _ hsz2.symm] at h5;exact h5
   -- the trees, sorted
   have hres : l0.mergeSort (fun x y => !impl_hydra.lt k y x) = d'.toList.map (·.tree) := by
    have m1 := List.map_mergeSort (f := fun x : impl_hydra.El w w0.heap.size (fun k_ => P0_ k_ ∧ some k_ ≠ (Value.slice (some ⟨g, 0, none⟩) l0.length c).ownBlock) l0 => x.tree) (r := fun x y => !impl_hydra.lt k y.tree x.tree) (s := fun x y => !impl_hydra.lt k y x) (l := vs) (fun _ _ _ _ => rfl);rw [hvs2] at m1;rw [← m1];have s1 := List.pairwise_mergeSort (le := fun x y : impl_hydra.El w w0.heap.size (fun k_ => P0_ k_ ∧ some k_ ≠ (Value.slice (some ⟨g, 0, none⟩) l0.length c).ownBlock) l0 => !impl_hydra.lt k y.tree x.tree)
     (fun a b c h1 h2 => by
      simp only [Bool.not_eq_true'] at h1 h2 ⊢
      exact G.ntrans _ c.inn _ b.inn _ a.inn h2 h1)
     (fun a b => by
      cases e1 : impl_hydra.lt k b.tree a.tree with
      | false => rfl
      | true =>
       cases e2 : impl_hydra.lt k a.tree b.tree with
       | false => rfl
       | true => have := G.trans _ a.inn _ b.inn _ a.inn e2 e1; rw [G.irr _ a.inn] at this; cases this) vs
    refine impl_hydra.unique (lt := impl_hydra.lt k) ?_ ?_ ?_ ?_
    ·
     intro a ha b hb;obtain ⟨x, _, rfl⟩ := List.mem_map.mp ha;obtain ⟨y, _, rfl⟩ := List.mem_map.mp hb;exact G.same _ x.inn _ y.inn
    ·
     exact List.pairwise_map.mpr (s1.imp (fun h => by simpa using h))
    ·
     refine List.pairwise_map.mpr (List.pairwise_iff_getElem.mpr (fun i j hi hj hij => ?_))
     have hi' : i < d'.size := by simpa using hi
     have hj' : j < d'.size := by simpa using hj
     have := hsrt i j (Nat.zero_le _) hij (by omega);rw [hlt2, getElem!_pos d' i hi', getElem!_pos d' j hj'] at this
     simpa using this
    ·
     exact ((List.mergeSort_perm vs _).trans hpl.symm).map _
   rw [hres]
   have hnew : (d'.toList.map (·.tree)).length = l0.length := by rw [List.length_map, Array.length_toList]; exact hd1
   have hnv : (d'.toList.map (·.val)).length = l0.length := by rw [List.length_map, Array.length_toList]; exact hd1
   have hown : w'.ownsRow w0.heap.size 46 1 (.slice (some ⟨g, 0, none⟩) l0.length c) (d'.toList.map (·.tree)).length (d'.toList.map (·.val)) := by
    rw [hnew];exact ⟨by rw [hnv, Nat.mul_one], .inr ⟨g, c, _, rfl, hb, hblk, hn2, hm, by rw [hp.1, hs1, Nat.mul_one], by rw [Nat.mul_one]; have := hp.2; rw [hd1] at this; exact this⟩⟩
   have hreps : Reps (k46.M w' w0.heap.size (fun k_ => P0_ k_ ∧ some k_ ≠ (Value.slice (some ⟨g, 0, none⟩) l0.length c).ownBlock)) 1 (d'.toList.map (·.tree)) (d'.toList.map (·.val)) := by
    refine ⟨by rw [hnv, hnew, Nat.mul_one], fun j p hp2 => ?_⟩;rw [List.getElem?_map] at hp2;obtain ⟨x, hx, rfl⟩ := Option.map_eq_some_iff.mp hp2;rw [Nat.mul_one]
    have hxl : j < (d'.toList.map (·.val)).length := by rw [List.length_map]; exact (List.getElem?_eq_some_iff.mp hx).1
    have hcell : ((d'.toList.map (·.val)).drop j).take 1 = [x.val] := by
     rw [List.drop_eq_getElem_cons hxl, List.take_succ_cons, List.take_zero, List.getElem_map];obtain ⟨h5, h6⟩ := List.getElem?_eq_some_iff.mp hx;rw [h6]
    rw [hcell];exact Kd.M_grown x.mem hgr (fun q hq e => hq.2 (by rw [e]; rfl))
   exact ⟨rfl, ⟨fun q hq => h1 q hq, _, hown, hreps⟩, Below.grown hB hgr hB.size (fun q hq => by cases hq; exact hb), Kept.of_grown hgr (Kept.refl w _) (fun q hq => by cases hq; exact .inl hP)⟩
  ·
   obtain rfl : l0 = [] := List.length_eq_zero_iff.1 (by omega);refine (Stab.sortStable_nil A c _ w).mono ?_
   rintro e w' ⟨rfl, hb⟩
   exact ⟨rfl, by simpa using Kd.R_below ho0 hb, hB.trans (hb.mono hB.size), Kept.of_grown (grown_of_below hb none) (Kept.refl w _) (fun q hq => by cases hq)⟩
 ·
  rw [if_neg hg] at h; cases h

/-! ### impl_hydra_sorted: function 54 -/
mutual
def impl_hydra_sorted.l0 : Nat → List (S46) → List (S46) → Int → Int → Option ((List (S46)))
 | 0, _, _, _, _ => none
 | k + 1, x3, x7, x8, x9 => if x9 < x8 then (if 0 ≤ x9 then (if x9 < (x7.length : Int) then ((impl_hydra_sorted.f k ((rd_T46 x7 x9).f0)).bind fun t621 => (if x3.length < 5864062014805 then (impl_hydra_sorted.l0 k (x3 ++ [(⟨t621⟩ : S46)]) x7 x8 (wrap64 (x9 + 1))) else (none))) else (none)) else (none)) else ((impl_hydra.f k x3).bind fun t627 => (some t627))
def impl_hydra_sorted.f : Nat → List (S46) → Option ((List (S46)))
 | 0, _ => none
 | k + 1, l0 => impl_hydra_sorted.l0 k (([] : List (S46))) l0 (l0.length : Int) 0
end
theorem impl_hydra_sorted.mono_l : ∀ k, (∀ y0, LeO (impl_hydra_sorted.f k y0) (impl_hydra_sorted.f (k + 1) y0)) ∧ (∀ y0 y1 y2 y3, LeO (impl_hydra_sorted.l0 k y0 y1 y2 y3) (impl_hydra_sorted.l0 (k + 1) y0 y1 y2 y3))
 | 0 => ⟨fun _ r h => by simp [impl_hydra_sorted.f] at h, fun _ _ _ _ r h => by simp [impl_hydra_sorted.l0] at h⟩
 | k + 1 => by
  obtain ⟨ih0, ih1⟩ := impl_hydra_sorted.mono_l k;refine ⟨?_, ?_⟩
  all_goals (intros; first | unfold impl_hydra_sorted.f | unfold impl_hydra_sorted.l0)
  all_goals repeat' first | (with_reducible exact ih0 _) | (with_reducible exact ih1 _ _ _ _) | (with_reducible exact impl_hydra.mono _ _) | (with_reducible exact LeO.refl _) | (with_reducible exact LeO.none _) | (with_reducible refine LeO.ite ?_ ?_) | (with_reducible refine LeO.bind ?_ (fun _ => ?_))
theorem impl_hydra_sorted.mono : ∀ a0 k, LeO (impl_hydra_sorted.f k a0) (impl_hydra_sorted.f (k + 1) a0) := by
 intro a0 k;obtain ⟨ih0, ih1⟩ := impl_hydra_sorted.mono_l k;exact ih0 a0
set_option maxHeartbeats 8000000 in
set_option maxRecDepth 100000 in
theorem impl_hydra_sorted.calls (k : Nat) : ∀ (A0 : Option Addr) (c0 : Nat) (l0 : List (S46)) (r : List (S46)) (w : World) (hr0 : Kd.C k46 w A0 l0.length l0) (hc0 : l0.length ≤ c0) (h : impl_hydra_sorted.f k l0 = some r),
  Calls Try.prog 54 #[.slice A0 l0.length c0] w fun e w' => ∃ v0_ : Value, e = .returned (v0_) ∧ Kd.R k46 46 w' w.heap.size (fun _ => True) v0_ r ∧ Below w.heap.size w w' := by
 induction k using Nat.strongRecOn with
 | _ k ih =>
 intro A0 c0 l0 r w hr0 hc0 h
 cases k with
 | zero => exact absurd h (by simp [impl_hydra_sorted.f])
 | succ k =>
 simp only [impl_hydra_sorted.f] at h;have HR0 := am hr0;have HC0 := am hc0;clear hr0 hc0;have HB := am (Below.refl w.heap.size w);have H : (impl_hydra_sorted.l0 k (([] : List (S46))) l0 (l0.length : Int) 0) = some r := h;clear h
 obtain ⟨y617, hy617⟩ : ∃ y_ : List (S46), y_ = (([] : List (S46))) := ⟨_, rfl⟩
 replace H : (impl_hydra_sorted.l0 k y617 l0 (l0.length : Int) 0) = some r := by first | (rw [hy617]; with_reducible exact H) | (have H2_ := oB H; rw [hy617]; with_reducible exact H2_) | (have H2_ := oB H; with_reducible exact H2_) | with_reducible exact H | (rw [hy617]; exact H) | exact H
 replace hy617 := am hy617;have H' := am H;clear H;go_enter Try.func54, Try.ntmps54;go_wp2_with (first | ((with_reducible refine gate_dst (N := 6) rfl ?_); refine Kd.R_lit k46 _ 46 ?hg (N := 6) ?hd (xs := ([] : List (S46))) (inner := []) (ok := fun _ => True) (okp := fun _ => True) ?hr ?hp (fun _ hk => hk) trivial (Below.refl _ _) (Nat.le_refl _) (by simp) ?_; (case hd => rfl); (case hg => rfl); (case hr => first | (go_simp; done) | (go_simp; rfl)); (case hp => exact (Reps.none _ _)); intro v618 w2 ho3 hb hg_ hnew_; clear hg_ hnew_; (first | rw [← hy617.out] at ho3 | (simp only [Int.reduceToNat] at ho3; rw [← hy617.out] at ho3)); have HO619 := am (Kd.R_lower ho3 (below_size (bm HB.out)));replace HB := am (below_step (bm HB.out) hb); clear hb ho3))
 go_loopg [3, 9] k (fun kq v3 v9 w' => ∃ (x3_1 : List (S46)) (x9_1 : Int), v9 = .int .i64 x9_1 ∧ Aside0 (impl_hydra_sorted.l0 kq x3_1 l0 (l0.length : Int) x9_1 = some r) ∧ Aside0 (kq ≤ k) ∧ Aside0 (Kd.R k46 46 w' w.heap.size (fun _ => True) v3 x3_1) ∧ Aside0 (Below w.heap.size w w'))
 case atStart => exact ⟨(y617), (0), (by first | rfl | (simp; done) | (simp [*]; done)), H', ⟨Nat.le_refl _⟩, ⟨Kd.rm HO619.out⟩, ⟨bm HB.out⟩⟩
 case round =>
  clear H';(try clear p2);(try clear HO_3);(try clear HB);obtain ⟨x3_1, x9_1, rfl, HA, HK1, HO_3, HB⟩ := hrel
  cases gk with
  | zero => exact absurd HA.out (by simp [impl_hydra_sorted.l0])
  | succ k1 =>
   have H := HA.out;clear HA;simp only [impl_hydra_sorted.l0] at H;by_cases c4 : x9_1 < (l0.length : Int)
   ·
    rw [if_pos c4] at H;have c4b0 : decide (x9_1 < (l0.length : Int)) = true := decide_eq_true c4;clear c4;by_cases c5 : 0 ≤ x9_1
    ·
     rw [if_pos c5] at H;have c5b0 : decide (0 ≤ x9_1) = true := decide_eq_true c5;clear c5;by_cases c6 : x9_1 < (l0.length : Int)
     ·
      rw [if_pos c6] at H;have c6b0 : decide (x9_1 < (l0.length : Int)) = true := decide_eq_true c6;clear c6;replace H := oE H;obtain ⟨t621, A7, H⟩ := H;replace H : (if x3_1.length < 5864062014805 then (impl_hydra_sorted.l0 k1 (x3_1 ++ [(⟨t621⟩ : S46)]) l0 (l0.length : Int) (wrap64 (x9_1 + 1))) else (none)) = some r := H;replace A7 := am A7;by_cases c8 : x3_1.length < 5864062014805
      ·
       rw [if_pos c8] at H;have LMc8 := am c8;clear c8
       obtain ⟨y624, hy624⟩ : ∃ y_ : List (S46), y_ = (x3_1 ++ [(⟨t621⟩ : S46)]) := ⟨_, rfl⟩
       replace H : (impl_hydra_sorted.l0 k1 y624 l0 (l0.length : Int) (wrap64 (x9_1 + 1))) = some r := by first | (rw [hy624]; with_reducible exact H) | (have H2_ := oB H; rw [hy624]; with_reducible exact H2_) | (have H2_ := oB H; with_reducible exact H2_) | with_reducible exact H | (rw [hy624]; exact H) | exact H
       replace hy624 := am hy624;have H' := am H;clear H;have p620 : 0 ≤ (x9_1 : Int) := of_decide_eq_true (by assumption);have q620 : x9_1 < (l0.length : Int) := of_decide_eq_true (by assumption);obtain ⟨ad620, A620_0, c620_0, e620, hx620_0, hl620_0, hi620_0⟩ := at_T46 HR0.out x9_1 p620 q620;cases e620
       replace hx620_0 := (HB.out.cell (World.block_lt_of_cell? w _ hx620_0)).trans hx620_0;have HR620_0 := am hi620_0;have HC620_0 := am hl620_0;clear hi620_0 hl620_0;replace p620 := eq_true p620;replace q620 := eq_true q620;go_wp2_with (first | ((with_reducible refine gate_callee (f := 54) rfl ?_); refine goesL_ (some 15) rfl rfl Try.func54 (by kernel_rfl) rfl #[.slice A620_0 ((rd_T46 l0 x9_1).f0).length c620_0] rfl (by (try simp only [mA, mB, mC]); first | done | rfl) ?_; (with_reducible refine (ih k1 (by have := HK1.out; omega) _ _ ((rd_T46 l0 x9_1).f0) t621 _ ?side1 ?side2 A7.out).mono ?_); (case side1 => exact Kd.cm ((Kd.C_below HR620_0.out HB.out))); (case side2 => exact HC620_0.out); rintro e w9 ⟨v622, rfl, ho0, hb⟩; refine ⟨_, rfl, ?_⟩; have HO623 := am (Kd.R_lower (Kd.R_new' ho0 (Kd.R_lt (Kd.rm HO_3.out))) (below_size (bm HB.out)));replace HO_3 := am (Kd.R_elder' (Kd.rm HO_3.out) (Kd.R_base ho0) hb);replace HB := am (below_step (bm HB.out) hb); (try clear hb); (try clear hk); (try clear ho0); obtain ⟨Ao11, co11, eo11⟩ := Kd.R_slice HO623.out; subst eo11) | ((with_reducible refine gate_builtin (b := .append) (xs := #[.tmp 13, .tmp 16]) rfl ?_); at_builtin; refine Kd.R_append k46 (w0 := w) w.heap.size rfl (.tmp 13) (.tmp 16) 46 46 (.slice none 0 0) 24 rfl Try.underlying46 info46 rfl (by decide) (by omega) u3 x3_1 (⟨t621⟩ : S46) [.slice Ao11 t621.length co11] (fun _ => True) (fun k_ => ((fun _ => True)) k_ ∧ some k_ ≠ (u3 : Value).ownBlock) rfl rfl ?aP (fun _ hk => hk) ?aF ?aO ?aB ?aS ?aL ?_; (case aP => exact k46_mkM _ _ _ (⟨t621⟩ : S46) (Kd.R_mono (HO623.out) (fun k_ hk => ⟨trivial, hk.2⟩))); (case aB => exact (bm HB.out)); (case aF => exact (fun _ _ => trivial)); (case aO => exact (Kd.rm (Kd.R_mono HO_3.out (fun _ hk => trivial)))); (case aS => exact (below_size (bm HB.out))); (case aL => have := LMc8.out; omega); intro v625 w10 ho hb hg hat; rw [← hy624.out] at ho; replace HB := am (hb);have HO626 := am (ho);clear HO_3 HO623; clear ho hb hg hat))
       go_roundg k1
       case measure => have := HK1.out; omega
       case rel => exact ⟨(y624), (wrap64 (x9_1 + 1)), (by first | rfl | (simp; done) | (simp [*]; done)), H', ⟨by have := HK1.out; omega⟩, ⟨Kd.rm HO626.out⟩, ⟨bm HB.out⟩⟩
      ·
       rw [if_neg c8] at H;exact absurd H (by simp)
     ·
      rw [if_neg c6] at H;exact absurd H (by simp)
    ·
     rw [if_neg c5] at H;exact absurd H (by simp)
   ·
    rw [if_neg c4] at H;have c4b0 : decide (x9_1 < (l0.length : Int)) = false := decide_eq_false c4;clear c4;replace H := oE H;obtain ⟨t627, A12, H⟩ := H;replace H : (some t627) = some r := H;replace A12 := am A12;obtain rfl := Option.some.inj H;obtain ⟨Ao13, co13, eo13⟩ := Kd.R_slice HO_3.out;subst eo13;go_wp2_with (first | (go_at_call 84; (with_reducible refine (impl_hydra.calls k1 ?p0 (.slice Ao13 x3_1.length co13) x3_1 t627 w _ ?side1 ?side2 A12.out).mono ?_); (case side1 => repeat (first | (with_reducible first | exact HB.out | apply below_alloc | apply pw_below_drewN | apply below_drew1) | exact HB.out)); (case side2 => exact HO_3.out); rintro e w14 ⟨rfl, hy0, hb, hkp⟩; replace HO_3 := am hy0;replace HB := am (hb); (try clear hb); (try clear hkp); (try clear hy0)));go_ret;exact ⟨_, by first | rfl | (simp [errW_none, errW_some] <;> rfl) | (simp [*, errW_none, errW_some] <;> rfl), Kd.rm HO_3.out, bm HB.out⟩

/-! ### impl_HydraSame: function 28 -/
def impl_HydraSame.f (k : Nat) (l0 : List Int) (l1 : List Int) : Option (Bool) := (impl_hydraOf.f k l0).bind fun bt628 => ((impl_hydraOf.f k l1).bind fun bt632 => (if bt628.2 = true then (if bt632.2 = true then ((impl_hydra_sorted.f k bt628.1).bind fun t636 => ((impl_hydra_row.f k t636).bind fun t639 => ((impl_hydra_sorted.f k bt632.1).bind fun t642 => ((impl_hydra_row.f k t642).bind fun t645 => ((slices_Equal_int_int.f k t639 t645).bind fun t648 => (some t648)))))) else (some false)) else (some false)))
theorem impl_HydraSame.mono : ∀ a0 a1 k, LeO (impl_HydraSame.f k a0 a1) (impl_HydraSame.f (k + 1) a0 a1) := by
 intro a0 a1 k;unfold impl_HydraSame.f
 repeat' first | (with_reducible exact impl_hydraOf.mono _ _) | (with_reducible exact impl_hydra_row.mono _ _) | (with_reducible exact impl_hydra_sorted.mono _ _) | (with_reducible exact slices_Equal_int_int.mono _ _ _) | (with_reducible exact LeO.refl _) | (with_reducible exact LeO.none _) | (with_reducible refine LeO.ite ?_ ?_) | (with_reducible refine LeO.bind ?_ (fun _ => ?_))
set_option maxHeartbeats 8000000 in
set_option maxRecDepth 100000 in
theorem impl_HydraSame.calls (k : Nat) (A0 : Option Addr) (c0 : Nat) (l0 : List Int) (A1 : Option Addr) (c1 : Nat) (l1 : List Int) (r : Bool) (w : World) (hr0 : Kd.C (Kd.int .i64) w A0 l0.length l0) (hc0 : l0.length ≤ c0) (hr1 : Kd.C (Kd.int .i64) w A1 l1.length l1) (hc1 : l1.length ≤ c1) (h : impl_HydraSame.f k l0 l1 = some r) :
  Calls Try.prog 28 #[.slice A0 l0.length c0, .slice A1 l1.length c1] w fun e w' => e = .returned (.bool r) ∧ Below w.heap.size w w' := by
 have HR0 := am hr0;have HC0 := am hc0;clear hr0 hc0;have HR1 := am hr1;have HC1 := am hc1;clear hr1 hc1;have HB := am (Below.refl w.heap.size w);have H : ((impl_hydraOf.f k l0).bind fun bt628 => ((impl_hydraOf.f k l1).bind fun bt632 => (if bt628.2 = true then (if bt632.2 = true then ((impl_hydra_sorted.f k bt628.1).bind fun t636 => ((impl_hydra_row.f k t636).bind fun t639 => ((impl_hydra_sorted.f k bt632.1).bind fun t642 => ((impl_hydra_row.f k t642).bind fun t645 => ((slices_Equal_int_int.f k t639 t645).bind fun t648 => (some t648)))))) else (some false)) else (some false)))) = some r := h;clear h;replace H := oE H;obtain ⟨⟨t628, t629⟩, A3, H⟩ := H;replace H : ((impl_hydraOf.f k l1).bind fun bt632 => (if t629 = true then (if bt632.2 = true then ((impl_hydra_sorted.f k t628).bind fun t636 => ((impl_hydra_row.f k t636).bind fun t639 => ((impl_hydra_sorted.f k bt632.1).bind fun t642 => ((impl_hydra_row.f k t642).bind fun t645 => ((slices_Equal_int_int.f k t639 t645).bind fun t648 => (some t648)))))) else (some false)) else (some false))) = some r := H;replace A3 := am A3;replace H := oE H;obtain ⟨⟨t632, t633⟩, A4, H⟩ := H;replace H : (if t629 = true then (if t633 = true then ((impl_hydra_sorted.f k t628).bind fun t636 => ((impl_hydra_row.f k t636).bind fun t639 => ((impl_hydra_sorted.f k t632).bind fun t642 => ((impl_hydra_row.f k t642).bind fun t645 => ((slices_Equal_int_int.f k t639 t645).bind fun t648 => (some t648)))))) else (some false)) else (some false)) = some r := H;replace A4 := am A4;by_cases c5 : t629 = true
 ·
  subst c5
  have H1 : (if t633 = true then ((impl_hydra_sorted.f k t628).bind fun t636 => ((impl_hydra_row.f k t636).bind fun t639 => ((impl_hydra_sorted.f k t632).bind fun t642 => ((impl_hydra_row.f k t642).bind fun t645 => ((slices_Equal_int_int.f k t639 t645).bind fun t648 => (some t648)))))) else (some false)) = some r := by rw [if_pos rfl] at H; exact H
  clear H;have H := H1;clear H1;by_cases c6 : t633 = true
  ·
   subst c6
   have H1 : ((impl_hydra_sorted.f k t628).bind fun t636 => ((impl_hydra_row.f k t636).bind fun t639 => ((impl_hydra_sorted.f k t632).bind fun t642 => ((impl_hydra_row.f k t642).bind fun t645 => ((slices_Equal_int_int.f k t639 t645).bind fun t648 => (some t648)))))) = some r := by rw [if_pos rfl] at H; exact H
   clear H;have H := H1;clear H1;replace H := oE H;obtain ⟨t636, A7, H⟩ := H;replace H : ((impl_hydra_row.f k t636).bind fun t639 => ((impl_hydra_sorted.f k t632).bind fun t642 => ((impl_hydra_row.f k t642).bind fun t645 => ((slices_Equal_int_int.f k t639 t645).bind fun t648 => (some t648))))) = some r := H;replace A7 := am A7;replace H := oE H;obtain ⟨t639, A8, H⟩ := H;replace H : ((impl_hydra_sorted.f k t632).bind fun t642 => ((impl_hydra_row.f k t642).bind fun t645 => ((slices_Equal_int_int.f k t639 t645).bind fun t648 => (some t648)))) = some r := H;replace A8 := am A8;replace H := oE H;obtain ⟨t642, A9, H⟩ := H;replace H : ((impl_hydra_row.f k t642).bind fun t645 => ((slices_Equal_int_int.f k t639 t645).bind fun t648 => (some t648))) = some r := H;replace A9 := am A9;replace H := oE H;obtain ⟨t645, A10, H⟩ := H;replace H : ((slices_Equal_int_int.f k t639 t645).bind fun t648 => (some t648)) = some r := H;replace A10 := am A10;replace H := oE H;obtain ⟨t648, A11, H⟩ := H;replace H : (some t648) = some r := H;replace A11 := am A11;obtain rfl := Option.some.inj H;go_enter Try.func28, Try.ntmps28;go_wp2_with (first | ((with_reducible refine gate_callee (f := 43) rfl ?_); refine goesL_ (some 11) rfl rfl Try.func43 (by kernel_rfl) rfl #[.slice A0 l0.length c0] rfl (by (try simp only [mA, mB, mC]); first | done | rfl) ?_; (with_reducible refine (impl_hydraOf.calls k _ _ l0 t628 true _ ?side1 ?side2 A3.out).mono ?_); (case side1 => exact Kd.cm HR0.out); (case side2 => exact HC0.out); rintro e w12 ⟨v630, rfl, ho0, hb⟩; refine ⟨_, rfl, ?_⟩; have HO631 := am (Kd.R_lower ho0 (below_size (bm HB.out)));replace HB := am (below_step (bm HB.out) hb); (try clear hb); (try clear ho0)) | ((with_reducible refine gate_callee (f := 43) rfl ?_); refine goesL_ (some 16) rfl rfl Try.func43 (by kernel_rfl) rfl #[.slice A1 l1.length c1] rfl (by (try simp only [mA, mB, mC]); first | done | rfl) ?_; (with_reducible refine (impl_hydraOf.calls k _ _ l1 t632 true _ ?side1 ?side2 A4.out).mono ?_); (case side1 => exact Kd.cm ((Kd.C_below HR1.out HB.out))); (case side2 => exact HC1.out); rintro e w13 ⟨v634, rfl, ho0, hb⟩; refine ⟨_, rfl, ?_⟩; have HO635 := am (Kd.R_lower (Kd.R_new' ho0 (Kd.R_lt (Kd.rm HO631.out))) (below_size (bm HB.out)));replace HO631 := am (Kd.R_elder' (Kd.rm HO631.out) (Kd.R_base ho0) hb);replace HB := am (below_step (bm HB.out) hb); (try clear hb); (try clear ho0); obtain ⟨Ao14, co14, eo14⟩ := Kd.R_slice HO631.out; subst eo14) | (go_at_call 54; (with_reducible refine (impl_hydra_sorted.calls k _ _ t628 t636 _ ?side1 ?side2 A7.out).mono ?_); (case side1 => exact Kd.cm ((Kd.R_reads' HO631.out).2.2)); (case side2 => exact (Kd.R_reads' HO631.out).2.1); rintro e w15 ⟨v637, rfl, ho0, hb⟩; have HO638 := am (Kd.R_lower (Kd.R_new' (Kd.R_new' ho0 (Kd.R_lt (Kd.rm HO631.out))) (Kd.R_lt (Kd.rm HO635.out))) (below_size (bm HB.out)));replace HO631 := am (Kd.R_elder' (Kd.rm HO631.out) (Kd.R_base ho0) hb);replace HO635 := am (Kd.R_elder' (Kd.rm HO635.out) (Kd.R_base ho0) hb);replace HB := am (below_step (bm HB.out) hb); (try clear hb); (try clear ho0); obtain ⟨Ao16, co16, eo16⟩ := Kd.R_slice HO638.out; subst eo16) | (go_at_call 55; (with_reducible refine (impl_hydra_row.calls k _ _ t636 t639 _ ?side1 ?side2 A8.out).mono ?_); (case side1 => exact Kd.cm ((Kd.R_reads' HO638.out).2.2)); (case side2 => exact (Kd.R_reads' HO638.out).2.1); rintro e w17 ⟨v640, rfl, ho0, hb⟩; replace HO631 := am (Kd.R_below (Kd.rm HO631.out) hb);replace HO635 := am (Kd.R_below (Kd.rm HO635.out) hb);replace HO638 := am (Kd.R_below (Kd.rm HO638.out) hb);have HO641 := am (Kd.R_lower ho0 (below_size (bm HB.out)));replace HB := am (below_step (bm HB.out) hb); (try clear hb); (try clear ho0); obtain ⟨Ao18, co18, eo18⟩ := Kd.R_slice HO635.out; subst eo18) | (go_at_call 54; (with_reducible refine (impl_hydra_sorted.calls k _ _ t632 t642 _ ?side1 ?side2 A9.out).mono ?_); (case side1 => exact Kd.cm ((Kd.R_reads' HO635.out).2.2)); (case side2 => exact (Kd.R_reads' HO635.out).2.1); rintro e w19 ⟨v643, rfl, ho0, hb⟩; replace HO641 := am (Kd.R_below (Kd.rm HO641.out) hb);have HO644 := am (Kd.R_lower (Kd.R_new' (Kd.R_new' (Kd.R_new' ho0 (Kd.R_lt (Kd.rm HO631.out))) (Kd.R_lt (Kd.rm HO635.out))) (Kd.R_lt (Kd.rm HO638.out))) (below_size (bm HB.out)));replace HO631 := am (Kd.R_elder' (Kd.rm HO631.out) (Kd.R_base ho0) hb);replace HO635 := am (Kd.R_elder' (Kd.rm HO635.out) (Kd.R_base ho0) hb);replace HO638 := am (Kd.R_elder' (Kd.rm HO638.out) (Kd.R_base ho0) hb);replace HB := am (below_step (bm HB.out) hb); (try clear hb); (try clear ho0); obtain ⟨Ao20, co20, eo20⟩ := Kd.R_slice HO644.out; subst eo20) | (go_at_call 55; (with_reducible refine (impl_hydra_row.calls k _ _ t642 t645 _ ?side1 ?side2 A10.out).mono ?_); (case side1 => exact Kd.cm ((Kd.R_reads' HO644.out).2.2)); (case side2 => exact (Kd.R_reads' HO644.out).2.1); rintro e w21 ⟨v646, rfl, ho0, hb⟩; replace HO631 := am (Kd.R_below (Kd.rm HO631.out) hb);replace HO635 := am (Kd.R_below (Kd.rm HO635.out) hb);replace HO638 := am (Kd.R_below (Kd.rm HO638.out) hb);replace HO644 := am (Kd.R_below (Kd.rm HO644.out) hb);have HO647 := am (Kd.R_lower (Kd.R_new' ho0 (Kd.R_lt (Kd.rm HO641.out))) (below_size (bm HB.out)));replace HO641 := am (Kd.R_elder' (Kd.rm HO641.out) (Kd.R_base ho0) hb);replace HB := am (below_step (bm HB.out) hb); (try clear hb); (try clear ho0); obtain ⟨Ao22, co22, eo22⟩ := Kd.R_slice HO641.out; subst eo22; obtain ⟨Ao23, co23, eo23⟩ := Kd.R_slice HO647.out; subst eo23) | (go_at_call 53; (with_reducible refine (slices_Equal_int_int.calls k _ _ t639 _ _ t645 t648 _ ?side1 ?side2 ?side3 ?side4 A11.out).mono ?_); (case side1 => exact Kd.cm ((Kd.R_reads' HO641.out).2.2)); (case side2 => exact (Kd.R_reads' HO641.out).2.1); (case side3 => exact Kd.cm ((Kd.R_reads' HO647.out).2.2)); (case side4 => exact (Kd.R_reads' HO647.out).2.1); rintro e w' ⟨rfl, ⟨nd, rfl⟩⟩));go_ret;exact ⟨by first | rfl | (simp [errW_none, errW_some] <;> rfl) | (simp [*, errW_none, errW_some] <;> rfl), bm HB.out⟩
  ·
   replace c6 := Bool.eq_false_iff.mpr c6;subst c6
   have H1 : (some false) = some r := by rw [if_neg (show ¬ (false = true) by decide)] at H; exact H
   clear H;have H := H1;clear H1;obtain rfl := Option.some.inj H;go_enter Try.func28, Try.ntmps28;go_wp2_with (first | ((with_reducible refine gate_callee (f := 43) rfl ?_); refine goesL_ (some 11) rfl rfl Try.func43 (by kernel_rfl) rfl #[.slice A0 l0.length c0] rfl (by (try simp only [mA, mB, mC]); first | done | rfl) ?_; (with_reducible refine (impl_hydraOf.calls k _ _ l0 t628 true _ ?side1 ?side2 A3.out).mono ?_); (case side1 => exact Kd.cm HR0.out); (case side2 => exact HC0.out); rintro e w24 ⟨v630, rfl, ho0, hb⟩; refine ⟨_, rfl, ?_⟩; have HO631 := am (Kd.R_lower ho0 (below_size (bm HB.out)));replace HB := am (below_step (bm HB.out) hb); (try clear hb); (try clear ho0)) | ((with_reducible refine gate_callee (f := 43) rfl ?_); refine goesL_ (some 16) rfl rfl Try.func43 (by kernel_rfl) rfl #[.slice A1 l1.length c1] rfl (by (try simp only [mA, mB, mC]); first | done | rfl) ?_; (with_reducible refine (impl_hydraOf.calls k _ _ l1 t632 false _ ?side1 ?side2 A4.out).mono ?_); (case side1 => exact Kd.cm ((Kd.C_below HR1.out HB.out))); (case side2 => exact HC1.out); rintro e w25 ⟨v634, rfl, ho0, hb⟩; refine ⟨_, rfl, ?_⟩; have HO635 := am (Kd.R_lower (Kd.R_new' ho0 (Kd.R_lt (Kd.rm HO631.out))) (below_size (bm HB.out)));replace HO631 := am (Kd.R_elder' (Kd.rm HO631.out) (Kd.R_base ho0) hb);replace HB := am (below_step (bm HB.out) hb); (try clear hb); (try clear ho0)));go_ret;exact ⟨by first | rfl | (simp [errW_none, errW_some] <;> rfl) | (simp [*, errW_none, errW_some] <;> rfl), bm HB.out⟩
 ·
  replace c5 := Bool.eq_false_iff.mpr c5;subst c5
  have H1 : (some false) = some r := by rw [if_neg (show ¬ (false = true) by decide)] at H; exact H
  clear H;have H := H1;clear H1;obtain rfl := Option.some.inj H;go_enter Try.func28, Try.ntmps28;go_wp2_with (first | ((with_reducible refine gate_callee (f := 43) rfl ?_); refine goesL_ (some 11) rfl rfl Try.func43 (by kernel_rfl) rfl #[.slice A0 l0.length c0] rfl (by (try simp only [mA, mB, mC]); first | done | rfl) ?_; (with_reducible refine (impl_hydraOf.calls k _ _ l0 t628 false _ ?side1 ?side2 A3.out).mono ?_); (case side1 => exact Kd.cm HR0.out); (case side2 => exact HC0.out); rintro e w26 ⟨v630, rfl, ho0, hb⟩; refine ⟨_, rfl, ?_⟩; have HO631 := am (Kd.R_lower ho0 (below_size (bm HB.out)));replace HB := am (below_step (bm HB.out) hb); (try clear hb); (try clear ho0)) | ((with_reducible refine gate_callee (f := 43) rfl ?_); refine goesL_ (some 16) rfl rfl Try.func43 (by kernel_rfl) rfl #[.slice A1 l1.length c1] rfl (by (try simp only [mA, mB, mC]); first | done | rfl) ?_; (with_reducible refine (impl_hydraOf.calls k _ _ l1 t632 t633 _ ?side1 ?side2 A4.out).mono ?_); (case side1 => exact Kd.cm ((Kd.C_below HR1.out HB.out))); (case side2 => exact HC1.out); rintro e w27 ⟨v634, rfl, ho0, hb⟩; refine ⟨_, rfl, ?_⟩; have HO635 := am (Kd.R_lower (Kd.R_new' ho0 (Kd.R_lt (Kd.rm HO631.out))) (below_size (bm HB.out)));replace HO631 := am (Kd.R_elder' (Kd.rm HO631.out) (Kd.R_base ho0) hb);replace HB := am (below_step (bm HB.out) hb); (try clear hb); (try clear ho0)));go_ret;exact ⟨by first | rfl | (simp [errW_none, errW_some] <;> rfl) | (simp [*, errW_none, errW_some] <;> rfl), bm HB.out⟩

/-! ### laws_FnHydraOrd: function 6 -/
def laws_FnHydraOrd.j0 : Nat → List Int → List Int → Bool → Bool → Option (Bool)
 | 0, _, _, _, _ => none
 | k + 1, x3, x4, x5, x35 => if x35 = true then (some false) else (if x5 = true then ((impl_HydraOf.f k x4).bind fun bt662 => ((impl_HydraOrd.f k bt662.1).bind fun bt666 => ((impl_OrdValid.f k x4).bind fun t670 => (if t670 = true then (if bt662.2 = true then ((impl_HydraSame.f k bt662.1 x3).bind fun t671 => (if t671 = true then (if bt666.2 = true then ((laws_sameInts.f k bt666.1 x4).bind fun t672 => (some t672)) else (some false)) else (some false))) else (some false)) else (some false))))) else (if (x4.length : Int) = 0 then ((laws_alive.f k).bind fun t661 => (some t661)) else (some false)))
def laws_FnHydraOrd.f (k : Nat) (l0 : List Int) : Option (Bool) := if (l0.length : Int) > 1048576 then (some true) else ((spec_DrawHydraOrd.f k l0).bind fun t649 => ((impl_HydraOrd.f k t649).bind fun bt652 => ((spec_HydraOrd.f k t649).bind fun bt656 => ((laws_sameInts.f k bt652.1 bt656.1).bind fun t660 => (if t660 = true then (laws_FnHydraOrd.j0 k t649 bt652.1 bt652.2 (bt652.2 != bt656.2)) else (laws_FnHydraOrd.j0 k t649 bt652.1 bt652.2 true))))))
theorem laws_FnHydraOrd.mono_l : ∀ k, (∀ y0 y1 y2 y3, LeO (laws_FnHydraOrd.j0 k y0 y1 y2 y3) (laws_FnHydraOrd.j0 (k + 1) y0 y1 y2 y3))
 | 0 => fun _ _ _ _ r h => by simp [laws_FnHydraOrd.j0] at h
 | k + 1 => by
  have ih0 := laws_FnHydraOrd.mono_l k
  ·
   intro y0 y1 y2 y3;unfold laws_FnHydraOrd.j0
   repeat' first | (with_reducible exact ih0 _ _ _ _) | (with_reducible exact impl_HydraOf.mono _ _) | (with_reducible exact impl_HydraOrd.mono _ _) | (with_reducible exact impl_HydraSame.mono _ _ _) | (with_reducible exact impl_OrdValid.mono _ _) | (with_reducible exact laws_alive.mono _) | (with_reducible exact laws_sameInts.mono _ _ _) | (with_reducible exact spec_DrawHydraOrd.mono _ _) | (with_reducible exact spec_HydraOrd.mono _ _) | (with_reducible exact LeO.refl _) | (with_reducible exact LeO.none _) | (with_reducible refine LeO.ite ?_ ?_) | (with_reducible refine LeO.bind ?_ (fun _ => ?_))
theorem laws_FnHydraOrd.mono : ∀ a0 k, LeO (laws_FnHydraOrd.f k a0) (laws_FnHydraOrd.f (k + 1) a0) := by
 intro a0 k;have ih0 := laws_FnHydraOrd.mono_l k;unfold laws_FnHydraOrd.f
 repeat' first | (with_reducible exact ih0 _ _ _ _) | (with_reducible exact impl_HydraOf.mono _ _) | (with_reducible exact impl_HydraOrd.mono _ _) | (with_reducible exact impl_HydraSame.mono _ _ _) | (with_reducible exact impl_OrdValid.mono _ _) | (with_reducible exact laws_alive.mono _) | (with_reducible exact laws_sameInts.mono _ _ _) | (with_reducible exact spec_DrawHydraOrd.mono _ _) | (with_reducible exact spec_HydraOrd.mono _ _) | (with_reducible exact LeO.refl _) | (with_reducible exact LeO.none _) | (with_reducible refine LeO.ite ?_ ?_) | (with_reducible refine LeO.bind ?_ (fun _ => ?_))
set_option maxHeartbeats 8000000 in
set_option maxRecDepth 100000 in
theorem laws_FnHydraOrd.calls (k : Nat) (A0 : Option Addr) (c0 : Nat) (l0 : List Int) (r : Bool) (w : World) (hr0 : Kd.C (Kd.int .u8) w A0 l0.length l0) (hc0 : l0.length ≤ c0) (h : laws_FnHydraOrd.f k l0 = some r) :
  Calls Try.prog 6 #[.slice A0 l0.length c0] w fun e w' => e = .returned (.bool r) ∧ Below w.heap.size w w' := by
 have HR0 := am hr0;have HC0 := am hc0;clear hr0 hc0;have HB := am (Below.refl w.heap.size w);have H : (if (l0.length : Int) > 1048576 then (some true) else ((spec_DrawHydraOrd.f k l0).bind fun t649 => ((impl_HydraOrd.f k t649).bind fun bt652 => ((spec_HydraOrd.f k t649).bind fun bt656 => ((laws_sameInts.f k bt652.1 bt656.1).bind fun t660 => (if t660 = true then (laws_FnHydraOrd.j0 k t649 bt652.1 bt652.2 (bt652.2 != bt656.2)) else (laws_FnHydraOrd.j0 k t649 bt652.1 bt652.2 true))))))) = some r := h;clear h;by_cases c2 : (l0.length : Int) > 1048576
 ·
  rw [if_pos c2] at H;have c2b0 : decide (1048576 < (l0.length : Int)) = true := decide_eq_true c2;have c2b1 : decide (1048576 < l0.length) = true := decide_eq_true (by omega);clear c2;obtain rfl := Option.some.inj H;go_enter Try.func6, Try.ntmps6;go_wp2;go_ret;exact ⟨by first | rfl | (simp [errW_none, errW_some] <;> rfl) | (simp [*, errW_none, errW_some] <;> rfl), bm HB.out⟩
 ·
  rw [if_neg c2] at H;have c2b0 : decide (1048576 < (l0.length : Int)) = false := decide_eq_false c2;have c2b1 : decide (1048576 < l0.length) = false := decide_eq_false (by omega);clear c2;replace H := oE H;obtain ⟨t649, A3, H⟩ := H;replace H : ((impl_HydraOrd.f k t649).bind fun bt652 => ((spec_HydraOrd.f k t649).bind fun bt656 => ((laws_sameInts.f k bt652.1 bt656.1).bind fun t660 => (if t660 = true then (laws_FnHydraOrd.j0 k t649 bt652.1 bt652.2 (bt652.2 != bt656.2)) else (laws_FnHydraOrd.j0 k t649 bt652.1 bt652.2 true))))) = some r := H;replace A3 := am A3;replace H := oE H;obtain ⟨⟨t652, t653⟩, A4, H⟩ := H;replace H : ((spec_HydraOrd.f k t649).bind fun bt656 => ((laws_sameInts.f k t652 bt656.1).bind fun t660 => (if t660 = true then (laws_FnHydraOrd.j0 k t649 t652 t653 (t653 != bt656.2)) else (laws_FnHydraOrd.j0 k t649 t652 t653 true)))) = some r := H;replace A4 := am A4;replace H := oE H;obtain ⟨⟨t656, t657⟩, A5, H⟩ := H;replace H : ((laws_sameInts.f k t652 t656).bind fun t660 => (if t660 = true then (laws_FnHydraOrd.j0 k t649 t652 t653 (t653 != t657)) else (laws_FnHydraOrd.j0 k t649 t652 t653 true))) = some r := H;replace A5 := am A5;have HC6 := am H;clear H;go_enter Try.func6, Try.ntmps6
  go_upto_region 6 with (first | ((with_reducible refine gate_callee (f := 26) rfl ?_); refine goesL_ (some 16) rfl rfl Try.func26 (by kernel_rfl) rfl #[.slice A0 l0.length c0] rfl (by (try simp only [mA, mB, mC]); first | done | rfl) ?_; (with_reducible refine (spec_DrawHydraOrd.calls k _ _ l0 t649 _ ?side1 ?side2 A3.out).mono ?_); (case side1 => exact Kd.cm HR0.out); (case side2 => exact HC0.out); rintro e w7 ⟨v650, rfl, ho0, hb⟩; refine ⟨_, rfl, ?_⟩; have HO651 := am (Kd.R_lower ho0 (below_size (bm HB.out)));replace HB := am (below_step (bm HB.out) hb); (try clear hb); (try clear ho0); obtain ⟨Ao8, co8, eo8⟩ := Kd.R_slice HO651.out; subst eo8) | ((with_reducible refine gate_callee (f := 18) rfl ?_); refine goesL_ (some 19) rfl rfl Try.func18 (by kernel_rfl) rfl #[.slice Ao8 t649.length co8] rfl (by (try simp only [mA, mB, mC]); first | done | rfl) ?_; (with_reducible refine (impl_HydraOrd.calls k _ _ t649 t652 t653 _ ?side1 ?side2 A4.out).mono ?_); (case side1 => exact Kd.cm ((Kd.R_reads' HO651.out).2.2)); (case side2 => exact (Kd.R_reads' HO651.out).2.1); rintro e w9 ⟨v654, rfl, ho0, hb⟩; refine ⟨_, rfl, ?_⟩; have HO655 := am (Kd.Y_lower (Kd.Y_new' ho0 (Kd.R_lt (Kd.rm HO651.out))) (below_size (bm HB.out)));replace HO651 := am (Kd.R_elder' (Kd.rm HO651.out) (Kd.Y_base ho0) hb);replace HB := am (below_step (bm HB.out) hb); (try clear hb); (try clear ho0)) | ((with_reducible refine gate_callee (f := 17) rfl ?_); refine goesL_ (some 24) rfl rfl Try.func17 (by kernel_rfl) rfl #[.slice Ao8 t649.length co8] rfl (by (try simp only [mA, mB, mC]); first | done | rfl) ?_; (with_reducible refine (spec_HydraOrd.calls k _ _ t649 t656 t657 _ ?side1 ?side2 A5.out).mono ?_); (case side1 => exact Kd.cm ((Kd.R_reads' HO651.out).2.2)); (case side2 => exact (Kd.R_reads' HO651.out).2.1); rintro e w10 ⟨v658, rfl, ho0, hb⟩; refine ⟨_, rfl, ?_⟩; have HO659 := am (Kd.R_lower (Kd.R_new' (Kd.R_new' ho0 (Kd.R_lt (Kd.rm HO651.out))) (Kd.Y_lt (Kd.ym HO655.out))) (below_size (bm HB.out)));replace HO651 := am (Kd.R_elder' (Kd.rm HO651.out) (Kd.R_base ho0) hb);replace HO655 := am (Kd.Y_elder' (Kd.ym HO655.out) (Kd.R_base ho0) hb);replace HB := am (below_step (bm HB.out) hb); (try clear hb); (try clear ho0)))
  (try simp only [Act.put, List.setIfInBounds_toArray, List.set_cons_zero, List.set_cons_succ])
  go_cut [35] (fun v35 wc => ∃ (kq : Nat) (x35_5 : Bool), v35 = .bool x35_5 ∧ Aside0 (laws_FnHydraOrd.j0 kq t649 t652 t653 x35_5 = some r) ∧ Aside0 (kq ≤ k) ∧ Aside0 (Kd.R (Kd.int .i64) 3 wc w.heap.size (fun k_ => some k_ ≠ (v654 : Value).ownBlock) (.slice Ao8 t649.length co8) t649) ∧ Aside0 (Kd.Y (Kd.int .i64) 3 wc w.heap.size (fun k_ => some k_ ≠ ((.slice Ao8 t649.length co8) : Value).ownBlock) v654 t652) ∧ Aside0 (Below w.heap.size w wc))
  case first =>
   have H := HC6.out;clear HC6;replace H := oE H;obtain ⟨t660, A11, H⟩ := H;replace H : (if t660 = true then (laws_FnHydraOrd.j0 k t649 t652 t653 (t653 != t657)) else (laws_FnHydraOrd.j0 k t649 t652 t653 true)) = some r := H;replace A11 := am A11;by_cases c12 : t660 = true
   ·
    subst c12
    have H1 : (laws_FnHydraOrd.j0 k t649 t652 t653 (t653 != t657)) = some r := by rw [if_pos rfl] at H; exact H
    clear H;have H := H1;clear H1;have H' := am H;clear H;obtain ⟨Ao13, co13, eo13, _⟩ := Kd.Y_slice HO655.out;subst eo13;obtain ⟨Ao14, co14, eo14⟩ := Kd.R_slice HO659.out;subst eo14;go_wp2_with (first | ((with_reducible refine gate_callee (f := 20) rfl ?_); refine goesL_ (some 29) rfl rfl Try.func20 (by kernel_rfl) rfl #[.slice Ao13 t652.length co13, .slice Ao14 t656.length co14] rfl (by (try simp only [mA, mB, mC]); first | done | rfl) ?_; (with_reducible refine (laws_sameInts.calls k _ _ t652 _ _ t656 true _ ?side1 ?side2 ?side3 ?side4 A11.out).mono ?_); (case side1 => exact Kd.cm ((Kd.Y_reads' HO655.out).2.2)); (case side2 => exact (Kd.Y_reads' HO655.out).2.1); (case side3 => exact Kd.cm ((Kd.R_reads' HO659.out).2.2)); (case side4 => exact (Kd.R_reads' HO659.out).2.1); rintro e w' ⟨rfl, ⟨nd, rfl⟩⟩; refine ⟨_, rfl, ?_⟩));go_meet
    case rel => exact ⟨_, ((t653 != t657)), (by first | rfl | (simp; done) | (simp [*]; done)), H', ⟨by first | omega | exact Nat.le_refl _⟩, ⟨Kd.rm (Kd.R_mono HO651.out (fun _ hk => hk.1.2))⟩, ⟨Kd.ym (Kd.Y_mono HO655.out (fun _ hk => hk.1.2))⟩, ⟨bm HB.out⟩⟩
   ·
    replace c12 := Bool.eq_false_iff.mpr c12;subst c12
    have H1 : (laws_FnHydraOrd.j0 k t649 t652 t653 true) = some r := by rw [if_neg (show ¬ (false = true) by decide)] at H; exact H
    clear H;have H := H1;clear H1;have H' := am H;clear H;obtain ⟨Ao15, co15, eo15, _⟩ := Kd.Y_slice HO655.out;subst eo15;obtain ⟨Ao16, co16, eo16⟩ := Kd.R_slice HO659.out;subst eo16;go_wp2_with (first | ((with_reducible refine gate_callee (f := 20) rfl ?_); refine goesL_ (some 29) rfl rfl Try.func20 (by kernel_rfl) rfl #[.slice Ao15 t652.length co15, .slice Ao16 t656.length co16] rfl (by (try simp only [mA, mB, mC]); first | done | rfl) ?_; (with_reducible refine (laws_sameInts.calls k _ _ t652 _ _ t656 false _ ?side1 ?side2 ?side3 ?side4 A11.out).mono ?_); (case side1 => exact Kd.cm ((Kd.Y_reads' HO655.out).2.2)); (case side2 => exact (Kd.Y_reads' HO655.out).2.1); (case side3 => exact Kd.cm ((Kd.R_reads' HO659.out).2.2)); (case side4 => exact (Kd.R_reads' HO659.out).2.1); rintro e w' ⟨rfl, ⟨nd, rfl⟩⟩; refine ⟨_, rfl, ?_⟩));go_meet
    case rel => exact ⟨_, (true), (by first | rfl | (simp; done) | (simp [*]; done)), H', ⟨by first | omega | exact Nat.le_refl _⟩, ⟨Kd.rm (Kd.R_mono HO651.out (fun _ hk => hk.1.2))⟩, ⟨Kd.ym (Kd.Y_mono HO655.out (fun _ hk => hk.1.2))⟩, ⟨bm HB.out⟩⟩
  case rest =>
   clear HC6;(try clear c1);(try clear c2);(try clear c2b0);(try clear c2b1);(try clear p2);(try clear c6);(try clear c12);obtain ⟨kq, x35_5, rfl, HA, HJ5, HO_3, HO_4, HB⟩ := hcut
   cases kq with
   | zero => exact absurd HA.out (by simp [laws_FnHydraOrd.j0])
   | succ kj5 =>
    have H := HA.out;clear HA;simp only [laws_FnHydraOrd.j0] at H;by_cases c17 : x35_5 = true
    ·
     subst c17
     have H1 : (some false) = some r := by rw [if_pos rfl] at H; exact H
     clear H;have H := H1;clear H1;obtain rfl := Option.some.inj H;go_wp2;go_ret;exact ⟨by first | rfl | (simp [errW_none, errW_some] <;> rfl) | (simp [*, errW_none, errW_some] <;> rfl), bm HB.out⟩
    ·
     replace c17 := Bool.eq_false_iff.mpr c17;subst c17
     have H1 : (if t653 = true then ((impl_HydraOf.f kj5 t652).bind fun bt662 => ((impl_HydraOrd.f kj5 bt662.1).bind fun bt666 => ((impl_OrdValid.f kj5 t652).bind fun t670 => (if t670 = true then (if bt662.2 = true then ((impl_HydraSame.f kj5 bt662.1 t649).bind fun t671 => (if t671 = true then (if bt666.2 = true then ((laws_sameInts.f kj5 bt666.1 t652).bind fun t672 => (some t672)) else (some false)) else (some false))) else (some false)) else (some false))))) else (if (t652.length : Int) = 0 then ((laws_alive.f kj5).bind fun t661 => (some t661)) else (some false))) = some r := by rw [if_neg (show ¬ (false = true) by decide)] at H; exact H
     clear H;have H := H1;clear H1;by_cases c18 : t653 = true
     ·
      subst c18
      have H1 : ((impl_HydraOf.f kj5 t652).bind fun bt662 => ((impl_HydraOrd.f kj5 bt662.1).bind fun bt666 => ((impl_OrdValid.f kj5 t652).bind fun t670 => (if t670 = true then (if bt662.2 = true then ((impl_HydraSame.f kj5 bt662.1 t649).bind fun t671 => (if t671 = true then (if bt666.2 = true then ((laws_sameInts.f kj5 bt666.1 t652).bind fun t672 => (some t672)) else (some false)) else (some false))) else (some false)) else (some false))))) = some r := by rw [if_pos rfl] at H; exact H
      clear H;have H := H1;clear H1;replace H := oE H;obtain ⟨⟨t662, t663⟩, A19, H⟩ := H;replace H : ((impl_HydraOrd.f kj5 t662).bind fun bt666 => ((impl_OrdValid.f kj5 t652).bind fun t670 => (if t670 = true then (if t663 = true then ((impl_HydraSame.f kj5 t662 t649).bind fun t671 => (if t671 = true then (if bt666.2 = true then ((laws_sameInts.f kj5 bt666.1 t652).bind fun t672 => (some t672)) else (some false)) else (some false))) else (some false)) else (some false)))) = some r := H;replace A19 := am A19;replace H := oE H;obtain ⟨⟨t666, t667⟩, A20, H⟩ := H;replace H : ((impl_OrdValid.f kj5 t652).bind fun t670 => (if t670 = true then (if t663 = true then ((impl_HydraSame.f kj5 t662 t649).bind fun t671 => (if t671 = true then (if t667 = true then ((laws_sameInts.f kj5 t666 t652).bind fun t672 => (some t672)) else (some false)) else (some false))) else (some false)) else (some false))) = some r := H;replace A20 := am A20;replace H := oE H;obtain ⟨t670, A21, H⟩ := H;replace H : (if t670 = true then (if t663 = true then ((impl_HydraSame.f kj5 t662 t649).bind fun t671 => (if t671 = true then (if t667 = true then ((laws_sameInts.f kj5 t666 t652).bind fun t672 => (some t672)) else (some false)) else (some false))) else (some false)) else (some false)) = some r := H;replace A21 := am A21;by_cases c22 : t670 = true
      ·
       subst c22
       have H1 : (if t663 = true then ((impl_HydraSame.f kj5 t662 t649).bind fun t671 => (if t671 = true then (if t667 = true then ((laws_sameInts.f kj5 t666 t652).bind fun t672 => (some t672)) else (some false)) else (some false))) else (some false)) = some r := by rw [if_pos rfl] at H; exact H
       clear H;have H := H1;clear H1;by_cases c23 : t663 = true
       ·
        subst c23
        have H1 : ((impl_HydraSame.f kj5 t662 t649).bind fun t671 => (if t671 = true then (if t667 = true then ((laws_sameInts.f kj5 t666 t652).bind fun t672 => (some t672)) else (some false)) else (some false))) = some r := by rw [if_pos rfl] at H; exact H
        clear H;have H := H1;clear H1;replace H := oE H;obtain ⟨t671, A24, H⟩ := H;replace H : (if t671 = true then (if t667 = true then ((laws_sameInts.f kj5 t666 t652).bind fun t672 => (some t672)) else (some false)) else (some false)) = some r := H;replace A24 := am A24;by_cases c25 : t671 = true
        ·
         subst c25
         have H1 : (if t667 = true then ((laws_sameInts.f kj5 t666 t652).bind fun t672 => (some t672)) else (some false)) = some r := by rw [if_pos rfl] at H; exact H
         clear H;have H := H1;clear H1;by_cases c26 : t667 = true
         ·
          subst c26
          have H1 : ((laws_sameInts.f kj5 t666 t652).bind fun t672 => (some t672)) = some r := by rw [if_pos rfl] at H; exact H
          clear H;have H := H1;clear H1;replace H := oE H;obtain ⟨t672, A27, H⟩ := H;replace H : (some t672) = some r := H;replace A27 := am A27;obtain rfl := Option.some.inj H;obtain ⟨Ao28, co28, eo28, _⟩ := Kd.Y_slice HO_4.out;subst eo28;go_wp2_with (first | ((with_reducible refine gate_callee (f := 13) rfl ?_); refine goesL_ (some 46) rfl rfl Try.func13 (by kernel_rfl) rfl #[.slice Ao28 t652.length co28] rfl (by (try simp only [mA, mB, mC]); first | done | rfl) ?_; (with_reducible refine (impl_HydraOf.calls kj5 _ _ t652 t662 true _ ?side1 ?side2 A19.out).mono ?_); (case side1 => exact Kd.cm ((Kd.Y_reads' HO_4.out).2.2)); (case side2 => exact (Kd.Y_reads' HO_4.out).2.1); rintro e w29 ⟨v664, rfl, ho0, hb⟩; refine ⟨_, rfl, ?_⟩; have HO665 := am (Kd.Y_lower (Kd.Y_new' (Kd.Y_new' ho0 (Kd.R_lt (Kd.rm HO_3.out))) (Kd.Y_lt (Kd.ym HO_4.out))) (below_size (bm HB.out)));replace HO_3 := am (Kd.R_elder' (Kd.rm HO_3.out) (Kd.Y_base ho0) hb);replace HO_4 := am (Kd.Y_elder' (Kd.ym HO_4.out) (Kd.Y_base ho0) hb);replace HB := am (below_step (bm HB.out) hb); (try clear hb); (try clear ho0); obtain ⟨Ao30, co30, eo30, _⟩ := Kd.Y_slice HO665.out; subst eo30) | ((with_reducible refine gate_callee (f := 18) rfl ?_); refine goesL_ (some 51) rfl rfl Try.func18 (by kernel_rfl) rfl #[.slice Ao30 t662.length co30] rfl (by (try simp only [mA, mB, mC]); first | done | rfl) ?_; (with_reducible refine (impl_HydraOrd.calls kj5 _ _ t662 t666 true _ ?side1 ?side2 A20.out).mono ?_); (case side1 => exact Kd.cm ((Kd.Y_reads' HO665.out).2.2)); (case side2 => exact (Kd.Y_reads' HO665.out).2.1); rintro e w31 ⟨v668, rfl, ho0, hb⟩; refine ⟨_, rfl, ?_⟩; have HO669 := am (Kd.Y_lower (Kd.Y_new' (Kd.Y_new' (Kd.Y_new' ho0 (Kd.R_lt (Kd.rm HO_3.out))) (Kd.Y_lt (Kd.ym HO_4.out))) (Kd.Y_lt (Kd.ym HO665.out))) (below_size (bm HB.out)));replace HO_3 := am (Kd.R_elder' (Kd.rm HO_3.out) (Kd.Y_base ho0) hb);replace HO_4 := am (Kd.Y_elder' (Kd.ym HO_4.out) (Kd.Y_base ho0) hb);replace HO665 := am (Kd.Y_elder' (Kd.ym HO665.out) (Kd.Y_base ho0) hb);replace HB := am (below_step (bm HB.out) hb); (try clear hb); (try clear ho0)) | ((with_reducible refine gate_callee (f := 27) rfl ?_); refine goesL_ (some 55) rfl rfl Try.func27 (by kernel_rfl) rfl #[.slice Ao28 t652.length co28] rfl (by (try simp only [mA, mB, mC]); first | done | rfl) ?_; (with_reducible refine (impl_OrdValid.calls kj5 _ _ t652 true _ ?side1 ?side2 A21.out).mono ?_); (case side1 => exact Kd.cm ((Kd.Y_reads' HO_4.out).2.2)); (case side2 => exact (Kd.Y_reads' HO_4.out).2.1); rintro e w32 ⟨rfl, hb⟩; refine ⟨_, rfl, ?_⟩; replace HO_3 := am (Kd.R_below (Kd.rm HO_3.out) hb);replace HO_4 := am (Kd.Y_below (Kd.ym HO_4.out) hb);replace HO665 := am (Kd.Y_below (Kd.ym HO665.out) hb);replace HO669 := am (Kd.Y_below (Kd.ym HO669.out) hb);replace HB := am (below_step (bm HB.out) hb); (try clear hb)) | (go_at_call 28; (with_reducible refine (impl_HydraSame.calls kj5 _ _ t662 _ _ t649 true _ ?side1 ?side2 ?side3 ?side4 A24.out).mono ?_); (case side1 => exact Kd.cm ((Kd.Y_reads' HO665.out).2.2)); (case side2 => exact (Kd.Y_reads' HO665.out).2.1); (case side3 => exact Kd.cm ((Kd.R_reads' HO_3.out).2.2)); (case side4 => exact (Kd.R_reads' HO_3.out).2.1); rintro e w33 ⟨rfl, hb⟩; replace HO_3 := am (Kd.R_below (Kd.rm HO_3.out) hb);replace HO_4 := am (Kd.Y_below (Kd.ym HO_4.out) hb);replace HO665 := am (Kd.Y_below (Kd.ym HO665.out) hb);replace HO669 := am (Kd.Y_below (Kd.ym HO669.out) hb);replace HB := am (below_step (bm HB.out) hb); (try clear hb); obtain ⟨Ao34, co34, eo34, _⟩ := Kd.Y_slice HO669.out; subst eo34) | (go_at_call 20; (with_reducible refine (laws_sameInts.calls kj5 _ _ t666 _ _ t652 t672 _ ?side1 ?side2 ?side3 ?side4 A27.out).mono ?_); (case side1 => exact Kd.cm ((Kd.Y_reads' HO669.out).2.2)); (case side2 => exact (Kd.Y_reads' HO669.out).2.1); (case side3 => exact Kd.cm ((Kd.Y_reads' HO_4.out).2.2)); (case side4 => exact (Kd.Y_reads' HO_4.out).2.1); rintro e w' ⟨rfl, ⟨nd, rfl⟩⟩));go_ret;exact ⟨by first | rfl | (simp [errW_none, errW_some] <;> rfl) | (simp [*, errW_none, errW_some] <;> rfl), bm HB.out⟩
         ·
          replace c26 := Bool.eq_false_iff.mpr c26;subst c26
          have H1 : (some false) = some r := by rw [if_neg (show ¬ (false = true) by decide)] at H; exact H
          clear H;have H := H1;clear H1;obtain rfl := Option.some.inj H;obtain ⟨Ao35, co35, eo35, _⟩ := Kd.Y_slice HO_4.out;subst eo35;go_wp2_with (first | ((with_reducible refine gate_callee (f := 13) rfl ?_); refine goesL_ (some 46) rfl rfl Try.func13 (by kernel_rfl) rfl #[.slice Ao35 t652.length co35] rfl (by (try simp only [mA, mB, mC]); first | done | rfl) ?_; (with_reducible refine (impl_HydraOf.calls kj5 _ _ t652 t662 true _ ?side1 ?side2 A19.out).mono ?_); (case side1 => exact Kd.cm ((Kd.Y_reads' HO_4.out).2.2)); (case side2 => exact (Kd.Y_reads' HO_4.out).2.1); rintro e w36 ⟨v664, rfl, ho0, hb⟩; refine ⟨_, rfl, ?_⟩; have HO665 := am (Kd.Y_lower (Kd.Y_new' (Kd.Y_new' ho0 (Kd.R_lt (Kd.rm HO_3.out))) (Kd.Y_lt (Kd.ym HO_4.out))) (below_size (bm HB.out)));replace HO_3 := am (Kd.R_elder' (Kd.rm HO_3.out) (Kd.Y_base ho0) hb);replace HO_4 := am (Kd.Y_elder' (Kd.ym HO_4.out) (Kd.Y_base ho0) hb);replace HB := am (below_step (bm HB.out) hb); (try clear hb); (try clear ho0); obtain ⟨Ao37, co37, eo37, _⟩ := Kd.Y_slice HO665.out; subst eo37) | ((with_reducible refine gate_callee (f := 18) rfl ?_); refine goesL_ (some 51) rfl rfl Try.func18 (by kernel_rfl) rfl #[.slice Ao37 t662.length co37] rfl (by (try simp only [mA, mB, mC]); first | done | rfl) ?_; (with_reducible refine (impl_HydraOrd.calls kj5 _ _ t662 t666 false _ ?side1 ?side2 A20.out).mono ?_); (case side1 => exact Kd.cm ((Kd.Y_reads' HO665.out).2.2)); (case side2 => exact (Kd.Y_reads' HO665.out).2.1); rintro e w38 ⟨v668, rfl, ho0, hb⟩; refine ⟨_, rfl, ?_⟩; have HO669 := am (Kd.Y_lower (Kd.Y_new' (Kd.Y_new' (Kd.Y_new' ho0 (Kd.R_lt (Kd.rm HO_3.out))) (Kd.Y_lt (Kd.ym HO_4.out))) (Kd.Y_lt (Kd.ym HO665.out))) (below_size (bm HB.out)));replace HO_3 := am (Kd.R_elder' (Kd.rm HO_3.out) (Kd.Y_base ho0) hb);replace HO_4 := am (Kd.Y_elder' (Kd.ym HO_4.out) (Kd.Y_base ho0) hb);replace HO665 := am (Kd.Y_elder' (Kd.ym HO665.out) (Kd.Y_base ho0) hb);replace HB := am (below_step (bm HB.out) hb); (try clear hb); (try clear ho0)) | ((with_reducible refine gate_callee (f := 27) rfl ?_); refine goesL_ (some 55) rfl rfl Try.func27 (by kernel_rfl) rfl #[.slice Ao35 t652.length co35] rfl (by (try simp only [mA, mB, mC]); first | done | rfl) ?_; (with_reducible refine (impl_OrdValid.calls kj5 _ _ t652 true _ ?side1 ?side2 A21.out).mono ?_); (case side1 => exact Kd.cm ((Kd.Y_reads' HO_4.out).2.2)); (case side2 => exact (Kd.Y_reads' HO_4.out).2.1); rintro e w39 ⟨rfl, hb⟩; refine ⟨_, rfl, ?_⟩; replace HO_3 := am (Kd.R_below (Kd.rm HO_3.out) hb);replace HO_4 := am (Kd.Y_below (Kd.ym HO_4.out) hb);replace HO665 := am (Kd.Y_below (Kd.ym HO665.out) hb);replace HO669 := am (Kd.Y_below (Kd.ym HO669.out) hb);replace HB := am (below_step (bm HB.out) hb); (try clear hb)) | (go_at_call 28; (with_reducible refine (impl_HydraSame.calls kj5 _ _ t662 _ _ t649 true _ ?side1 ?side2 ?side3 ?side4 A24.out).mono ?_); (case side1 => exact Kd.cm ((Kd.Y_reads' HO665.out).2.2)); (case side2 => exact (Kd.Y_reads' HO665.out).2.1); (case side3 => exact Kd.cm ((Kd.R_reads' HO_3.out).2.2)); (case side4 => exact (Kd.R_reads' HO_3.out).2.1); rintro e w40 ⟨rfl, hb⟩; replace HO_3 := am (Kd.R_below (Kd.rm HO_3.out) hb);replace HO_4 := am (Kd.Y_below (Kd.ym HO_4.out) hb);replace HO665 := am (Kd.Y_below (Kd.ym HO665.out) hb);replace HO669 := am (Kd.Y_below (Kd.ym HO669.out) hb);replace HB := am (below_step (bm HB.out) hb); (try clear hb)));go_ret;exact ⟨by first | rfl | (simp [errW_none, errW_some] <;> rfl) | (simp [*, errW_none, errW_some] <;> rfl), bm HB.out⟩
        ·
         replace c25 := Bool.eq_false_iff.mpr c25;subst c25
         have H1 : (some false) = some r := by rw [if_neg (show ¬ (false = true) by decide)] at H; exact H
         clear H;have H := H1;clear H1;obtain rfl := Option.some.inj H;obtain ⟨Ao41, co41, eo41, _⟩ := Kd.Y_slice HO_4.out;subst eo41;go_wp2_with (first | ((with_reducible refine gate_callee (f := 13) rfl ?_); refine goesL_ (some 46) rfl rfl Try.func13 (by kernel_rfl) rfl #[.slice Ao41 t652.length co41] rfl (by (try simp only [mA, mB, mC]); first | done | rfl) ?_; (with_reducible refine (impl_HydraOf.calls kj5 _ _ t652 t662 true _ ?side1 ?side2 A19.out).mono ?_); (case side1 => exact Kd.cm ((Kd.Y_reads' HO_4.out).2.2)); (case side2 => exact (Kd.Y_reads' HO_4.out).2.1); rintro e w42 ⟨v664, rfl, ho0, hb⟩; refine ⟨_, rfl, ?_⟩; have HO665 := am (Kd.Y_lower (Kd.Y_new' (Kd.Y_new' ho0 (Kd.R_lt (Kd.rm HO_3.out))) (Kd.Y_lt (Kd.ym HO_4.out))) (below_size (bm HB.out)));replace HO_3 := am (Kd.R_elder' (Kd.rm HO_3.out) (Kd.Y_base ho0) hb);replace HO_4 := am (Kd.Y_elder' (Kd.ym HO_4.out) (Kd.Y_base ho0) hb);replace HB := am (below_step (bm HB.out) hb); (try clear hb); (try clear ho0); obtain ⟨Ao43, co43, eo43, _⟩ := Kd.Y_slice HO665.out; subst eo43) | ((with_reducible refine gate_callee (f := 18) rfl ?_); refine goesL_ (some 51) rfl rfl Try.func18 (by kernel_rfl) rfl #[.slice Ao43 t662.length co43] rfl (by (try simp only [mA, mB, mC]); first | done | rfl) ?_; (with_reducible refine (impl_HydraOrd.calls kj5 _ _ t662 t666 t667 _ ?side1 ?side2 A20.out).mono ?_); (case side1 => exact Kd.cm ((Kd.Y_reads' HO665.out).2.2)); (case side2 => exact (Kd.Y_reads' HO665.out).2.1); rintro e w44 ⟨v668, rfl, ho0, hb⟩; refine ⟨_, rfl, ?_⟩; have HO669 := am (Kd.Y_lower (Kd.Y_new' (Kd.Y_new' (Kd.Y_new' ho0 (Kd.R_lt (Kd.rm HO_3.out))) (Kd.Y_lt (Kd.ym HO_4.out))) (Kd.Y_lt (Kd.ym HO665.out))) (below_size (bm HB.out)));replace HO_3 := am (Kd.R_elder' (Kd.rm HO_3.out) (Kd.Y_base ho0) hb);replace HO_4 := am (Kd.Y_elder' (Kd.ym HO_4.out) (Kd.Y_base ho0) hb);replace HO665 := am (Kd.Y_elder' (Kd.ym HO665.out) (Kd.Y_base ho0) hb);replace HB := am (below_step (bm HB.out) hb); (try clear hb); (try clear ho0)) | ((with_reducible refine gate_callee (f := 27) rfl ?_); refine goesL_ (some 55) rfl rfl Try.func27 (by kernel_rfl) rfl #[.slice Ao41 t652.length co41] rfl (by (try simp only [mA, mB, mC]); first | done | rfl) ?_; (with_reducible refine (impl_OrdValid.calls kj5 _ _ t652 true _ ?side1 ?side2 A21.out).mono ?_); (case side1 => exact Kd.cm ((Kd.Y_reads' HO_4.out).2.2)); (case side2 => exact (Kd.Y_reads' HO_4.out).2.1); rintro e w45 ⟨rfl, hb⟩; refine ⟨_, rfl, ?_⟩; replace HO_3 := am (Kd.R_below (Kd.rm HO_3.out) hb);replace HO_4 := am (Kd.Y_below (Kd.ym HO_4.out) hb);replace HO665 := am (Kd.Y_below (Kd.ym HO665.out) hb);replace HO669 := am (Kd.Y_below (Kd.ym HO669.out) hb);replace HB := am (below_step (bm HB.out) hb); (try clear hb)) | (go_at_call 28; (with_reducible refine (impl_HydraSame.calls kj5 _ _ t662 _ _ t649 false _ ?side1 ?side2 ?side3 ?side4 A24.out).mono ?_); (case side1 => exact Kd.cm ((Kd.Y_reads' HO665.out).2.2)); (case side2 => exact (Kd.Y_reads' HO665.out).2.1); (case side3 => exact Kd.cm ((Kd.R_reads' HO_3.out).2.2)); (case side4 => exact (Kd.R_reads' HO_3.out).2.1); rintro e w46 ⟨rfl, hb⟩; replace HO_3 := am (Kd.R_below (Kd.rm HO_3.out) hb);replace HO_4 := am (Kd.Y_below (Kd.ym HO_4.out) hb);replace HO665 := am (Kd.Y_below (Kd.ym HO665.out) hb);replace HO669 := am (Kd.Y_below (Kd.ym HO669.out) hb);replace HB := am (below_step (bm HB.out) hb); (try clear hb)));go_ret;exact ⟨by first | rfl | (simp [errW_none, errW_some] <;> rfl) | (simp [*, errW_none, errW_some] <;> rfl), bm HB.out⟩
       ·
        replace c23 := Bool.eq_false_iff.mpr c23;subst c23
        have H1 : (some false) = some r := by rw [if_neg (show ¬ (false = true) by decide)] at H; exact H
        clear H;have H := H1;clear H1;obtain rfl := Option.some.inj H;obtain ⟨Ao47, co47, eo47, _⟩ := Kd.Y_slice HO_4.out;subst eo47;go_wp2_with (first | ((with_reducible refine gate_callee (f := 13) rfl ?_); refine goesL_ (some 46) rfl rfl Try.func13 (by kernel_rfl) rfl #[.slice Ao47 t652.length co47] rfl (by (try simp only [mA, mB, mC]); first | done | rfl) ?_; (with_reducible refine (impl_HydraOf.calls kj5 _ _ t652 t662 false _ ?side1 ?side2 A19.out).mono ?_); (case side1 => exact Kd.cm ((Kd.Y_reads' HO_4.out).2.2)); (case side2 => exact (Kd.Y_reads' HO_4.out).2.1); rintro e w48 ⟨v664, rfl, ho0, hb⟩; refine ⟨_, rfl, ?_⟩; have HO665 := am (Kd.Y_lower (Kd.Y_new' (Kd.Y_new' ho0 (Kd.R_lt (Kd.rm HO_3.out))) (Kd.Y_lt (Kd.ym HO_4.out))) (below_size (bm HB.out)));replace HO_3 := am (Kd.R_elder' (Kd.rm HO_3.out) (Kd.Y_base ho0) hb);replace HO_4 := am (Kd.Y_elder' (Kd.ym HO_4.out) (Kd.Y_base ho0) hb);replace HB := am (below_step (bm HB.out) hb); (try clear hb); (try clear ho0); obtain ⟨Ao49, co49, eo49, _⟩ := Kd.Y_slice HO665.out; subst eo49) | ((with_reducible refine gate_callee (f := 18) rfl ?_); refine goesL_ (some 51) rfl rfl Try.func18 (by kernel_rfl) rfl #[.slice Ao49 t662.length co49] rfl (by (try simp only [mA, mB, mC]); first | done | rfl) ?_; (with_reducible refine (impl_HydraOrd.calls kj5 _ _ t662 t666 t667 _ ?side1 ?side2 A20.out).mono ?_); (case side1 => exact Kd.cm ((Kd.Y_reads' HO665.out).2.2)); (case side2 => exact (Kd.Y_reads' HO665.out).2.1); rintro e w50 ⟨v668, rfl, ho0, hb⟩; refine ⟨_, rfl, ?_⟩; have HO669 := am (Kd.Y_lower (Kd.Y_new' (Kd.Y_new' (Kd.Y_new' ho0 (Kd.R_lt (Kd.rm HO_3.out))) (Kd.Y_lt (Kd.ym HO_4.out))) (Kd.Y_lt (Kd.ym HO665.out))) (below_size (bm HB.out)));replace HO_3 := am (Kd.R_elder' (Kd.rm HO_3.out) (Kd.Y_base ho0) hb);replace HO_4 := am (Kd.Y_elder' (Kd.ym HO_4.out) (Kd.Y_base ho0) hb);replace HO665 := am (Kd.Y_elder' (Kd.ym HO665.out) (Kd.Y_base ho0) hb);replace HB := am (below_step (bm HB.out) hb); (try clear hb); (try clear ho0)) | ((with_reducible refine gate_callee (f := 27) rfl ?_); refine goesL_ (some 55) rfl rfl Try.func27 (by kernel_rfl) rfl #[.slice Ao47 t652.length co47] rfl (by (try simp only [mA, mB, mC]); first | done | rfl) ?_; (with_reducible refine (impl_OrdValid.calls kj5 _ _ t652 true _ ?side1 ?side2 A21.out).mono ?_); (case side1 => exact Kd.cm ((Kd.Y_reads' HO_4.out).2.2)); (case side2 => exact (Kd.Y_reads' HO_4.out).2.1); rintro e w51 ⟨rfl, hb⟩; refine ⟨_, rfl, ?_⟩; replace HO_3 := am (Kd.R_below (Kd.rm HO_3.out) hb);replace HO_4 := am (Kd.Y_below (Kd.ym HO_4.out) hb);replace HO665 := am (Kd.Y_below (Kd.ym HO665.out) hb);replace HO669 := am (Kd.Y_below (Kd.ym HO669.out) hb);replace HB := am (below_step (bm HB.out) hb); (try clear hb)));go_ret;exact ⟨by first | rfl | (simp [errW_none, errW_some] <;> rfl) | (simp [*, errW_none, errW_some] <;> rfl), bm HB.out⟩
      ·
       replace c22 := Bool.eq_false_iff.mpr c22;subst c22
       have H1 : (some false) = some r := by rw [if_neg (show ¬ (false = true) by decide)] at H; exact H
       clear H;have H := H1;clear H1;obtain rfl := Option.some.inj H;obtain ⟨Ao52, co52, eo52, _⟩ := Kd.Y_slice HO_4.out;subst eo52;go_wp2_with (first | ((with_reducible refine gate_callee (f := 13) rfl ?_); refine goesL_ (some 46) rfl rfl Try.func13 (by kernel_rfl) rfl #[.slice Ao52 t652.length co52] rfl (by (try simp only [mA, mB, mC]); first | done | rfl) ?_; (with_reducible refine (impl_HydraOf.calls kj5 _ _ t652 t662 t663 _ ?side1 ?side2 A19.out).mono ?_); (case side1 => exact Kd.cm ((Kd.Y_reads' HO_4.out).2.2)); (case side2 => exact (Kd.Y_reads' HO_4.out).2.1); rintro e w53 ⟨v664, rfl, ho0, hb⟩; refine ⟨_, rfl, ?_⟩; have HO665 := am (Kd.Y_lower (Kd.Y_new' (Kd.Y_new' ho0 (Kd.R_lt (Kd.rm HO_3.out))) (Kd.Y_lt (Kd.ym HO_4.out))) (below_size (bm HB.out)));replace HO_3 := am (Kd.R_elder' (Kd.rm HO_3.out) (Kd.Y_base ho0) hb);replace HO_4 := am (Kd.Y_elder' (Kd.ym HO_4.out) (Kd.Y_base ho0) hb);replace HB := am (below_step (bm HB.out) hb); (try clear hb); (try clear ho0); obtain ⟨Ao54, co54, eo54, _⟩ := Kd.Y_slice HO665.out; subst eo54) | ((with_reducible refine gate_callee (f := 18) rfl ?_); refine goesL_ (some 51) rfl rfl Try.func18 (by kernel_rfl) rfl #[.slice Ao54 t662.length co54] rfl (by (try simp only [mA, mB, mC]); first | done | rfl) ?_; (with_reducible refine (impl_HydraOrd.calls kj5 _ _ t662 t666 t667 _ ?side1 ?side2 A20.out).mono ?_); (case side1 => exact Kd.cm ((Kd.Y_reads' HO665.out).2.2)); (case side2 => exact (Kd.Y_reads' HO665.out).2.1); rintro e w55 ⟨v668, rfl, ho0, hb⟩; refine ⟨_, rfl, ?_⟩; have HO669 := am (Kd.Y_lower (Kd.Y_new' (Kd.Y_new' (Kd.Y_new' ho0 (Kd.R_lt (Kd.rm HO_3.out))) (Kd.Y_lt (Kd.ym HO_4.out))) (Kd.Y_lt (Kd.ym HO665.out))) (below_size (bm HB.out)));replace HO_3 := am (Kd.R_elder' (Kd.rm HO_3.out) (Kd.Y_base ho0) hb);replace HO_4 := am (Kd.Y_elder' (Kd.ym HO_4.out) (Kd.Y_base ho0) hb);replace HO665 := am (Kd.Y_elder' (Kd.ym HO665.out) (Kd.Y_base ho0) hb);replace HB := am (below_step (bm HB.out) hb); (try clear hb); (try clear ho0)) | ((with_reducible refine gate_callee (f := 27) rfl ?_); refine goesL_ (some 55) rfl rfl Try.func27 (by kernel_rfl) rfl #[.slice Ao52 t652.length co52] rfl (by (try simp only [mA, mB, mC]); first | done | rfl) ?_; (with_reducible refine (impl_OrdValid.calls kj5 _ _ t652 false _ ?side1 ?side2 A21.out).mono ?_); (case side1 => exact Kd.cm ((Kd.Y_reads' HO_4.out).2.2)); (case side2 => exact (Kd.Y_reads' HO_4.out).2.1); rintro e w56 ⟨rfl, hb⟩; refine ⟨_, rfl, ?_⟩; replace HO_3 := am (Kd.R_below (Kd.rm HO_3.out) hb);replace HO_4 := am (Kd.Y_below (Kd.ym HO_4.out) hb);replace HO665 := am (Kd.Y_below (Kd.ym HO665.out) hb);replace HO669 := am (Kd.Y_below (Kd.ym HO669.out) hb);replace HB := am (below_step (bm HB.out) hb); (try clear hb)));go_ret;exact ⟨by first | rfl | (simp [errW_none, errW_some] <;> rfl) | (simp [*, errW_none, errW_some] <;> rfl), bm HB.out⟩
     ·
      replace c18 := Bool.eq_false_iff.mpr c18;subst c18
      have H1 : (if (t652.length : Int) = 0 then ((laws_alive.f kj5).bind fun t661 => (some t661)) else (some false)) = some r := by rw [if_neg (show ¬ (false = true) by decide)] at H; exact H
      clear H;have H := H1;clear H1;by_cases c57 : (t652.length : Int) = 0
      ·
       rw [if_pos c57] at H;have c57b0 : ((t652.length : Int) == 0) = true := beq_iff_eq.mpr c57;have c57b1 : ((t652.length : Int) != 0) = false := bne_eq_false_iff_eq.mpr c57;clear c57;replace H := oE H;obtain ⟨t661, A58, H⟩ := H;replace H : (some t661) = some r := H;replace A58 := am A58;obtain rfl := Option.some.inj H;obtain ⟨Ao59, co59, eo59, _⟩ := Kd.Y_slice HO_4.out;subst eo59;go_wp2_with (first | (go_at_call 21; (with_reducible refine (laws_alive.calls kj5  t661 _ A58.out).mono ?_); rintro e w60 ⟨rfl, hb⟩; replace HO_3 := am (Kd.R_below (Kd.rm HO_3.out) hb);replace HO_4 := am (Kd.Y_below (Kd.ym HO_4.out) hb);replace HB := am (below_step (bm HB.out) hb); (try clear hb)));go_ret;exact ⟨by first | rfl | (simp [errW_none, errW_some] <;> rfl) | (simp [*, errW_none, errW_some] <;> rfl), bm HB.out⟩
      ·
       rw [if_neg c57] at H;have c57b0 : ((t652.length : Int) == 0) = false := beq_eq_false_iff_ne.mpr c57;have c57b1 : ((t652.length : Int) != 0) = true := bne_iff_ne.mpr c57
       have c57b2 : ¬ (t652 = []) := fun h_ => c57 (by rw [h_]; rfl)
       obtain rfl := Option.some.inj H;obtain ⟨Ao61, co61, eo61, _⟩ := Kd.Y_slice HO_4.out;subst eo61;go_wp2;go_ret;exact ⟨by first | rfl | (simp [errW_none, errW_some] <;> rfl) | (simp [*, errW_none, errW_some] <;> rfl), bm HB.out⟩

/-- THE ONE PURE STATEMENT of laws_FnHydraOrd: yours. -/
def laws_FnHydraOrd.Pure : Prop := ∀ (l0 : List Int), l0.length ≤ maxLen → l0.length * 1 ≤ 140737488351232 → (∀ x ∈ l0, (Lit.int .u8 x).wf = true) → ∃ k, laws_FnHydraOrd.f k l0 = some true
theorem laws_FnHydraOrd.walk (P : laws_FnHydraOrd.Pure) (a0 : Option Addr) (len0 cap0 : Nat) (z0 : List Int) (w : World) (w0 : (a0 = none ∧ len0 = 0 ∧ cap0 = 0 ∧ z0 = []) ∨ ∃ x, a0 = some x ∧ len0 ≤ cap0 ∧ cap0 ≤ maxLen ∧ z0.length = cap0 ∧ (∀ i, i < z0.length → w.cell? (x.add i) = some (.int .u8 (z0.getD i 0))) ∧ ∀ n ∈ z0, (Lit.int .u8 n).wf = true) (y0 : len0 * 1 ≤ 140737488351232) :
  Calls Try.prog 6 #[.slice a0 len0 cap0] w fun e w' => e = .returned (.bool true) ∧ Below w.heap.size w w' := by
 obtain ⟨l0, rfl, hr0, hm0, hw0, hc0⟩ := ReadsInt.ofRowC w0;obtain ⟨k, h⟩ := P l0 hm0 y0 hw0;refine (laws_FnHydraOrd.calls k _ _ l0 true w (Kd.C_of_reads (d := (0 : Int)) (h1 := fun _ => rfl) hr0) hc0 h).mono ?_
 rintro e w' ⟨rfl, hd⟩
 exact ⟨rfl, hd⟩

end Go.Proofs.Ytahhdbjjfdjloaa.Jd

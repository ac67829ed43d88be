-- half
-- Written by a program of this session's (wip/mp) out of the translation, over the kit's print with changes.
import Derived.Test.YtahhdbjjfdjloaaJfx0
namespace Go.Proofs.Ytahhdbjjfdjloaa.Jf
open Go.RowKit Go.Proofs.YtahhdbjjfdjloaaW.PrintWords Go.Proofs.YtahhdbjjfdjloaaW.PrintLast Go.Proofs.YtahhdbjjfdjloaaW.PrintMore
attribute [local go_sem] max2_int min2_int max_two min_two max_three min_three max_four min_four   -- for this text's walks alone
set_option linter.unusedVariables false
set_option linter.unusedSimpArgs false

/-! ### impl_hydra_heads: function 49 -/
mutual
def impl_hydra_heads.l0 : Nat -> Int -> List (S46) -> Int -> Int -> Option (Int)
 | 0, _, _, _, _ => none
 | k + 1, x3, x6, x7, x8 => if x8 < x7 then (if 0 <= x8 then (if x8 < (x6.length : Int) then (if (((rd_T46 x6 x8).f0).length : Int) = 0 then ((impl_hydra_heads.f k ((rd_T46 x6 x8).f0)).bind fun t619 => (impl_hydra_heads.l0 k (wrap64 ((wrap64 (x3 + 1)) + t619)) x6 x7 (wrap64 (x8 + 1)))) else ((impl_hydra_heads.f k ((rd_T46 x6 x8).f0)).bind fun t620 => (impl_hydra_heads.l0 k (wrap64 (x3 + t620)) x6 x7 (wrap64 (x8 + 1))))) else (none)) else (none)) else (some x3)
def impl_hydra_heads.f : Nat -> List (S46) -> Option (Int)
 | 0, _ => none
 | k + 1, l0 => impl_hydra_heads.l0 k 0 l0 (l0.length : Int) 0
end
theorem impl_hydra_heads.mono_l : ∀ k, (∀ y0, LeO (impl_hydra_heads.f k y0) (impl_hydra_heads.f (k + 1) y0)) /\ (∀ y0 y1 y2 y3, LeO (impl_hydra_heads.l0 k y0 y1 y2 y3) (impl_hydra_heads.l0 (k + 1) y0 y1 y2 y3))
 | 0 => ⟨fun _ r h => by simp [impl_hydra_heads.f] at h, fun _ _ _ _ r h => by simp [impl_hydra_heads.l0] at h⟩
 | k + 1 => by
  obtain ⟨ih0, ih1⟩ := impl_hydra_heads.mono_l k;refine ⟨?_, ?_⟩
  all_goals (intros; first | unfold impl_hydra_heads.f | unfold impl_hydra_heads.l0)
  all_goals repeat' with_reducible first | exact ih0 _ | exact ih1 _ _ _ _ | exact LeO.refl _ | refine LeO.ite ?_ ?_ | refine LeO.bind ?_ (fun _ => ?_)
theorem impl_hydra_heads.mono : ∀ a0 k, LeO (impl_hydra_heads.f k a0) (impl_hydra_heads.f (k + 1) a0) := by
 intro a0 k;obtain ⟨ih0, ih1⟩ := impl_hydra_heads.mono_l k;exact ih0 a0
set_option maxHeartbeats 8000000 in
set_option maxRecDepth 100000 in
theorem impl_hydra_heads.calls (k : Nat) : ∀ (A0 : Option Addr) (c0 : Nat) (l0 : List (S46)) (r : Int) (w : World) (hr0 : Kd.C k46 w A0 l0.length l0) (hc0 : l0.length <= c0) (h : impl_hydra_heads.f k l0 = some r),
  Calls Try.prog 49 #[.slice A0 l0.length c0] w fun e w' => e = .returned (.int .i64 r) /\ Drawn0 w w' := by
 induction k using Nat.strongRecOn with
 | _ k ih =>
 intro A0 c0 l0 r w hr0 hc0 h
 cases k with
 | zero => exact absurd h (by simp [impl_hydra_heads.f])
 | succ k =>
 simp only [impl_hydra_heads.f] at h;have HR0 := am hr0;have HC0 := am hc0;clear hr0 hc0;have H : (impl_hydra_heads.l0 k 0 l0 (l0.length : Int) 0) = some r := h;clear h;have H' := am H;clear H;go_enter Try.func49, Try.ntmps49;go_wp2
 go_loopg [3, 8] k (fun kq v3 v8 w' => ∃ (x3_1 : Int) (x8_1 : Int), v3 = .int .i64 x3_1 /\ v8 = .int .i64 x8_1 /\ Aside0 (impl_hydra_heads.l0 kq x3_1 l0 (l0.length : Int) x8_1 = some r) /\ Aside0 (kq <= k) /\ Drawn0 w w')
 case atStart => exact ⟨(0), (0), (by rfl), (by rfl), H', ⟨Nat.le_refl _⟩, by repeat (exact Drawn0.refl _)⟩
 case round =>
  clear H';obtain ⟨x3_1, x8_1, rfl, rfl, HA, HK1, ⟨m1, rfl⟩⟩ := hrel
  cases gk with
  | zero => exact absurd HA.out (by simp [impl_hydra_heads.l0])
  | succ k1 =>
   have H := HA.out;clear HA;simp only [impl_hydra_heads.l0] at H;by_cases c2 : x8_1 < (l0.length : Int)
   ·
    rw [if_pos c2] at H;have c2b0 : decide (x8_1 < (l0.length : Int)) = true := decide_eq_true c2;clear c2;by_cases c3 : 0 <= x8_1
    ·
     rw [if_pos c3] at H;have c3b0 : decide (0 <= x8_1) = true := decide_eq_true c3;clear c3;by_cases c4 : x8_1 < (l0.length : Int)
     ·
      rw [if_pos c4] at H;have c4b0 : decide (x8_1 < (l0.length : Int)) = true := decide_eq_true c4;clear c4;by_cases c5 : (((rd_T46 l0 x8_1).f0).length : Int) = 0
      ·
       rw [if_pos c5] at H;have c5b0 : ((((rd_T46 l0 x8_1).f0).length : Int) == 0) = true := beq_iff_eq.mpr c5;have c5b1 : ((((rd_T46 l0 x8_1).f0).length : Int) != 0) = false := bne_eq_false_iff_eq.mpr c5;clear c5;replace H := oE H;obtain ⟨t619, A6, H⟩ := H;replace H : (impl_hydra_heads.l0 k1 (wrap64 ((wrap64 (x3_1 + 1)) + t619)) l0 (l0.length : Int) (wrap64 (x8_1 + 1))) = some r := H;replace A6 := am A6;have H' := am H;clear H;have p618 : 0 <= (x8_1 : Int) := of_decide_eq_true (by assumption);have q618 : x8_1 < (l0.length : Int) := of_decide_eq_true (by assumption);obtain ⟨ad618, A618_0, c618_0, e618, hx618_0, hl618_0, hi618_0⟩ := at_T46 HR0.out x8_1 p618 q618;cases e618
       have HR618_0 := am hi618_0;have HC618_0 := am hl618_0;clear hi618_0 hl618_0;replace p618 := eq_true p618;replace q618 := eq_true q618;go_wp2_with (((with_reducible refine gate_callee (f := 49) rfl ?_); refine goesL_ (some 19) rfl rfl Try.func49 (by kernel_rfl) rfl #[.slice A618_0 ((rd_T46 l0 x8_1).f0).length c618_0] rfl (by (try simp only [mA, mB, mC]); rfl) ?_; (with_reducible refine (ih k1 (by have := HK1.out; omega) _ _ ((rd_T46 l0 x8_1).f0) t619 _ ?side1 ?side2 A6.out).mono ?_); (case side1 => exact Kd.cm HR618_0.out); (case side2 => exact HC618_0.out); rintro e w' ⟨rfl, ⟨nd, rfl⟩⟩; refine ⟨_, rfl, ?_⟩))
       go_roundg k1
       case measure => have := HK1.out; omega
       case rel => exact ⟨(wrap64 ((wrap64 (x3_1 + 1)) + t619)), (wrap64 (x8_1 + 1)), (by rfl), (by rfl), H', ⟨by have := HK1.out; omega⟩, by repeat (first | exact Drawn0.refl _ | apply Drawn0.step)⟩
      ·
       rw [if_neg c5] at H;have c5b0 : ((((rd_T46 l0 x8_1).f0).length : Int) == 0) = false := beq_eq_false_iff_ne.mpr c5;have c5b1 : ((((rd_T46 l0 x8_1).f0).length : Int) != 0) = true := bne_iff_ne.mpr c5
       have c5b2 : ¬ (((rd_T46 l0 x8_1).f0) = []) := fun h_ => c5 (by rw [h_]; rfl)
       replace H := oE H;obtain ⟨t620, A7, H⟩ := H;replace H : (impl_hydra_heads.l0 k1 (wrap64 (x3_1 + t620)) l0 (l0.length : Int) (wrap64 (x8_1 + 1))) = some r := H;replace A7 := am A7;have H' := am H;clear H;have p618 : 0 <= (x8_1 : Int) := of_decide_eq_true (by assumption);have q618 : x8_1 < (l0.length : Int) := of_decide_eq_true (by assumption);obtain ⟨ad618, A618_0, c618_0, e618, hx618_0, hl618_0, hi618_0⟩ := at_T46 HR0.out x8_1 p618 q618;cases e618
       have HR618_0 := am hi618_0;have HC618_0 := am hl618_0;clear hi618_0 hl618_0;replace p618 := eq_true p618;replace q618 := eq_true q618;go_wp2_with (((with_reducible refine gate_callee (f := 49) rfl ?_); refine goesL_ (some 19) rfl rfl Try.func49 (by kernel_rfl) rfl #[.slice A618_0 ((rd_T46 l0 x8_1).f0).length c618_0] rfl (by (try simp only [mA, mB, mC]); rfl) ?_; (with_reducible refine (ih k1 (by have := HK1.out; omega) _ _ ((rd_T46 l0 x8_1).f0) t620 _ ?side1 ?side2 A7.out).mono ?_); (case side1 => exact Kd.cm HR618_0.out); (case side2 => exact HC618_0.out); rintro e w' ⟨rfl, ⟨nd, rfl⟩⟩; refine ⟨_, rfl, ?_⟩))
       go_roundg k1
       case measure => have := HK1.out; omega
       case rel => exact ⟨(wrap64 (x3_1 + t620)), (wrap64 (x8_1 + 1)), (by rfl), (by rfl), H', ⟨by have := HK1.out; omega⟩, by repeat (first | exact Drawn0.refl _ | apply Drawn0.step)⟩
     · rw [if_neg c4] at H;exact absurd H (by simp)
    · rw [if_neg c3] at H;exact absurd H (by simp)
   · rw [if_neg c2] at H;have c2b0 : decide (x8_1 < (l0.length : Int)) = false := decide_eq_false c2;clear c2;obtain rfl := Option.some.inj H;go_wp2;go_ret;exact ⟨by rfl, by repeat (first | exact Drawn0.refl _ | apply Drawn0.step)⟩

/-! ### impl_hydra_78: function 78 -/
/-- A value of one cell. -/
structure One where
 val : Value
 prop : val.oneCell' = true
instance : Inhabited One := ⟨⟨.slice none 0 0, rfl⟩⟩
theorem ones : ∀ (l : List Value), (∀ u ∈ l, u.oneCell' = true) -> ∃ vs : List One, vs.map One.val = l
 | [], _ => ⟨[], rfl⟩
 | u :: r, h => by
  obtain ⟨vs, hv⟩ := ones r (fun x hx => h x (by simp [hx]));exact ⟨⟨u, h u (by simp)⟩ :: vs, by rw [List.map_cons, hv]⟩
theorem put_one (ys : List One) (cur : Array Value) (h : ys.length <= cur.size) : (Go.Sort.putCells One.val 0 ys.toArray cur).size = cur.size /\ (Go.Sort.putCells One.val 0 ys.toArray cur).toList.take ys.length = ys.map One.val := by
 refine ⟨by simp [Go.Sort.putCells], ?_⟩
 refine List.ext_getElem (by simp [Go.Sort.putCells]; omega) fun i h1 h2 => ?_
 have hi : i < ys.length := by simpa using h2
 simp [Go.Sort.putCells, hi]
theorem one_grown (w : World) (g n : Nat) (ys : List One) : w.grownBy (Go.Sort.putRow One.val (Go.Sort.ahead w n) g 0 ys.toArray) (some g) where
 os := rfl
 tape := rfl
 output := rfl
 size := by simp [Go.Sort.putRow, Go.Sort.mapBlock, Go.Sort.ahead]
 block := fun k hk hne => by
  have hg : g ≠ k := fun e => hne (by rw [e])
  simp only [Go.Sort.putRow, Go.Sort.mapBlock, Go.Sort.ahead];rw [Array.getElem?_modify, if_neg hg]
theorem one_block (w : World) (g n : Nat) (ys : List One) {cur : Array Value} {t : TypeId} {fr : Nat × Nat} (h : w.heap[g]? = some (.cells cur t fr)) : (Go.Sort.putRow One.val (Go.Sort.ahead w n) g 0 ys.toArray).heap[g]? = some (.cells (Go.Sort.putCells One.val 0 ys.toArray cur) t fr) := by
 simp only [Go.Sort.putRow, Go.Sort.mapBlock, Go.Sort.ahead];rw [Array.getElem?_modify, if_pos rfl, h];rfl
theorem raw_inner {w : World} {base e : Nat} {ok : Nat -> Prop} {v : Value} {rows : List (List Value)} (h : (Kd.raw 1).R e w base ok v rows) : ∃ inner : List Value, w.ownsRow base e 1 v rows.length inner /\ (∀ u ∈ inner, u.oneCell' = true) /\ rows = inner.map (fun u => [u]) := by
 obtain ⟨_, inner, ho, hr⟩ := h;have hl : inner.length = rows.length := hr.1.trans (Nat.mul_one _)
 have key : ∀ (j : Nat) (hj : j < rows.length), rows[j] = [inner[j]'(by omega)] /\ (inner[j]'(by omega)).oneCell' = true := fun j hj => by
  have h2 : (inner.drop (j * 1)).take 1 = rows[j] /\ ((inner.drop (j * 1)).take 1).length = 1 /\ ∀ u ∈ (inner.drop (j * 1)).take 1, u.oneCell' = true := hr.2 j rows[j] (List.getElem?_eq_getElem hj)
  rw [Nat.mul_one, List.drop_eq_getElem_cons (show j < inner.length by omega)] at h2
  have hm : inner[j]'(by omega) ∈ List.take 1 (inner[j]'(by omega) :: List.drop (j + 1) inner) := by rw [List.take_succ_cons]; exact List.mem_cons_self
  exact ⟨h2.1.symm, h2.2.2 _ hm⟩
 refine ⟨inner, ho, fun u hu => ?_, ?_⟩
 · obtain ⟨j, hj, rfl⟩ := List.mem_iff_getElem.1 hu;exact (key j (by omega)).2
 ·
  refine List.ext_getElem (by simp [hl]) fun j h1 h2 => ?_
  rw [(key j h1).1, List.getElem_map]
theorem raw_of {w : World} {base e : Nat} {v : Value} {inner : List Value} (ho : w.ownsRow base e 1 v inner.length inner) (h1 : ∀ u ∈ inner, u.oneCell' = true) : (Kd.raw 1).R e w base (fun _ => True) v (inner.map (fun u => [u])) := by
 refine ⟨fun _ _ => trivial, inner, by rw [List.length_map]; exact ho, by rw [List.length_map]; exact (Nat.mul_one _).symm, fun j p hp => ?_⟩;rw [List.getElem?_map] at hp
 cases hj : inner[j]? with
 | none => rw [hj] at hp; cases hp
 | some u =>
  rw [hj] at hp
  injection hp with hp
  obtain ⟨hlt, hu⟩ := List.getElem?_eq_some_iff.1 hj
  show (inner.drop (j * 1)).take 1 = p /\ ((inner.drop (j * 1)).take 1).length = 1 /\ ∀ u ∈ (inner.drop (j * 1)).take 1, u.oneCell' = true
  rw [Nat.mul_one, List.drop_eq_getElem_cons hlt, hu, <- hp];exact ⟨rfl, rfl, fun x hx => by rw [List.mem_singleton.1 hx]; exact h1 u (hu ▸ List.getElem_mem hlt)⟩
theorem erase_map {α β : Type} (f : α -> β) (l : List α) (i : Nat) : (l.map f).eraseIdx i = (l.eraseIdx i).map f := by
 rw [List.eraseIdx_eq_take_drop_succ, List.eraseIdx_eq_take_drop_succ, List.map_append, List.map_take, List.map_drop]
/-- What slices.Delete leaves of a row whose elements are read elsewhere. -/
theorem N_del {α : Type} {d : Kd α} {e base g n cap i q : Nat} {ok : Nat -> Prop} {W : World} {xs : List α} (hd : d.sz = 1) (h : Kd.N d e W base ok (.slice (some ⟨g, 0, none⟩) n cap) xs) (hi : i < xs.length) :
  ∃ vs : List One, vs.length = xs.length /\ Go.Sort.Holds One.val W g 0 vs.toArray /\ n = xs.length /\ n <= cap /\ cap <= maxLen /\ base <= g /\
   ∀ q, Kd.N d e (Go.Sort.putRow One.val (Go.Sort.ahead W q) g 0 (vs.toArray.toList.take i ++ vs.toArray.toList.drop (i + 1) ++ List.replicate 1 (⟨.slice none 0 0, rfl⟩ : One)).toArray) base ok (.slice (some ⟨g, 0, none⟩) (n - 1) cap) (xs.eraseIdx i) := by
 obtain ⟨hown, rows, hl, hR, hf⟩ := h;rw [hd] at hR;obtain ⟨inner, ho, h1, hrows⟩ := raw_inner hR;obtain ⟨vs, hvs⟩ := ones inner h1
 have hlen : inner.length = xs.length := by rw [<- hl, hrows, List.length_map]
 have hvl : vs.length = xs.length := by rw [<- hlen, <- hvs, List.length_map]
 obtain ⟨_, ho2⟩ := ho
 rcases ho2 with ⟨hv, _⟩ | ⟨g', cap', cur, hv, hb, hh, hn, hm, hs, ht⟩
 · exact absurd hv (by simp)
 ·
  injection hv with ha hn' hc'
  injection ha with ha
  injection ha with ha _ _
  subst ha; subst hc';rw [Nat.mul_one] at hs ht
  have hn2 : n = xs.length := by rw [hn', hl]
  refine ⟨vs, hvl, fun j hj => ?_, hn2, by omega, hm, hb, fun q => ?_⟩
  ·
   have hj' : j < vs.length := by simpa using hj
   have hcj : cur[j]? = some (One.val vs[j]) := by
    have e1 : (cur.toList.take rows.length)[j]? = some (One.val vs[j]) := by
     rw [ht, <- hvs, List.getElem?_map, List.getElem?_eq_getElem hj']; rfl
    rw [List.getElem?_take, if_pos (by omega)] at e1
    simpa using e1
   have e2 : vs.toArray[j]! = vs[j] := by simp [hj']
   rw [e2, Nat.zero_add];exact ⟨by simp [World.cell?, hh, hcj], by simp [World.frozen?, hh]⟩
  ·
   have hnl : (vs.toArray.toList.take i ++ vs.toArray.toList.drop (i + 1) ++ List.replicate 1 (⟨.slice none 0 0, rfl⟩ : One)).length = xs.length := by simp; omega
   have hp := put_one (vs.toArray.toList.take i ++ vs.toArray.toList.drop (i + 1) ++ List.replicate 1 (⟨.slice none 0 0, rfl⟩ : One)) cur (by omega);have hblk := one_block W g q (vs.toArray.toList.take i ++ vs.toArray.toList.drop (i + 1) ++ List.replicate 1 (⟨.slice none 0 0, rfl⟩ : One)) hh;refine Kd.N_erased hown hl hf (n' := n - 1) (k := i) ?_ (one_grown W g q _);rw [hd]
   have her : rows.eraseIdx i = (inner.eraseIdx i).map (fun u => [u]) := by rw [hrows]; exact erase_map _ _ _
   have hil : (inner.eraseIdx i).length = n - 1 := by rw [List.length_eraseIdx_of_lt (by omega)]; omega
   rw [her];refine raw_of ⟨by rw [Nat.mul_one], .inr ⟨g, cap, _, by rw [hil], hb, hblk, by omega, hm, by rw [hp.1, hs, Nat.mul_one], ?_⟩⟩ (fun u hu => h1 u (List.mem_of_mem_eraseIdx hu));have h2 := congrArg (List.take (n - 1)) hp.2;rw [List.take_take, hnl, Nat.min_eq_left (by omega)] at h2;rw [hil, Nat.mul_one, h2, <- hvs, erase_map, List.eraseIdx_eq_take_drop_succ, <- List.map_take]
   congr 1
   rw [List.take_append_of_le_length (by simp; omega)];exact List.take_of_length_le (by simp; omega)
def impl_hydra_78.f (l0 : List S46) (a1 : Int) (a2 : Int) : Option (List S46) := if l0.length < 5864062014805 /\ 0 <= a1 /\ a2 = a1 + 1 /\ a2 <= (l0.length : Int) then some (l0.eraseIdx a1.toNat) else none
theorem impl_hydra_78.lt {l0 : List S46} {a1 a2 : Int} {r : List S46} (h : impl_hydra_78.f l0 a1 a2 = some r) : l0.length < 5864062014805 := by
 unfold impl_hydra_78.f at h;by_cases g : l0.length < 5864062014805 /\ 0 <= a1 /\ a2 = a1 + 1 /\ a2 <= (l0.length : Int)
 · exact g.1
 · rw [if_neg g] at h; cases h
theorem impl_hydra_78.calls (P0_ : Nat -> Prop) (vc : Value) (l0 : List S46) (a1 : Int) (a2 : Int) (r : List S46) (w0 wc : World) (hbc : Below w0.heap.size w0 wc) (hoc : Kd.N k46 46 wc w0.heap.size (fun k_ => (P0_ k_ \/ w0.heap.size <= k_)) vc l0) (h : impl_hydra_78.f l0 a1 a2 = some r) :
  Calls Try.prog 78 #[vc, .int .i64 a1, .int .i64 a2] wc fun e w' => ∃ v0_ : Value, e = .returned (v0_) /\ Kd.N k46 46 w' w0.heap.size (fun k_ => (P0_ k_ \/ w0.heap.size <= k_)) v0_ r /\ Below w0.heap.size w0 w' := by
 unfold impl_hydra_78.f at h;by_cases g : l0.length < 5864062014805 /\ 0 <= a1 /\ a2 = a1 + 1 /\ a2 <= (l0.length : Int)
 ·
  rw [if_pos g] at h;obtain rfl := Option.some.inj h;obtain ⟨_, h0, rfl, hlt⟩ := g;obtain ⟨i, rfl⟩ := Int.eq_ofNat_of_zero_le h0
  have hi : i < l0.length := by omega
  obtain ⟨b, cap, rfl, _, _, _⟩ := Kd.N_form hoc (by omega);obtain ⟨vs, hvl, hH, hn, hnc, hm, hb, hN⟩ := N_del (i := i) (q := 0) rfl hoc hi;obtain ⟨i0, hi0, _, hsz, _⟩ := info_parts info46
  have hm2 : cap <= 9223372036854775807 := by simp only [maxLen] at hm; omega
  have hc := AnyE.slices_Delete Try.laysDel One.val (fun x => x.prop) ⟨.slice none 0 0, rfl⟩ Try.zeroValue46 i0 hi0 hsz b 0 cap i (i + 1) vs.toArray wc hH (by simp; omega) hm2 (by omega) (by simp; omega)
  have hsz2 : vs.toArray.size = l0.length := by simp [hvl]
  rw [hsz2] at hc;refine Calls.mono (show Calls Try.prog 78 #[.slice (some ⟨b, 0, none⟩) l0.length cap, .int .i64 (i : Int), .int .i64 ((i : Int) + 1)] wc _ from hc) ?_
  rintro e w' ⟨rfl, q, rfl⟩
  have e1 : i + 1 - i = 1 := by omega
  rw [e1];exact ⟨_, rfl, hN q, Below.grown hbc (one_grown wc b q _) hbc.size (fun k hk => by cases hk; exact hb)⟩
 · rw [if_neg g] at h; cases h

/-! ### impl_hydra_79: function 79 -/
def impl_hydra_79.f (l0 : List S46) : Option (List S46) := if l0.length < 5864062014805 then some l0 else none
theorem impl_hydra_79.ok {l0 : List S46} (h : l0.length < 5864062014805) : impl_hydra_79.f l0 = some l0 := if_pos h
set_option maxHeartbeats 8000000 in
set_option maxRecDepth 100000 in
theorem impl_hydra_79.calls (P0_ : Nat -> Prop) (A0 : Option Addr) (c0 : Nat) (l0 : List S46) (r : List S46) (w : World) (hs0 : Kd.V k46 46 w w.heap.size (fun k_ => P0_ k_) (.slice A0 l0.length c0) l0) (h : impl_hydra_79.f l0 = some r) :
  Calls Try.prog 79 #[.slice A0 l0.length c0] w fun e w' => ∃ v0_ : Value, e = .returned (v0_) /\ Kd.N k46 46 w' w.heap.size (fun k_ => (P0_ k_ \/ w.heap.size <= k_)) v0_ r /\ Below w.heap.size w w' := by
 have HO0 := am (show Kd.V k46 46 w w.heap.size (fun k_ => (P0_ k_ \/ w.heap.size <= k_)) (.slice A0 l0.length c0) l0 from Kd.V_mono hs0 (fun k_ hk => .inl hk));have HB := am (Below.refl w.heap.size w);unfold impl_hydra_79.f at h
 have LM := am (show l0.length < 5864062014805 by
  by_cases h' : l0.length < 5864062014805
  · exact h'
  · rw [if_neg h'] at h; cases h)
 rw [if_pos LM.out] at h;obtain rfl := Option.some.inj h;clear h
 cases hA : A0 with
 | none =>
  subst hA
  have hl0 : l0 = [] := by
   cases l0 with
   | nil => rfl
   | cons x xs => obtain ⟨ad, h, _⟩ := (Kd.F_now (Kd.V_F hs0)).2.2 (by simp); cases h
  subst hl0;clear hs0
  have NE := fun (W : World) => Lib.run_eql_slice_nil (P := Try.prog) W 46 46 none 0 c0 0 0 Try.underlying46
  go_enter Try.func79, Try.ntmps79;go_wp2;go_ret;exact ⟨_, rfl, Kd.N_nil _ _ _ _ _, HB.out⟩
 | some ad =>
  subst hA;clear hs0
  have NE := fun (W : World) => Lib.run_eql_slice_nil (P := Try.prog) W 46 46 (some ad) l0.length c0 0 0 Try.underlying46
  go_enter Try.func79, Try.ntmps79;go_wp2_with (first | ((with_reducible refine gate_dst (N := 5) rfl ?_); refine Kd.N_lit k46 _ 46 ?hg (N' := 5) ?hd (xs := ([] : List S46)) (inner := []) (ok := (fun k_ => (P0_ k_ \/ w.heap.size <= k_))) (okp := (fun k_ => (P0_ k_ \/ w.heap.size <= k_))) ?hr ?hp (fun _ hk => hk) ((show ∀ k_, w.heap.size <= k_ -> (fun k_ => (P0_ k_ \/ w.heap.size <= k_)) k_ from fun k_ hk => (.inr hk)) _ (Nat.le_refl _)) (Below.refl _ _) (Nat.le_refl _) (by simp) ?_; (case hd => rfl); (case hg => rfl); (case hr => (go_simp; done)); (case hp => exact (Reps.none _ _)); intro v134 w4 ho5 hb hg_ hnew_; clear hg_ hnew_; have n0_ := am (Kd.V_elder' HO0.out (Kd.N_base ho5) hb); have n1_ := am (below_step HB.out hb); clear HB HO0; have HO0 := n0_; have HO135 := am ho5; have HB := n1_; clear n0_ n1_; clear hb ho5) | ((with_reducible refine gate_builtin (b := .append) (xs := #[.tmp 5, .tmp 6]) rfl ?_); at_builtin; refine Kd.N_append_rows k46 (w0 := w) w.heap.size rfl (.tmp 5) (.tmp 6) 46 46 (.slice none 0 0) 24 rfl Try.underlying46 info46 rfl (by decide) (by omega) v134 [] l0 _ _ _ (fun k_ => (P0_ k_ \/ w.heap.size <= k_)) (fun k_ => ((fun k_ => (P0_ k_ \/ w.heap.size <= k_))) k_ /\ some k_ ≠ v134.ownBlock) rfl rfl ?aO ?aR (fun _ hk => hk) ?aF ?aB ?aS ?aL ?_; (case aR => exact (Kd.V_F HO0.out)); (case aB => exact HB.out); (case aF => exact (fun k_ hk => (.inr (Nat.le_trans (below_size HB.out) hk)))); (case aO => exact HO135.out); (case aS => exact (below_size HB.out)); (case aL => have := LM.out; simp; omega); intro v120 w15 ho hb hg hat; have n0_ := am hb; have n1_ := am ho; clear HB HO135 HO0; have HB := n0_; have HO := n1_; clear n0_ n1_ ho hb hg hat));go_ret;exact ⟨_, rfl, by simpa using HO.out, HB.out⟩

end Go.Proofs.Ytahhdbjjfdjloaa.Jf

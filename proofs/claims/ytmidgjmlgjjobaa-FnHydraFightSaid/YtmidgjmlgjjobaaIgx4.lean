-- half
-- Written by a program of this session's (wip/mp) out of the translation, over the kit's print with changes.
import Derived.Test.YtmidgjmlgjjobaaIgx0
namespace Go.Proofs.Ytmidgjmlgjjobaa.Ig
open Go.RowKit Go.Proofs.YtmidgjmlgjjobaaW.PrintWords Go.Proofs.YtmidgjmlgjjobaaW.PrintLast Go.Proofs.YtmidgjmlgjjobaaW.PrintMore
attribute [local go_sem] max2_int min2_int max_two min_two max_three min_three max_four min_four   -- for this text's walks alone
set_option linter.unusedVariables false
set_option linter.unusedSimpArgs false

/-! ### impl_hydra_56: function 56 -/
/-- A value of one cell. -/
structure One where
 val : Value
 prop : val.oneCell' = true
instance : Inhabited One := ⟨⟨.slice none 0 0, rfl⟩⟩
theorem ones : ∀ (l : List Value), (∀ u ∈ l, u.oneCell' = true) → ∃ vs : List One, vs.map One.val = l
 | [], _ => ⟨[], rfl⟩
 | u :: r, h => by
  obtain ⟨vs, hv⟩ := ones r (fun x hx => h x (by simp [hx]));exact ⟨⟨u, h u (by simp)⟩ :: vs, by rw [List.map_cons, hv]⟩
theorem put_one (ys : List One) (cur : Array Value) (h : ys.length ≤ cur.size) : (Go.Sort.putCells One.val 0 ys.toArray cur).size = cur.size ∧ (Go.Sort.putCells One.val 0 ys.toArray cur).toList.take ys.length = ys.map One.val := by
 refine ⟨by simp [Go.Sort.putCells], ?_⟩
 refine List.ext_getElem (by simp [Go.Sort.putCells]; omega) fun i h1 h2 => ?_
 have hi : i < ys.length := by simpa using h2
 simp [Go.Sort.putCells, hi]
theorem one_grown (w : World) (g n : Nat) (ys : List One) : w.grownBy (Go.Sort.putRow One.val (Go.Sort.ahead w n) g 0 ys.toArray) (some g) where
 os := rfl
 tape := rfl
 output := rfl
 size := by simp [Go.Sort.putRow, Go.Sort.mapBlock, Go.Sort.ahead]
 block := fun k hk hne => by
  have hg : g ≠ k := fun e => hne (by rw [e])
  simp only [Go.Sort.putRow, Go.Sort.mapBlock, Go.Sort.ahead];rw [Array.getElem?_modify, if_neg hg]
theorem one_block (w : World) (g n : Nat) (ys : List One) {cur : Array Value} {t : TypeId} {fr : Nat × Nat} (h : w.heap[g]? = some (.cells cur t fr)) : (Go.Sort.putRow One.val (Go.Sort.ahead w n) g 0 ys.toArray).heap[g]? = some (.cells (Go.Sort.putCells One.val 0 ys.toArray cur) t fr) := by
 simp only [Go.Sort.putRow, Go.Sort.mapBlock, Go.Sort.ahead];rw [Array.getElem?_modify, if_pos rfl, h];rfl
theorem raw_inner {w : World} {base e : Nat} {ok : Nat → Prop} {v : Value} {rows : List (List Value)} (h : (Kd.raw 1).R e w base ok v rows) : ∃ inner : List Value, w.ownsRow base e 1 v rows.length inner ∧ (∀ u ∈ inner, u.oneCell' = true) ∧ rows = inner.map (fun u => [u]) := by
 obtain ⟨_, inner, ho, hr⟩ := h;have hl : inner.length = rows.length := hr.1.trans (Nat.mul_one _)
 have key : ∀ (j : Nat) (hj : j < rows.length), rows[j] = [inner[j]'(by omega)] ∧ (inner[j]'(by omega)).oneCell' = true := fun j hj => by
  have h2 : (inner.drop (j * 1)).take 1 = rows[j] ∧ ((inner.drop (j * 1)).take 1).length = 1 ∧ ∀ u ∈ (inner.drop (j * 1)).take 1, u.oneCell' = true := hr.2 j rows[j] (List.getElem?_eq_getElem hj)
  rw [Nat.mul_one, List.drop_eq_getElem_cons (show j < inner.length by omega)] at h2
  have hm : inner[j]'(by omega) ∈ List.take 1 (inner[j]'(by omega) :: List.drop (j + 1) inner) := by rw [List.take_succ_cons]; exact List.mem_cons_self
  exact ⟨h2.1.symm, h2.2.2 _ hm⟩
 refine ⟨inner, ho, fun u hu => ?_, ?_⟩
 ·
  obtain ⟨j, hj, rfl⟩ := List.mem_iff_getElem.1 hu;exact (key j (by omega)).2
 ·
  refine List.ext_getElem (by simp [hl]) fun j h1 h2 => ?_
  rw [(key j h1).1, List.getElem_map]
theorem raw_of {w : World} {base e : Nat} {v : Value} {inner : List Value} (ho : w.ownsRow base e 1 v inner.length inner) (h1 : ∀ u ∈ inner, u.oneCell' = true) : (Kd.raw 1).R e w base (fun _ => True) v (inner.map (fun u => [u])) := by
 refine ⟨fun _ _ => trivial, inner, by rw [List.length_map]; exact ho, by rw [List.length_map]; exact (Nat.mul_one _).symm, fun j p hp => ?_⟩;rw [List.getElem?_map] at hp
 cases hj : inner[j]? with
 | none => rw [hj] at hp; cases hp
 | some u =>
  rw [hj] at hp
  injection hp with hp
  obtain ⟨hlt, hu⟩ := List.getElem?_eq_some_iff.1 hj
  show (inner.drop (j * 1)).take 1 = p ∧ ((inner.drop (j * 1)).take 1).length = 1 ∧ ∀ u ∈ (inner.drop (j * 1)).take 1, u.oneCell' = true
  rw [Nat.mul_one, List.drop_eq_getElem_cons hlt, hu, ← hp];exact ⟨rfl, rfl, fun x hx => by rw [List.mem_singleton.1 hx]; exact h1 u (hu ▸ List.getElem_mem hlt)⟩
theorem erase_map {α β : Type} (f : α → β) (l : List α) (i : Nat) : (l.map f).eraseIdx i = (l.eraseIdx i).map f := by
 rw [List.eraseIdx_eq_take_drop_succ, List.eraseIdx_eq_take_drop_succ, List.map_append, List.map_take, List.map_drop]
/-- What slices.Delete leaves of a row whose elements are read elsewhere. -/
theorem N_del {α : Type} {d : Kd α} {e base g n cap i q : Nat} {ok : Nat → Prop} {W : World} {xs : List α} (hd : d.sz = 1) (h : Kd.N d e W base ok (.slice (some ⟨g, 0, none⟩) n cap) xs) (hi : i < xs.length) :
  ∃ vs : List One, vs.length = xs.length ∧ Go.Sort.Holds One.val W g 0 vs.toArray ∧ n = xs.length ∧ n ≤ cap ∧ cap ≤ maxLen ∧ base ≤ g ∧
   ∀ q, Kd.N d e (Go.Sort.putRow One.val (Go.Sort.ahead W q) g 0 (vs.toArray.toList.take i ++ vs.toArray.toList.drop (i + 1) ++ List.replicate 1 (⟨.slice none 0 0, rfl⟩ : One)).toArray) base ok (.slice (some ⟨g, 0, none⟩) (n - 1) cap) (xs.eraseIdx i) := by
 obtain ⟨hown, rows, hl, hR, hf⟩ := h;rw [hd] at hR;obtain ⟨inner, ho, h1, hrows⟩ := raw_inner hR;obtain ⟨vs, hvs⟩ := ones inner h1
 have hlen : inner.length = xs.length := by rw [← hl, hrows, List.length_map]
 have hvl : vs.length = xs.length := by rw [← hlen, ← hvs, List.length_map]
 obtain ⟨_, ho2⟩ := ho
 rcases ho2 with ⟨hv, _⟩ | ⟨g', cap', cur, hv, hb, hh, hn, hm, hs, ht⟩
 ·
  exact absurd hv (by simp)
 ·
  injection hv with ha hn' hc'
  injection ha with ha
  injection ha with ha _ _
  subst ha; subst hc';rw [Nat.mul_one] at hs ht
  have hn2 : n = xs.length := by rw [hn', hl]
  refine ⟨vs, hvl, fun j hj => ?_, hn2, by omega, hm, hb, fun q => ?_⟩
  ·
   have hj' : j < vs.length := by simpa using hj
   have hcj : cur[j]? = some (One.val vs[j]) := by
    have e1 : (cur.toList.take rows.length)[j]? = some (One.val vs[j]) := by
     rw [ht, ← hvs, List.getElem?_map, List.getElem?_eq_getElem hj']; rfl
    rw [List.getElem?_take, if_pos (by omega)] at e1
    simpa using e1
   have e2 : vs.toArray[j]! = vs[j] := by simp [hj']
   rw [e2, Nat.zero_add];exact ⟨by simp [World.cell?, hh, hcj], by simp [World.frozen?, hh]⟩
  ·
   have hnl : (vs.toArray.toList.take i ++ vs.toArray.toList.drop (i + 1) ++ List.replicate 1 (⟨.slice none 0 0, rfl⟩ : One)).length = xs.length := by simp; omega
   have hp := put_one (vs.toArray.toList.take i ++ vs.toArray.toList.drop (i + 1) ++ List.replicate 1 (⟨.slice none 0 0, rfl⟩ : One)) cur (by omega);have hblk := one_block W g q (vs.toArray.toList.take i ++ vs.toArray.toList.drop (i + 1) ++ List.replicate 1 (⟨.slice none 0 0, rfl⟩ : One)) hh;refine Kd.N_erased hown hl hf (n' := n - 1) (k := i) ?_ (one_grown W g q _);rw [hd]
   have her : rows.eraseIdx i = (inner.eraseIdx i).map (fun u => [u]) := by rw [hrows]; exact erase_map _ _ _
   have hil : (inner.eraseIdx i).length = n - 1 := by rw [List.length_eraseIdx_of_lt (by omega)]; omega
   rw [her];refine raw_of ⟨by rw [Nat.mul_one], .inr ⟨g, cap, _, by rw [hil], hb, hblk, by omega, hm, by rw [hp.1, hs, Nat.mul_one], ?_⟩⟩ (fun u hu => h1 u (List.mem_of_mem_eraseIdx hu));have h2 := congrArg (List.take (n - 1)) hp.2;rw [List.take_take, hnl, Nat.min_eq_left (by omega)] at h2;rw [hil, Nat.mul_one, h2, ← hvs, erase_map, List.eraseIdx_eq_take_drop_succ, ← List.map_take]
   congr 1
   rw [List.take_append_of_le_length (by simp; omega)];exact List.take_of_length_le (by simp; omega)
def impl_hydra_56.f (l0 : List S49) (a1 : Int) (a2 : Int) : Option (List S49) := if l0.length < 5864062014805 ∧ 0 ≤ a1 ∧ a2 = a1 + 1 ∧ a2 ≤ (l0.length : Int) then some (l0.eraseIdx a1.toNat) else none
theorem impl_hydra_56.lt {l0 : List S49} {a1 a2 : Int} {r : List S49} (h : impl_hydra_56.f l0 a1 a2 = some r) : l0.length < 5864062014805 := by
 unfold impl_hydra_56.f at h;by_cases g : l0.length < 5864062014805 ∧ 0 ≤ a1 ∧ a2 = a1 + 1 ∧ a2 ≤ (l0.length : Int)
 ·
  exact g.1
 ·
  rw [if_neg g] at h; cases h
theorem impl_hydra_56.calls (P0_ : Nat → Prop) (vc : Value) (l0 : List S49) (a1 : Int) (a2 : Int) (r : List S49) (w0 wc : World) (hbc : Below w0.heap.size w0 wc) (hoc : Kd.N k49 49 wc w0.heap.size (fun k_ => (P0_ k_ ∨ w0.heap.size ≤ k_)) vc l0) (h : impl_hydra_56.f l0 a1 a2 = some r) :
  Calls Try.prog 56 #[vc, .int .i64 a1, .int .i64 a2] wc fun e w' => ∃ v0_ : Value, e = .returned (v0_) ∧ Kd.N k49 49 w' w0.heap.size (fun k_ => (P0_ k_ ∨ w0.heap.size ≤ k_)) v0_ r ∧ Below w0.heap.size w0 w' := by
 unfold impl_hydra_56.f at h;by_cases g : l0.length < 5864062014805 ∧ 0 ≤ a1 ∧ a2 = a1 + 1 ∧ a2 ≤ (l0.length : Int)
 ·
  rw [if_pos g] at h;obtain rfl := Option.some.inj h;obtain ⟨_, h0, rfl, hlt⟩ := g;obtain ⟨i, rfl⟩ := Int.eq_ofNat_of_zero_le h0
  have hi : i < l0.length := by omega
  obtain ⟨b, cap, rfl, _, _, _⟩ := Kd.N_form hoc (by omega);obtain ⟨vs, hvl, hH, hn, hnc, hm, hb, hN⟩ := N_del (i := i) (q := 0) rfl hoc hi;obtain ⟨i0, hi0, _, hsz, _⟩ := info_parts info49
  have hm2 : cap ≤ 9223372036854775807 := by simp only [maxLen] at hm; omega
  have hc := AnyE.slices_Delete Try.laysDel One.val (fun x => x.prop) ⟨.slice none 0 0, rfl⟩ Try.zeroValue49 i0 hi0 hsz b 0 cap i (i + 1) vs.toArray wc hH (by simp; omega) hm2 (by omega) (by simp; omega)
  have hsz2 : vs.toArray.size = l0.length := by simp [hvl]
  rw [hsz2] at hc;refine Calls.mono (show Calls Try.prog 56 #[.slice (some ⟨b, 0, none⟩) l0.length cap, .int .i64 (i : Int), .int .i64 ((i : Int) + 1)] wc _ from hc) ?_
  rintro e w' ⟨rfl, q, rfl⟩
  have e1 : i + 1 - i = 1 := by omega
  rw [e1];exact ⟨_, rfl, hN q, Below.grown hbc (one_grown wc b q _) hbc.size (fun k hk => by cases hk; exact hb)⟩
 ·
  rw [if_neg g] at h; cases h

/-! ### impl_hydra_57: function 57 -/
def impl_hydra_57.f (l0 : List S49) : Option (List S49) := if l0.length < 5864062014805 then some l0 else none
theorem impl_hydra_57.ok {l0 : List S49} (h : l0.length < 5864062014805) : impl_hydra_57.f l0 = some l0 := if_pos h
set_option maxHeartbeats 8000000 in
set_option maxRecDepth 100000 in
theorem impl_hydra_57.calls (P0_ : Nat → Prop) (A0 : Option Addr) (c0 : Nat) (l0 : List S49) (r : List S49) (w : World) (hs0 : Kd.V k49 49 w w.heap.size (fun k_ => P0_ k_) (.slice A0 l0.length c0) l0) (h : impl_hydra_57.f l0 = some r) :
  Calls Try.prog 57 #[.slice A0 l0.length c0] w fun e w' => ∃ v0_ : Value, e = .returned (v0_) ∧ Kd.N k49 49 w' w.heap.size (fun k_ => (P0_ k_ ∨ w.heap.size ≤ k_)) v0_ r ∧ Below w.heap.size w w' := by
 have HO0 := am (show Kd.V k49 49 w w.heap.size (fun k_ => (P0_ k_ ∨ w.heap.size ≤ k_)) (.slice A0 l0.length c0) l0 from Kd.V_mono hs0 (fun k_ hk => .inl hk));have HB := am (Below.refl w.heap.size w);unfold impl_hydra_57.f at h
 have LM := am (show l0.length < 5864062014805 by
  by_cases h' : l0.length < 5864062014805
  ·
   exact h'
  ·
   rw [if_neg h'] at h; cases h)
 rw [if_pos LM.out] at h;obtain rfl := Option.some.inj h;clear h
 cases hA : A0 with
 | none =>
  subst hA
  have hl0 : l0 = [] := by
   cases l0 with
   | nil => rfl
   | cons x xs => obtain ⟨ad, h, _⟩ := (Kd.F_now (Kd.V_F hs0)).2.2 (by simp); cases h
  subst hl0;clear hs0
  have NE := fun (W : World) => Lib.run_eql_slice_nil (P := Try.prog) W 49 49 none 0 c0 0 0 Try.underlying49
  go_enter Try.func57, Try.ntmps57;go_wp2;go_ret;exact ⟨_, rfl, Kd.N_nil _ _ _ _ _, HB.out⟩
 | some ad =>
  subst hA;clear hs0
  have NE := fun (W : World) => Lib.run_eql_slice_nil (P := Try.prog) W 49 49 (some ad) l0.length c0 0 0 Try.underlying49
  go_enter Try.func57, Try.ntmps57;go_wp2_with (first | ((with_reducible refine gate_dst (N := 5) rfl ?_); refine Kd.N_lit k49 _ 49 ?hg (N' := 5) ?hd (xs := ([] : List S49)) (inner := []) (ok := (fun k_ => (P0_ k_ ∨ w.heap.size ≤ k_))) (okp := (fun k_ => (P0_ k_ ∨ w.heap.size ≤ k_))) ?hr ?hp (fun _ hk => hk) ((show ∀ k_, w.heap.size ≤ k_ → (fun k_ => (P0_ k_ ∨ w.heap.size ≤ k_)) k_ from fun k_ hk => (.inr hk)) _ (Nat.le_refl _)) (Below.refl _ _) (Nat.le_refl _) (by simp) ?_; (case hd => rfl); (case hg => rfl); (case hr => first | (go_simp; done) | (go_simp; rfl)); (case hp => exact (Reps.none _ _)); intro v134 w4 ho5 hb hg_ hnew_; clear hg_ hnew_; have n0_ := am (Kd.V_elder' HO0.out (Kd.N_base ho5) hb); have n1_ := am (below_step HB.out hb); clear HB HO0; have HO0 := n0_; have HO135 := am ho5; have HB := n1_; clear n0_ n1_; clear hb ho5) | ((with_reducible refine gate_builtin (b := .append) (xs := #[.tmp 5, .tmp 6]) rfl ?_); at_builtin; refine Kd.N_append_rows k49 (w0 := w) w.heap.size rfl (.tmp 5) (.tmp 6) 49 49 (.slice none 0 0) 24 rfl Try.underlying49 info49 rfl (by decide) (by omega) v134 [] l0 _ _ _ (fun k_ => (P0_ k_ ∨ w.heap.size ≤ k_)) (fun k_ => ((fun k_ => (P0_ k_ ∨ w.heap.size ≤ k_))) k_ ∧ some k_ ≠ (v134 : Value).ownBlock) rfl rfl ?aO ?aR (fun _ hk => hk) ?aF ?aB ?aS ?aL ?_; (case aR => exact (Kd.V_F HO0.out)); (case aB => exact HB.out); (case aF => exact (fun k_ hk => (.inr (Nat.le_trans (below_size HB.out) hk)))); (case aO => exact HO135.out); (case aS => exact (below_size HB.out)); (case aL => have := LM.out; simp; omega); intro v120 w15 ho hb hg hat; have n0_ := am hb; have n1_ := am ho; clear HB HO135 HO0; have HB := n0_; have HO := n1_; clear n0_ n1_ ho hb hg hat));go_ret;exact ⟨_, rfl, by simpa using HO.out, HB.out⟩

/-- A state of type 3 at block g of W; what its slices lead to came in by w0. -/
def IsS3 (w0 W : World) (g : Nat) (f0 : Int) : Prop := W.heap[g]? = some (.cells #[.int .i64 f0] 3 (0, 0)) ∧ w0.heap.size ≤ g
theorem IsS3.grown {w0 W : World} {g : Nat} {f0 : Int} {W1 : World} {row : Option Nat} (h : IsS3 w0 W g f0) (hw : W.grownBy W1 row) (hne : some g ≠ row) : IsS3 w0 W1 g f0 := by
 obtain ⟨hb, hg⟩ := h;exact ⟨blk_grown hb hw hne, hg⟩
theorem IsS3.own_neN {w0 W : World} {g : Nat} {f0 : Int} {α : Type} {d : Kd α} {e : Nat} {base : Nat} {ok : Nat → Prop} {v : Value} {xs : List α} (h : IsS3 w0 W g f0) (ho : Kd.N d e W base ok v xs) (ht : e ≠ 3) : some g ≠ v.ownBlock := by
 obtain ⟨hb, hg⟩ := h;exact Kd.N_ne ho hb ht
theorem IsS3.fresh {w0 W : World} {g : Nat} {f0 : Int} (h : IsS3 w0 W g f0) : ∀ k, W.heap.size ≤ k → k ≠ g := by
 obtain ⟨hb, hg⟩ := h;exact Kd.freshB hb
theorem IsS3.kept {w0 W : World} {g : Nat} {f0 : Int} {W1 : World} {S : Nat → Prop} (h : IsS3 w0 W g f0) (hk : Kept W W1 S) (hne : ¬ S g) : IsS3 w0 W1 g f0 := by
 obtain ⟨hb, hg⟩ := h;exact ⟨blk_kept hb hk hne, hg⟩
theorem IsS3.below {w0 W : World} {g : Nat} {f0 : Int} {W1 : World} (h : IsS3 w0 W g f0) (hw : Below W.heap.size W W1) : IsS3 w0 W1 g f0 := h.grown (grown_of_below hw none) (by simp)
theorem IsS3.alloc {w0 W : World} {g : Nat} {f0 : Int} (h : IsS3 w0 W g f0) (o : Obj) : IsS3 w0 (W.alloc o) g f0 := h.below (below_alloc (Below.refl _ _) o)
theorem IsS3.drewN {w0 W : World} {g : Nat} {f0 : Int} (h : IsS3 w0 W g f0) (m : Nat) : IsS3 w0 (W.drewN m) g f0 := h
theorem IsS3.drew {w0 W : World} {g : Nat} {f0 : Int} (h : IsS3 w0 W g f0) : IsS3 w0 W.drew g f0 := h
theorem IsS3.at_ {w0 W : World} {g : Nat} {f0 : Int} {w' : World} {m : Nat} (hq : W.drewN m = w') (h : IsS3 w0 W g f0) : IsS3 w0 w' g f0 := by subst hq; exact IsS3.drewN h m
theorem IsS3.apart {w0 W : World} {g : Nat} {f0 : Int} {α : Type} {d : Kd α} {e : Nat} {base : Nat} {ok : Nat → Prop} {v : Value} {xs : List α} (h : IsS3 w0 W g f0) (ho : d.R e W base ok v xs) (ht : ∀ q, q ∈ e :: d.E → q ≠ 3) : d.R e W base (fun k => ok k ∧ k ≠ g) v xs := by
 obtain ⟨hb, hg⟩ := h;exact Kd.R_types ho hb ht
theorem IsS3.own_ne {w0 W : World} {g : Nat} {f0 : Int} {α : Type} {d : Kd α} {e : Nat} {base : Nat} {ok : Nat → Prop} {v : Value} {xs : List α} (h : IsS3 w0 W g f0) (ho : d.R e W base ok v xs) (ht : e ≠ 3) : some g ≠ v.ownBlock := by
 obtain ⟨hb, hg⟩ := h;exact Kd.R_ne ho hb ht
theorem IsS3.apartQ {w0 W : World} {g : Nat} {f0 : Int} {α : Type} {d : Kd α} {e : Nat} {base : Nat} {ok : Nat → Prop} {v : Value} {xs : List α} (h : IsS3 w0 W g f0) (ho : d.Y e W base ok v xs) (ht : ∀ q, q ∈ e :: d.E → q ≠ 3) : d.Y e W base (fun k => ok k ∧ k ≠ g) v xs := by
 obtain ⟨hb, hg⟩ := h;exact Kd.Y_types ho hb ht
theorem IsS3.own_neQ {w0 W : World} {g : Nat} {f0 : Int} {α : Type} {d : Kd α} {e : Nat} {base : Nat} {ok : Nat → Prop} {v : Value} {xs : List α} (h : IsS3 w0 W g f0) (ho : d.Y e W base ok v xs) (ht : e ≠ 3) : some g ≠ v.ownBlock := by
 obtain ⟨hb, hg⟩ := h;exact Kd.Y_ne ho hb ht
theorem IsS3.apartS {w0 W : World} {g : Nat} {f0 : Int} {α : Type} {d : Kd α} {e : Nat} {base : Nat} {ok : Nat → Prop} {v : Value} {xs : List α} (h : IsS3 w0 W g f0) (ho : d.S e W base ok v xs) (ht : ∀ q, q ∈ e :: d.E → q ≠ 3) : d.S e W base (fun k => ok k ∧ k ≠ g) v xs := by
 obtain ⟨hb, hg⟩ := h;exact Kd.S_types ho hb ht
theorem IsS3.own_neS {w0 W : World} {g : Nat} {f0 : Int} {α : Type} {d : Kd α} {e : Nat} {base : Nat} {ok : Nat → Prop} {v : Value} {xs : List α} (h : IsS3 w0 W g f0) (ho : d.S e W base ok v xs) (ht : e ≠ 3) : some g ≠ v.ownBlock := by
 obtain ⟨hb, hg⟩ := h;exact Kd.S_ne ho hb ht
theorem IsS3.lt {w0 W : World} {g : Nat} {f0 : Int} (h : IsS3 w0 W g f0) : g < W.heap.size := by
 obtain ⟨hb, hg⟩ := h;exact blk_lt hb
theorem IsS3.ge {w0 W : World} {g : Nat} {f0 : Int} (h : IsS3 w0 W g f0) : w0.heap.size ≤ g := by
 obtain ⟨hb, hg⟩ := h;exact hg
theorem IsS3.ne_blk {w0 W : World} {g : Nat} {f0 : Int} {a : Nat} {cs : Array Value} {t : TypeId} {fr : Nat × Nat} (h : IsS3 w0 W g f0) (hb2 : W.heap[a]? = some (.cells cs t fr)) (ht : t ≠ 3) : g ≠ a := by
 obtain ⟨hb, hg⟩ := h
 rintro rfl
 rw [hb] at hb2
 injection hb2 with hb2
 injection hb2 with _ ht2
 exact ht ht2.symm
theorem IsS3.far {w0 W : World} {g : Nat} {f0 : Int} {p : Addr} (h : IsS3 w0 W g f0) (hne : g ≠ p.block) (u : Value) : IsS3 w0 (W.setCell p u) g f0 := by
 obtain ⟨hb, hg⟩ := h;exact ⟨blk_far hb hne u, hg⟩
theorem cellS3_0 {W : World} {g : Nat} {f0 : Int} (h : W.heap[g]? = some (.cells #[.int .i64 f0] 3 (0, 0))) : W.cell? ⟨g, 0, none⟩ = some (.int .i64 f0) := (blk_cell h 0).trans rfl
theorem IsS3.set_0 {w0 W : World} {g : Nat} {f0 : Int} (h : IsS3 w0 W g f0) (x : Int) : IsS3 w0 (W.setCell ⟨g, 0, none⟩ (.int .i64 x)) g x := by
 obtain ⟨hb, hg⟩ := h;exact ⟨by simpa using blk_set hb 0 (.int .i64 x), hg⟩
theorem IsS3.new (w0 W : World) (f0 : Int) (hB : Below w0.heap.size w0 W) : IsS3 w0 (W.alloc (.cells #[.int .i64 f0] 3)) W.heap.size f0 := ⟨by simpa using heap_alloc_new W _, hB.size⟩

/-! ### impl_hydra_cut: function 35 -/
mutual
def impl_hydra_cut.l0 : Nat → List (S49) → Int → List (S49) → Int → Int → Int → Option ((List (S49)) × Bool × Int)
 | 0, _, _, _, _, _, _ => none
 | k + 1, x0, x2, x15, x16, x17, x2000 => if x17 < x16 then (if 0 ≤ x17 then (if x17 < (x15.length : Int) then (if (((rd_T49 x15 x17).f0).length : Int) = 0 then (if x2000 = 0 then ((impl_hydra_56.f x0 x17 (wrap64 (x17 + 1))).bind fun t210 => (some (t210, true, (-1)))) else (impl_hydra_cut.l0 k x0 x2 x15 x16 (wrap64 (x17 + 1)) (wrap64 (x2000 - 1)))) else ((impl_hydra_cut.f k ((rd_T49 x15 x17).f0) x2000 x2 false).bind fun bt213 => (if bt213.2.2 ≥ 0 then (impl_hydra_cut.l0 k x0 x2 x15 x16 (wrap64 (x17 + 1)) bt213.2.2) else (if x17 ≤ (x0.length : Int) then ((impl_hydra_57.f (x0.take (x17 : Int).toNat)).bind fun t223 => (if bt213.2.1 = true then (impl_hydra_cut.j1 k x0 x2 x17 bt213.1 t223 bt213.2.2) else (impl_hydra_cut.j1 k x0 1 x17 bt213.1 t223 bt213.2.2))) else (none))))) else (none)) else (none)) else (some (x0, false, x2000))
def impl_hydra_cut.j1 : Nat → List (S49) → Int → Int → List (S49) → List (S49) → Int → Option ((List (S49)) × Bool × Int)
 | 0, _, _, _, _, _, _ => none
 | k + 1, x0, x2, x10, x12, x14, x2000 => impl_hydra_cut.l1 k x0 x10 x12 x14 x2 0 x2000
def impl_hydra_cut.l1 : Nat → List (S49) → Int → List (S49) → List (S49) → Int → Int → Int → Option ((List (S49)) × Bool × Int)
 | 0, _, _, _, _, _, _, _ => none
 | k + 1, x0, x10, x12, x14, x59, x60, x2000 => if x60 < x59 then (if x14.length < 5864062014805 then (impl_hydra_cut.l1 k x0 x10 x12 (x14 ++ [(⟨x12⟩ : S49)]) x59 (wrap64 (x60 + 1)) x2000) else (none)) else (if 0 ≤ (wrap64 (x10 + 1)) then (if (wrap64 (x10 + 1)) ≤ (x0.length : Int) then ((some (x0.drop ((wrap64 (x10 + 1)) : Int).toNat : List (S49))).bind fun y229 => (if x14.length + y229.length < 5864062014805 then (some ((x14 ++ y229), false, x2000)) else (none))) else (none)) else (none))
def impl_hydra_cut.f : Nat → List (S49) → Int → Int → Bool → Option ((List (S49)) × Bool × Int)
 | 0, _, _, _, _ => none
 | k + 1, l0, s1_0, a2, a3 => impl_hydra_cut.l0 k l0 a2 l0 (l0.length : Int) 0 s1_0
end
theorem impl_hydra_cut.mono_l : ∀ k, (∀ y0 y1 y2 y3, LeO (impl_hydra_cut.f k y0 y1 y2 y3) (impl_hydra_cut.f (k + 1) y0 y1 y2 y3)) ∧ (∀ y0 y1 y2 y3 y4 y5, LeO (impl_hydra_cut.l0 k y0 y1 y2 y3 y4 y5) (impl_hydra_cut.l0 (k + 1) y0 y1 y2 y3 y4 y5)) ∧ (∀ y0 y1 y2 y3 y4 y5, LeO (impl_hydra_cut.j1 k y0 y1 y2 y3 y4 y5) (impl_hydra_cut.j1 (k + 1) y0 y1 y2 y3 y4 y5)) ∧ (∀ y0 y1 y2 y3 y4 y5 y6, LeO (impl_hydra_cut.l1 k y0 y1 y2 y3 y4 y5 y6) (impl_hydra_cut.l1 (k + 1) y0 y1 y2 y3 y4 y5 y6))
 | 0 => ⟨fun _ _ _ _ r h => by simp [impl_hydra_cut.f] at h, fun _ _ _ _ _ _ r h => by simp [impl_hydra_cut.l0] at h, fun _ _ _ _ _ _ r h => by simp [impl_hydra_cut.j1] at h, fun _ _ _ _ _ _ _ r h => by simp [impl_hydra_cut.l1] at h⟩
 | k + 1 => by
  obtain ⟨ih0, ih1, ih2, ih3⟩ := impl_hydra_cut.mono_l k;refine ⟨?_, ?_, ?_, ?_⟩
  all_goals (intros; first | unfold impl_hydra_cut.f | unfold impl_hydra_cut.l0 | unfold impl_hydra_cut.j1 | unfold impl_hydra_cut.l1)
  all_goals repeat' first | (with_reducible exact ih0 _ _ _ _) | (with_reducible exact ih1 _ _ _ _ _ _) | (with_reducible exact ih2 _ _ _ _ _ _) | (with_reducible exact ih3 _ _ _ _ _ _ _) | (with_reducible exact LeO.refl _) | (with_reducible exact LeO.none _) | (with_reducible refine LeO.ite ?_ ?_) | (with_reducible refine LeO.bind ?_ (fun _ => ?_))
theorem impl_hydra_cut.mono : ∀ a0 a1 a2 a3 k, LeO (impl_hydra_cut.f k a0 a1 a2 a3) (impl_hydra_cut.f (k + 1) a0 a1 a2 a3) := by
 intro a0 a1 a2 a3 k;obtain ⟨ih0, ih1, ih2, ih3⟩ := impl_hydra_cut.mono_l k;exact ih0 a0 a1 a2 a3
set_option maxHeartbeats 8000000 in
set_option maxRecDepth 100000 in
theorem impl_hydra_cut.calls (k : Nat) : ∀ (P0_ : Nat → Prop) (A0 : Option Addr) (c0 : Nat) (l0 : List (S49)) (g : Nat) (s1_0 : Int) (a2 : Int) (a3 : Bool) (r1 : List (S49)) (r2 : Bool) (r3 : Int) (w0 w : World) (hI : IsS3 w0 w g s1_0) (hB : Below w0.heap.size w0 w) (hs0 : Kd.V k49 49 w w.heap.size (fun k_ => P0_ k_ ∧ k_ ≠ g) (.slice A0 l0.length c0) l0) (h : impl_hydra_cut.f k l0 s1_0 a2 a3 = some (r1, r2, r3)),
  Calls Try.prog 35 #[.slice A0 l0.length c0, .pointer (some ⟨g, 0, none⟩), .int .i64 a2, .bool a3] w fun e w' => ∃ v0_ : Value, e = .returned (.tuple #[v0_, .bool r2]) ∧ Kd.V k49 49 w' w.heap.size (fun k_ => (P0_ k_ ∨ w.heap.size ≤ k_)) v0_ r1 ∧ IsS3 w0 w' g r3 ∧ Below w0.heap.size w0 w' ∧ KeepBut w w' g none := by
 induction k using Nat.strongRecOn with
 | _ k ih =>
 intro P0_ A0 c0 l0 g s1_0 a2 a3 r1 r2 r3 w0 w hI hB hs0 h
 cases k with
 | zero => exact absurd h (by simp [impl_hydra_cut.f])
 | succ k =>
 simp only [impl_hydra_cut.f] at h;have HO0 := am (show Kd.V k49 49 w w.heap.size (fun k_ => (P0_ k_ ∨ w.heap.size ≤ k_) ∧ k_ ≠ g) (.slice A0 l0.length c0) l0 from Kd.V_mono hs0 (fun k_ hk => ⟨.inl hk.1, hk.2⟩));have HI1 := am hI;have HK := am (KeepBut.refl w g none);have HL := am hB.size;clear hI;have HW0 := am hB.size;have HB := am hB;clear hB;have H : (impl_hydra_cut.l0 k l0 a2 l0 (l0.length : Int) 0 s1_0) = some (r1, r2, r3) := h;clear h;have H' := am H;clear H;go_enter Try.func35, Try.ntmps35;go_wp2
 go_loopg [2, 17] k (fun kq v2 v17 w' => ∃ (x2_1 : Int) (x17_1 : Int) (x2000_1 : Int), v2 = .int .i64 x2_1 ∧ v17 = .int .i64 x17_1 ∧ Aside0 (impl_hydra_cut.l0 kq l0 x2_1 l0 (l0.length : Int) x17_1 x2000_1 = some (r1, r2, r3)) ∧ Aside0 (kq ≤ k) ∧ Aside0 (Kd.V k49 49 w' w.heap.size (fun k_ => (P0_ k_ ∨ w.heap.size ≤ k_) ∧ k_ ≠ g) (.slice A0 l0.length c0) l0) ∧ Aside0 (Kd.V k49 49 w' w.heap.size (fun k_ => (P0_ k_ ∨ w.heap.size ≤ k_) ∧ k_ ≠ g) (.slice A0 l0.length c0) l0) ∧ Aside0 (IsS3 w0 w' g x2000_1) ∧ Aside0 (KeepBut w w' g none) ∧ Aside0 (Below w0.heap.size w0 w'))
 case atStart => exact ⟨(a2), (0), (s1_0), (by first | rfl | (simp; done) | (simp [*]; done)), (by first | rfl | (simp; done) | (simp [*]; done)), H', ⟨Nat.le_refl _⟩, ⟨Kd.vm HO0.out⟩, ⟨Kd.vm HO0.out⟩, ⟨by repeat (first | (with_reducible first | exact HI1.out | apply IsS3.alloc | apply IsS3.drewN | apply IsS3.drew | apply IsS3.set_0) | exact HI1.out)⟩, ⟨km HK.out⟩, ⟨bs (IsS3.ge HI1.out) HB.out⟩⟩
 case round =>
  clear H';(try clear p2);(try clear c3);(try clear HO_0);(try clear HO_15);(try clear HK);(try clear HB);obtain ⟨x2_1, x17_1, x2000_1, rfl, rfl, HA, HK1, HO_0, HO_15, HI1, HK, HB⟩ := hrel
  cases gk with
  | zero => exact absurd HA.out (by simp [impl_hydra_cut.l0])
  | succ k1 =>
   have H := HA.out;clear HA;simp only [impl_hydra_cut.l0] at H;by_cases c5 : x17_1 < (l0.length : Int)
   ·
    rw [if_pos c5] at H;have c5b0 : decide (x17_1 < (l0.length : Int)) = true := decide_eq_true c5;clear c5;by_cases c6 : 0 ≤ x17_1
    ·
     rw [if_pos c6] at H;have c6b0 : decide (0 ≤ x17_1) = true := decide_eq_true c6;clear c6;by_cases c7 : x17_1 < (l0.length : Int)
     ·
      rw [if_pos c7] at H;have c7b0 : decide (x17_1 < (l0.length : Int)) = true := decide_eq_true c7;clear c7;by_cases c8 : (((rd_T49 l0 x17_1).f0).length : Int) = 0
      ·
       rw [if_pos c8] at H;have c8b0 : ((((rd_T49 l0 x17_1).f0).length : Int) == 0) = true := beq_iff_eq.mpr c8;have c8b1 : ((((rd_T49 l0 x17_1).f0).length : Int) != 0) = false := bne_eq_false_iff_eq.mpr c8;clear c8;by_cases c9 : x2000_1 = 0
       ·
        rw [if_pos c9] at H;have c9b0 : (x2000_1 == 0) = true := beq_iff_eq.mpr c9;have c9b1 : (x2000_1 != 0) = false := bne_eq_false_iff_eq.mpr c9;clear c9;replace H := oE H;obtain ⟨t210, A10, H⟩ := H;replace H : (some (t210, true, (-1))) = some (r1, r2, r3) := H;replace A10 := am A10;simp only [Option.some.injEq, Prod.mk.injEq] at H;obtain ⟨rfl, rfl, rfl⟩ := H;have p209 : 0 ≤ (x17_1 : Int) := of_decide_eq_true (by assumption);have q209 : x17_1 < (l0.length : Int) := of_decide_eq_true (by assumption);obtain ⟨ad209, A209_0, c209_0, e209, hx209_0, hl209_0, hi209_0⟩ := at_T49 (Kd.V_reads' HO_15.out).2.2 x17_1 p209 q209;cases e209
        obtain ⟨ce209, hce209, hMe209, hcc209⟩ := Kd.V_get HO_15.out z49 x17_1 p209 (by first | exact q209 | exact of_decide_eq_true (by assumption) | (have e_ := (Kd.V_reads' HO_15.out).1; omega));obtain ⟨ua209_0, uc209_0, rfl, ul209_0, ge209_0⟩ := k49_openF hMe209;have hv209_0 := hcc209 0 _ rfl;rw [Nat.add_zero, show (k49).sz = 1 from rfl, Nat.mul_one] at hv209_0;replace hv209_0 := Option.some.inj (hv209_0.symm.trans hx209_0)
        injection hv209_0 with hva_ hvn_ hvc_
        rw [hva_] at ge209_0;rw [hvc_] at ul209_0;have HL209_0 := am (show Kd.V k49 49 _ w.heap.size _ _ ((rd_T49 l0 x17_1).f0) from Kd.V_mk ul209_0 ge209_0);clear hva_ hvn_ hvc_ ge209_0 ul209_0;clear hcc209 hce209;have HR209_0 := am hi209_0;have HC209_0 := am hl209_0;clear hi209_0 hl209_0;replace p209 := eq_true p209;replace q209 := eq_true q209;obtain ⟨HGz11, hgz11⟩ := HI1.out;have hcz11_0 := cellS3_0 HGz11;have hfz11_0 := blk_frozen HGz11 0;clear HGz11 hgz11;go_wp2_with (first | ((with_reducible refine gate_store (t := 3) (p := 30) rfl ?_); refine store_event (t := 3) (p := 30) (v := ?vo_w12) (w1 := (wr.setCell ⟨g, 0, none⟩ (.int .i64 (-1)))) ?hg ?ho ?hn ?hr ?_; (case ho => rfl); (case hg => rfl); (case hn => rfl); (case hr => first | (go_simp; done) | (go_simp; rfl)); intro w12 hw; have n0_ : Aside0 (Kd.V k49 49 w12 w.heap.size (fun k_ => (P0_ k_ ∨ w.heap.size ≤ k_) ∧ k_ ≠ g) (.slice (some ad209) l0.length c0) l0) := ⟨(by rw [hw]; exact (Kd.vm (Kd.V_mono (Kd.V_far (p := ⟨g, 0, none⟩) (Kd.V_mono HO_0.out (fun k_ hk => (⟨hk, hk.2⟩ : _ ∧ k_ ≠ g))) (fun _ hk => hk.2) (.int .i64 (-1))) (fun _ hk => ⟨hk.1.1, hk.1.2⟩))))⟩; have n1_ : Aside0 (Kd.V k49 49 w12 w.heap.size (fun k_ => (P0_ k_ ∨ w.heap.size ≤ k_) ∧ k_ ≠ g) (.slice (some ad209) l0.length c0) l0) := ⟨(by rw [hw]; exact (Kd.vm (Kd.V_mono (Kd.V_far (p := ⟨g, 0, none⟩) (Kd.V_mono HO_15.out (fun k_ hk => (⟨hk, hk.2⟩ : _ ∧ k_ ≠ g))) (fun _ hk => hk.2) (.int .i64 (-1))) (fun _ hk => ⟨hk.1.1, hk.1.2⟩))))⟩; have n2_ : Aside0 (Kd.V k49 49 w12 w.heap.size (fun k_ => (P0_ k_ ∨ w.heap.size ≤ k_) ∧ k_ ≠ g) (.slice A209_0 ((rd_T49 l0 x17_1).f0).length c209_0) ((rd_T49 l0 x17_1).f0)) := ⟨(by rw [hw]; exact (Kd.vm (Kd.V_mono (Kd.V_far (p := ⟨g, 0, none⟩) (Kd.V_mono HL209_0.out (fun k_ hk => (⟨hk, hk.2⟩ : _ ∧ k_ ≠ g))) (fun _ hk => hk.2) (.int .i64 (-1))) (fun _ hk => ⟨hk.1.1, hk.1.2⟩))))⟩; have n3_ : Aside0 (IsS3 w0 w12 g (-1)) := ⟨(by rw [hw]; exact (by repeat (first | (with_reducible first | exact HI1.out | apply IsS3.alloc | apply IsS3.drewN | apply IsS3.drew | apply IsS3.set_0) | exact HI1.out)))⟩; have n4_ : Aside0 (KeepBut w w12 g none) := ⟨(by rw [hw]; exact (km HK.out))⟩; have n5_ : Aside0 (Below w0.heap.size w0 w12) := ⟨(by rw [hw]; exact (bs (IsS3.ge HI1.out) HB.out))⟩; clear hw; clear HO_0; clear HO_15; clear HL209_0; clear HI1; clear HK; clear HB; have HO_0 := n0_; have HO_15 := n1_; have HL209_0 := n2_; have HI1 := n3_; have HK := n4_; have HB := n5_; clear n0_ n1_ n2_ n3_ n4_ ) | ((with_reducible refine gate_callee (f := 57) rfl ?_); refine goesL_ (some 32) rfl rfl Try.func57 (by kernel_rfl) rfl #[.slice (some ad209) l0.length c0] rfl (by (try simp only [mA, mB, mC]); first | done | rfl) ?_; (with_reducible refine (impl_hydra_57.calls (fun k_ => ((P0_ k_ ∨ w.heap.size ≤ k_) ∧ k_ ≠ g)) _ _ l0 l0 _ ?side1 (impl_hydra_57.ok (impl_hydra_56.lt A10.out))).mono ?_); (case side1 => exact HO_0.out); rintro e wc_ ⟨vc_, rfl, hoc_, hbc_⟩; refine ⟨_, rfl, ?_⟩) | ((with_reducible refine gate_callee (f := 56) rfl ?_); refine goesL_ (some 36) rfl rfl Try.func56 (by kernel_rfl) rfl #[vc_, .int .i64 x17_1, .int .i64 (wrap64 (x17_1 + 1))] rfl (by (try simp only [mA, mB, mC]); first | done | rfl) ?_; (with_reducible refine (impl_hydra_56.calls (fun k_ => ((P0_ k_ ∨ w.heap.size ≤ k_) ∧ k_ ≠ g)) vc_ l0 x17_1 (wrap64 (x17_1 + 1)) t210 _ _ hbc_ hoc_ A10.out).mono ?_); rintro e w13 ⟨v211, rfl, ho0, hb⟩; refine ⟨_, rfl, ?_⟩; replace HO_0 := am (Kd.V_elder' (Kd.vm HO_0.out) (Kd.N_base ho0) hb);replace HO_15 := am (Kd.V_elder' (Kd.vm HO_15.out) (Kd.N_base ho0) hb);replace HL209_0 := am (Kd.V_elder' (Kd.vm HL209_0.out) (Kd.N_base ho0) hb);have HO212 := am (Kd.N_lower (Kd.N_mono (ok' := fun k_ => (P0_ k_ ∨ w.heap.size ≤ k_) ∧ k_ ≠ g) ho0 (fun k_ hk_ => ⟨Or.elim hk_ (fun hs_ => hs_.1) (fun hn_ => (.inr (Nat.le_trans (keep_size (w := w) (g := g) (row := none) (km HK.out)) hn_))), Or.elim hk_ (fun hs_ => hs_.2) (fun hn_ => (IsS3.fresh (by repeat (first | (with_reducible first | exact HI1.out | apply IsS3.alloc | apply IsS3.drewN | apply IsS3.drew | apply IsS3.set_0) | exact HI1.out)) k_ hn_))⟩)) (keep_size (w := w) (g := g) (row := none) (km HK.out)));replace HK := am (KeepBut.trans (km HK.out) (KeepBut.of_below hb g none) (.inl rfl));replace HB := am (below_step (bs (IsS3.ge HI1.out) HB.out) hb);replace HI1 := am (IsS3.below (by repeat (first | (with_reducible first | exact HI1.out | apply IsS3.alloc | apply IsS3.drewN | apply IsS3.drew | apply IsS3.set_0) | exact HI1.out)) hb);clear HR209_0; (try clear hb); (try clear hk); (try clear ho0)));go_ret2;exact ⟨_, by first | rfl | (simp [errW_none, errW_some] <;> rfl) | (simp [*, errW_none, errW_some] <;> rfl), Kd.N_V (Kd.nm (Kd.N_mono HO212.out (fun _ hk => hk.1))), by repeat (first | (with_reducible first | exact HI1.out | apply IsS3.alloc | apply IsS3.drewN | apply IsS3.drew | apply IsS3.set_0) | exact HI1.out), bs (IsS3.ge HI1.out) HB.out, km HK.out⟩
       ·
        rw [if_neg c9] at H;have c9b0 : (x2000_1 == 0) = false := beq_eq_false_iff_ne.mpr c9;have c9b1 : (x2000_1 != 0) = true := bne_iff_ne.mpr c9;have H' := am H;clear H;have p209 : 0 ≤ (x17_1 : Int) := of_decide_eq_true (by assumption);have q209 : x17_1 < (l0.length : Int) := of_decide_eq_true (by assumption);obtain ⟨ad209, A209_0, c209_0, e209, hx209_0, hl209_0, hi209_0⟩ := at_T49 (Kd.V_reads' HO_15.out).2.2 x17_1 p209 q209;cases e209
        obtain ⟨ce209, hce209, hMe209, hcc209⟩ := Kd.V_get HO_15.out z49 x17_1 p209 (by first | exact q209 | exact of_decide_eq_true (by assumption) | (have e_ := (Kd.V_reads' HO_15.out).1; omega));obtain ⟨ua209_0, uc209_0, rfl, ul209_0, ge209_0⟩ := k49_openF hMe209;have hv209_0 := hcc209 0 _ rfl;rw [Nat.add_zero, show (k49).sz = 1 from rfl, Nat.mul_one] at hv209_0;replace hv209_0 := Option.some.inj (hv209_0.symm.trans hx209_0)
        injection hv209_0 with hva_ hvn_ hvc_
        rw [hva_] at ge209_0;rw [hvc_] at ul209_0;have HL209_0 := am (show Kd.V k49 49 _ w.heap.size _ _ ((rd_T49 l0 x17_1).f0) from Kd.V_mk ul209_0 ge209_0);clear hva_ hvn_ hvc_ ge209_0 ul209_0;clear hcc209 hce209;have HR209_0 := am hi209_0;have HC209_0 := am hl209_0;clear hi209_0 hl209_0;replace p209 := eq_true p209;replace q209 := eq_true q209;obtain ⟨HGz14, hgz14⟩ := HI1.out;have hcz14_0 := cellS3_0 HGz14;have hfz14_0 := blk_frozen HGz14 0;clear HGz14 hgz14;go_wp2
        go_roundg k1
        case measure => have := HK1.out; omega
        case rel => exact ⟨(x2_1), (wrap64 (x17_1 + 1)), (wrap64 (x2000_1 - 1)), (by first | rfl | (simp; done) | (simp [*]; done)), (by first | rfl | (simp; done) | (simp [*]; done)), H', ⟨by have := HK1.out; omega⟩, ⟨Kd.vm (Kd.V_mono (Kd.V_far (p := ⟨g, 0, none⟩) (Kd.V_mono HO_0.out (fun k_ hk => (⟨hk, hk.2⟩ : _ ∧ k_ ≠ g))) (fun _ hk => hk.2) (.int .i64 (wrap64 (x2000_1 - 1)))) (fun _ hk => ⟨hk.1.1, hk.1.2⟩))⟩, ⟨Kd.vm (Kd.V_mono (Kd.V_far (p := ⟨g, 0, none⟩) (Kd.V_mono HO_15.out (fun k_ hk => (⟨hk, hk.2⟩ : _ ∧ k_ ≠ g))) (fun _ hk => hk.2) (.int .i64 (wrap64 (x2000_1 - 1)))) (fun _ hk => ⟨hk.1.1, hk.1.2⟩))⟩, ⟨by repeat (first | (with_reducible first | exact HI1.out | apply IsS3.alloc | apply IsS3.drewN | apply IsS3.drew | apply IsS3.set_0) | exact HI1.out)⟩, ⟨km HK.out⟩, ⟨bs (IsS3.ge HI1.out) HB.out⟩⟩
      ·
       rw [if_neg c8] at H;have c8b0 : ((((rd_T49 l0 x17_1).f0).length : Int) == 0) = false := beq_eq_false_iff_ne.mpr c8;have c8b1 : ((((rd_T49 l0 x17_1).f0).length : Int) != 0) = true := bne_iff_ne.mpr c8
       have c8b2 : ¬ (((rd_T49 l0 x17_1).f0) = []) := fun h_ => c8 (by rw [h_]; rfl)
       replace H := oE H;obtain ⟨⟨t213, t216, t217⟩, A15, H⟩ := H;replace H : (if t217 ≥ 0 then (impl_hydra_cut.l0 k1 l0 x2_1 l0 (l0.length : Int) (wrap64 (x17_1 + 1)) t217) else (if x17_1 ≤ (l0.length : Int) then ((impl_hydra_57.f (l0.take (x17_1 : Int).toNat)).bind fun t223 => (if t216 = true then (impl_hydra_cut.j1 k1 l0 x2_1 x17_1 t213 t223 t217) else (impl_hydra_cut.j1 k1 l0 1 x17_1 t213 t223 t217))) else (none))) = some (r1, r2, r3) := H;replace A15 := am A15;by_cases c16 : t217 ≥ 0
       ·
        rw [if_pos c16] at H;have c16b0 : decide (0 ≤ t217) = true := decide_eq_true c16;clear c16;have H' := am H;clear H;have p209 : 0 ≤ (x17_1 : Int) := of_decide_eq_true (by assumption);have q209 : x17_1 < (l0.length : Int) := of_decide_eq_true (by assumption);obtain ⟨ad209, A209_0, c209_0, e209, hx209_0, hl209_0, hi209_0⟩ := at_T49 (Kd.V_reads' HO_15.out).2.2 x17_1 p209 q209;cases e209
        obtain ⟨ce209, hce209, hMe209, hcc209⟩ := Kd.V_get HO_15.out z49 x17_1 p209 (by first | exact q209 | exact of_decide_eq_true (by assumption) | (have e_ := (Kd.V_reads' HO_15.out).1; omega));obtain ⟨ua209_0, uc209_0, rfl, ul209_0, ge209_0⟩ := k49_openF hMe209;have hv209_0 := hcc209 0 _ rfl;rw [Nat.add_zero, show (k49).sz = 1 from rfl, Nat.mul_one] at hv209_0;replace hv209_0 := Option.some.inj (hv209_0.symm.trans hx209_0)
        injection hv209_0 with hva_ hvn_ hvc_
        rw [hva_] at ge209_0;rw [hvc_] at ul209_0;have HL209_0 := am (show Kd.V k49 49 _ w.heap.size _ _ ((rd_T49 l0 x17_1).f0) from Kd.V_mk ul209_0 ge209_0);clear hva_ hvn_ hvc_ ge209_0 ul209_0;clear hcc209 hce209;have HR209_0 := am hi209_0;have HC209_0 := am hl209_0;clear hi209_0 hl209_0;replace p209 := eq_true p209;replace q209 := eq_true q209;go_wp2_with (first | ((with_reducible refine gate_callee (f := 35) rfl ?_); refine goesL_ (some 46) rfl rfl Try.func35 (by kernel_rfl) rfl #[.slice A209_0 ((rd_T49 l0 x17_1).f0).length c209_0, .pointer (some ⟨g, 0, none⟩), .int .i64 x2_1, .bool false] rfl (by (try simp only [mA, mB, mC]); first | done | rfl) ?_; (with_reducible refine (ih k1 (by have := HK1.out; omega) (fun k_ => ((P0_ k_ ∨ w.heap.size ≤ k_) ∧ k_ ≠ g)) _ _ ((rd_T49 l0 x17_1).f0) g x2000_1 x2_1 false t213 t216 t217 w0 _ ?side1 ?side2 ?side3 A15.out).mono ?_); (case side1 => repeat (first | (with_reducible first | exact HI1.out | apply IsS3.alloc | apply IsS3.drewN | apply IsS3.drew | apply IsS3.set_0) | exact HI1.out)); (case side2 => exact bs (IsS3.ge HI1.out) HB.out); (case side3 => exact Kd.V_mono (HL209_0.out) (fun k_ hk_ => ⟨hk_, hk_.2⟩)); rintro e w17 ⟨v214, rfl, ho0, hi, hb, hk⟩; refine ⟨_, rfl, ?_⟩; replace HO_0 := am (Kd.V_mono (Kd.V_keep (Kd.V_mono (ok := fun k_ => (((P0_ k_ ∨ w.heap.size ≤ k_)) ∧ k_ ≠ g)) (Kd.vm HO_0.out) (fun k_ hk_ => (⟨hk_, hk_.2⟩ : _ ∧ k_ ≠ g))) hk (fun _ h => h.2)) (fun _ h => h.1));replace HO_15 := am (Kd.V_mono (Kd.V_keep (Kd.V_mono (ok := fun k_ => (((P0_ k_ ∨ w.heap.size ≤ k_)) ∧ k_ ≠ g)) (Kd.vm HO_15.out) (fun k_ hk_ => (⟨hk_, hk_.2⟩ : _ ∧ k_ ≠ g))) hk (fun _ h => h.2)) (fun _ h => h.1));replace HL209_0 := am (Kd.V_mono (Kd.V_keep (Kd.V_mono (ok := fun k_ => (((P0_ k_ ∨ w.heap.size ≤ k_)) ∧ k_ ≠ g)) (Kd.vm HL209_0.out) (fun k_ hk_ => (⟨hk_, hk_.2⟩ : _ ∧ k_ ≠ g))) hk (fun _ h => h.2)) (fun _ h => h.1));have HO215 := am (Kd.V_lower (Kd.V_mono (ok' := fun k_ => (P0_ k_ ∨ w.heap.size ≤ k_) ∧ k_ ≠ g) ho0 (fun k_ hk_ => ⟨Or.elim hk_ (fun hs_ => hs_.1) (fun hn_ => (.inr (Nat.le_trans (keep_size (w := w) (g := g) (row := none) (km HK.out)) hn_))), Or.elim hk_ (fun hs_ => hs_.2) (fun hn_ => (IsS3.fresh (by repeat (first | (with_reducible first | exact HI1.out | apply IsS3.alloc | apply IsS3.drewN | apply IsS3.drew | apply IsS3.set_0) | exact HI1.out)) k_ hn_))⟩)) (keep_size (w := w) (g := g) (row := none) (km HK.out)));replace HK := am (KeepBut.trans (km HK.out) hk (.inl rfl));replace HB := am (hb);replace HI1 := am (hi); (try clear hb); (try clear hk); (try clear hi); (try clear ho0); obtain ⟨HGz18, hgz18⟩ := HI1.out; have hcz18_0 := cellS3_0 HGz18; have hfz18_0 := blk_frozen HGz18 0; clear HGz18 hgz18))
        go_roundg k1
        case measure => have := HK1.out; omega
        case rel => exact ⟨(x2_1), (wrap64 (x17_1 + 1)), (t217), (by first | rfl | (simp; done) | (simp [*]; done)), (by first | rfl | (simp; done) | (simp [*]; done)), H', ⟨by have := HK1.out; omega⟩, ⟨Kd.vm HO_0.out⟩, ⟨Kd.vm HO_15.out⟩, ⟨by repeat (first | (with_reducible first | exact HI1.out | apply IsS3.alloc | apply IsS3.drewN | apply IsS3.drew | apply IsS3.set_0) | exact HI1.out)⟩, ⟨km HK.out⟩, ⟨bs (IsS3.ge HI1.out) HB.out⟩⟩
       ·
        rw [if_neg c16] at H;have c16b0 : decide (0 ≤ t217) = false := decide_eq_false c16;clear c16;have c19b0 := eq_true (of_decide_eq_true (by assumption) : 0 ≤ x17_1);by_cases c20 : x17_1 ≤ (l0.length : Int)
        ·
         rw [if_pos c20] at H;have c20b0 := eq_true c20;have c20b1 : decide (x17_1 ≤ (l0.length : Int)) = true := decide_eq_true c20;clear c20
         obtain ⟨y218, hy218⟩ : ∃ y_ : List (S49), y_ = (l0.take (x17_1 : Int).toNat) := ⟨_, rfl⟩
         replace H : ((impl_hydra_57.f y218).bind fun t223 => (if t216 = true then (impl_hydra_cut.j1 k1 l0 x2_1 x17_1 t213 t223 t217) else (impl_hydra_cut.j1 k1 l0 1 x17_1 t213 t223 t217))) = some (r1, r2, r3) := by first | (rw [hy218]; with_reducible exact H) | (have H2_ := oB H; rw [hy218]; with_reducible exact H2_) | (have H2_ := oB H; with_reducible exact H2_) | with_reducible exact H | (rw [hy218]; exact H) | exact H
         replace hy218 := am hy218;replace H := oE H;obtain ⟨t223, A21, H⟩ := H;replace H : (if t216 = true then (impl_hydra_cut.j1 k1 l0 x2_1 x17_1 t213 t223 t217) else (impl_hydra_cut.j1 k1 l0 1 x17_1 t213 t223 t217)) = some (r1, r2, r3) := H;replace A21 := am A21;have HC22 := am H;clear H;have p209 : 0 ≤ (x17_1 : Int) := of_decide_eq_true (by assumption);have q209 : x17_1 < (l0.length : Int) := of_decide_eq_true (by assumption);obtain ⟨ad209, A209_0, c209_0, e209, hx209_0, hl209_0, hi209_0⟩ := at_T49 (Kd.V_reads' HO_15.out).2.2 x17_1 p209 q209;cases e209
         obtain ⟨ce209, hce209, hMe209, hcc209⟩ := Kd.V_get HO_15.out z49 x17_1 p209 (by first | exact q209 | exact of_decide_eq_true (by assumption) | (have e_ := (Kd.V_reads' HO_15.out).1; omega));obtain ⟨ua209_0, uc209_0, rfl, ul209_0, ge209_0⟩ := k49_openF hMe209;have hv209_0 := hcc209 0 _ rfl;rw [Nat.add_zero, show (k49).sz = 1 from rfl, Nat.mul_one] at hv209_0;replace hv209_0 := Option.some.inj (hv209_0.symm.trans hx209_0)
         injection hv209_0 with hva_ hvn_ hvc_
         rw [hva_] at ge209_0;rw [hvc_] at ul209_0;have HL209_0 := am (show Kd.V k49 49 _ w.heap.size _ _ ((rd_T49 l0 x17_1).f0) from Kd.V_mk ul209_0 ge209_0);clear hva_ hvn_ hvc_ ge209_0 ul209_0;clear hcc209 hce209;have HR209_0 := am hi209_0;have HC209_0 := am hl209_0;clear hi209_0 hl209_0;replace p209 := eq_true p209;replace q209 := eq_true q209
         go_upto_if 58 with (first | ((with_reducible refine gate_callee (f := 35) rfl ?_); refine goesL_ (some 46) rfl rfl Try.func35 (by kernel_rfl) rfl #[.slice A209_0 ((rd_T49 l0 x17_1).f0).length c209_0, .pointer (some ⟨g, 0, none⟩), .int .i64 x2_1, .bool false] rfl (by (try simp only [mA, mB, mC]); first | done | rfl) ?_; (with_reducible refine (ih k1 (by have := HK1.out; omega) (fun k_ => ((P0_ k_ ∨ w.heap.size ≤ k_) ∧ k_ ≠ g)) _ _ ((rd_T49 l0 x17_1).f0) g x2000_1 x2_1 false t213 t216 t217 w0 _ ?side1 ?side2 ?side3 A15.out).mono ?_); (case side1 => repeat (first | (with_reducible first | exact HI1.out | apply IsS3.alloc | apply IsS3.drewN | apply IsS3.drew | apply IsS3.set_0) | exact HI1.out)); (case side2 => exact bs (IsS3.ge HI1.out) HB.out); (case side3 => exact Kd.V_mono (HL209_0.out) (fun k_ hk_ => ⟨hk_, hk_.2⟩)); rintro e w23 ⟨v214, rfl, ho0, hi, hb, hk⟩; refine ⟨_, rfl, ?_⟩; replace HO_0 := am (Kd.V_mono (Kd.V_keep (Kd.V_mono (ok := fun k_ => (((P0_ k_ ∨ w.heap.size ≤ k_)) ∧ k_ ≠ g)) (Kd.vm HO_0.out) (fun k_ hk_ => (⟨hk_, hk_.2⟩ : _ ∧ k_ ≠ g))) hk (fun _ h => h.2)) (fun _ h => h.1));replace HO_15 := am (Kd.V_mono (Kd.V_keep (Kd.V_mono (ok := fun k_ => (((P0_ k_ ∨ w.heap.size ≤ k_)) ∧ k_ ≠ g)) (Kd.vm HO_15.out) (fun k_ hk_ => (⟨hk_, hk_.2⟩ : _ ∧ k_ ≠ g))) hk (fun _ h => h.2)) (fun _ h => h.1));replace HL209_0 := am (Kd.V_mono (Kd.V_keep (Kd.V_mono (ok := fun k_ => (((P0_ k_ ∨ w.heap.size ≤ k_)) ∧ k_ ≠ g)) (Kd.vm HL209_0.out) (fun k_ hk_ => (⟨hk_, hk_.2⟩ : _ ∧ k_ ≠ g))) hk (fun _ h => h.2)) (fun _ h => h.1));have HO215 := am (Kd.V_lower (Kd.V_mono (ok' := fun k_ => (P0_ k_ ∨ w.heap.size ≤ k_) ∧ k_ ≠ g) ho0 (fun k_ hk_ => ⟨Or.elim hk_ (fun hs_ => hs_.1) (fun hn_ => (.inr (Nat.le_trans (keep_size (w := w) (g := g) (row := none) (km HK.out)) hn_))), Or.elim hk_ (fun hs_ => hs_.2) (fun hn_ => (IsS3.fresh (by repeat (first | (with_reducible first | exact HI1.out | apply IsS3.alloc | apply IsS3.drewN | apply IsS3.drew | apply IsS3.set_0) | exact HI1.out)) k_ hn_))⟩)) (keep_size (w := w) (g := g) (row := none) (km HK.out)));replace HK := am (KeepBut.trans (km HK.out) hk (.inl rfl));replace HB := am (hb);replace HI1 := am (hi); (try clear hb); (try clear hk); (try clear hi); (try clear ho0); obtain ⟨HGz24, hgz24⟩ := HI1.out; have hcz24_0 := cellS3_0 HGz24; have hfz24_0 := blk_frozen HGz24 0; clear HGz24 hgz24; have q25 : (x17_1 : Int) ≤ ((l0.length : Int) : Int) := of_decide_eq_true (by assumption); obtain ⟨i025, hi025, _, hsz25, _⟩ := info_parts info49; have hroom25 : l0.length ≤ c0 := (Kd.V_reads' HO_0.out).2.1; have hC25 : Kd.F k49 _ _ (some ad209) l0.length l0 := (Kd.V_at (base := w.heap.size) HO_0.out).2.2; have hcut25 := cut_to (P := Try.prog) 49 49 .i64 Try.underlying49 hi025 (some ad209) l0.length c0 x17_1 (of_decide_eq_true (by assumption)) q25 hroom25; have hr25 := Kd.F_take (m := (x17_1 : Int).toNat) hC25 (by omega); have hy25 : y218.length = (x17_1 : Int).toNat := (by rw [hy218.out, List.length_take]; omega); rw [← hy218.out] at hr25; rw [← hy25] at hcut25; have HO222 := am (show Kd.V k49 49 _ w.heap.size _ (.slice (some ad209) y218.length c0) y218 from Kd.V_mk (by omega) hr25); have HC222 := am (show y218.length ≤ c0 from by omega); clear hr25 hC25 hroom25 hi025 hsz25; have KY25 := am hy25; clear hy25; replace q25 := eq_true q25) | ((with_reducible refine gate_callee (f := 57) rfl ?_); refine goesL_ (some 56) rfl rfl Try.func57 (by kernel_rfl) rfl #[.slice (some ad209) y218.length c0] rfl (by (try simp only [mA, mB, mC]); first | done | rfl) ?_; (with_reducible refine (impl_hydra_57.calls (fun k_ => ((P0_ k_ ∨ w.heap.size ≤ k_) ∧ k_ ≠ g)) _ _ y218 t223 _ ?side1 A21.out).mono ?_); (case side1 => exact HO222.out); rintro e w26 ⟨v224, rfl, ho0, hb⟩; refine ⟨_, rfl, ?_⟩; replace HO_0 := am (Kd.V_elder' (Kd.vm HO_0.out) (Kd.N_base ho0) hb);replace HO_15 := am (Kd.V_elder' (Kd.vm HO_15.out) (Kd.N_base ho0) hb);replace HL209_0 := am (Kd.V_elder' (Kd.vm HL209_0.out) (Kd.N_base ho0) hb);replace HO215 := am (Kd.V_elder' (Kd.vm HO215.out) (Kd.N_base ho0) hb);replace HO222 := am (Kd.V_elder' (Kd.vm HO222.out) (Kd.N_base ho0) hb);have HO225 := am (Kd.N_lower (Kd.N_mono (ok' := fun k_ => (P0_ k_ ∨ w.heap.size ≤ k_) ∧ k_ ≠ g) ho0 (fun k_ hk_ => ⟨Or.elim hk_ (fun hs_ => hs_.1) (fun hn_ => (.inr (Nat.le_trans (keep_size (w := w) (g := g) (row := none) (km HK.out)) hn_))), Or.elim hk_ (fun hs_ => hs_.2) (fun hn_ => (IsS3.fresh (by repeat (first | (with_reducible first | exact HI1.out | apply IsS3.alloc | apply IsS3.drewN | apply IsS3.drew | apply IsS3.set_0) | exact HI1.out)) k_ hn_))⟩)) (keep_size (w := w) (g := g) (row := none) (km HK.out)));replace HK := am (KeepBut.trans (km HK.out) (KeepBut.of_below hb g none) (.inl rfl));replace HB := am (below_step (bs (IsS3.ge HI1.out) HB.out) hb);replace HI1 := am (IsS3.below (by repeat (first | (with_reducible first | exact HI1.out | apply IsS3.alloc | apply IsS3.drewN | apply IsS3.drew | apply IsS3.set_0) | exact HI1.out)) hb); (try clear hb); (try clear hk); (try clear hi); (try clear ho0)))
         (try simp only [Act.put, List.setIfInBounds_toArray, List.set_cons_zero, List.set_cons_succ])
         go_cut [2] (fun v2 wc => ∃ (kq : Nat) (x2_21 : Int), v2 = .int .i64 x2_21 ∧ Aside0 (impl_hydra_cut.j1 kq l0 x2_21 x17_1 t213 t223 t217 = some (r1, r2, r3)) ∧ Aside0 (kq ≤ k1) ∧ Aside0 (Kd.V k49 49 wc w.heap.size (fun k_ => (P0_ k_ ∨ w.heap.size ≤ k_) ∧ some k_ ≠ (v224 : Value).ownBlock ∧ k_ ≠ g) (.slice (some ad209) l0.length c0) l0) ∧ Aside0 (Kd.V k49 49 wc w.heap.size (fun k_ => (P0_ k_ ∨ w.heap.size ≤ k_) ∧ some k_ ≠ (v224 : Value).ownBlock ∧ k_ ≠ g) v214 t213) ∧ Aside0 (Kd.N k49 49 wc w.heap.size (fun k_ => (P0_ k_ ∨ w.heap.size ≤ k_) ∧ k_ ≠ g) v224 t223) ∧ Aside0 (IsS3 w0 wc g t217) ∧ Aside0 (KeepBut w wc g none) ∧ Aside0 (Below w0.heap.size w0 wc))
         case first =>
          have H := HC22.out;clear HC22;by_cases c27 : t216 = true
          ·
           subst c27
           have H1 : (impl_hydra_cut.j1 k1 l0 x2_1 x17_1 t213 t223 t217) = some (r1, r2, r3) := by rw [if_pos rfl] at H; exact H
           clear H;have H := H1;clear H1;have H' := am H;clear H;go_wp2;go_meet
           case rel => exact ⟨_, (x2_1), (by first | rfl | (simp; done) | (simp [*]; done)), H', ⟨by have := HK1.out; first | omega | exact Nat.le_refl _⟩, ⟨Kd.vm (Kd.V_mono HO_0.out (fun _ hk => ⟨hk.1.1, ⟨hk.2, hk.1.2⟩⟩))⟩, ⟨Kd.vm (Kd.V_mono HO215.out (fun _ hk => ⟨hk.1.1, ⟨hk.2, hk.1.2⟩⟩))⟩, ⟨Kd.nm HO225.out⟩, ⟨by repeat (first | (with_reducible first | exact HI1.out | apply IsS3.alloc | apply IsS3.drewN | apply IsS3.drew | apply IsS3.set_0) | exact HI1.out)⟩, ⟨km HK.out⟩, ⟨bs (IsS3.ge HI1.out) HB.out⟩⟩
          ·
           replace c27 := Bool.eq_false_iff.mpr c27;subst c27
           have H1 : (impl_hydra_cut.j1 k1 l0 1 x17_1 t213 t223 t217) = some (r1, r2, r3) := by rw [if_neg (show ¬ (false = true) by decide)] at H; exact H
           clear H;have H := H1;clear H1;have H' := am H;clear H;go_wp2;go_meet
           case rel => exact ⟨_, (1), (by first | rfl | (simp; done) | (simp [*]; done)), H', ⟨by have := HK1.out; first | omega | exact Nat.le_refl _⟩, ⟨Kd.vm (Kd.V_mono HO_0.out (fun _ hk => ⟨hk.1.1, ⟨hk.2, hk.1.2⟩⟩))⟩, ⟨Kd.vm (Kd.V_mono HO215.out (fun _ hk => ⟨hk.1.1, ⟨hk.2, hk.1.2⟩⟩))⟩, ⟨Kd.nm HO225.out⟩, ⟨by repeat (first | (with_reducible first | exact HI1.out | apply IsS3.alloc | apply IsS3.drewN | apply IsS3.drew | apply IsS3.set_0) | exact HI1.out)⟩, ⟨km HK.out⟩, ⟨bs (IsS3.ge HI1.out) HB.out⟩⟩
         case rest =>
          clear HC22;(try clear c1);(try clear c2);(try clear p2);(try clear q2);(try clear hx2);(try clear c3);(try clear c5);(try clear c5b0);(try clear c6);(try clear c6b0);(try clear p6);(try clear c7);(try clear c7b0);(try clear c8);(try clear c8b0);(try clear c8b1);(try clear c8b2);(try clear c9);(try clear c9b0);(try clear c9b1);(try clear c16);(try clear c16b0);(try clear c19);(try clear c19b0);(try clear c20);(try clear c20b0);(try clear c20b1);(try clear p20);(try clear q20);(try clear hx20);(try clear q25);(try clear c27);(try clear hcz11_0);(try clear hcz14_0);(try clear hcz18_0);(try clear hcz24_0);(try clear hfz11_0);(try clear hfz14_0);(try clear hfz18_0);(try clear hfz24_0);(try clear hx209_0);(try clear p2);(try clear p209);(try clear q209);(try clear q25);obtain ⟨kq, x2_21, rfl, HA, HJ21, HO_0, HO_12, HO_14, HI1, HK, HB⟩ := hcut
          cases kq with
          | zero => exact absurd HA.out (by simp [impl_hydra_cut.j1])
          | succ kj21 =>
           have H := HA.out;clear HA;simp only [impl_hydra_cut.j1] at H;have H' := am H;clear H;go_wp2
           go_loopg [14, 60] kj21 (fun kq v14 v60 w' => ∃ (x14_3 : List (S49)) (x60_3 : Int), v60 = .int .i64 x60_3 ∧ Aside0 (impl_hydra_cut.l1 kq l0 x17_1 t213 x14_3 x2_21 x60_3 t217 = some (r1, r2, r3)) ∧ Aside0 (kq ≤ kj21) ∧ Aside0 (Kd.V k49 49 w' w.heap.size (fun k_ => (P0_ k_ ∨ w.heap.size ≤ k_) ∧ some k_ ≠ (v14 : Value).ownBlock ∧ k_ ≠ g) (.slice (some ad209) l0.length c0) l0) ∧ Aside0 (Kd.V k49 49 w' w.heap.size (fun k_ => (P0_ k_ ∨ w.heap.size ≤ k_) ∧ some k_ ≠ (v14 : Value).ownBlock ∧ k_ ≠ g) v214 t213) ∧ Aside0 (Kd.N k49 49 w' w.heap.size (fun k_ => (P0_ k_ ∨ w.heap.size ≤ k_) ∧ k_ ≠ g) v14 x14_3) ∧ Aside0 (IsS3 w0 w' g t217) ∧ Aside0 (KeepBut w w' g none) ∧ Aside0 (Below w0.heap.size w0 w'))
           case atStart => exact ⟨(t223), (0), (by first | rfl | (simp; done) | (simp [*]; done)), H', ⟨Nat.le_refl _⟩, ⟨Kd.vm HO_0.out⟩, ⟨Kd.vm HO_12.out⟩, ⟨Kd.nm HO_14.out⟩, ⟨by repeat (first | (with_reducible first | exact HI1.out | apply IsS3.alloc | apply IsS3.drewN | apply IsS3.drew | apply IsS3.set_0) | exact HI1.out)⟩, ⟨km HK.out⟩, ⟨bs (IsS3.ge HI1.out) HB.out⟩⟩
           case round =>
            clear H';(try clear c1);(try clear c2);(try clear p2);(try clear q2);(try clear hx2);(try clear c3);(try clear c5);(try clear c5b0);(try clear c6);(try clear c6b0);(try clear p6);(try clear c7);(try clear c7b0);(try clear c8);(try clear c8b0);(try clear c8b1);(try clear c8b2);(try clear c9);(try clear c9b0);(try clear c9b1);(try clear c16);(try clear c16b0);(try clear c19);(try clear c19b0);(try clear c20);(try clear c20b0);(try clear c20b1);(try clear p20);(try clear q20);(try clear hx20);(try clear q25);(try clear c27);(try clear hcz11_0);(try clear hcz14_0);(try clear hcz18_0);(try clear hcz24_0);(try clear hfz11_0);(try clear hfz14_0);(try clear hfz18_0);(try clear hfz24_0);(try clear hx209_0);(try clear p2);(try clear p20);(try clear p209);(try clear p6);(try clear q2);(try clear q20);(try clear q209);(try clear q25);(try clear HO_0);(try clear HO_12);(try clear HO_14);(try clear HK);(try clear HB);obtain ⟨x14_3, x60_3, rfl, HA, HK3, HO_0, HO_12, HO_14, HI1, HK, HB⟩ := hrel
            cases gk with
            | zero => exact absurd HA.out (by simp [impl_hydra_cut.l1])
            | succ k3 =>
             have H := HA.out;clear HA;simp only [impl_hydra_cut.l1] at H;by_cases c28 : x60_3 < x2_21
             ·
              rw [if_pos c28] at H;have c28b0 : decide (x60_3 < x2_21) = true := decide_eq_true c28;clear c28;by_cases c29 : x14_3.length < 5864062014805
              ·
               rw [if_pos c29] at H;have LMc29 := am c29;clear c29
               obtain ⟨y226, hy226⟩ : ∃ y_ : List (S49), y_ = (x14_3 ++ [(⟨t213⟩ : S49)]) := ⟨_, rfl⟩
               replace H : (impl_hydra_cut.l1 k3 l0 x17_1 t213 y226 x2_21 (wrap64 (x60_3 + 1)) t217) = some (r1, r2, r3) := by first | (rw [hy226]; with_reducible exact H) | (have H2_ := oB H; rw [hy226]; with_reducible exact H2_) | (have H2_ := oB H; with_reducible exact H2_) | with_reducible exact H | (rw [hy226]; exact H) | exact H
               replace hy226 := am hy226;have H' := am H;clear H;obtain ⟨Ao31, co31, eo31⟩ := Kd.V_slice HO_12.out;subst eo31;go_wp2_with (first | ((with_reducible refine gate_builtin (b := .append) (xs := #[.tmp 62, .tmp 64]) rfl ?_); at_builtin; refine Kd.N_append k49 w.heap.size rfl (.tmp 62) (.tmp 64) 49 49 (.slice none 0 0) 24 rfl Try.underlying49 info49 rfl (by decide) (by omega) u14 x14_3 (⟨t213⟩ : S49) [.slice Ao31 t213.length co31] (fun k_ => (P0_ k_ ∨ w.heap.size ≤ k_) ∧ k_ ≠ g) (fun k_ => ((fun k_ => (P0_ k_ ∨ w.heap.size ≤ k_) ∧ k_ ≠ g)) k_ ∧ some k_ ≠ (u14 : Value).ownBlock) rfl rfl ?aP (fun _ hk => hk) ?aF ?aO (Below.refl _ _) ?aS ?aL ?_; (case aP => exact (k49_mkF _ _ (⟨t213⟩ : S49) (Kd.V_reads' (Kd.V_mono (ok' := (fun k_ => ((fun k_ => (P0_ k_ ∨ w.heap.size ≤ k_) ∧ k_ ≠ g)) k_ ∧ some k_ ≠ (u14 : Value).ownBlock)) (HO_12.out) (fun k_ hk => ⟨⟨hk.1, hk.2.2⟩, hk.2.1⟩))).2.1 (Kd.V_F (Kd.V_mono (ok' := (fun k_ => ((fun k_ => (P0_ k_ ∨ w.heap.size ≤ k_) ∧ k_ ≠ g)) k_ ∧ some k_ ≠ (u14 : Value).ownBlock)) (HO_12.out) (fun k_ hk => ⟨⟨hk.1, hk.2.2⟩, hk.2.1⟩))))); (case aF => exact (fun k_ hk => ⟨(.inr (Nat.le_trans (keep_size (w := w) (g := g) (row := none) (km HK.out)) hk)), IsS3.fresh (by repeat (first | (with_reducible first | exact HI1.out | apply IsS3.alloc | apply IsS3.drewN | apply IsS3.drew | apply IsS3.set_0) | exact HI1.out)) k_ hk⟩)); (case aO => exact (Kd.nm HO_14.out)); (case aS => exact (keep_size (w := w) (g := g) (row := none) (km HK.out))); (case aL => have := LMc29.out; omega); intro v227 w30 ho hb hg hat; rw [← hy226.out] at ho; replace HO_0 := am (Kd.V_afterv (ok := (fun k_ => (P0_ k_ ∨ w.heap.size ≤ k_) ∧ k_ ≠ g)) (Kd.vm (Kd.V_mono HO_0.out (fun _ hk => ⟨⟨hk.1, hk.2.2⟩, hk.2.1⟩))) hg hat);replace HO_12 := am (Kd.V_afterv (ok := (fun k_ => (P0_ k_ ∨ w.heap.size ≤ k_) ∧ k_ ≠ g)) (Kd.vm (Kd.V_mono HO_12.out (fun _ hk => ⟨⟨hk.1, hk.2.2⟩, hk.2.1⟩))) hg hat);replace HB := am (below_weaken (bs (IsS3.ge HI1.out) HB.out) HL.out hb);replace HI1 := am (IsS3.grown (by repeat (first | (with_reducible first | exact HI1.out | apply IsS3.alloc | apply IsS3.drewN | apply IsS3.drew | apply IsS3.set_0) | exact HI1.out)) hg (IsS3.own_neN HI1.out HO_14.out (by decide)));replace HK := am (KeepBut.trans (km HK.out) (KeepBut.of_grown hg g) (Kd.N_base2 HO_14.out));have HO228 := am (ho);clear HO_14; clear ho hb hg hat))
               go_roundg k3
               case measure => have := HK1.out; have := HJ21.out; have := HK3.out; omega
               case rel => exact ⟨(y226), (wrap64 (x60_3 + 1)), (by first | rfl | (simp; done) | (simp [*]; done)), H', ⟨by have := HK1.out; have := HJ21.out; have := HK3.out; omega⟩, ⟨Kd.vm (Kd.V_mono HO_0.out (fun _ hk => ⟨hk.1.1, ⟨hk.2, hk.1.2⟩⟩))⟩, ⟨Kd.vm (Kd.V_mono HO_12.out (fun _ hk => ⟨hk.1.1, ⟨hk.2, hk.1.2⟩⟩))⟩, ⟨Kd.nm HO228.out⟩, ⟨by repeat (first | (with_reducible first | exact HI1.out | apply IsS3.alloc | apply IsS3.drewN | apply IsS3.drew | apply IsS3.set_0) | exact HI1.out)⟩, ⟨km HK.out⟩, ⟨bs (IsS3.ge HI1.out) HB.out⟩⟩
              ·
               rw [if_neg c29] at H;exact absurd H (by simp)
             ·
              rw [if_neg c28] at H;have c28b0 : decide (x60_3 < x2_21) = false := decide_eq_false c28;clear c28
              obtain ⟨ji32, hji32⟩ : ∃ j_ : Int, (wrap64 (x17_1 + 1)) = j_ := ⟨_, rfl⟩
              replace H : (if 0 ≤ (ji32) then (if (ji32) ≤ (l0.length : Int) then ((some (l0.drop ((ji32) : Int).toNat : List (S49))).bind fun y229 => (if x14_3.length + y229.length < 5864062014805 then (some ((x14_3 ++ y229), false, t217)) else (none))) else (none)) else (none)) = some (r1, r2, r3) := by first | (rw [hji32] at H; exact H) | (simp only [hji32] at H ⊢; exact H)
              have hji32w : (IntKind.i64.wrap (x17_1 + 1)) = ji32 := (i64_w _).trans hji32;by_cases c33 : 0 ≤ (ji32)
              ·
               rw [if_pos c33] at H;have c33b0 := eq_true c33;have c33b1 : decide (0 ≤ (ji32)) = true := decide_eq_true c33;clear c33;by_cases c34 : (ji32) ≤ (l0.length : Int)
               ·
                rw [if_pos c34] at H;have c34b0 := eq_true c34;have c34b1 : decide ((ji32) ≤ (l0.length : Int)) = true := decide_eq_true c34;clear c34
                obtain ⟨y229, hy229⟩ : ∃ y_ : List (S49), y_ = (l0.drop ((ji32) : Int).toNat) := ⟨_, rfl⟩
                replace H : (if x14_3.length + y229.length < 5864062014805 then (some ((x14_3 ++ y229), false, t217)) else (none)) = some (r1, r2, r3) := by first | (rw [hy229]; with_reducible exact H) | (have H2_ := oB H; rw [hy229]; with_reducible exact H2_) | (have H2_ := oB H; with_reducible exact H2_) | with_reducible exact H | (rw [hy229]; exact H) | exact H
                replace hy229 := am hy229;by_cases c35 : x14_3.length + y229.length < 5864062014805
                ·
                 rw [if_pos c35] at H;have LMc35 := am c35;clear c35
                 obtain ⟨y234, hy234⟩ : ∃ y_ : List (S49), y_ = (x14_3 ++ y229) := ⟨_, rfl⟩
                 replace H : (some (y234, false, t217)) = some (r1, r2, r3) := by first | (rw [hy234]; with_reducible exact H) | (have H2_ := oB H; rw [hy234]; with_reducible exact H2_) | (have H2_ := oB H; with_reducible exact H2_) | with_reducible exact H | (rw [hy234]; exact H) | exact H
                 replace hy234 := am hy234;simp only [Option.some.injEq, Prod.mk.injEq] at H;obtain ⟨rfl, rfl, rfl⟩ := H;have q36 : ((ji32) : Int) ≤ ((l0.length : Int) : Int) := of_decide_eq_true (by assumption);obtain ⟨i036, hi036, _, hsz36, _⟩ := info_parts info49;have hroom36 : l0.length ≤ c0 := (Kd.V_reads' HO_0.out).2.1;have hC36 : Kd.F k49 _ _ (some ad209) l0.length l0 := (Kd.V_at (base := w.heap.size) HO_0.out).2.2;have q036 : (0 : Int) ≤ ((ji32) : Int) := of_decide_eq_true (by assumption);have hcut36 := cut_from (P := Try.prog) 49 49 .i64 Try.underlying49 hi036 1 hsz36 (some ad209) l0.length c0 (ji32) q036 q36;have hr36 := Kd.F_cut (m := ((ji32) : Int).toNat) (c := c0) hC36 (by omega) hroom36
                 obtain ⟨A36, hA36⟩ : ∃ A_, A_ = (if c0 = ((ji32) : Int).toNat then (some ad209) else ((some ad209) : Option Addr).map (·.add (((ji32) : Int).toNat * 1))) := ⟨_, rfl⟩
                 obtain ⟨c36, hc36⟩ : ∃ c_, c_ = c0 - ((ji32) : Int).toNat := ⟨_, rfl⟩
                 have hy36 : y229.length = l0.length - ((ji32) : Int).toNat := (by rw [hy229.out, List.length_drop] <;> omega);rw [show (l0).drop ((ji32) : Int).toNat = y229 from hy229.out.symm] at hr36;replace hr36 : Kd.F k49 _ _ A36 y229.length y229 := (by rw [hA36]; exact hr36);rw [← hy36, ← hA36, ← hc36] at hcut36;have HO233 := am (show Kd.V k49 49 _ w.heap.size _ (.slice A36 y229.length c36) y229 from Kd.V_mk (by rw [hy36, hc36]; exact Nat.sub_le_sub_right hroom36 _) hr36);have HC233 := am (show y229.length ≤ c36 from by rw [hy36, hc36]; exact Nat.sub_le_sub_right hroom36 _);clear hr36 hC36 hroom36 hi036 hsz36 hc36;have KY36 := am hy36;have KA36 := am hA36;clear hy36 hA36;replace q36 := eq_true q36;go_wp2_with (first | ((with_reducible refine gate_builtin (b := .append) (xs := #[.tmp 67, .tmp 71]) rfl ?_); at_builtin; refine Kd.N_append_rows k49 w.heap.size rfl (.tmp 67) (.tmp 71) 49 49 (.slice none 0 0) 24 rfl Try.underlying49 info49 rfl (by decide) (by omega) u14 x14_3 y229 _ _ _ (fun k_ => (P0_ k_ ∨ w.heap.size ≤ k_) ∧ k_ ≠ g) (fun k_ => ((fun k_ => (P0_ k_ ∨ w.heap.size ≤ k_) ∧ k_ ≠ g)) k_ ∧ some k_ ≠ (u14 : Value).ownBlock) rfl rfl ?aO ?aR (fun _ hk => hk) ?aF (Below.refl _ _) ?aS ?aL ?_; (case aR => exact (by skip; exact Kd.V_F (Kd.V_mono (ok' := (fun k_ => ((fun k_ => (P0_ k_ ∨ w.heap.size ≤ k_) ∧ k_ ≠ g)) k_ ∧ some k_ ≠ (u14 : Value).ownBlock)) (HO233.out) (fun k_ hk => ⟨⟨hk.1, hk.2.2⟩, hk.2.1⟩)))); (case aF => exact (fun k_ hk => ⟨(.inr (Nat.le_trans (keep_size (w := w) (g := g) (row := none) (km HK.out)) hk)), IsS3.fresh (by repeat (first | (with_reducible first | exact HI1.out | apply IsS3.alloc | apply IsS3.drewN | apply IsS3.drew | apply IsS3.set_0) | exact HI1.out)) k_ hk⟩)); (case aO => exact (Kd.nm HO_14.out)); (case aS => exact (keep_size (w := w) (g := g) (row := none) (km HK.out))); (case aL => have := LMc35.out; omega); intro v235 w37 ho hb hg hat; rw [← hy234.out] at ho; replace HO_0 := am (Kd.V_afterv (ok := (fun k_ => (P0_ k_ ∨ w.heap.size ≤ k_) ∧ k_ ≠ g)) (Kd.vm (Kd.V_mono HO_0.out (fun _ hk => ⟨⟨hk.1, hk.2.2⟩, hk.2.1⟩))) hg hat);replace HO_12 := am (Kd.V_afterv (ok := (fun k_ => (P0_ k_ ∨ w.heap.size ≤ k_) ∧ k_ ≠ g)) (Kd.vm (Kd.V_mono HO_12.out (fun _ hk => ⟨⟨hk.1, hk.2.2⟩, hk.2.1⟩))) hg hat);replace HO233 := am (Kd.V_afterv (ok := (fun k_ => (P0_ k_ ∨ w.heap.size ≤ k_) ∧ k_ ≠ g)) (Kd.vm (Kd.V_mono HO233.out (fun _ hk => ⟨⟨hk.1, hk.2.2⟩, hk.2.1⟩))) hg hat);replace HB := am (below_weaken (bs (IsS3.ge HI1.out) HB.out) HL.out hb);replace HI1 := am (IsS3.grown (by repeat (first | (with_reducible first | exact HI1.out | apply IsS3.alloc | apply IsS3.drewN | apply IsS3.drew | apply IsS3.set_0) | exact HI1.out)) hg (IsS3.own_neN HI1.out HO_14.out (by decide)));replace HK := am (KeepBut.trans (km HK.out) (KeepBut.of_grown hg g) (Kd.N_base2 HO_14.out));have HO236 := am (ho);clear HO_14; clear ho hb hg hat));go_ret2;exact ⟨_, by first | rfl | (simp [errW_none, errW_some] <;> rfl) | (simp only [← hji32]; first | rfl | (simp [errW_none, errW_some] <;> rfl)) | (simp [*, errW_none, errW_some] <;> rfl), Kd.N_V (Kd.nm (Kd.N_mono HO236.out (fun _ hk => hk.1))), by repeat (first | (with_reducible first | exact HI1.out | apply IsS3.alloc | apply IsS3.drewN | apply IsS3.drew | apply IsS3.set_0) | exact HI1.out), bs (IsS3.ge HI1.out) HB.out, km HK.out⟩
                ·
                 rw [if_neg c35] at H;exact absurd H (by simp)
               ·
                rw [if_neg c34] at H;exact absurd H (by simp)
              ·
               rw [if_neg c33] at H;exact absurd H (by simp)
        ·
         rw [if_neg c20] at H;exact absurd H (by simp)
     ·
      rw [if_neg c7] at H;exact absurd H (by simp)
    ·
     rw [if_neg c6] at H;exact absurd H (by simp)
   ·
    rw [if_neg c5] at H;have c5b0 : decide (x17_1 < (l0.length : Int)) = false := decide_eq_false c5;clear c5;simp only [Option.some.injEq, Prod.mk.injEq] at H;obtain ⟨rfl, rfl, rfl⟩ := H;go_wp2;go_ret2;exact ⟨_, by first | rfl | (simp [errW_none, errW_some] <;> rfl) | (simp [*, errW_none, errW_some] <;> rfl), Kd.vm (Kd.V_mono HO_0.out (fun _ hk => hk.1)), by repeat (first | (with_reducible first | exact HI1.out | apply IsS3.alloc | apply IsS3.drewN | apply IsS3.drew | apply IsS3.set_0) | exact HI1.out), bs (IsS3.ge HI1.out) HB.out, km HK.out⟩

end Go.Proofs.Ytmidgjmlgjjobaa.Ig

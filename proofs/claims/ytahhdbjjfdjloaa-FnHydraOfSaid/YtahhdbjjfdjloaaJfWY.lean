-- half
-- Written by a program of this session's (wip/mp/mky.py) out of the words that the print laid for this seat.
import Derived.Test.YtahhdbjjfdjloaaJfWMore
import Derived.Test.YtahhdbjjfdjloaaJfWShare
import Derived.Test.YtahhdbjjfdjloaaJfWAt
set_option linter.unusedVariables false
set_option linter.unusedSimpArgs false
namespace Go.Proofs.YtahhdbjjfdjloaaW.PrintWords
open Go.RowKit
def YRow (w : World) (base : Nat) (e : TypeId) (size : Nat) (v : Value) (n : Nat) (xs : List Value) : Prop :=
 xs.length = n * size /\
 ((n = 0 /\ ∃ A, v = .slice A 0 0 /\ ∀ a, A = some a -> base <= a.block /\ ∃ cur, w.heap[a.block]? = some (.cells cur e (0, 0))) \/
  ∃ g off cap cur, v = .slice (some ⟨g, off * size, none⟩) n cap /\ base <= g /\ w.heap[g]? = some (.cells cur e (0, 0)) /\ n <= cap /\ off + cap <= maxLen /\ (off + cap) * size <= cur.size /\ (cur.toList.drop (off * size)).take (n * size) = xs)
section
variable {w w1 : World} {base n size : Nat} {e : TypeId} {v : Value} {xs : List Value}
theorem y_of_own (h : w.ownsRow base e size v n xs) : YRow w base e size v n xs := by
 obtain ⟨h1, h2⟩ := h
 refine ⟨h1, ?_⟩
 rcases h2 with ⟨rfl, h0⟩ | ⟨g, cap, cur, rfl, hb, hh, hnc, hcm, hcs, ht⟩
 · exact .inl ⟨h0, none, rfl, fun a ha => by cases ha⟩
 · exact .inr ⟨g, 0, cap, cur, by rw [Nat.zero_mul], hb, hh, hnc, by rw [Nat.zero_add]; exact hcm, by rw [Nat.zero_add]; exact Nat.le_of_eq hcs.symm, by rw [Nat.zero_mul, List.drop_zero]; exact ht⟩
theorem y_move (h : YRow w base e size v n xs) (hm : ∀ k, v.ownBlock = some k -> w1.heap[k]? = w.heap[k]?) : YRow w1 base e size v n xs := by
 obtain ⟨h1, h2⟩ := h
 refine ⟨h1, ?_⟩
 rcases h2 with ⟨h0, A, rfl, hA⟩ | ⟨g, off, cap, cur, rfl, hg, hh, r⟩
 ·
  refine .inl ⟨h0, A, rfl, fun a ha => ?_⟩
  obtain ⟨hb, cur, hc⟩ := hA a ha
  subst ha
  exact ⟨hb, cur, (hm a.block (by simp [Value.ownBlock])).trans hc⟩
 · exact .inr ⟨g, off, cap, cur, rfl, hg, (hm g (by simp [Value.ownBlock])).trans hh, r⟩
theorem y_typed (h : YRow w base e size v n xs) (k : Nat) (hk : v.ownBlock = some k) : base <= k /\ ∃ cells, w.heap[k]? = some (.cells cells e (0, 0)) := by
 rcases h.2 with ⟨_, A, rfl, hA⟩ | ⟨g, off, cap, cur, rfl, hg, hh, r⟩
 ·
  cases A with
  | none => simp [Value.ownBlock] at hk
  | some a =>
   have : a.block = k := by simpa [Value.ownBlock] using hk
   subst this
   exact hA a rfl
 ·
  have : g = k := by simpa [Value.ownBlock] using hk
  subst this
  exact ⟨hg, cur, hh⟩
theorem y_lt (h : YRow w base e size v n xs) (k : Nat) (hk : v.ownBlock = some k) : k < w.heap.size := by
 obtain ⟨_, cells, hc⟩ := y_typed h k hk
 exact (Array.getElem?_eq_some_iff.1 hc).1
theorem y_lower {base' : Nat} (h : YRow w base e size v n xs) (hb : base' <= base) : YRow w base' e size v n xs := by
 obtain ⟨h1, h2⟩ := h
 refine ⟨h1, ?_⟩
 rcases h2 with ⟨h0, A, rfl, hA⟩ | ⟨g, off, cap, cur, rfl, hg, r⟩
 · exact .inl ⟨h0, A, rfl, fun a ha => ⟨Nat.le_trans hb (hA a ha).1, (hA a ha).2⟩⟩
 · exact .inr ⟨g, off, cap, cur, rfl, Nat.le_trans hb hg, r⟩
theorem y_slice (h : YRow w base e size v n xs) : ∃ A c, v = .slice A n c /\ n <= c := by
 rcases h.2 with ⟨h0, A, rfl, _⟩ | ⟨g, off, cap, cur, rfl, hg, hh, hnc, r⟩
 · exact ⟨A, 0, by rw [h0], by omega⟩
 · exact ⟨_, cap, rfl, hnc⟩
theorem y_max (h : YRow w base e size v n xs) : n <= 9223372036854775807 := by
 rcases h.2 with ⟨h0, _⟩ | ⟨g, off, cap, cur, rfl, hg, hh, hnc, hm, r⟩
 · omega
 ·
  simp only [maxLen] at hm
  omega
theorem y_cells {A : Option Addr} {c : Nat} (h : YRow w base e size (.slice A n c) n xs) (hn : 0 < n) : ∃ ad, A = some ad /\ ∀ j u, xs[j]? = some u -> w.cell? (ad.add j) = some u := by
 rcases h.2 with ⟨h0, _⟩ | ⟨g, off, cap, cur, he, hg, hh, hnc, hm, hcs, ht⟩
 · omega
 ·
  injection he with ha _ hc
  subst ha
  refine ⟨_, rfl, fun j u hu => ?_⟩
  rw [add_at, cell_of_row w g _ cur e (0, 0) hh]
  rw [<- ht, List.getElem?_take] at hu
  split at hu
  ·
   rw [List.getElem?_drop] at hu
   rw [<- Array.getElem?_toList]
   exact hu
  · cases hu
end
namespace Kd
def Y {α : Type} (d : Kd α) (e : Nat) (w : World) (base : Nat) (ok : Nat -> Prop) (v : Value) (xs : List α) : Prop :=
 (∀ k, v.ownBlock = some k -> ok k) /\ ∃ inner, YRow w base e d.sz v xs.length inner /\ Reps (d.M w base (fun k => ok k /\ some k ≠ v.ownBlock)) d.sz xs inner
section
variable {α : Type} {d : Kd α} {e : Nat} {w w1 W : World} {base : Nat} {ok ok' : Nat -> Prop} {v : Value} {xs : List α}
theorem Y_of_R (h : d.R e w base ok v xs) : d.Y e w base ok v xs := by
 obtain ⟨h0, inner, ho, hr⟩ := h
 exact ⟨h0, inner, y_of_own ho, hr⟩
theorem Y_nil (d : Kd α) (e : Nat) (w : World) (base : Nat) (ok : Nat -> Prop) : d.Y e w base ok (.slice none 0 0) [] := Y_of_R (R_nil d e w base ok)
theorem Y_mono (h : d.Y e w base ok v xs) (hok : ∀ k, ok k -> ok' k) : d.Y e w base ok' v xs := by
 obtain ⟨h0, inner, ho, hr⟩ := h
 exact ⟨fun k hk => hok k (h0 k hk), inner, ho, hr.imp_ (fun _ _ hp => d.M_mono (fun k hk => ⟨hok k hk.1, hk.2⟩) hp)⟩
theorem Y_bound (h : d.Y e w base ok v xs) : d.Y e w base (fun k => ok k /\ base <= k /\ k < w.heap.size /\ ∃ q, q ∈ e :: d.E /\ ∃ cells, w.heap[k]? = some (.cells cells q (0, 0))) v xs := by
 obtain ⟨h0, inner, ho, hr⟩ := h
 refine ⟨fun k hk => ?_, inner, ho, hr.imp_ (fun _ _ hp => d.M_mono (fun k hk => ?_) (d.M_bound hp))⟩
 ·
  obtain ⟨hb, cells, hc⟩ := y_typed ho k hk
  exact ⟨h0 k hk, hb, y_lt ho k hk, e, List.mem_cons_self, cells, hc⟩
 ·
  obtain ⟨⟨h1, h2⟩, h3, h4, q, hq, hc⟩ := hk
  exact ⟨⟨h1, h3, h4, q, List.mem_cons_of_mem _ hq, hc⟩, h2⟩
theorem Y_move (h : d.Y e w base ok v xs) (hm : ∀ k, ok k -> w1.heap[k]? = w.heap[k]?) : d.Y e w1 base ok v xs := by
 obtain ⟨h0, inner, ho, hr⟩ := h
 exact ⟨h0, inner, y_move ho (fun k hk => hm k (h0 k hk)), hr.imp_ (fun _ _ hp => d.M_move (fun k hk => hm k hk.1) hp)⟩
theorem Y_lower {base' : Nat} (h : d.Y e w base ok v xs) (hb : base' <= base) : d.Y e w base' ok v xs := by
 obtain ⟨h0, inner, ho, hr⟩ := h
 exact ⟨h0, inner, y_lower ho hb, hr.imp_ (fun _ _ hp => d.M_lower hb hp)⟩
theorem Y_step (h : d.Y e w base ok v xs) (hm : ∀ k, ok k -> k < w.heap.size -> w1.heap[k]? = w.heap[k]?) : d.Y e w1 base ok v xs := Y_mono (Y_move (Y_bound h) (fun k hk => hm k hk.1 hk.2.2.1)) (fun _ hk => hk.1)
theorem Y_below (h : d.Y e w base ok v xs) (hb : Below w.heap.size w w1) : d.Y e w1 base ok v xs := Y_step h (fun k _ hk => hb.block k hk)
theorem Y_alloc (h : d.Y e w base ok v xs) (o : Obj) : d.Y e (w.alloc o) base ok v xs := Y_below h (below_alloc (Below.refl _ _) o)
theorem Y_drew (h : d.Y e w base ok v xs) : d.Y e w.drew base ok v xs := Y_below h (below_drew (Below.refl _ _))
theorem Y_drewN (h : d.Y e w base ok v xs) (m : Nat) : d.Y e (w.drewN m) base ok v xs := Y_below h (pw_below_drewN (Below.refl _ _) m)
theorem Y_types (h : d.Y e w base ok v xs) {g t : Nat} {cells : Array Value} (hb : w.heap[g]? = some (.cells cells t (0, 0))) (ht : ∀ q, q ∈ e :: d.E -> q ≠ t) : d.Y e w base (fun k => ok k /\ k ≠ g) v xs :=
 Y_mono (Y_bound h) (fun k hk => ⟨hk.1, by
  obtain ⟨_, _, _, q, hq, cells', hc⟩ := hk
  rintro rfl
  rw [hc] at hb
  injection hb with hb
  injection hb with _ hb
  exact ht q hq hb⟩)
theorem Y_lt (h : d.Y e w base ok v xs) : ∀ k, v.ownBlock = some k -> k < w.heap.size := by
 obtain ⟨_, inner, ho, _⟩ := h
 exact y_lt ho
theorem Y_base (h : d.Y e w base ok v xs) : ∀ k, v.ownBlock = some k -> base <= k := by
 obtain ⟨_, inner, ho, _⟩ := h
 exact fun k hk => (y_typed ho k hk).1
theorem Y_ne (h : d.Y e w base ok v xs) {g t : Nat} {cells : Array Value} (hb : w.heap[g]? = some (.cells cells t (0, 0))) (ht : e ≠ t) : some g ≠ v.ownBlock := by
 obtain ⟨_, inner, ho, _⟩ := h
 intro he
 obtain ⟨_, cells', hc⟩ := y_typed ho g he.symm
 rw [hc] at hb
 injection hb with hb
 injection hb with _ hb
 exact ht hb
theorem Y_slice (h : d.Y e w base ok v xs) : ∃ A c, v = .slice A xs.length c /\ xs.length <= c := by
 obtain ⟨_, inner, ho, _⟩ := h
 exact y_slice ho
theorem Y_reads' {A : Option Addr} {n c : Nat} (h : d.Y e w base ok (.slice A n c) xs) : n = xs.length /\ n <= c /\ d.C w A xs.length xs := by
 obtain ⟨_, inner, ho, hr⟩ := h
 obtain ⟨A', c', he, hl⟩ := y_slice ho
 injection he with h1 h2 h3
 subst h1; subst h2; subst h3
 refine ⟨rfl, hl, rfl, y_max ho, fun hp => ?_⟩
 obtain ⟨ad, ha, hc⟩ := y_cells ho hp
 refine ⟨ad, ha, fun j p hj => ⟨(inner.drop (j * d.sz)).take d.sz, ?_, d.K_of_M (hr.2 j p hj), fun i u hu => ?_⟩⟩
 ·
  have hjl := (List.getElem?_eq_some_iff.1 hj).1
  have h1 : j * d.sz + d.sz <= inner.length := by rw [hr.1, <- Nat.succ_mul]; exact Nat.mul_le_mul_right _ hjl
  rw [List.length_take, List.length_drop]
  omega
 ·
  refine hc _ u ?_
  rw [List.getElem?_take] at hu
  split at hu
  ·
   rw [List.getElem?_drop] at hu
   exact hu
  · cases hu
end
end Kd
namespace Kd
section
variable {α : Type} {d : Kd α} {e e' : Nat} {w w1 W : World} {base : Nat} {ok : Nat -> Prop} {u v : Value} {xs : List α}
theorem Y_elder' (hu : d.Y e W base ok u xs) (hbase : ∀ k, v.ownBlock = some k -> W.heap.size <= k) (hb : Below W.heap.size W w1) : d.Y e w1 base (fun k => ok k /\ some k ≠ v.ownBlock) u xs :=
 Y_mono (Y_move (Y_bound hu) (fun k hk => hb.block k hk.2.2.1)) (fun k hk => ⟨hk.1, fun he => by have := hbase k he.symm; have := hk.2.2.1; omega⟩)
theorem Y_new' (h : d.Y e w1 W.heap.size ok v xs) (hlt : ∀ k, u.ownBlock = some k -> k < W.heap.size) : d.Y e w1 W.heap.size (fun k => ok k /\ some k ≠ u.ownBlock) v xs :=
 Y_mono (Y_bound h) (fun k hk => ⟨hk.1, fun he => by have := hlt k he.symm; have := hk.2.1; omega⟩)
end
end Kd
end Go.Proofs.YtahhdbjjfdjloaaW.PrintWords
namespace Go.Proofs.YtahhdbjjfdjloaaW.PrintWords
open Go.RowKit
namespace Kd
section
variable {α : Type} {d : Kd α} {e base g o n cap : Nat} {ok okp : Nat -> Prop} {w W : World} {v : Value} {xs : List α}
end
section
variable {α : Type} {enc : α -> Value} {h1 : ∀ x, (enc x).oneCell' = true} {e base g o n cap : Nat} {ok : Nat -> Prop} {W : World} {xs : List α}
end
end Kd
end Go.Proofs.YtahhdbjjfdjloaaW.PrintWords
namespace Go.Proofs.YtahhdbjjfdjloaaW.PrintWords
open Go.RowKit
namespace Kd
section
variable {α : Type} {d : Kd α} {e base g n c : Nat} {ok : Nat -> Prop} {w w0 W : World} {A : Option Addr} {xs : List α}
end
end Kd
end Go.Proofs.YtahhdbjjfdjloaaW.PrintWords
namespace Go.Proofs.YtahhdbjjfdjloaaW.PrintWords
open Go.RowKit
namespace Kd
section
variable {α : Type} {d : Kd α} {e base n m : Nat} {ok : Nat -> Prop} {w w' : World} {v : Value} {A : Option Addr} {xs : List α}
end
end Kd
end Go.Proofs.YtahhdbjjfdjloaaW.PrintWords
namespace Go.Proofs.YtahhdbjjfdjloaaW.PrintWords
open Go.RowKit
namespace Kd
section
variable {α : Type} {d : Kd α} {e base n c : Nat} {ok oki S S2 : Nat -> Prop} {w w0 W W1 W2 : World} {v : Value} {A : Option Addr} {xs : List α} {i : Int} {cs : List Value}
end
end Kd
end Go.Proofs.YtahhdbjjfdjloaaW.PrintWords
namespace Go.Proofs.YtahhdbjjfdjloaaW.PrintWords
open Go.RowKit
namespace Kd
section
variable {α β : Type} {d : Kd α} {e base n n' cc g N : Nat} {ok ok' okp S : Nat -> Prop} {w w0 w1 W W1 : World} {A A' : Option Addr} {u v v1 : Value} {xs : List α} {xs' : List β} {d' : Kd β} {x : α} {c : List Value}
end
end Kd
end Go.Proofs.YtahhdbjjfdjloaaW.PrintWords
namespace Go.Proofs.YtahhdbjjfdjloaaW.PrintWords
open Go.RowKit
namespace Kd
section
variable {α : Type} {d : Kd α} {e base b b' g N : Nat} {ok ok1 : Nat -> Prop} {W W2 w1 : World} {u v : Value} {xs ys : List α} {S : Nat -> Prop}
end
end Kd
end Go.Proofs.YtahhdbjjfdjloaaW.PrintWords
namespace Go.Proofs.YtahhdbjjfdjloaaW.PrintWords
open Go.RowKit
namespace Kd
section
variable {α β : Type} {d : Kd α} {e base base' n m c g N' lo hi : Nat} {ok ok' S : Nat -> Prop} {w W w1 : World} {A : Option Addr} {ad : Addr} {u v v1 : Value} {xs : List α}
end
end Kd
end Go.Proofs.YtahhdbjjfdjloaaW.PrintWords
namespace Go.Proofs.YtahhdbjjfdjloaaW.PrintWords
open Go.RowKit
namespace Kd
section
variable {α : Type} {d : Kd α} {e base : Nat} {ok ok' : Nat -> Prop} {w w0 W : World} {v : Value} {xs : List α}
theorem Y_clip {A : Option Addr} {n c : Nat} (h : d.Y e w base ok (.slice A n c) xs) : d.Y e w base ok (.slice A n n) xs := by
 have hn : n = xs.length := (Y_reads' h).1
 subst hn
 have hb : (Value.slice A xs.length xs.length).ownBlock = (Value.slice A xs.length c).ownBlock := by cases A <;> rfl
 obtain ⟨h0, inner, ⟨h1, h2⟩, hr⟩ := h
 refine ⟨fun k hk => h0 k (hb ▸ hk), inner, ⟨h1, ?_⟩, by rw [hb]; exact hr⟩
 rcases h2 with ⟨z, A', he, hA⟩ | ⟨g, off, cap, cur, he, hg, hh, hnc, hm, hcs, ht⟩
 ·
  injection he with ha _ _
  subst ha
  exact .inl ⟨z, A, by rw [z], hA⟩
 ·
  injection he with ha _ hc
  subst ha; subst hc
  exact .inr ⟨g, off, xs.length, cur, rfl, hg, hh, Nat.le_refl _, by omega, Nat.le_trans (Nat.mul_le_mul_right _ (by omega)) hcs, ht⟩
end
end Kd
end Go.Proofs.YtahhdbjjfdjloaaW.PrintWords

namespace Go.Proofs.YtahhdbjjfdjloaaW.PrintWords
open Go.RowKit
theorem sA {α : Type} {l : List α} {i : Nat} {a : α} : l.toArray.setIfInBounds i a = (l.set i a).toArray := List.setIfInBounds_toArray ..
theorem sB {α : Type} {x a : α} {l : List α} : (x :: l).set 0 a = a :: l := List.set_cons_zero
theorem mA {α β : Type} {f : α -> β} {l : List α} : l.toArray.map f = (l.map f).toArray := List.map_toArray ..
theorem mB {α β : Type} {f : α -> β} {a : α} {l : List α} : (a :: l).map f = f a :: l.map f := List.map_cons ..
theorem mC {α β : Type} {f : α -> β} : ([] : List α).map f = [] := List.map_nil
theorem sC {α : Type} {x a : α} {l : List α} {n : Nat} : (x :: l).set (n + 1) a = x :: l.set n a := List.set_cons_succ
class Mv (W W1 : World) : Prop where
 out : Below W.heap.size W W1
instance Mv.refl_ (W : World) : Mv W W := ⟨Below.refl _ _⟩
instance Mv.alloc_ (W W1 : World) (o : Obj) [h : Mv W W1] : Mv W (W1.alloc o) := ⟨below_alloc h.out o⟩
instance Mv.drewN_ (W W1 : World) (m : Nat) [h : Mv W W1] : Mv W (W1.drewN m) := ⟨pw_below_drewN h.out m⟩
instance Mv.drew_ (W W1 : World) [h : Mv W W1] : Mv W W1.drew := ⟨h.out.drew⟩
theorem bm {a W W1 : World} (h : Below a.heap.size a W) [m : Mv W W1] : Below a.heap.size a W1 := h.trans (m.out.mono h.size)
class Kp (g : Nat) (W W1 : World) : Prop where
 out : KeepBut W W1 g none
instance Kp.refl_ (g : Nat) (W : World) : Kp g W W := ⟨KeepBut.refl _ _ _⟩
instance Kp.alloc_ (g : Nat) (W W1 : World) (o : Obj) [h : Kp g W W1] : Kp g W (W1.alloc o) := ⟨keep_alloc h.out o⟩
instance Kp.drewN_ (g : Nat) (W W1 : World) (m : Nat) [h : Kp g W W1] : Kp g W (W1.drewN m) := ⟨keep_drewN h.out m⟩
instance Kp.drew_ (g : Nat) (W W1 : World) [h : Kp g W W1] : Kp g W W1.drew := ⟨keep_drew h.out⟩
instance Kp.set_ (g : Nat) (W W1 : World) (j : Nat) (u : Value) [h : Kp g W W1] : Kp g W (W1.setCell ⟨g, j, none⟩ u) := ⟨KeepBut.set_ h.out j u⟩
theorem km {g : Nat} {a W W1 : World} (h : KeepBut a W g none) [m : Kp g W W1] : KeepBut a W1 g none := h.trans m.out (.inl rfl)
class Bs (g : Nat) (W W1 : World) : Prop where
 out : ∀ a : World, a.heap.size <= g -> Below a.heap.size a W -> Below a.heap.size a W1
instance Bs.refl_ (g : Nat) (W : World) : Bs g W W := ⟨fun _ _ h => h⟩
instance Bs.alloc_ (g : Nat) (W W1 : World) (o : Obj) [h : Bs g W W1] : Bs g W (W1.alloc o) := ⟨fun a p q => below_alloc (h.out a p q) o⟩
instance Bs.drewN_ (g : Nat) (W W1 : World) (m : Nat) [h : Bs g W W1] : Bs g W (W1.drewN m) := ⟨fun a p q => pw_below_drewN (h.out a p q) m⟩
instance Bs.drew_ (g : Nat) (W W1 : World) [h : Bs g W W1] : Bs g W W1.drew := ⟨fun a p q => (h.out a p q).drew⟩
instance Bs.set_ (g : Nat) (W W1 : World) (j : Nat) (u : Value) [h : Bs g W W1] : Bs g W (W1.setCell ⟨g, j, none⟩ u) := ⟨fun a p q => below_set (h.out a p q) p⟩
theorem bs {g : Nat} {a W W1 : World} (p : a.heap.size <= g) (h : Below a.heap.size a W) [m : Bs g W W1] : Below a.heap.size a W1 := m.out a p h
theorem am {p : Prop} (h : p) : Aside0 p := ⟨h⟩
theorem oB {α β : Type} {a : α} {f : α -> Option β} {r : Option β} (h : f a = r) : (some a).bind f = r := h
theorem oE {α β : Type} {x : Option α} {f : α -> Option β} {r : β} (h : x.bind f = some r) : ∃ a, x = some a /\ f a = some r := Option.bind_eq_some_iff.mp h
namespace Kd
section
variable {α : Type} {d : Kd α} {e base : Nat} {ok : Nat -> Prop} {W W1 : World} {v : Value} {xs : List α}
theorem rm (h : d.R e W base ok v xs) [m : Mv W W1] : d.R e W1 base ok v xs := R_below h m.out
theorem nm (h : N d e W base ok v xs) [m : Mv W W1] : N d e W1 base ok v xs := N_below h m.out
theorem vm (h : V d e W base ok v xs) [m : Mv W W1] : V d e W1 base ok v xs := V_below h m.out
theorem ym (h : d.Y e W base ok v xs) [m : Mv W W1] : d.Y e W1 base ok v xs := Y_below h m.out
theorem cm {A : Option Addr} {n : Nat} (h : d.C W A n xs) [m : Mv W W1] : d.C W1 A n xs := C_below h m.out
end
end Kd
end Go.Proofs.YtahhdbjjfdjloaaW.PrintWords

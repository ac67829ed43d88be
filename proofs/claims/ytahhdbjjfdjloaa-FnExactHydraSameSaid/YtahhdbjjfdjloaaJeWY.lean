-- half
-- Written by a program of this session's (wip/mp/mky.py) out of the words that the print laid for this seat.
import Derived.Test.YtahhdbjjfdjloaaJeWMore
import Derived.Test.YtahhdbjjfdjloaaJeWShare
import Derived.Test.YtahhdbjjfdjloaaJeWAt
set_option linter.unusedVariables false
set_option linter.unusedSimpArgs false
namespace Go.Proofs.YtahhdbjjfdjloaaW.PrintWords
open Go.RowKit
def YRow (w : World) (base : Nat) (e : TypeId) (size : Nat) (v : Value) (n : Nat) (xs : List Value) : Prop :=
 xs.length = n * size ∧
 ((n = 0 ∧ ∃ A, v = .slice A 0 0 ∧ ∀ a, A = some a → base ≤ a.block ∧ ∃ cur, w.heap[a.block]? = some (.cells cur e (0, 0))) ∨
  ∃ g off cap cur, v = .slice (some ⟨g, off * size, none⟩) n cap ∧ base ≤ g ∧ w.heap[g]? = some (.cells cur e (0, 0)) ∧ n ≤ cap ∧ off + cap ≤ maxLen ∧ (off + cap) * size ≤ cur.size ∧ (cur.toList.drop (off * size)).take (n * size) = xs)
section
variable {w w1 : World} {base n size : Nat} {e : TypeId} {v : Value} {xs : List Value}
theorem y_of_own (h : w.ownsRow base e size v n xs) : YRow w base e size v n xs := by
 obtain ⟨h1, h2⟩ := h
 refine ⟨h1, ?_⟩
 rcases h2 with ⟨rfl, h0⟩ | ⟨g, cap, cur, rfl, hb, hh, hnc, hcm, hcs, ht⟩
 ·
  exact .inl ⟨h0, none, rfl, fun a ha => by cases ha⟩
 ·
  exact .inr ⟨g, 0, cap, cur, by rw [Nat.zero_mul], hb, hh, hnc, by rw [Nat.zero_add]; exact hcm, by rw [Nat.zero_add]; exact Nat.le_of_eq hcs.symm, by rw [Nat.zero_mul, List.drop_zero]; exact ht⟩
end
namespace Kd
def Y {α : Type} (d : Kd α) (e : Nat) (w : World) (base : Nat) (ok : Nat → Prop) (v : Value) (xs : List α) : Prop :=
 (∀ k, v.ownBlock = some k → ok k) ∧ ∃ inner, YRow w base e d.sz v xs.length inner ∧ Reps (d.M w base (fun k => ok k ∧ some k ≠ v.ownBlock)) d.sz xs inner
section
variable {α : Type} {d : Kd α} {e : Nat} {w w1 W : World} {base : Nat} {ok ok' : Nat → Prop} {v : Value} {xs : List α}
theorem Y_of_R (h : d.R e w base ok v xs) : d.Y e w base ok v xs := by
 obtain ⟨h0, inner, ho, hr⟩ := h
 exact ⟨h0, inner, y_of_own ho, hr⟩
theorem Y_nil (d : Kd α) (e : Nat) (w : World) (base : Nat) (ok : Nat → Prop) : d.Y e w base ok (.slice none 0 0) [] := Y_of_R (R_nil d e w base ok)
end
end Kd
namespace Kd
section
variable {α : Type} {d : Kd α} {e e' : Nat} {w w1 W : World} {base : Nat} {ok : Nat → Prop} {u v : Value} {xs : List α}
end
end Kd
end Go.Proofs.YtahhdbjjfdjloaaW.PrintWords
namespace Go.Proofs.YtahhdbjjfdjloaaW.PrintWords
open Go.RowKit
namespace Kd
section
variable {α : Type} {d : Kd α} {e base g o n cap : Nat} {ok okp : Nat → Prop} {w W : World} {v : Value} {xs : List α}
end
section
variable {α : Type} {enc : α → Value} {h1 : ∀ x, (enc x).oneCell' = true} {e base g o n cap : Nat} {ok : Nat → Prop} {W : World} {xs : List α}
end
end Kd
end Go.Proofs.YtahhdbjjfdjloaaW.PrintWords
namespace Go.Proofs.YtahhdbjjfdjloaaW.PrintWords
open Go.RowKit
namespace Kd
section
variable {α : Type} {d : Kd α} {e base g n c : Nat} {ok : Nat → Prop} {w w0 W : World} {A : Option Addr} {xs : List α}
end
end Kd
end Go.Proofs.YtahhdbjjfdjloaaW.PrintWords
namespace Go.Proofs.YtahhdbjjfdjloaaW.PrintWords
open Go.RowKit
namespace Kd
section
variable {α : Type} {d : Kd α} {e base n m : Nat} {ok : Nat → Prop} {w w' : World} {v : Value} {A : Option Addr} {xs : List α}
end
end Kd
end Go.Proofs.YtahhdbjjfdjloaaW.PrintWords
namespace Go.Proofs.YtahhdbjjfdjloaaW.PrintWords
open Go.RowKit
namespace Kd
section
variable {α : Type} {d : Kd α} {e base n c : Nat} {ok oki S S2 : Nat → Prop} {w w0 W W1 W2 : World} {v : Value} {A : Option Addr} {xs : List α} {i : Int} {cs : List Value}
end
end Kd
end Go.Proofs.YtahhdbjjfdjloaaW.PrintWords
namespace Go.Proofs.YtahhdbjjfdjloaaW.PrintWords
open Go.RowKit
namespace Kd
section
variable {α β : Type} {d : Kd α} {e base n n' cc g N : Nat} {ok ok' okp S : Nat → Prop} {w w0 w1 W W1 : World} {A A' : Option Addr} {u v v1 : Value} {xs : List α} {xs' : List β} {d' : Kd β} {x : α} {c : List Value}
end
end Kd
end Go.Proofs.YtahhdbjjfdjloaaW.PrintWords
namespace Go.Proofs.YtahhdbjjfdjloaaW.PrintWords
open Go.RowKit
namespace Kd
section
variable {α : Type} {d : Kd α} {e base b b' g N : Nat} {ok ok1 : Nat → Prop} {W W2 w1 : World} {u v : Value} {xs ys : List α} {S : Nat → Prop}
end
end Kd
end Go.Proofs.YtahhdbjjfdjloaaW.PrintWords
namespace Go.Proofs.YtahhdbjjfdjloaaW.PrintWords
open Go.RowKit
namespace Kd
section
variable {α β : Type} {d : Kd α} {e base base' n m c g N' lo hi : Nat} {ok ok' S : Nat → Prop} {w W w1 : World} {A : Option Addr} {ad : Addr} {u v v1 : Value} {xs : List α}
end
end Kd
end Go.Proofs.YtahhdbjjfdjloaaW.PrintWords
namespace Go.Proofs.YtahhdbjjfdjloaaW.PrintWords
open Go.RowKit
namespace Kd
section
variable {α : Type} {d : Kd α} {e base : Nat} {ok ok' : Nat → Prop} {w w0 W : World} {v : Value} {xs : List α}
end
end Kd
end Go.Proofs.YtahhdbjjfdjloaaW.PrintWords

namespace Go.Proofs.YtahhdbjjfdjloaaW.PrintWords
open Go.RowKit
theorem sA {α : Type} {l : List α} {i : Nat} {a : α} : l.toArray.setIfInBounds i a = (l.set i a).toArray := List.setIfInBounds_toArray ..
theorem sB {α : Type} {x a : α} {l : List α} : (x :: l).set 0 a = a :: l := List.set_cons_zero
theorem mA {α β : Type} {f : α → β} {l : List α} : l.toArray.map f = (l.map f).toArray := List.map_toArray ..
theorem mB {α β : Type} {f : α → β} {a : α} {l : List α} : (a :: l).map f = f a :: l.map f := List.map_cons ..
theorem mC {α β : Type} {f : α → β} : ([] : List α).map f = [] := List.map_nil
theorem sC {α : Type} {x a : α} {l : List α} {n : Nat} : (x :: l).set (n + 1) a = x :: l.set n a := List.set_cons_succ
class Mv (W W1 : World) : Prop where
 out : Below W.heap.size W W1
instance Mv.refl_ (W : World) : Mv W W := ⟨Below.refl _ _⟩
instance Mv.alloc_ (W W1 : World) (o : Obj) [h : Mv W W1] : Mv W (W1.alloc o) := ⟨below_alloc h.out o⟩
instance Mv.drewN_ (W W1 : World) (m : Nat) [h : Mv W W1] : Mv W (W1.drewN m) := ⟨pw_below_drewN h.out m⟩
instance Mv.drew_ (W W1 : World) [h : Mv W W1] : Mv W W1.drew := ⟨h.out.drew⟩
theorem bm {a W W1 : World} (h : Below a.heap.size a W) [m : Mv W W1] : Below a.heap.size a W1 := h.trans (m.out.mono h.size)
theorem am {p : Prop} (h : p) : Aside0 p := ⟨h⟩
theorem oB {α β : Type} {a : α} {f : α → Option β} {r : Option β} (h : f a = r) : (some a).bind f = r := h
theorem oE {α β : Type} {x : Option α} {f : α → Option β} {r : β} (h : x.bind f = some r) : ∃ a, x = some a ∧ f a = some r := Option.bind_eq_some_iff.mp h
namespace Kd
section
variable {α : Type} {d : Kd α} {e base : Nat} {ok : Nat → Prop} {W W1 : World} {v : Value} {xs : List α}
theorem rm (h : d.R e W base ok v xs) [m : Mv W W1] : d.R e W1 base ok v xs := R_below h m.out
theorem nm (h : N d e W base ok v xs) [m : Mv W W1] : N d e W1 base ok v xs := N_below h m.out
theorem vm (h : V d e W base ok v xs) [m : Mv W W1] : V d e W1 base ok v xs := V_below h m.out
theorem cm {A : Option Addr} {n : Nat} (h : d.C W A n xs) [m : Mv W W1] : d.C W1 A n xs := C_below h m.out
end
end Kd
end Go.Proofs.YtahhdbjjfdjloaaW.PrintWords

-- half
-- Written by a program of this session's (wip/mp) out of the translation, over the kit's print with changes.
import Derived.Test.YtahhdbjjfdjloaaProg
import Derived.Below
import Derived.Deep.Draws
import Derived.Deep.AppendLies
import Derived.Maps.AppendAt
import Derived.OwnWalk
import Derived.Laws.BytesArg
import Derived.Laws.MakeOwn
import Derived.Laws.OwnMore
import Derived.Deep.OwnRows
import Derived.Tactics
import Derived.Lib.ConvBytes
import Derived.Laws.Slices
import Derived.WalkKit
import Derived.KernelRfl
import Derived.RowKit3
import Derived.Deep.LoopGhost
import Derived.Deep.QuietTactic
import Derived.BigQuiet
import Derived.WideLaws
import Derived.Deep.DeepCutAuto
import Derived.Deep.CutBlock
import Derived.Deep.RegionHeld3
import Derived.Laws.Rows
import Derived.Lib.AppendStr
import Derived.ArgAppend
import Derived.Laws.IdiomCopy
import Derived.OrdersHeld
import Derived.Laws.BitsLemmas
import Derived.RowKit
import Derived.Lib.SliceRun
import Derived.Test.YtahhdbjjfdjloaaShelf
import Derived.Sort.Grow
import Derived.Sort.Row
import Derived.Test.YtahhdbjjfdjloaaJfWY
import Derived.Test.YtahhdbjjfdjloaaJfWWords
import Derived.Test.YtahhdbjjfdjloaaJfWLast
import Derived.Test.YtahhdbjjfdjloaaJfWTab
import Derived.Test.YtahhdbjjfdjloaaJfWFour
import Derived.Test.YtahhdbjjfdjloaaJfWQPut
import Derived.Test.YtahhdbjjfdjloaaJfWApart
import Derived.Test.YtahhdbjjfdjloaaJfWArr
import Derived.Test.YtahhdbjjfdjloaaJfWZeros
import Derived.Test.YtahhdbjjfdjloaaJfWFoot
import Derived.Test.YtahhdbjjfdjloaaJfWKept
import Derived.Test.YtahhdbjjfdjloaaJfWShare
import Derived.Test.YtahhdbjjfdjloaaJfWN
import Derived.Test.YtahhdbjjfdjloaaJfWFootNe
import Derived.Test.YtahhdbjjfdjloaaJfWAt
import Derived.Test.YtahhdbjjfdjloaaJfWEqStruct
import Derived.Test.YtahhdbjjfdjloaaJfWRepsOne
import Derived.Test.YtahhdbjjfdjloaaJfWInv
import Derived.Test.YtahhdbjjfdjloaaJfWInvWords
import Derived.Test.YtahhdbjjfdjloaaJfWGuard
import Derived.Test.YtahhdbjjfdjloaaJfWNEv
import Derived.Test.YtahhdbjjfdjloaaJfWMore
namespace Go.Proofs.Ytahhdbjjfdjloaa.Jf
open Go.RowKit Go.Proofs.YtahhdbjjfdjloaaW.PrintWords Go.Proofs.YtahhdbjjfdjloaaW.PrintLast Go.Proofs.YtahhdbjjfdjloaaW.PrintMore
attribute [local go_sem] max2_int min2_int max_two min_two max_three min_three max_four min_four   -- for this text's walks alone
set_option linter.unusedVariables false
set_option linter.unusedSimpArgs false



def errW : Option Int -> Value
 | none => .nilIface
 | some c => .iface 0 (.int .i64 c)
theorem errW_none : errW none = .nilIface := rfl
theorem errW_some (c : Int) : errW (some c) = .iface 0 (.int .i64 c) := rfl

theorem info3 : (Try.prog.info? 3).map (fun i => (i.zero, i.size, i.bytes)) = some (some (.int .i64 0), 1, 8) := by kernel_rfl
theorem info5 : (Try.prog.info? 5).map (fun i => (i.zero, i.size, i.bytes)) = some (some (.int .u8 0), 1, 1) := by kernel_rfl
theorem info22 : (Try.prog.info? 22).map (fun i => (i.zero, i.size, i.bytes)) = some (some (.slice none 0 0), 1, 24) := by kernel_rfl
theorem info46 : (Try.prog.info? 46).map (fun i => (i.zero, i.size, i.bytes)) = some (some (.slice none 0 0), 1, 24) := by kernel_rfl
theorem info72 : (Try.prog.info? 72).map (fun i => (i.zero, i.size, i.bytes)) = some (some (.agg #[(.int .i64 0), (.slice none 0 0)]), 2, 32) := by kernel_rfl
-- the values' own types
def rd_L1 (xs : List (List Int)) (i : Int) : (List Int) := xs.getD i.toNat ([] : List Int)
theorem at_L1 {w : World} {A : Option Addr} {n : Nat} {xs : List (List Int)} (h : Kd.C (Kd.slice 3 (Kd.int .i64)) w A n xs) (i : Int) (h0 : 0 <= i) (h1 : i < n) : ∃ ad A0 c0, A = some ad /\ w.cell? (ad.add i.toNat) = some (.slice A0 (rd_L1 xs i).length c0) /\ (rd_L1 xs i).length <= c0 /\ (Kd.int .i64).C w A0 (rd_L1 xs i).length (rd_L1 xs i) := by
 obtain ⟨ad, c, e, _, hK, hc0⟩ := Kd.C_get h ([] : List Int) i h0 h1
 have hc : ∀ j u, c[j]? = some u -> w.cell? (ad.add (i.toNat * 1 + j)) = some u := hc0
 obtain ⟨A0, c0, rfl, l0, g0⟩ := hK;exact ⟨ad, A0, c0, e, by have hq := hc 0 _ rfl; rwa [Nat.mul_one, Nat.add_zero] at hq, l0, g0⟩

/-! #### struct type 72, nested in itself -/
structure S72 where
 f0 : Int
 f1 : (List S72)
def z72 : S72 := ⟨(0 : Int), ([] : List S72)⟩
def F72 (d : Kd S72) : Kd S72 := Kd.iso (Kd.pair (Kd.int .i64) (Kd.slice 72 d)) (fun x : S72 => (x.f0, x.f1))
theorem mono72 : Kd.Mono F72 := Kd.mono_iso _ (Kd.mono_pair (Kd.mono_const _) (Kd.mono_slice 72 Kd.mono_id))
theorem sub72 : Kd.Sub F72 [72] := Kd.sub_iso _ (Kd.sub_pair (Kd.sub_const _ (by decide)) (Kd.sub_slice 72 (by decide) Kd.sub_id))
theorem sz72 : ∀ n, (Kd.upto F72 2 [72] n).sz = 2 := Kd.upto_sz (fun _ => rfl)
def k72 : Kd S72 := Kd.fix F72 2 [72] sz72 (Kd.upto_E sub72)
theorem k72_open {w : World} {x : S72} {cs : List Value} (h : k72.K w x cs) : ∃ A1 c1, cs = [.int .i64 x.f0, .slice A1 x.f1.length c1] /\ x.f1.length <= c1 /\ k72.C w A1 x.f1.length x.f1 := by
 obtain ⟨n, h⟩ := h
 cases n with
 | zero => exact h.elim
 | succ n =>
  obtain ⟨_, _, rfl, rfl, ⟨A1, c1, rfl, l1, g1⟩⟩ := h;exact ⟨A1, c1, rfl, l1, Kd.fix_C g1⟩
theorem k72_openM {w : World} {base : Nat} {ok : Nat -> Prop} {x : S72} {cs : List Value} (h : k72.M w base ok x cs) : ∃ v1, cs = [.int .i64 x.f0, v1] /\ k72.R 72 w base ok v1 x.f1 := by
 obtain ⟨n, h⟩ := h
 cases n with
 | zero => exact h.elim
 | succ n =>
  obtain ⟨_, _, rfl, rfl, ⟨v1, rfl, g1⟩⟩ := h;exact ⟨v1, rfl, Kd.fix_R g1⟩
theorem k72_mk (w : World) (x : S72) {A1 : Option Addr} {c1 : Nat} (l1 : x.f1.length <= c1) (g1 : k72.C w A1 x.f1.length x.f1) : k72.K w x [.int .i64 x.f0, .slice A1 x.f1.length c1] := by
 obtain ⟨n1, q1⟩ := Kd.fix_C_back mono72 g1;have r1 := Kd.upto_C_le mono72 sz72 (show n1 <= n1 by omega) q1;exact ⟨n1 + 1, ⟨[.int .i64 x.f0], [.slice A1 x.f1.length c1], rfl, rfl, ⟨A1, c1, rfl, l1, r1⟩⟩⟩
theorem k72_mkM (w : World) (base : Nat) (ok : Nat -> Prop) (x : S72) {v1 : Value} (g1 : k72.R 72 w base ok v1 x.f1) : k72.M w base ok x [.int .i64 x.f0, v1] := by
 obtain ⟨n1, q1⟩ := Kd.fix_R_back mono72 g1;have r1 := Kd.upto_R_le mono72 sz72 (show n1 <= n1 by omega) q1;exact ⟨n1 + 1, ⟨[.int .i64 x.f0], [v1], rfl, rfl, ⟨v1, rfl, r1⟩⟩⟩
theorem k72_openF {W : World} {ok : Nat -> Prop} {x : S72} {cs : List Value} (h : Kd.FK k72 W ok x cs) : ∃ A1 c1, cs = [.int .i64 x.f0, .slice A1 x.f1.length c1] /\ x.f1.length <= c1 /\ Kd.F k72 W ok A1 x.f1.length x.f1 := by
 obtain ⟨A1, c1, rfl, l1, _⟩ := k72_open (Kd.FK_now h);exact ⟨A1, c1, rfl, l1, (fun W' hW => by obtain ⟨A1_, c1_, he, l1_, g1_⟩ := k72_open (h W' hW); injection (Option.some.inj (show some (Value.slice A1 x.f1.length c1) = some (Value.slice A1_ x.f1.length c1_) from congrArg (fun l => l[1]?) he)) with ha_ _ _; rw [ha_]; exact g1_)⟩
theorem k72_mkF (W : World) (ok : Nat -> Prop) (x : S72) {A1 : Option Addr} {c1 : Nat} (l1 : x.f1.length <= c1) (g1 : Kd.F k72 W ok A1 x.f1.length x.f1) : Kd.FK k72 W ok x [.int .i64 x.f0, .slice A1 x.f1.length c1] := fun W2 hW => k72_mk W2 x l1 (g1 W2 hW)
def rd_T72 (xs : List S72) (i : Int) : S72 := xs.getD i.toNat z72
theorem at_T72 {w : World} {A : Option Addr} {n : Nat} {xs : List S72} (h : Kd.C k72 w A n xs) (i : Int) (h0 : 0 <= i) (h1 : i < n) : ∃ ad A1 c1, A = some ad /\ w.cell? (ad.add (i.toNat * 2)) = some (.int .i64 (rd_T72 xs i).f0) /\ w.cell? ⟨(ad.add (i.toNat * 2)).block, (ad.add (i.toNat * 2)).off + 1, none⟩ = some (.slice A1 (rd_T72 xs i).f1.length c1) /\ (rd_T72 xs i).f1.length <= c1 /\ k72.C w A1 (rd_T72 xs i).f1.length (rd_T72 xs i).f1 := by
 obtain ⟨ad, c, e, _, hK, hc0⟩ := Kd.C_get h z72 i h0 h1
 have hc : ∀ j u, c[j]? = some u -> w.cell? (ad.add (i.toNat * 2 + j)) = some u := hc0
 obtain ⟨A1, c1, rfl, l1, g1⟩ := k72_open hK;exact ⟨ad, A1, c1, e, hc 0 _ rfl, by rw [<- add_field _ _ 1 (by omega)]; exact hc 1 _ rfl, l1, g1⟩

/-! #### struct type 46, nested in itself -/
structure S46 where
 f0 : (List S46)
def z46 : S46 := ⟨([] : List S46)⟩
def F46 (d : Kd S46) : Kd S46 := Kd.iso (Kd.slice 46 d) (fun x : S46 => x.f0)
theorem mono46 : Kd.Mono F46 := Kd.mono_iso _ (Kd.mono_slice 46 Kd.mono_id)
theorem sub46 : Kd.Sub F46 [46] := Kd.sub_iso _ (Kd.sub_slice 46 (by decide) Kd.sub_id)
theorem sz46 : ∀ n, (Kd.upto F46 1 [46] n).sz = 1 := Kd.upto_sz (fun _ => rfl)
def k46 : Kd S46 := Kd.fix F46 1 [46] sz46 (Kd.upto_E sub46)
theorem k46_open {w : World} {x : S46} {cs : List Value} (h : k46.K w x cs) : ∃ A0 c0, cs = [.slice A0 x.f0.length c0] /\ x.f0.length <= c0 /\ k46.C w A0 x.f0.length x.f0 := by
 obtain ⟨n, h⟩ := h
 cases n with
 | zero => exact h.elim
 | succ n =>
  obtain ⟨A0, c0, rfl, l0, g0⟩ := h;exact ⟨A0, c0, rfl, l0, Kd.fix_C g0⟩
theorem k46_mk (w : World) (x : S46) {A0 : Option Addr} {c0 : Nat} (l0 : x.f0.length <= c0) (g0 : k46.C w A0 x.f0.length x.f0) : k46.K w x [.slice A0 x.f0.length c0] := by
 obtain ⟨n0, q0⟩ := Kd.fix_C_back mono46 g0;have r0 := Kd.upto_C_le mono46 sz46 (show n0 <= n0 by omega) q0;exact ⟨n0 + 1, ⟨A0, c0, rfl, l0, r0⟩⟩
theorem k46_mkM (w : World) (base : Nat) (ok : Nat -> Prop) (x : S46) {v0 : Value} (g0 : k46.R 46 w base ok v0 x.f0) : k46.M w base ok x [v0] := by
 obtain ⟨n0, q0⟩ := Kd.fix_R_back mono46 g0;have r0 := Kd.upto_R_le mono46 sz46 (show n0 <= n0 by omega) q0;exact ⟨n0 + 1, ⟨v0, rfl, r0⟩⟩
theorem k46_openF {W : World} {ok : Nat -> Prop} {x : S46} {cs : List Value} (h : Kd.FK k46 W ok x cs) : ∃ A0 c0, cs = [.slice A0 x.f0.length c0] /\ x.f0.length <= c0 /\ Kd.F k46 W ok A0 x.f0.length x.f0 := by
 obtain ⟨A0, c0, rfl, l0, _⟩ := k46_open (Kd.FK_now h);exact ⟨A0, c0, rfl, l0, (fun W' hW => by obtain ⟨A0_, c0_, he, l0_, g0_⟩ := k46_open (h W' hW); injection (Option.some.inj (show some (Value.slice A0 x.f0.length c0) = some (Value.slice A0_ x.f0.length c0_) from congrArg (fun l => l[0]?) he)) with ha_ _ _; rw [ha_]; exact g0_)⟩
theorem k46_mkF (W : World) (ok : Nat -> Prop) (x : S46) {A0 : Option Addr} {c0 : Nat} (l0 : x.f0.length <= c0) (g0 : Kd.F k46 W ok A0 x.f0.length x.f0) : Kd.FK k46 W ok x [.slice A0 x.f0.length c0] := fun W2 hW => k46_mk W2 x l0 (g0 W2 hW)
def rd_T46 (xs : List S46) (i : Int) : S46 := xs.getD i.toNat z46
theorem at_T46 {w : World} {A : Option Addr} {n : Nat} {xs : List S46} (h : Kd.C k46 w A n xs) (i : Int) (h0 : 0 <= i) (h1 : i < n) : ∃ ad A0 c0, A = some ad /\ w.cell? (ad.add i.toNat) = some (.slice A0 (rd_T46 xs i).f0.length c0) /\ (rd_T46 xs i).f0.length <= c0 /\ k46.C w A0 (rd_T46 xs i).f0.length (rd_T46 xs i).f0 := by
 obtain ⟨ad, c, e, _, hK, hc0⟩ := Kd.C_get h z46 i h0 h1
 have hc : ∀ j u, c[j]? = some u -> w.cell? (ad.add (i.toNat * 1 + j)) = some u := hc0
 obtain ⟨A0, c0, rfl, l0, g0⟩ := k46_open hK;exact ⟨ad, A0, c0, e, by have hq := hc 0 _ rfl; rwa [Nat.mul_one, Nat.add_zero] at hq, l0, g0⟩

end Go.Proofs.Ytahhdbjjfdjloaa.Jf

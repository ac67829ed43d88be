/-
  No cell of these rows narrows 'for every input' (looked for: loops, veiled, ifaces, maps, wideKeys, modest, calm, conditions, laid).
  DERIVED. THE GIVEN ROWS OF THIS SEAT. 8 by the template 'for every input the law returns true; each argument reads behind the call as it read before'; 0 by the template 'total and deterministic' (their statements: YtahhdbjjfdjloaaTotals.lean).
  GIVEN WITH THE SEED: the statements are not yours to turn. If you find one false, say at which input.
  Laid BY PROGRAM, IN A SANDBOX (cutbox-rows.mjs): the forced cells as the released guide's own fill.sh prints them over the translation 2bce7b0d2dfaae5e… (all of the seat's roots in one cut). By AI agents, Wed Nov 11 2026. No macro, syntax, notation, axiom, sorry.
-/
import Derived.Test.YtahhdbjjfdjloaaChecked
import GoSem.Claim
import GoSem.ClaimJoined
import GoSem.ClaimMapViews
import Derived.JoinedTies
import Derived.KernelRfl
namespace Go.Proofs.Ytahhdbjjfdjloaa
/- THE CELL 'sum', in the pinned program and in every row, IS THE sha256 OF THE DUMP (.gsa) THAT YtahhdbjjfdjloaaProg.lean LOADS. Nothing in Lean hashes anything: it is a label: what it is worth is what the hold of that sum in a sandbox is worth. -/
noncomputable def Try.pinned : Pinned := { name := "ytahhdbjjfdjloaa", sum := "2bce7b0d2dfaae5ed32f2251247082146d95d537e37fdc01e86cefedcf2fe42b", checked := Try.checked }
namespace Rows
def none {H : Type} : Left H := { results := [], args := [] }

/-- 'laws.FnExactHydraOf': WHATEVER THE INPUT: true; the input reads as it did. -/
def fnExactHydraOfSpec : ChangeSpec := { name := "fnExactHydraOf", fn := fun _ => fun
  | [d] => { results := [.lit (.bool true)], args := [d] }
  | _ => none }
def fnExactHydraOfRow : OpenClaim := { program := "ytahhdbjjfdjloaa", sum := "2bce7b0d2dfaae5ed32f2251247082146d95d537e37fdc01e86cefedcf2fe42b", func := "loop.example/ordinalhydras/laws.FnExactHydraOf", spec := "fnExactHydraOf", recurses := true, apart := false }
def FnExactHydraOfSaid : Prop := fnExactHydraOfRow.holds Try.pinned (OpenSpec.ofChange fnExactHydraOfSpec)

/-- ITS FALSE NEIGHBOUR: 'it returns false'. Refute it at one input. -/
def fnExactHydraOfWrong : ChangeSpec := { name := "fnExactHydraOf", fn := fun _ => fun
  | [d] => { results := [.lit (.bool false)], args := [d] }
  | _ => none }
def FnExactHydraOfWrongFalsely : Prop := fnExactHydraOfRow.holds Try.pinned (OpenSpec.ofChange fnExactHydraOfWrong)

/-- 'laws.FnExactHydraOrd': WHATEVER THE INPUT: true; the input reads as it did. -/
def fnExactHydraOrdSpec : ChangeSpec := { name := "fnExactHydraOrd", fn := fun _ => fun
  | [d] => { results := [.lit (.bool true)], args := [d] }
  | _ => none }
def fnExactHydraOrdRow : OpenClaim := { program := "ytahhdbjjfdjloaa", sum := "2bce7b0d2dfaae5ed32f2251247082146d95d537e37fdc01e86cefedcf2fe42b", func := "loop.example/ordinalhydras/laws.FnExactHydraOrd", spec := "fnExactHydraOrd", recurses := true, apart := false }
def FnExactHydraOrdSaid : Prop := fnExactHydraOrdRow.holds Try.pinned (OpenSpec.ofChange fnExactHydraOrdSpec)

/-- ITS FALSE NEIGHBOUR: 'it returns false'. Refute it at one input. -/
def fnExactHydraOrdWrong : ChangeSpec := { name := "fnExactHydraOrd", fn := fun _ => fun
  | [d] => { results := [.lit (.bool false)], args := [d] }
  | _ => none }
def FnExactHydraOrdWrongFalsely : Prop := fnExactHydraOrdRow.holds Try.pinned (OpenSpec.ofChange fnExactHydraOrdWrong)

/-- 'laws.FnHydraOf': WHATEVER THE INPUT: true; the input reads as it did. -/
def fnHydraOfSpec : ChangeSpec := { name := "fnHydraOf", fn := fun _ => fun
  | [d1, d2] => { results := [.lit (.bool true)], args := [d1, d2] }
  | _ => none }
def fnHydraOfRow : OpenClaim := { program := "ytahhdbjjfdjloaa", sum := "2bce7b0d2dfaae5ed32f2251247082146d95d537e37fdc01e86cefedcf2fe42b", func := "loop.example/ordinalhydras/laws.FnHydraOf", spec := "fnHydraOf", recurses := true, apart := false }
def FnHydraOfSaid : Prop := fnHydraOfRow.holds Try.pinned (OpenSpec.ofChange fnHydraOfSpec)

/-- ITS FALSE NEIGHBOUR: 'it returns false'. Refute it at one input. -/
def fnHydraOfWrong : ChangeSpec := { name := "fnHydraOf", fn := fun _ => fun
  | [d1, d2] => { results := [.lit (.bool false)], args := [d1, d2] }
  | _ => none }
def FnHydraOfWrongFalsely : Prop := fnHydraOfRow.holds Try.pinned (OpenSpec.ofChange fnHydraOfWrong)

/-- 'laws.FnHydraOrd': WHATEVER THE INPUT: true; the input reads as it did. -/
def fnHydraOrdSpec : ChangeSpec := { name := "fnHydraOrd", fn := fun _ => fun
  | [d] => { results := [.lit (.bool true)], args := [d] }
  | _ => none }
def fnHydraOrdRow : OpenClaim := { program := "ytahhdbjjfdjloaa", sum := "2bce7b0d2dfaae5ed32f2251247082146d95d537e37fdc01e86cefedcf2fe42b", func := "loop.example/ordinalhydras/laws.FnHydraOrd", spec := "fnHydraOrd", unfollowed := true, recurses := true, apart := false }
def FnHydraOrdSaid : Prop := fnHydraOrdRow.holds Try.pinned (OpenSpec.ofChange fnHydraOrdSpec)

/-- ITS FALSE NEIGHBOUR: 'it returns false'. Refute it at one input. -/
def fnHydraOrdWrong : ChangeSpec := { name := "fnHydraOrd", fn := fun _ => fun
  | [d] => { results := [.lit (.bool false)], args := [d] }
  | _ => none }
def FnHydraOrdWrongFalsely : Prop := fnHydraOrdRow.holds Try.pinned (OpenSpec.ofChange fnHydraOrdWrong)

/-- 'laws.FnExactHydraSame': WHATEVER THE INPUT: true; the input reads as it did. -/
def fnExactHydraSameSpec : ChangeSpec := { name := "fnExactHydraSame", fn := fun _ => fun
  | [d1, d2] => { results := [.lit (.bool true)], args := [d1, d2] }
  | _ => none }
def fnExactHydraSameRow : OpenClaim := { program := "ytahhdbjjfdjloaa", sum := "2bce7b0d2dfaae5ed32f2251247082146d95d537e37fdc01e86cefedcf2fe42b", func := "loop.example/ordinalhydras/laws.FnExactHydraSame", spec := "fnExactHydraSame", unfollowed := true, recurses := true, apart := false }
def FnExactHydraSameSaid : Prop := fnExactHydraSameRow.holds Try.pinned (OpenSpec.ofChange fnExactHydraSameSpec)

/-- ITS FALSE NEIGHBOUR: 'it returns false'. Refute it at one input. -/
def fnExactHydraSameWrong : ChangeSpec := { name := "fnExactHydraSame", fn := fun _ => fun
  | [d1, d2] => { results := [.lit (.bool false)], args := [d1, d2] }
  | _ => none }
def FnExactHydraSameWrongFalsely : Prop := fnExactHydraSameRow.holds Try.pinned (OpenSpec.ofChange fnExactHydraSameWrong)

/-- 'laws.FnExactHydraSort': WHATEVER THE INPUT: true; the input reads as it did. -/
def fnExactHydraSortSpec : ChangeSpec := { name := "fnExactHydraSort", fn := fun _ => fun
  | [d] => { results := [.lit (.bool true)], args := [d] }
  | _ => none }
def fnExactHydraSortRow : OpenClaim := { program := "ytahhdbjjfdjloaa", sum := "2bce7b0d2dfaae5ed32f2251247082146d95d537e37fdc01e86cefedcf2fe42b", func := "loop.example/ordinalhydras/laws.FnExactHydraSort", spec := "fnExactHydraSort", unfollowed := true, recurses := true, apart := false }
def FnExactHydraSortSaid : Prop := fnExactHydraSortRow.holds Try.pinned (OpenSpec.ofChange fnExactHydraSortSpec)

/-- ITS FALSE NEIGHBOUR: 'it returns false'. Refute it at one input. -/
def fnExactHydraSortWrong : ChangeSpec := { name := "fnExactHydraSort", fn := fun _ => fun
  | [d] => { results := [.lit (.bool false)], args := [d] }
  | _ => none }
def FnExactHydraSortWrongFalsely : Prop := fnExactHydraSortRow.holds Try.pinned (OpenSpec.ofChange fnExactHydraSortWrong)

/-- 'laws.FnHydraSort': WHATEVER THE INPUT: true; the input reads as it did. -/
def fnHydraSortSpec : ChangeSpec := { name := "fnHydraSort", fn := fun _ => fun
  | [d] => { results := [.lit (.bool true)], args := [d] }
  | _ => none }
def fnHydraSortRow : OpenClaim := { program := "ytahhdbjjfdjloaa", sum := "2bce7b0d2dfaae5ed32f2251247082146d95d537e37fdc01e86cefedcf2fe42b", func := "loop.example/ordinalhydras/laws.FnHydraSort", spec := "fnHydraSort", unfollowed := true, recurses := true, apart := false }
def FnHydraSortSaid : Prop := fnHydraSortRow.holds Try.pinned (OpenSpec.ofChange fnHydraSortSpec)

/-- ITS FALSE NEIGHBOUR: 'it returns false'. Refute it at one input. -/
def fnHydraSortWrong : ChangeSpec := { name := "fnHydraSort", fn := fun _ => fun
  | [d] => { results := [.lit (.bool false)], args := [d] }
  | _ => none }
def FnHydraSortWrongFalsely : Prop := fnHydraSortRow.holds Try.pinned (OpenSpec.ofChange fnHydraSortWrong)

/-- 'laws.FnHydraSame': WHATEVER THE INPUT: true; the input reads as it did. -/
def fnHydraSameSpec : ChangeSpec := { name := "fnHydraSame", fn := fun _ => fun
  | [d] => { results := [.lit (.bool true)], args := [d] }
  | _ => none }
def fnHydraSameRow : OpenClaim := { program := "ytahhdbjjfdjloaa", sum := "2bce7b0d2dfaae5ed32f2251247082146d95d537e37fdc01e86cefedcf2fe42b", func := "loop.example/ordinalhydras/laws.FnHydraSame", spec := "fnHydraSame", unfollowed := true, recurses := true, apart := false }
def FnHydraSameSaid : Prop := fnHydraSameRow.holds Try.pinned (OpenSpec.ofChange fnHydraSameSpec)

/-- ITS FALSE NEIGHBOUR: 'it returns false'. Refute it at one input. -/
def fnHydraSameWrong : ChangeSpec := { name := "fnHydraSame", fn := fun _ => fun
  | [d] => { results := [.lit (.bool false)], args := [d] }
  | _ => none }
def FnHydraSameWrongFalsely : Prop := fnHydraSameRow.holds Try.pinned (OpenSpec.ofChange fnHydraSameWrong)

/- THE SECOND FORM. 'bulk': how many values and letters a reading holds, each counted each time it is reached (what is shared counts as often as it is met; a slice's spare places count too). A statement '..UptoSaid' is the law's where the arguments, and the package variables that the reading takes, are together of bulk at most 1048576: NARROWER than '..Said'. Prove '..Said' where nothing that the law and all that it calls make is longer than what came in: it says more and counts as full. Else prove '..UptoSaid'. A law counts once. -/
mutual
def uptoBulk {H : Type} : DataW H → Nat
  | .lit (.string bytes) => bytes.length + 1
  | .lit _ => 1
  | .nil => 1
  | .ptr d => uptoBulk d + 1
  | .slice elems spare => uptoBulkAll elems + uptoBulkAll spare + 1
  | .agg parts => uptoBulkAll parts + 1
  | .iface _ d => uptoBulk d + 1
  | .map entries => uptoBulkEntries entries + 1
  | .held _ => 1
def uptoBulkAll {H : Type} : List (DataW H) → Nat
  | [] => 0
  | d :: r => uptoBulk d + uptoBulkAll r
def uptoBulkEntries {H : Type} : List (Lit × DataW H) → Nat
  | [] => 0
  | x :: r => uptoBulkEntry x + uptoBulkEntries r
def uptoBulkEntry {H : Type} : Lit × DataW H → Nat
  | (.string bytes, d) => bytes.length + uptoBulk d + 1
  | (_, d) => uptoBulk d + 1
 end
def uptoSmall : (H : Type) → List (DataW H) → Bool := fun _ ds => decide (uptoBulkAll ds ≤ 1048576)
def OpenSpec.upto (s : _root_.Go.ChangeSpec) : _root_.Go.OpenSpec := { _root_.Go.OpenSpec.ofChange s with cond := some uptoSmall }

/-- 'laws.FnExactHydraOf', WHERE WHAT IT READS IS OF BULK AT MOST 1048576: true; the input reads as it did. -/
def fnExactHydraOfUptoRow : OpenClaim := { program := "ytahhdbjjfdjloaa", sum := "2bce7b0d2dfaae5ed32f2251247082146d95d537e37fdc01e86cefedcf2fe42b", func := "loop.example/ordinalhydras/laws.FnExactHydraOf", spec := "fnExactHydraOf", recurses := true, apart := false, narrowed := true }
def FnExactHydraOfUptoSaid : Prop := fnExactHydraOfUptoRow.holds Try.pinned (OpenSpec.upto fnExactHydraOfSpec)

/-- 'laws.FnExactHydraOrd', WHERE WHAT IT READS IS OF BULK AT MOST 1048576: true; the input reads as it did. -/
def fnExactHydraOrdUptoRow : OpenClaim := { program := "ytahhdbjjfdjloaa", sum := "2bce7b0d2dfaae5ed32f2251247082146d95d537e37fdc01e86cefedcf2fe42b", func := "loop.example/ordinalhydras/laws.FnExactHydraOrd", spec := "fnExactHydraOrd", recurses := true, apart := false, narrowed := true }
def FnExactHydraOrdUptoSaid : Prop := fnExactHydraOrdUptoRow.holds Try.pinned (OpenSpec.upto fnExactHydraOrdSpec)

/-- 'laws.FnHydraOf', WHERE WHAT IT READS IS OF BULK AT MOST 1048576: true; the input reads as it did. -/
def fnHydraOfUptoRow : OpenClaim := { program := "ytahhdbjjfdjloaa", sum := "2bce7b0d2dfaae5ed32f2251247082146d95d537e37fdc01e86cefedcf2fe42b", func := "loop.example/ordinalhydras/laws.FnHydraOf", spec := "fnHydraOf", recurses := true, apart := false, narrowed := true }
def FnHydraOfUptoSaid : Prop := fnHydraOfUptoRow.holds Try.pinned (OpenSpec.upto fnHydraOfSpec)

/-- 'laws.FnHydraOrd', WHERE WHAT IT READS IS OF BULK AT MOST 1048576: true; the input reads as it did. -/
def fnHydraOrdUptoRow : OpenClaim := { program := "ytahhdbjjfdjloaa", sum := "2bce7b0d2dfaae5ed32f2251247082146d95d537e37fdc01e86cefedcf2fe42b", func := "loop.example/ordinalhydras/laws.FnHydraOrd", spec := "fnHydraOrd", unfollowed := true, recurses := true, apart := false, narrowed := true }
def FnHydraOrdUptoSaid : Prop := fnHydraOrdUptoRow.holds Try.pinned (OpenSpec.upto fnHydraOrdSpec)

/-- 'laws.FnExactHydraSame', WHERE WHAT IT READS IS OF BULK AT MOST 1048576: true; the input reads as it did. -/
def fnExactHydraSameUptoRow : OpenClaim := { program := "ytahhdbjjfdjloaa", sum := "2bce7b0d2dfaae5ed32f2251247082146d95d537e37fdc01e86cefedcf2fe42b", func := "loop.example/ordinalhydras/laws.FnExactHydraSame", spec := "fnExactHydraSame", unfollowed := true, recurses := true, apart := false, narrowed := true }
def FnExactHydraSameUptoSaid : Prop := fnExactHydraSameUptoRow.holds Try.pinned (OpenSpec.upto fnExactHydraSameSpec)

/-- 'laws.FnExactHydraSort', WHERE WHAT IT READS IS OF BULK AT MOST 1048576: true; the input reads as it did. -/
def fnExactHydraSortUptoRow : OpenClaim := { program := "ytahhdbjjfdjloaa", sum := "2bce7b0d2dfaae5ed32f2251247082146d95d537e37fdc01e86cefedcf2fe42b", func := "loop.example/ordinalhydras/laws.FnExactHydraSort", spec := "fnExactHydraSort", unfollowed := true, recurses := true, apart := false, narrowed := true }
def FnExactHydraSortUptoSaid : Prop := fnExactHydraSortUptoRow.holds Try.pinned (OpenSpec.upto fnExactHydraSortSpec)

/-- 'laws.FnHydraSort', WHERE WHAT IT READS IS OF BULK AT MOST 1048576: true; the input reads as it did. -/
def fnHydraSortUptoRow : OpenClaim := { program := "ytahhdbjjfdjloaa", sum := "2bce7b0d2dfaae5ed32f2251247082146d95d537e37fdc01e86cefedcf2fe42b", func := "loop.example/ordinalhydras/laws.FnHydraSort", spec := "fnHydraSort", unfollowed := true, recurses := true, apart := false, narrowed := true }
def FnHydraSortUptoSaid : Prop := fnHydraSortUptoRow.holds Try.pinned (OpenSpec.upto fnHydraSortSpec)

/-- 'laws.FnHydraSame', WHERE WHAT IT READS IS OF BULK AT MOST 1048576: true; the input reads as it did. -/
def fnHydraSameUptoRow : OpenClaim := { program := "ytahhdbjjfdjloaa", sum := "2bce7b0d2dfaae5ed32f2251247082146d95d537e37fdc01e86cefedcf2fe42b", func := "loop.example/ordinalhydras/laws.FnHydraSame", spec := "fnHydraSame", unfollowed := true, recurses := true, apart := false, narrowed := true }
def FnHydraSameUptoSaid : Prop := fnHydraSameUptoRow.holds Try.pinned (OpenSpec.upto fnHydraSameSpec)

end Rows
end Go.Proofs.Ytahhdbjjfdjloaa

/-
  No cell of these rows narrows 'for every input' (looked for: loops, veiled, ifaces, maps, wideKeys, modest, calm, conditions, laid).
  DERIVED. THE GIVEN ROWS OF THIS SEAT. 10 by the template 'for every input the law returns true; each argument reads behind the call as it read before'; 0 by the template 'total and deterministic' (their statements: YtmgpdneehdnjlaaTotals.lean).
  GIVEN WITH THE SEED: the statements are not yours to turn. If you find one false, say at which input.
  Laid BY PROGRAM, IN A SANDBOX (cutbox-rows.mjs): the forced cells as the released guide's own fill.sh prints them over the translation c9cfc7f22950c4d5… (all of the seat's roots in one cut). By AI agents, Wed Nov 11 2026. No macro, syntax, notation, axiom, sorry.
-/
import Derived.Test.YtmgpdneehdnjlaaChecked
import GoSem.Claim
import GoSem.ClaimJoined
import GoSem.ClaimMapViews
import Derived.JoinedTies
import Derived.KernelRfl
namespace Go.Proofs.Ytmgpdneehdnjlaa
/- THE CELL 'sum', in the pinned program and in every row, IS THE sha256 OF THE DUMP (.gsa) THAT YtmgpdneehdnjlaaProg.lean LOADS. Nothing in Lean hashes anything: it is a label: what it is worth is what the hold of that sum in a sandbox is worth. -/
noncomputable def Try.pinned : Pinned := { name := "ytmgpdneehdnjlaa", sum := "c9cfc7f22950c4d57614f73d7c8d63a1a4fc70f2ffda788c7900a841416fb2a0", checked := Try.checked }
namespace Rows
def none {H : Type} : Left H := { results := [], args := [] }

/-- 'laws.FnExactBagCompare': WHATEVER THE INPUT: true; the input reads as it did. -/
def fnExactBagCompareSpec : ChangeSpec := { name := "fnExactBagCompare", fn := fun _ => fun
  | [d1, d2] => { results := [.lit (.bool true)], args := [d1, d2] }
  | _ => none }
def fnExactBagCompareRow : OpenClaim := { program := "ytmgpdneehdnjlaa", sum := "c9cfc7f22950c4d57614f73d7c8d63a1a4fc70f2ffda788c7900a841416fb2a0", func := "loop.example/ordinalhydras/laws.FnExactBagCompare", spec := "fnExactBagCompare", apart := false }
def FnExactBagCompareSaid : Prop := fnExactBagCompareRow.holds Try.pinned (OpenSpec.ofChange fnExactBagCompareSpec)

/-- ITS FALSE NEIGHBOUR: 'it returns false'. Refute it at one input. -/
def fnExactBagCompareWrong : ChangeSpec := { name := "fnExactBagCompare", fn := fun _ => fun
  | [d1, d2] => { results := [.lit (.bool false)], args := [d1, d2] }
  | _ => none }
def FnExactBagCompareWrongFalsely : Prop := fnExactBagCompareRow.holds Try.pinned (OpenSpec.ofChange fnExactBagCompareWrong)

/-- 'laws.FnExactBagBelow': WHATEVER THE INPUT: true; the input reads as it did. -/
def fnExactBagBelowSpec : ChangeSpec := { name := "fnExactBagBelow", fn := fun _ => fun
  | [d1, d2] => { results := [.lit (.bool true)], args := [d1, d2] }
  | _ => none }
def fnExactBagBelowRow : OpenClaim := { program := "ytmgpdneehdnjlaa", sum := "c9cfc7f22950c4d57614f73d7c8d63a1a4fc70f2ffda788c7900a841416fb2a0", func := "loop.example/ordinalhydras/laws.FnExactBagBelow", spec := "fnExactBagBelow", apart := false }
def FnExactBagBelowSaid : Prop := fnExactBagBelowRow.holds Try.pinned (OpenSpec.ofChange fnExactBagBelowSpec)

/-- ITS FALSE NEIGHBOUR: 'it returns false'. Refute it at one input. -/
def fnExactBagBelowWrong : ChangeSpec := { name := "fnExactBagBelow", fn := fun _ => fun
  | [d1, d2] => { results := [.lit (.bool false)], args := [d1, d2] }
  | _ => none }
def FnExactBagBelowWrongFalsely : Prop := fnExactBagBelowRow.holds Try.pinned (OpenSpec.ofChange fnExactBagBelowWrong)

/-- 'laws.FnBagPut': WHATEVER THE INPUT: true; the input reads as it did. -/
def fnBagPutSpec : ChangeSpec := { name := "fnBagPut", fn := fun _ => fun
  | [d] => { results := [.lit (.bool true)], args := [d] }
  | _ => none }
def fnBagPutRow : OpenClaim := { program := "ytmgpdneehdnjlaa", sum := "c9cfc7f22950c4d57614f73d7c8d63a1a4fc70f2ffda788c7900a841416fb2a0", func := "loop.example/ordinalhydras/laws.FnBagPut", spec := "fnBagPut", recurses := true, apart := false }
def FnBagPutSaid : Prop := fnBagPutRow.holds Try.pinned (OpenSpec.ofChange fnBagPutSpec)

/-- ITS FALSE NEIGHBOUR: 'it returns false'. Refute it at one input. -/
def fnBagPutWrong : ChangeSpec := { name := "fnBagPut", fn := fun _ => fun
  | [d] => { results := [.lit (.bool false)], args := [d] }
  | _ => none }
def FnBagPutWrongFalsely : Prop := fnBagPutRow.holds Try.pinned (OpenSpec.ofChange fnBagPutWrong)

/-- 'laws.FnExactBagOrd': WHATEVER THE INPUT: true; the input reads as it did. -/
def fnExactBagOrdSpec : ChangeSpec := { name := "fnExactBagOrd", fn := fun _ => fun
  | [d] => { results := [.lit (.bool true)], args := [d] }
  | _ => none }
def fnExactBagOrdRow : OpenClaim := { program := "ytmgpdneehdnjlaa", sum := "c9cfc7f22950c4d57614f73d7c8d63a1a4fc70f2ffda788c7900a841416fb2a0", func := "loop.example/ordinalhydras/laws.FnExactBagOrd", spec := "fnExactBagOrd", recurses := true, apart := false }
def FnExactBagOrdSaid : Prop := fnExactBagOrdRow.holds Try.pinned (OpenSpec.ofChange fnExactBagOrdSpec)

/-- ITS FALSE NEIGHBOUR: 'it returns false'. Refute it at one input. -/
def fnExactBagOrdWrong : ChangeSpec := { name := "fnExactBagOrd", fn := fun _ => fun
  | [d] => { results := [.lit (.bool false)], args := [d] }
  | _ => none }
def FnExactBagOrdWrongFalsely : Prop := fnExactBagOrdRow.holds Try.pinned (OpenSpec.ofChange fnExactBagOrdWrong)

/-- 'laws.FnBagBelow': WHATEVER THE INPUT: true; the input reads as it did. -/
def fnBagBelowSpec : ChangeSpec := { name := "fnBagBelow", fn := fun _ => fun
  | [d] => { results := [.lit (.bool true)], args := [d] }
  | _ => none }
def fnBagBelowRow : OpenClaim := { program := "ytmgpdneehdnjlaa", sum := "c9cfc7f22950c4d57614f73d7c8d63a1a4fc70f2ffda788c7900a841416fb2a0", func := "loop.example/ordinalhydras/laws.FnBagBelow", spec := "fnBagBelow", recurses := true, apart := false }
def FnBagBelowSaid : Prop := fnBagBelowRow.holds Try.pinned (OpenSpec.ofChange fnBagBelowSpec)

/-- ITS FALSE NEIGHBOUR: 'it returns false'. Refute it at one input. -/
def fnBagBelowWrong : ChangeSpec := { name := "fnBagBelow", fn := fun _ => fun
  | [d] => { results := [.lit (.bool false)], args := [d] }
  | _ => none }
def FnBagBelowWrongFalsely : Prop := fnBagBelowRow.holds Try.pinned (OpenSpec.ofChange fnBagBelowWrong)

/-- 'laws.FnBagCompare': WHATEVER THE INPUT: true; the input reads as it did. -/
def fnBagCompareSpec : ChangeSpec := { name := "fnBagCompare", fn := fun _ => fun
  | [d] => { results := [.lit (.bool true)], args := [d] }
  | _ => none }
def fnBagCompareRow : OpenClaim := { program := "ytmgpdneehdnjlaa", sum := "c9cfc7f22950c4d57614f73d7c8d63a1a4fc70f2ffda788c7900a841416fb2a0", func := "loop.example/ordinalhydras/laws.FnBagCompare", spec := "fnBagCompare", recurses := true, apart := false }
def FnBagCompareSaid : Prop := fnBagCompareRow.holds Try.pinned (OpenSpec.ofChange fnBagCompareSpec)

/-- ITS FALSE NEIGHBOUR: 'it returns false'. Refute it at one input. -/
def fnBagCompareWrong : ChangeSpec := { name := "fnBagCompare", fn := fun _ => fun
  | [d] => { results := [.lit (.bool false)], args := [d] }
  | _ => none }
def FnBagCompareWrongFalsely : Prop := fnBagCompareRow.holds Try.pinned (OpenSpec.ofChange fnBagCompareWrong)

/-- 'laws.FnBagOrd': WHATEVER THE INPUT: true; the input reads as it did. -/
def fnBagOrdSpec : ChangeSpec := { name := "fnBagOrd", fn := fun _ => fun
  | [d] => { results := [.lit (.bool true)], args := [d] }
  | _ => none }
def fnBagOrdRow : OpenClaim := { program := "ytmgpdneehdnjlaa", sum := "c9cfc7f22950c4d57614f73d7c8d63a1a4fc70f2ffda788c7900a841416fb2a0", func := "loop.example/ordinalhydras/laws.FnBagOrd", spec := "fnBagOrd", recurses := true, apart := false }
def FnBagOrdSaid : Prop := fnBagOrdRow.holds Try.pinned (OpenSpec.ofChange fnBagOrdSpec)

/-- ITS FALSE NEIGHBOUR: 'it returns false'. Refute it at one input. -/
def fnBagOrdWrong : ChangeSpec := { name := "fnBagOrd", fn := fun _ => fun
  | [d] => { results := [.lit (.bool false)], args := [d] }
  | _ => none }
def FnBagOrdWrongFalsely : Prop := fnBagOrdRow.holds Try.pinned (OpenSpec.ofChange fnBagOrdWrong)

/-- 'laws.FnExactBagOf': WHATEVER THE INPUT: true; the input reads as it did. -/
def fnExactBagOfSpec : ChangeSpec := { name := "fnExactBagOf", fn := fun _ => fun
  | [d] => { results := [.lit (.bool true)], args := [d] }
  | _ => none }
def fnExactBagOfRow : OpenClaim := { program := "ytmgpdneehdnjlaa", sum := "c9cfc7f22950c4d57614f73d7c8d63a1a4fc70f2ffda788c7900a841416fb2a0", func := "loop.example/ordinalhydras/laws.FnExactBagOf", spec := "fnExactBagOf", recurses := true, apart := false }
def FnExactBagOfSaid : Prop := fnExactBagOfRow.holds Try.pinned (OpenSpec.ofChange fnExactBagOfSpec)

/-- ITS FALSE NEIGHBOUR: 'it returns false'. Refute it at one input. -/
def fnExactBagOfWrong : ChangeSpec := { name := "fnExactBagOf", fn := fun _ => fun
  | [d] => { results := [.lit (.bool false)], args := [d] }
  | _ => none }
def FnExactBagOfWrongFalsely : Prop := fnExactBagOfRow.holds Try.pinned (OpenSpec.ofChange fnExactBagOfWrong)

/-- 'laws.FnBagOf': WHATEVER THE INPUT: true; the input reads as it did. -/
def fnBagOfSpec : ChangeSpec := { name := "fnBagOf", fn := fun _ => fun
  | [d] => { results := [.lit (.bool true)], args := [d] }
  | _ => none }
def fnBagOfRow : OpenClaim := { program := "ytmgpdneehdnjlaa", sum := "c9cfc7f22950c4d57614f73d7c8d63a1a4fc70f2ffda788c7900a841416fb2a0", func := "loop.example/ordinalhydras/laws.FnBagOf", spec := "fnBagOf", recurses := true, apart := false }
def FnBagOfSaid : Prop := fnBagOfRow.holds Try.pinned (OpenSpec.ofChange fnBagOfSpec)

/-- ITS FALSE NEIGHBOUR: 'it returns false'. Refute it at one input. -/
def fnBagOfWrong : ChangeSpec := { name := "fnBagOf", fn := fun _ => fun
  | [d] => { results := [.lit (.bool false)], args := [d] }
  | _ => none }
def FnBagOfWrongFalsely : Prop := fnBagOfRow.holds Try.pinned (OpenSpec.ofChange fnBagOfWrong)

/-- 'laws.FnExactBagPut': WHATEVER THE INPUT: true; the input reads as it did. -/
def fnExactBagPutSpec : ChangeSpec := { name := "fnExactBagPut", fn := fun _ => fun
  | [d1, d2, d3] => { results := [.lit (.bool true)], args := [d1, d2, d3] }
  | _ => none }
def fnExactBagPutRow : OpenClaim := { program := "ytmgpdneehdnjlaa", sum := "c9cfc7f22950c4d57614f73d7c8d63a1a4fc70f2ffda788c7900a841416fb2a0", func := "loop.example/ordinalhydras/laws.FnExactBagPut", spec := "fnExactBagPut", recurses := true, apart := false }
def FnExactBagPutSaid : Prop := fnExactBagPutRow.holds Try.pinned (OpenSpec.ofChange fnExactBagPutSpec)

/-- ITS FALSE NEIGHBOUR: 'it returns false'. Refute it at one input. -/
def fnExactBagPutWrong : ChangeSpec := { name := "fnExactBagPut", fn := fun _ => fun
  | [d1, d2, d3] => { results := [.lit (.bool false)], args := [d1, d2, d3] }
  | _ => none }
def FnExactBagPutWrongFalsely : Prop := fnExactBagPutRow.holds Try.pinned (OpenSpec.ofChange fnExactBagPutWrong)

/- THE SECOND FORM. 'bulk': how many values and letters a reading holds, each counted each time it is reached (what is shared counts as often as it is met; a slice's spare places count too). A statement '..UptoSaid' is the law's where the arguments, and the package variables that the reading takes, are together of bulk at most 1048576: NARROWER than '..Said'. Prove '..Said' where nothing that the law and all that it calls make is longer than what came in: it says more and counts as full. Else prove '..UptoSaid'. A law counts once. -/
mutual
def uptoBulk {H : Type} : DataW H → Nat
  | .lit (.string bytes) => bytes.length + 1
  | .lit _ => 1
  | .nil => 1
  | .ptr d => uptoBulk d + 1
  | .slice elems spare => uptoBulkAll elems + uptoBulkAll spare + 1
  | .agg parts => uptoBulkAll parts + 1
  | .iface _ d => uptoBulk d + 1
  | .map entries => uptoBulkEntries entries + 1
  | .held _ => 1
def uptoBulkAll {H : Type} : List (DataW H) → Nat
  | [] => 0
  | d :: r => uptoBulk d + uptoBulkAll r
def uptoBulkEntries {H : Type} : List (Lit × DataW H) → Nat
  | [] => 0
  | x :: r => uptoBulkEntry x + uptoBulkEntries r
def uptoBulkEntry {H : Type} : Lit × DataW H → Nat
  | (.string bytes, d) => bytes.length + uptoBulk d + 1
  | (_, d) => uptoBulk d + 1
 end
def uptoSmall : (H : Type) → List (DataW H) → Bool := fun _ ds => decide (uptoBulkAll ds ≤ 1048576)
def OpenSpec.upto (s : _root_.Go.ChangeSpec) : _root_.Go.OpenSpec := { _root_.Go.OpenSpec.ofChange s with cond := some uptoSmall }

/-- 'laws.FnExactBagCompare', WHERE WHAT IT READS IS OF BULK AT MOST 1048576: true; the input reads as it did. -/
def fnExactBagCompareUptoRow : OpenClaim := { program := "ytmgpdneehdnjlaa", sum := "c9cfc7f22950c4d57614f73d7c8d63a1a4fc70f2ffda788c7900a841416fb2a0", func := "loop.example/ordinalhydras/laws.FnExactBagCompare", spec := "fnExactBagCompare", apart := false, narrowed := true }
def FnExactBagCompareUptoSaid : Prop := fnExactBagCompareUptoRow.holds Try.pinned (OpenSpec.upto fnExactBagCompareSpec)

/-- 'laws.FnExactBagBelow', WHERE WHAT IT READS IS OF BULK AT MOST 1048576: true; the input reads as it did. -/
def fnExactBagBelowUptoRow : OpenClaim := { program := "ytmgpdneehdnjlaa", sum := "c9cfc7f22950c4d57614f73d7c8d63a1a4fc70f2ffda788c7900a841416fb2a0", func := "loop.example/ordinalhydras/laws.FnExactBagBelow", spec := "fnExactBagBelow", apart := false, narrowed := true }
def FnExactBagBelowUptoSaid : Prop := fnExactBagBelowUptoRow.holds Try.pinned (OpenSpec.upto fnExactBagBelowSpec)

/-- 'laws.FnBagPut', WHERE WHAT IT READS IS OF BULK AT MOST 1048576: true; the input reads as it did. -/
def fnBagPutUptoRow : OpenClaim := { program := "ytmgpdneehdnjlaa", sum := "c9cfc7f22950c4d57614f73d7c8d63a1a4fc70f2ffda788c7900a841416fb2a0", func := "loop.example/ordinalhydras/laws.FnBagPut", spec := "fnBagPut", recurses := true, apart := false, narrowed := true }
def FnBagPutUptoSaid : Prop := fnBagPutUptoRow.holds Try.pinned (OpenSpec.upto fnBagPutSpec)

/-- 'laws.FnExactBagOrd', WHERE WHAT IT READS IS OF BULK AT MOST 1048576: true; the input reads as it did. -/
def fnExactBagOrdUptoRow : OpenClaim := { program := "ytmgpdneehdnjlaa", sum := "c9cfc7f22950c4d57614f73d7c8d63a1a4fc70f2ffda788c7900a841416fb2a0", func := "loop.example/ordinalhydras/laws.FnExactBagOrd", spec := "fnExactBagOrd", recurses := true, apart := false, narrowed := true }
def FnExactBagOrdUptoSaid : Prop := fnExactBagOrdUptoRow.holds Try.pinned (OpenSpec.upto fnExactBagOrdSpec)

/-- 'laws.FnBagBelow', WHERE WHAT IT READS IS OF BULK AT MOST 1048576: true; the input reads as it did. -/
def fnBagBelowUptoRow : OpenClaim := { program := "ytmgpdneehdnjlaa", sum := "c9cfc7f22950c4d57614f73d7c8d63a1a4fc70f2ffda788c7900a841416fb2a0", func := "loop.example/ordinalhydras/laws.FnBagBelow", spec := "fnBagBelow", recurses := true, apart := false, narrowed := true }
def FnBagBelowUptoSaid : Prop := fnBagBelowUptoRow.holds Try.pinned (OpenSpec.upto fnBagBelowSpec)

/-- 'laws.FnBagCompare', WHERE WHAT IT READS IS OF BULK AT MOST 1048576: true; the input reads as it did. -/
def fnBagCompareUptoRow : OpenClaim := { program := "ytmgpdneehdnjlaa", sum := "c9cfc7f22950c4d57614f73d7c8d63a1a4fc70f2ffda788c7900a841416fb2a0", func := "loop.example/ordinalhydras/laws.FnBagCompare", spec := "fnBagCompare", recurses := true, apart := false, narrowed := true }
def FnBagCompareUptoSaid : Prop := fnBagCompareUptoRow.holds Try.pinned (OpenSpec.upto fnBagCompareSpec)

/-- 'laws.FnBagOrd', WHERE WHAT IT READS IS OF BULK AT MOST 1048576: true; the input reads as it did. -/
def fnBagOrdUptoRow : OpenClaim := { program := "ytmgpdneehdnjlaa", sum := "c9cfc7f22950c4d57614f73d7c8d63a1a4fc70f2ffda788c7900a841416fb2a0", func := "loop.example/ordinalhydras/laws.FnBagOrd", spec := "fnBagOrd", recurses := true, apart := false, narrowed := true }
def FnBagOrdUptoSaid : Prop := fnBagOrdUptoRow.holds Try.pinned (OpenSpec.upto fnBagOrdSpec)

/-- 'laws.FnExactBagOf', WHERE WHAT IT READS IS OF BULK AT MOST 1048576: true; the input reads as it did. -/
def fnExactBagOfUptoRow : OpenClaim := { program := "ytmgpdneehdnjlaa", sum := "c9cfc7f22950c4d57614f73d7c8d63a1a4fc70f2ffda788c7900a841416fb2a0", func := "loop.example/ordinalhydras/laws.FnExactBagOf", spec := "fnExactBagOf", recurses := true, apart := false, narrowed := true }
def FnExactBagOfUptoSaid : Prop := fnExactBagOfUptoRow.holds Try.pinned (OpenSpec.upto fnExactBagOfSpec)

/-- 'laws.FnBagOf', WHERE WHAT IT READS IS OF BULK AT MOST 1048576: true; the input reads as it did. -/
def fnBagOfUptoRow : OpenClaim := { program := "ytmgpdneehdnjlaa", sum := "c9cfc7f22950c4d57614f73d7c8d63a1a4fc70f2ffda788c7900a841416fb2a0", func := "loop.example/ordinalhydras/laws.FnBagOf", spec := "fnBagOf", recurses := true, apart := false, narrowed := true }
def FnBagOfUptoSaid : Prop := fnBagOfUptoRow.holds Try.pinned (OpenSpec.upto fnBagOfSpec)

/-- 'laws.FnExactBagPut', WHERE WHAT IT READS IS OF BULK AT MOST 1048576: true; the input reads as it did. -/
def fnExactBagPutUptoRow : OpenClaim := { program := "ytmgpdneehdnjlaa", sum := "c9cfc7f22950c4d57614f73d7c8d63a1a4fc70f2ffda788c7900a841416fb2a0", func := "loop.example/ordinalhydras/laws.FnExactBagPut", spec := "fnExactBagPut", recurses := true, apart := false, narrowed := true }
def FnExactBagPutUptoSaid : Prop := fnExactBagPutUptoRow.holds Try.pinned (OpenSpec.upto fnExactBagPutSpec)

end Rows
end Go.Proofs.Ytmgpdneehdnjlaa

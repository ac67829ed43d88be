/-
  No cell of these rows narrows 'for every input' (looked for: loops, veiled, ifaces, maps, wideKeys, modest, calm, conditions, laid).
  DERIVED. THE GIVEN ROWS OF THIS SEAT. 11 by the template 'for every input the law returns true; each argument reads behind the call as it read before'; 0 by the template 'total and deterministic' (their statements: YtclapemogefepaaTotals.lean).
  GIVEN WITH THE SEED: the statements are not yours to turn. If you find one false, say at which input.
  Laid BY PROGRAM, IN A SANDBOX (cutbox-rows.mjs): the forced cells as the released guide's own fill.sh prints them over the translation 50ffa78771af862b… (all of the seat's roots in one cut). By AI agents, Wed Nov 11 2026. No macro, syntax, notation, axiom, sorry.
-/
import Derived.Test.YtclapemogefepaaChecked
import GoSem.Claim
import GoSem.ClaimJoined
import GoSem.ClaimMapViews
import Derived.JoinedTies
import Derived.KernelRfl
namespace Go.Proofs.Ytclapemogefepaa
/- THE CELL 'sum', in the pinned program and in every row, IS THE sha256 OF THE DUMP (.gsa) THAT YtclapemogefepaaProg.lean LOADS. Nothing in Lean hashes anything: it is a label: what it is worth is what the hold of that sum in a sandbox is worth. -/
noncomputable def Try.pinned : Pinned := { name := "ytclapemogefepaa", sum := "50ffa78771af862bb3ca4f1bafaee4221c3f9bf18f57a20b6ab266d6ba6d5620", checked := Try.checked }
namespace Rows
def none {H : Type} : Left H := { results := [], args := [] }

/-- 'laws.FnExactRelValid': WHATEVER THE INPUT: true; the input reads as it did. -/
def fnExactRelValidSpec : ChangeSpec := { name := "fnExactRelValid", fn := fun _ => fun
  | [d] => { results := [.lit (.bool true)], args := [d] }
  | _ => none }
def fnExactRelValidRow : OpenClaim := { program := "ytclapemogefepaa", sum := "50ffa78771af862bb3ca4f1bafaee4221c3f9bf18f57a20b6ab266d6ba6d5620", func := "loop.example/ordinalhydras/laws.FnExactRelValid", spec := "fnExactRelValid", apart := false }
def FnExactRelValidSaid : Prop := fnExactRelValidRow.holds Try.pinned (OpenSpec.ofChange fnExactRelValidSpec)

/-- ITS FALSE NEIGHBOUR: 'it returns false'. Refute it at one input. -/
def fnExactRelValidWrong : ChangeSpec := { name := "fnExactRelValid", fn := fun _ => fun
  | [d] => { results := [.lit (.bool false)], args := [d] }
  | _ => none }
def FnExactRelValidWrongFalsely : Prop := fnExactRelValidRow.holds Try.pinned (OpenSpec.ofChange fnExactRelValidWrong)

/-- 'laws.FnExactCircleOk': WHATEVER THE INPUT: true; the input reads as it did. -/
def fnExactCircleOkSpec : ChangeSpec := { name := "fnExactCircleOk", fn := fun _ => fun
  | [d1, d2] => { results := [.lit (.bool true)], args := [d1, d2] }
  | _ => none }
def fnExactCircleOkRow : OpenClaim := { program := "ytclapemogefepaa", sum := "50ffa78771af862bb3ca4f1bafaee4221c3f9bf18f57a20b6ab266d6ba6d5620", func := "loop.example/ordinalhydras/laws.FnExactCircleOk", spec := "fnExactCircleOk", apart := false }
def FnExactCircleOkSaid : Prop := fnExactCircleOkRow.holds Try.pinned (OpenSpec.ofChange fnExactCircleOkSpec)

/-- ITS FALSE NEIGHBOUR: 'it returns false'. Refute it at one input. -/
def fnExactCircleOkWrong : ChangeSpec := { name := "fnExactCircleOk", fn := fun _ => fun
  | [d1, d2] => { results := [.lit (.bool false)], args := [d1, d2] }
  | _ => none }
def FnExactCircleOkWrongFalsely : Prop := fnExactCircleOkRow.holds Try.pinned (OpenSpec.ofChange fnExactCircleOkWrong)

/-- 'laws.FnExactWalksTo': WHATEVER THE INPUT: true; the input reads as it did. -/
def fnExactWalksToSpec : ChangeSpec := { name := "fnExactWalksTo", fn := fun _ => fun
  | [d1, d2, d3] => { results := [.lit (.bool true)], args := [d1, d2, d3] }
  | _ => none }
def fnExactWalksToRow : OpenClaim := { program := "ytclapemogefepaa", sum := "50ffa78771af862bb3ca4f1bafaee4221c3f9bf18f57a20b6ab266d6ba6d5620", func := "loop.example/ordinalhydras/laws.FnExactWalksTo", spec := "fnExactWalksTo", apart := false }
def FnExactWalksToSaid : Prop := fnExactWalksToRow.holds Try.pinned (OpenSpec.ofChange fnExactWalksToSpec)

/-- ITS FALSE NEIGHBOUR: 'it returns false'. Refute it at one input. -/
def fnExactWalksToWrong : ChangeSpec := { name := "fnExactWalksTo", fn := fun _ => fun
  | [d1, d2, d3] => { results := [.lit (.bool false)], args := [d1, d2, d3] }
  | _ => none }
def FnExactWalksToWrongFalsely : Prop := fnExactWalksToRow.holds Try.pinned (OpenSpec.ofChange fnExactWalksToWrong)

/-- 'laws.FnExactRelPairs': WHATEVER THE INPUT: true; the input reads as it did. -/
def fnExactRelPairsSpec : ChangeSpec := { name := "fnExactRelPairs", fn := fun _ => fun
  | [d1, d2] => { results := [.lit (.bool true)], args := [d1, d2] }
  | _ => none }
def fnExactRelPairsRow : OpenClaim := { program := "ytclapemogefepaa", sum := "50ffa78771af862bb3ca4f1bafaee4221c3f9bf18f57a20b6ab266d6ba6d5620", func := "loop.example/ordinalhydras/laws.FnExactRelPairs", spec := "fnExactRelPairs", apart := false }
def FnExactRelPairsSaid : Prop := fnExactRelPairsRow.holds Try.pinned (OpenSpec.ofChange fnExactRelPairsSpec)

/-- ITS FALSE NEIGHBOUR: 'it returns false'. Refute it at one input. -/
def fnExactRelPairsWrong : ChangeSpec := { name := "fnExactRelPairs", fn := fun _ => fun
  | [d1, d2] => { results := [.lit (.bool false)], args := [d1, d2] }
  | _ => none }
def FnExactRelPairsWrongFalsely : Prop := fnExactRelPairsRow.holds Try.pinned (OpenSpec.ofChange fnExactRelPairsWrong)

/-- 'laws.FnRelValid': WHATEVER THE INPUT: true; the input reads as it did. -/
def fnRelValidSpec : ChangeSpec := { name := "fnRelValid", fn := fun _ => fun
  | [d] => { results := [.lit (.bool true)], args := [d] }
  | _ => none }
def fnRelValidRow : OpenClaim := { program := "ytclapemogefepaa", sum := "50ffa78771af862bb3ca4f1bafaee4221c3f9bf18f57a20b6ab266d6ba6d5620", func := "loop.example/ordinalhydras/laws.FnRelValid", spec := "fnRelValid", recurses := true, apart := false }
def FnRelValidSaid : Prop := fnRelValidRow.holds Try.pinned (OpenSpec.ofChange fnRelValidSpec)

/-- ITS FALSE NEIGHBOUR: 'it returns false'. Refute it at one input. -/
def fnRelValidWrong : ChangeSpec := { name := "fnRelValid", fn := fun _ => fun
  | [d] => { results := [.lit (.bool false)], args := [d] }
  | _ => none }
def FnRelValidWrongFalsely : Prop := fnRelValidRow.holds Try.pinned (OpenSpec.ofChange fnRelValidWrong)

/-- 'laws.FnExactRanksOf': WHATEVER THE INPUT: true; the input reads as it did. -/
def fnExactRanksOfSpec : ChangeSpec := { name := "fnExactRanksOf", fn := fun _ => fun
  | [d] => { results := [.lit (.bool true)], args := [d] }
  | _ => none }
def fnExactRanksOfRow : OpenClaim := { program := "ytclapemogefepaa", sum := "50ffa78771af862bb3ca4f1bafaee4221c3f9bf18f57a20b6ab266d6ba6d5620", func := "loop.example/ordinalhydras/laws.FnExactRanksOf", spec := "fnExactRanksOf", apart := false }
def FnExactRanksOfSaid : Prop := fnExactRanksOfRow.holds Try.pinned (OpenSpec.ofChange fnExactRanksOfSpec)

/-- ITS FALSE NEIGHBOUR: 'it returns false'. Refute it at one input. -/
def fnExactRanksOfWrong : ChangeSpec := { name := "fnExactRanksOf", fn := fun _ => fun
  | [d] => { results := [.lit (.bool false)], args := [d] }
  | _ => none }
def FnExactRanksOfWrongFalsely : Prop := fnExactRanksOfRow.holds Try.pinned (OpenSpec.ofChange fnExactRanksOfWrong)

/-- 'laws.FnExactWellFounded': WHATEVER THE INPUT: true; the input reads as it did. -/
def fnExactWellFoundedSpec : ChangeSpec := { name := "fnExactWellFounded", fn := fun _ => fun
  | [d] => { results := [.lit (.bool true)], args := [d] }
  | _ => none }
def fnExactWellFoundedRow : OpenClaim := { program := "ytclapemogefepaa", sum := "50ffa78771af862bb3ca4f1bafaee4221c3f9bf18f57a20b6ab266d6ba6d5620", func := "loop.example/ordinalhydras/laws.FnExactWellFounded", spec := "fnExactWellFounded", apart := false }
def FnExactWellFoundedSaid : Prop := fnExactWellFoundedRow.holds Try.pinned (OpenSpec.ofChange fnExactWellFoundedSpec)

/-- ITS FALSE NEIGHBOUR: 'it returns false'. Refute it at one input. -/
def fnExactWellFoundedWrong : ChangeSpec := { name := "fnExactWellFounded", fn := fun _ => fun
  | [d] => { results := [.lit (.bool false)], args := [d] }
  | _ => none }
def FnExactWellFoundedWrongFalsely : Prop := fnExactWellFoundedRow.holds Try.pinned (OpenSpec.ofChange fnExactWellFoundedWrong)

/-- 'laws.FnExactRelClosed': WHATEVER THE INPUT: true; the input reads as it did. -/
def fnExactRelClosedSpec : ChangeSpec := { name := "fnExactRelClosed", fn := fun _ => fun
  | [d] => { results := [.lit (.bool true)], args := [d] }
  | _ => none }
def fnExactRelClosedRow : OpenClaim := { program := "ytclapemogefepaa", sum := "50ffa78771af862bb3ca4f1bafaee4221c3f9bf18f57a20b6ab266d6ba6d5620", func := "loop.example/ordinalhydras/laws.FnExactRelClosed", spec := "fnExactRelClosed", apart := false }
def FnExactRelClosedSaid : Prop := fnExactRelClosedRow.holds Try.pinned (OpenSpec.ofChange fnExactRelClosedSpec)

/-- ITS FALSE NEIGHBOUR: 'it returns false'. Refute it at one input. -/
def fnExactRelClosedWrong : ChangeSpec := { name := "fnExactRelClosed", fn := fun _ => fun
  | [d] => { results := [.lit (.bool false)], args := [d] }
  | _ => none }
def FnExactRelClosedWrongFalsely : Prop := fnExactRelClosedRow.holds Try.pinned (OpenSpec.ofChange fnExactRelClosedWrong)

/-- 'laws.FnWalksTo': WHATEVER THE INPUT: true; the input reads as it did. -/
def fnWalksToSpec : ChangeSpec := { name := "fnWalksTo", fn := fun _ => fun
  | [d] => { results := [.lit (.bool true)], args := [d] }
  | _ => none }
def fnWalksToRow : OpenClaim := { program := "ytclapemogefepaa", sum := "50ffa78771af862bb3ca4f1bafaee4221c3f9bf18f57a20b6ab266d6ba6d5620", func := "loop.example/ordinalhydras/laws.FnWalksTo", spec := "fnWalksTo", recurses := true, apart := false }
def FnWalksToSaid : Prop := fnWalksToRow.holds Try.pinned (OpenSpec.ofChange fnWalksToSpec)

/-- ITS FALSE NEIGHBOUR: 'it returns false'. Refute it at one input. -/
def fnWalksToWrong : ChangeSpec := { name := "fnWalksTo", fn := fun _ => fun
  | [d] => { results := [.lit (.bool false)], args := [d] }
  | _ => none }
def FnWalksToWrongFalsely : Prop := fnWalksToRow.holds Try.pinned (OpenSpec.ofChange fnWalksToWrong)

/-- 'laws.FnExactCircleOf': WHATEVER THE INPUT: true; the input reads as it did. -/
def fnExactCircleOfSpec : ChangeSpec := { name := "fnExactCircleOf", fn := fun _ => fun
  | [d] => { results := [.lit (.bool true)], args := [d] }
  | _ => none }
def fnExactCircleOfRow : OpenClaim := { program := "ytclapemogefepaa", sum := "50ffa78771af862bb3ca4f1bafaee4221c3f9bf18f57a20b6ab266d6ba6d5620", func := "loop.example/ordinalhydras/laws.FnExactCircleOf", spec := "fnExactCircleOf", apart := false }
def FnExactCircleOfSaid : Prop := fnExactCircleOfRow.holds Try.pinned (OpenSpec.ofChange fnExactCircleOfSpec)

/-- ITS FALSE NEIGHBOUR: 'it returns false'. Refute it at one input. -/
def fnExactCircleOfWrong : ChangeSpec := { name := "fnExactCircleOf", fn := fun _ => fun
  | [d] => { results := [.lit (.bool false)], args := [d] }
  | _ => none }
def FnExactCircleOfWrongFalsely : Prop := fnExactCircleOfRow.holds Try.pinned (OpenSpec.ofChange fnExactCircleOfWrong)

/-- 'laws.FnRanksOf': WHATEVER THE INPUT: true; the input reads as it did. -/
def fnRanksOfSpec : ChangeSpec := { name := "fnRanksOf", fn := fun _ => fun
  | [d] => { results := [.lit (.bool true)], args := [d] }
  | _ => none }
def fnRanksOfRow : OpenClaim := { program := "ytclapemogefepaa", sum := "50ffa78771af862bb3ca4f1bafaee4221c3f9bf18f57a20b6ab266d6ba6d5620", func := "loop.example/ordinalhydras/laws.FnRanksOf", spec := "fnRanksOf", recurses := true, apart := false }
def FnRanksOfSaid : Prop := fnRanksOfRow.holds Try.pinned (OpenSpec.ofChange fnRanksOfSpec)

/-- ITS FALSE NEIGHBOUR: 'it returns false'. Refute it at one input. -/
def fnRanksOfWrong : ChangeSpec := { name := "fnRanksOf", fn := fun _ => fun
  | [d] => { results := [.lit (.bool false)], args := [d] }
  | _ => none }
def FnRanksOfWrongFalsely : Prop := fnRanksOfRow.holds Try.pinned (OpenSpec.ofChange fnRanksOfWrong)

/- THE SECOND FORM. 'bulk': how many values and letters a reading holds, each counted each time it is reached (what is shared counts as often as it is met; a slice's spare places count too). A statement '..UptoSaid' is the law's where the arguments, and the package variables that the reading takes, are together of bulk at most 1048576: NARROWER than '..Said'. Prove '..Said' where nothing that the law and all that it calls make is longer than what came in: it says more and counts as full. Else prove '..UptoSaid'. A law counts once. -/
mutual
def uptoBulk {H : Type} : DataW H → Nat
  | .lit (.string bytes) => bytes.length + 1
  | .lit _ => 1
  | .nil => 1
  | .ptr d => uptoBulk d + 1
  | .slice elems spare => uptoBulkAll elems + uptoBulkAll spare + 1
  | .agg parts => uptoBulkAll parts + 1
  | .iface _ d => uptoBulk d + 1
  | .map entries => uptoBulkEntries entries + 1
  | .held _ => 1
def uptoBulkAll {H : Type} : List (DataW H) → Nat
  | [] => 0
  | d :: r => uptoBulk d + uptoBulkAll r
def uptoBulkEntries {H : Type} : List (Lit × DataW H) → Nat
  | [] => 0
  | x :: r => uptoBulkEntry x + uptoBulkEntries r
def uptoBulkEntry {H : Type} : Lit × DataW H → Nat
  | (.string bytes, d) => bytes.length + uptoBulk d + 1
  | (_, d) => uptoBulk d + 1
 end
def uptoSmall : (H : Type) → List (DataW H) → Bool := fun _ ds => decide (uptoBulkAll ds ≤ 1048576)
def OpenSpec.upto (s : _root_.Go.ChangeSpec) : _root_.Go.OpenSpec := { _root_.Go.OpenSpec.ofChange s with cond := some uptoSmall }

/-- 'laws.FnExactRelValid', WHERE WHAT IT READS IS OF BULK AT MOST 1048576: true; the input reads as it did. -/
def fnExactRelValidUptoRow : OpenClaim := { program := "ytclapemogefepaa", sum := "50ffa78771af862bb3ca4f1bafaee4221c3f9bf18f57a20b6ab266d6ba6d5620", func := "loop.example/ordinalhydras/laws.FnExactRelValid", spec := "fnExactRelValid", apart := false, narrowed := true }
def FnExactRelValidUptoSaid : Prop := fnExactRelValidUptoRow.holds Try.pinned (OpenSpec.upto fnExactRelValidSpec)

/-- 'laws.FnExactCircleOk', WHERE WHAT IT READS IS OF BULK AT MOST 1048576: true; the input reads as it did. -/
def fnExactCircleOkUptoRow : OpenClaim := { program := "ytclapemogefepaa", sum := "50ffa78771af862bb3ca4f1bafaee4221c3f9bf18f57a20b6ab266d6ba6d5620", func := "loop.example/ordinalhydras/laws.FnExactCircleOk", spec := "fnExactCircleOk", apart := false, narrowed := true }
def FnExactCircleOkUptoSaid : Prop := fnExactCircleOkUptoRow.holds Try.pinned (OpenSpec.upto fnExactCircleOkSpec)

/-- 'laws.FnExactWalksTo', WHERE WHAT IT READS IS OF BULK AT MOST 1048576: true; the input reads as it did. -/
def fnExactWalksToUptoRow : OpenClaim := { program := "ytclapemogefepaa", sum := "50ffa78771af862bb3ca4f1bafaee4221c3f9bf18f57a20b6ab266d6ba6d5620", func := "loop.example/ordinalhydras/laws.FnExactWalksTo", spec := "fnExactWalksTo", apart := false, narrowed := true }
def FnExactWalksToUptoSaid : Prop := fnExactWalksToUptoRow.holds Try.pinned (OpenSpec.upto fnExactWalksToSpec)

/-- 'laws.FnExactRelPairs', WHERE WHAT IT READS IS OF BULK AT MOST 1048576: true; the input reads as it did. -/
def fnExactRelPairsUptoRow : OpenClaim := { program := "ytclapemogefepaa", sum := "50ffa78771af862bb3ca4f1bafaee4221c3f9bf18f57a20b6ab266d6ba6d5620", func := "loop.example/ordinalhydras/laws.FnExactRelPairs", spec := "fnExactRelPairs", apart := false, narrowed := true }
def FnExactRelPairsUptoSaid : Prop := fnExactRelPairsUptoRow.holds Try.pinned (OpenSpec.upto fnExactRelPairsSpec)

/-- 'laws.FnRelValid', WHERE WHAT IT READS IS OF BULK AT MOST 1048576: true; the input reads as it did. -/
def fnRelValidUptoRow : OpenClaim := { program := "ytclapemogefepaa", sum := "50ffa78771af862bb3ca4f1bafaee4221c3f9bf18f57a20b6ab266d6ba6d5620", func := "loop.example/ordinalhydras/laws.FnRelValid", spec := "fnRelValid", recurses := true, apart := false, narrowed := true }
def FnRelValidUptoSaid : Prop := fnRelValidUptoRow.holds Try.pinned (OpenSpec.upto fnRelValidSpec)

/-- 'laws.FnExactRanksOf', WHERE WHAT IT READS IS OF BULK AT MOST 1048576: true; the input reads as it did. -/
def fnExactRanksOfUptoRow : OpenClaim := { program := "ytclapemogefepaa", sum := "50ffa78771af862bb3ca4f1bafaee4221c3f9bf18f57a20b6ab266d6ba6d5620", func := "loop.example/ordinalhydras/laws.FnExactRanksOf", spec := "fnExactRanksOf", apart := false, narrowed := true }
def FnExactRanksOfUptoSaid : Prop := fnExactRanksOfUptoRow.holds Try.pinned (OpenSpec.upto fnExactRanksOfSpec)

/-- 'laws.FnExactWellFounded', WHERE WHAT IT READS IS OF BULK AT MOST 1048576: true; the input reads as it did. -/
def fnExactWellFoundedUptoRow : OpenClaim := { program := "ytclapemogefepaa", sum := "50ffa78771af862bb3ca4f1bafaee4221c3f9bf18f57a20b6ab266d6ba6d5620", func := "loop.example/ordinalhydras/laws.FnExactWellFounded", spec := "fnExactWellFounded", apart := false, narrowed := true }
def FnExactWellFoundedUptoSaid : Prop := fnExactWellFoundedUptoRow.holds Try.pinned (OpenSpec.upto fnExactWellFoundedSpec)

/-- 'laws.FnExactRelClosed', WHERE WHAT IT READS IS OF BULK AT MOST 1048576: true; the input reads as it did. -/
def fnExactRelClosedUptoRow : OpenClaim := { program := "ytclapemogefepaa", sum := "50ffa78771af862bb3ca4f1bafaee4221c3f9bf18f57a20b6ab266d6ba6d5620", func := "loop.example/ordinalhydras/laws.FnExactRelClosed", spec := "fnExactRelClosed", apart := false, narrowed := true }
def FnExactRelClosedUptoSaid : Prop := fnExactRelClosedUptoRow.holds Try.pinned (OpenSpec.upto fnExactRelClosedSpec)

/-- 'laws.FnWalksTo', WHERE WHAT IT READS IS OF BULK AT MOST 1048576: true; the input reads as it did. -/
def fnWalksToUptoRow : OpenClaim := { program := "ytclapemogefepaa", sum := "50ffa78771af862bb3ca4f1bafaee4221c3f9bf18f57a20b6ab266d6ba6d5620", func := "loop.example/ordinalhydras/laws.FnWalksTo", spec := "fnWalksTo", recurses := true, apart := false, narrowed := true }
def FnWalksToUptoSaid : Prop := fnWalksToUptoRow.holds Try.pinned (OpenSpec.upto fnWalksToSpec)

/-- 'laws.FnExactCircleOf', WHERE WHAT IT READS IS OF BULK AT MOST 1048576: true; the input reads as it did. -/
def fnExactCircleOfUptoRow : OpenClaim := { program := "ytclapemogefepaa", sum := "50ffa78771af862bb3ca4f1bafaee4221c3f9bf18f57a20b6ab266d6ba6d5620", func := "loop.example/ordinalhydras/laws.FnExactCircleOf", spec := "fnExactCircleOf", apart := false, narrowed := true }
def FnExactCircleOfUptoSaid : Prop := fnExactCircleOfUptoRow.holds Try.pinned (OpenSpec.upto fnExactCircleOfSpec)

/-- 'laws.FnRanksOf', WHERE WHAT IT READS IS OF BULK AT MOST 1048576: true; the input reads as it did. -/
def fnRanksOfUptoRow : OpenClaim := { program := "ytclapemogefepaa", sum := "50ffa78771af862bb3ca4f1bafaee4221c3f9bf18f57a20b6ab266d6ba6d5620", func := "loop.example/ordinalhydras/laws.FnRanksOf", spec := "fnRanksOf", recurses := true, apart := false, narrowed := true }
def FnRanksOfUptoSaid : Prop := fnRanksOfUptoRow.holds Try.pinned (OpenSpec.upto fnRanksOfSpec)

end Rows
end Go.Proofs.Ytclapemogefepaa

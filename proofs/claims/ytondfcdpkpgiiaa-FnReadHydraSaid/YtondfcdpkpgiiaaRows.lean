/-
  No cell of these rows narrows 'for every input' (looked for: loops, veiled, ifaces, maps, wideKeys, modest, calm, conditions, laid).
  DERIVED. THE GIVEN ROWS OF THIS SEAT. 8 by the template 'for every input the law returns true; each argument reads behind the call as it read before'; 0 by the template 'total and deterministic' (their statements: YtondfcdpkpgiiaaTotals.lean).
  GIVEN WITH THE SEED: the statements are not yours to turn. If you find one false, say at which input.
  Laid BY PROGRAM, IN A SANDBOX (cutbox-rows.mjs): the forced cells as the released guide's own fill.sh prints them over the translation 5b43ed03a5df077c… (all of the seat's roots in one cut). By AI agents, Wed Nov 11 2026. No macro, syntax, notation, axiom, sorry.
-/
import Derived.Test.YtondfcdpkpgiiaaChecked
import GoSem.Claim
import GoSem.ClaimJoined
import GoSem.ClaimMapViews
import Derived.JoinedTies
import Derived.KernelRfl
namespace Go.Proofs.Ytondfcdpkpgiiaa
/- THE CELL 'sum', in the pinned program and in every row, IS THE sha256 OF THE DUMP (.gsa) THAT YtondfcdpkpgiiaaProg.lean LOADS. Nothing in Lean hashes anything: it is a label: what it is worth is what the hold of that sum in a sandbox is worth. -/
noncomputable def Try.pinned : Pinned := { name := "ytondfcdpkpgiiaa", sum := "5b43ed03a5df077ca33d62d8995f4f37c80b73aaf2e722b851861ea42ba63afc", checked := Try.checked }
namespace Rows
def none {H : Type} : Left H := { results := [], args := [] }

/-- 'laws.FnExactHydraValid': WHATEVER THE INPUT: true; the input reads as it did. -/
def fnExactHydraValidSpec : ChangeSpec := { name := "fnExactHydraValid", fn := fun _ => fun
  | [d] => { results := [.lit (.bool true)], args := [d] }
  | _ => none }
def fnExactHydraValidRow : OpenClaim := { program := "ytondfcdpkpgiiaa", sum := "5b43ed03a5df077ca33d62d8995f4f37c80b73aaf2e722b851861ea42ba63afc", func := "loop.example/ordinalhydras/laws.FnExactHydraValid", spec := "fnExactHydraValid", recurses := true, apart := false }
def FnExactHydraValidSaid : Prop := fnExactHydraValidRow.holds Try.pinned (OpenSpec.ofChange fnExactHydraValidSpec)

/-- ITS FALSE NEIGHBOUR: 'it returns false'. Refute it at one input. -/
def fnExactHydraValidWrong : ChangeSpec := { name := "fnExactHydraValid", fn := fun _ => fun
  | [d] => { results := [.lit (.bool false)], args := [d] }
  | _ => none }
def FnExactHydraValidWrongFalsely : Prop := fnExactHydraValidRow.holds Try.pinned (OpenSpec.ofChange fnExactHydraValidWrong)

/-- 'laws.FnExactHydraHeads': WHATEVER THE INPUT: true; the input reads as it did. -/
def fnExactHydraHeadsSpec : ChangeSpec := { name := "fnExactHydraHeads", fn := fun _ => fun
  | [d] => { results := [.lit (.bool true)], args := [d] }
  | _ => none }
def fnExactHydraHeadsRow : OpenClaim := { program := "ytondfcdpkpgiiaa", sum := "5b43ed03a5df077ca33d62d8995f4f37c80b73aaf2e722b851861ea42ba63afc", func := "loop.example/ordinalhydras/laws.FnExactHydraHeads", spec := "fnExactHydraHeads", recurses := true, apart := false }
def FnExactHydraHeadsSaid : Prop := fnExactHydraHeadsRow.holds Try.pinned (OpenSpec.ofChange fnExactHydraHeadsSpec)

/-- ITS FALSE NEIGHBOUR: 'it returns false'. Refute it at one input. -/
def fnExactHydraHeadsWrong : ChangeSpec := { name := "fnExactHydraHeads", fn := fun _ => fun
  | [d] => { results := [.lit (.bool false)], args := [d] }
  | _ => none }
def FnExactHydraHeadsWrongFalsely : Prop := fnExactHydraHeadsRow.holds Try.pinned (OpenSpec.ofChange fnExactHydraHeadsWrong)

/-- 'laws.FnExactHydraText': WHATEVER THE INPUT: true; the input reads as it did. -/
def fnExactHydraTextSpec : ChangeSpec := { name := "fnExactHydraText", fn := fun _ => fun
  | [d] => { results := [.lit (.bool true)], args := [d] }
  | _ => none }
def fnExactHydraTextRow : OpenClaim := { program := "ytondfcdpkpgiiaa", sum := "5b43ed03a5df077ca33d62d8995f4f37c80b73aaf2e722b851861ea42ba63afc", func := "loop.example/ordinalhydras/laws.FnExactHydraText", spec := "fnExactHydraText", recurses := true, apart := false }
def FnExactHydraTextSaid : Prop := fnExactHydraTextRow.holds Try.pinned (OpenSpec.ofChange fnExactHydraTextSpec)

/-- ITS FALSE NEIGHBOUR: 'it returns false'. Refute it at one input. -/
def fnExactHydraTextWrong : ChangeSpec := { name := "fnExactHydraText", fn := fun _ => fun
  | [d] => { results := [.lit (.bool false)], args := [d] }
  | _ => none }
def FnExactHydraTextWrongFalsely : Prop := fnExactHydraTextRow.holds Try.pinned (OpenSpec.ofChange fnExactHydraTextWrong)

/-- 'laws.FnHydraValid': WHATEVER THE INPUT: true; the input reads as it did. -/
def fnHydraValidSpec : ChangeSpec := { name := "fnHydraValid", fn := fun _ => fun
  | [d] => { results := [.lit (.bool true)], args := [d] }
  | _ => none }
def fnHydraValidRow : OpenClaim := { program := "ytondfcdpkpgiiaa", sum := "5b43ed03a5df077ca33d62d8995f4f37c80b73aaf2e722b851861ea42ba63afc", func := "loop.example/ordinalhydras/laws.FnHydraValid", spec := "fnHydraValid", recurses := true, apart := false }
def FnHydraValidSaid : Prop := fnHydraValidRow.holds Try.pinned (OpenSpec.ofChange fnHydraValidSpec)

/-- ITS FALSE NEIGHBOUR: 'it returns false'. Refute it at one input. -/
def fnHydraValidWrong : ChangeSpec := { name := "fnHydraValid", fn := fun _ => fun
  | [d] => { results := [.lit (.bool false)], args := [d] }
  | _ => none }
def FnHydraValidWrongFalsely : Prop := fnHydraValidRow.holds Try.pinned (OpenSpec.ofChange fnHydraValidWrong)

/-- 'laws.FnHydraHeads': WHATEVER THE INPUT: true; the input reads as it did. -/
def fnHydraHeadsSpec : ChangeSpec := { name := "fnHydraHeads", fn := fun _ => fun
  | [d] => { results := [.lit (.bool true)], args := [d] }
  | _ => none }
def fnHydraHeadsRow : OpenClaim := { program := "ytondfcdpkpgiiaa", sum := "5b43ed03a5df077ca33d62d8995f4f37c80b73aaf2e722b851861ea42ba63afc", func := "loop.example/ordinalhydras/laws.FnHydraHeads", spec := "fnHydraHeads", recurses := true, apart := false }
def FnHydraHeadsSaid : Prop := fnHydraHeadsRow.holds Try.pinned (OpenSpec.ofChange fnHydraHeadsSpec)

/-- ITS FALSE NEIGHBOUR: 'it returns false'. Refute it at one input. -/
def fnHydraHeadsWrong : ChangeSpec := { name := "fnHydraHeads", fn := fun _ => fun
  | [d] => { results := [.lit (.bool false)], args := [d] }
  | _ => none }
def FnHydraHeadsWrongFalsely : Prop := fnHydraHeadsRow.holds Try.pinned (OpenSpec.ofChange fnHydraHeadsWrong)

/-- 'laws.FnExactReadHydra': WHATEVER THE INPUT: true; the input reads as it did. -/
def fnExactReadHydraSpec : ChangeSpec := { name := "fnExactReadHydra", fn := fun _ => fun
  | [d] => { results := [.lit (.bool true)], args := [d] }
  | _ => none }
def fnExactReadHydraRow : OpenClaim := { program := "ytondfcdpkpgiiaa", sum := "5b43ed03a5df077ca33d62d8995f4f37c80b73aaf2e722b851861ea42ba63afc", func := "loop.example/ordinalhydras/laws.FnExactReadHydra", spec := "fnExactReadHydra", recurses := true, apart := false }
def FnExactReadHydraSaid : Prop := fnExactReadHydraRow.holds Try.pinned (OpenSpec.ofChange fnExactReadHydraSpec)

/-- ITS FALSE NEIGHBOUR: 'it returns false'. Refute it at one input. -/
def fnExactReadHydraWrong : ChangeSpec := { name := "fnExactReadHydra", fn := fun _ => fun
  | [d] => { results := [.lit (.bool false)], args := [d] }
  | _ => none }
def FnExactReadHydraWrongFalsely : Prop := fnExactReadHydraRow.holds Try.pinned (OpenSpec.ofChange fnExactReadHydraWrong)

/-- 'laws.FnHydraText': WHATEVER THE INPUT: true; the input reads as it did. -/
def fnHydraTextSpec : ChangeSpec := { name := "fnHydraText", fn := fun _ => fun
  | [d] => { results := [.lit (.bool true)], args := [d] }
  | _ => none }
def fnHydraTextRow : OpenClaim := { program := "ytondfcdpkpgiiaa", sum := "5b43ed03a5df077ca33d62d8995f4f37c80b73aaf2e722b851861ea42ba63afc", func := "loop.example/ordinalhydras/laws.FnHydraText", spec := "fnHydraText", recurses := true, apart := false }
def FnHydraTextSaid : Prop := fnHydraTextRow.holds Try.pinned (OpenSpec.ofChange fnHydraTextSpec)

/-- ITS FALSE NEIGHBOUR: 'it returns false'. Refute it at one input. -/
def fnHydraTextWrong : ChangeSpec := { name := "fnHydraText", fn := fun _ => fun
  | [d] => { results := [.lit (.bool false)], args := [d] }
  | _ => none }
def FnHydraTextWrongFalsely : Prop := fnHydraTextRow.holds Try.pinned (OpenSpec.ofChange fnHydraTextWrong)

/-- 'laws.FnReadHydra': WHATEVER THE INPUT: true; the input reads as it did. -/
def fnReadHydraSpec : ChangeSpec := { name := "fnReadHydra", fn := fun _ => fun
  | [d] => { results := [.lit (.bool true)], args := [d] }
  | _ => none }
def fnReadHydraRow : OpenClaim := { program := "ytondfcdpkpgiiaa", sum := "5b43ed03a5df077ca33d62d8995f4f37c80b73aaf2e722b851861ea42ba63afc", func := "loop.example/ordinalhydras/laws.FnReadHydra", spec := "fnReadHydra", recurses := true, apart := false }
def FnReadHydraSaid : Prop := fnReadHydraRow.holds Try.pinned (OpenSpec.ofChange fnReadHydraSpec)

/-- ITS FALSE NEIGHBOUR: 'it returns false'. Refute it at one input. -/
def fnReadHydraWrong : ChangeSpec := { name := "fnReadHydra", fn := fun _ => fun
  | [d] => { results := [.lit (.bool false)], args := [d] }
  | _ => none }
def FnReadHydraWrongFalsely : Prop := fnReadHydraRow.holds Try.pinned (OpenSpec.ofChange fnReadHydraWrong)

/- THE SECOND FORM. 'bulk': how many values and letters a reading holds, each counted each time it is reached (what is shared counts as often as it is met; a slice's spare places count too). A statement '..UptoSaid' is the law's where the arguments, and the package variables that the reading takes, are together of bulk at most 1048576: NARROWER than '..Said'. Prove '..Said' where nothing that the law and all that it calls make is longer than what came in: it says more and counts as full. Else prove '..UptoSaid'. A law counts once. -/
mutual
def uptoBulk {H : Type} : DataW H → Nat
  | .lit (.string bytes) => bytes.length + 1
  | .lit _ => 1
  | .nil => 1
  | .ptr d => uptoBulk d + 1
  | .slice elems spare => uptoBulkAll elems + uptoBulkAll spare + 1
  | .agg parts => uptoBulkAll parts + 1
  | .iface _ d => uptoBulk d + 1
  | .map entries => uptoBulkEntries entries + 1
  | .held _ => 1
def uptoBulkAll {H : Type} : List (DataW H) → Nat
  | [] => 0
  | d :: r => uptoBulk d + uptoBulkAll r
def uptoBulkEntries {H : Type} : List (Lit × DataW H) → Nat
  | [] => 0
  | x :: r => uptoBulkEntry x + uptoBulkEntries r
def uptoBulkEntry {H : Type} : Lit × DataW H → Nat
  | (.string bytes, d) => bytes.length + uptoBulk d + 1
  | (_, d) => uptoBulk d + 1
 end
def uptoSmall : (H : Type) → List (DataW H) → Bool := fun _ ds => decide (uptoBulkAll ds ≤ 1048576)
def OpenSpec.upto (s : _root_.Go.ChangeSpec) : _root_.Go.OpenSpec := { _root_.Go.OpenSpec.ofChange s with cond := some uptoSmall }

/-- 'laws.FnExactHydraValid', WHERE WHAT IT READS IS OF BULK AT MOST 1048576: true; the input reads as it did. -/
def fnExactHydraValidUptoRow : OpenClaim := { program := "ytondfcdpkpgiiaa", sum := "5b43ed03a5df077ca33d62d8995f4f37c80b73aaf2e722b851861ea42ba63afc", func := "loop.example/ordinalhydras/laws.FnExactHydraValid", spec := "fnExactHydraValid", recurses := true, apart := false, narrowed := true }
def FnExactHydraValidUptoSaid : Prop := fnExactHydraValidUptoRow.holds Try.pinned (OpenSpec.upto fnExactHydraValidSpec)

/-- 'laws.FnExactHydraHeads', WHERE WHAT IT READS IS OF BULK AT MOST 1048576: true; the input reads as it did. -/
def fnExactHydraHeadsUptoRow : OpenClaim := { program := "ytondfcdpkpgiiaa", sum := "5b43ed03a5df077ca33d62d8995f4f37c80b73aaf2e722b851861ea42ba63afc", func := "loop.example/ordinalhydras/laws.FnExactHydraHeads", spec := "fnExactHydraHeads", recurses := true, apart := false, narrowed := true }
def FnExactHydraHeadsUptoSaid : Prop := fnExactHydraHeadsUptoRow.holds Try.pinned (OpenSpec.upto fnExactHydraHeadsSpec)

/-- 'laws.FnExactHydraText', WHERE WHAT IT READS IS OF BULK AT MOST 1048576: true; the input reads as it did. -/
def fnExactHydraTextUptoRow : OpenClaim := { program := "ytondfcdpkpgiiaa", sum := "5b43ed03a5df077ca33d62d8995f4f37c80b73aaf2e722b851861ea42ba63afc", func := "loop.example/ordinalhydras/laws.FnExactHydraText", spec := "fnExactHydraText", recurses := true, apart := false, narrowed := true }
def FnExactHydraTextUptoSaid : Prop := fnExactHydraTextUptoRow.holds Try.pinned (OpenSpec.upto fnExactHydraTextSpec)

/-- 'laws.FnHydraValid', WHERE WHAT IT READS IS OF BULK AT MOST 1048576: true; the input reads as it did. -/
def fnHydraValidUptoRow : OpenClaim := { program := "ytondfcdpkpgiiaa", sum := "5b43ed03a5df077ca33d62d8995f4f37c80b73aaf2e722b851861ea42ba63afc", func := "loop.example/ordinalhydras/laws.FnHydraValid", spec := "fnHydraValid", recurses := true, apart := false, narrowed := true }
def FnHydraValidUptoSaid : Prop := fnHydraValidUptoRow.holds Try.pinned (OpenSpec.upto fnHydraValidSpec)

/-- 'laws.FnHydraHeads', WHERE WHAT IT READS IS OF BULK AT MOST 1048576: true; the input reads as it did. -/
def fnHydraHeadsUptoRow : OpenClaim := { program := "ytondfcdpkpgiiaa", sum := "5b43ed03a5df077ca33d62d8995f4f37c80b73aaf2e722b851861ea42ba63afc", func := "loop.example/ordinalhydras/laws.FnHydraHeads", spec := "fnHydraHeads", recurses := true, apart := false, narrowed := true }
def FnHydraHeadsUptoSaid : Prop := fnHydraHeadsUptoRow.holds Try.pinned (OpenSpec.upto fnHydraHeadsSpec)

/-- 'laws.FnExactReadHydra', WHERE WHAT IT READS IS OF BULK AT MOST 1048576: true; the input reads as it did. -/
def fnExactReadHydraUptoRow : OpenClaim := { program := "ytondfcdpkpgiiaa", sum := "5b43ed03a5df077ca33d62d8995f4f37c80b73aaf2e722b851861ea42ba63afc", func := "loop.example/ordinalhydras/laws.FnExactReadHydra", spec := "fnExactReadHydra", recurses := true, apart := false, narrowed := true }
def FnExactReadHydraUptoSaid : Prop := fnExactReadHydraUptoRow.holds Try.pinned (OpenSpec.upto fnExactReadHydraSpec)

/-- 'laws.FnHydraText', WHERE WHAT IT READS IS OF BULK AT MOST 1048576: true; the input reads as it did. -/
def fnHydraTextUptoRow : OpenClaim := { program := "ytondfcdpkpgiiaa", sum := "5b43ed03a5df077ca33d62d8995f4f37c80b73aaf2e722b851861ea42ba63afc", func := "loop.example/ordinalhydras/laws.FnHydraText", spec := "fnHydraText", recurses := true, apart := false, narrowed := true }
def FnHydraTextUptoSaid : Prop := fnHydraTextUptoRow.holds Try.pinned (OpenSpec.upto fnHydraTextSpec)

/-- 'laws.FnReadHydra', WHERE WHAT IT READS IS OF BULK AT MOST 1048576: true; the input reads as it did. -/
def fnReadHydraUptoRow : OpenClaim := { program := "ytondfcdpkpgiiaa", sum := "5b43ed03a5df077ca33d62d8995f4f37c80b73aaf2e722b851861ea42ba63afc", func := "loop.example/ordinalhydras/laws.FnReadHydra", spec := "fnReadHydra", recurses := true, apart := false, narrowed := true }
def FnReadHydraUptoSaid : Prop := fnReadHydraUptoRow.holds Try.pinned (OpenSpec.upto fnReadHydraSpec)

end Rows
end Go.Proofs.Ytondfcdpkpgiiaa

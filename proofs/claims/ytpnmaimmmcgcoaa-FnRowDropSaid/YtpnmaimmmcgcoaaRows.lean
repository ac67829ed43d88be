/-
  No cell of these rows narrows 'for every input' (looked for: loops, veiled, ifaces, maps, wideKeys, modest, calm, conditions, laid).
  DERIVED. THE GIVEN ROWS OF THIS SEAT. 10 by the template 'for every input the law returns true; each argument reads behind the call as it read before'; 0 by the template 'total and deterministic' (their statements: YtpnmaimmmcgcoaaTotals.lean).
  GIVEN WITH THE SEED: the statements are not yours to turn. If you find one false, say at which input.
  Laid BY PROGRAM, IN A SANDBOX (cutbox-rows.mjs): the forced cells as the released guide's own fill.sh prints them over the translation 1a03671a55a0dc5c… (all of the seat's roots in one cut). By AI agents, Wed Nov 11 2026. No macro, syntax, notation, axiom, sorry.
-/
import Derived.Test.YtpnmaimmmcgcoaaChecked
import GoSem.Claim
import GoSem.ClaimJoined
import GoSem.ClaimMapViews
import Derived.JoinedTies
import Derived.KernelRfl
namespace Go.Proofs.Ytpnmaimmmcgcoaa
/- THE CELL 'sum', in the pinned program and in every row, IS THE sha256 OF THE DUMP (.gsa) THAT YtpnmaimmmcgcoaaProg.lean LOADS. Nothing in Lean hashes anything: it is a label: what it is worth is what the hold of that sum in a sandbox is worth. -/
noncomputable def Try.pinned : Pinned := { name := "ytpnmaimmmcgcoaa", sum := "1a03671a55a0dc5c33b32899bebd459bae944a0b14319d7aef9da556b557f02e", checked := Try.checked }
namespace Rows
def none {H : Type} : Left H := { results := [], args := [] }

/-- 'laws.FnExactRowValid': WHATEVER THE INPUT: true; the input reads as it did. -/
def fnExactRowValidSpec : ChangeSpec := { name := "fnExactRowValid", fn := fun _ => fun
  | [d] => { results := [.lit (.bool true)], args := [d] }
  | _ => none }
def fnExactRowValidRow : OpenClaim := { program := "ytpnmaimmmcgcoaa", sum := "1a03671a55a0dc5c33b32899bebd459bae944a0b14319d7aef9da556b557f02e", func := "loop.example/ordinalhydras/laws.FnExactRowValid", spec := "fnExactRowValid", apart := false }
def FnExactRowValidSaid : Prop := fnExactRowValidRow.holds Try.pinned (OpenSpec.ofChange fnExactRowValidSpec)

/-- ITS FALSE NEIGHBOUR: 'it returns false'. Refute it at one input. -/
def fnExactRowValidWrong : ChangeSpec := { name := "fnExactRowValid", fn := fun _ => fun
  | [d] => { results := [.lit (.bool false)], args := [d] }
  | _ => none }
def FnExactRowValidWrongFalsely : Prop := fnExactRowValidRow.holds Try.pinned (OpenSpec.ofChange fnExactRowValidWrong)

/-- 'laws.FnExactRowMost': WHATEVER THE INPUT: true; the input reads as it did. -/
def fnExactRowMostSpec : ChangeSpec := { name := "fnExactRowMost", fn := fun _ => fun
  | [d1, d2] => { results := [.lit (.bool true)], args := [d1, d2] }
  | _ => none }
def fnExactRowMostRow : OpenClaim := { program := "ytpnmaimmmcgcoaa", sum := "1a03671a55a0dc5c33b32899bebd459bae944a0b14319d7aef9da556b557f02e", func := "loop.example/ordinalhydras/laws.FnExactRowMost", spec := "fnExactRowMost", apart := false }
def FnExactRowMostSaid : Prop := fnExactRowMostRow.holds Try.pinned (OpenSpec.ofChange fnExactRowMostSpec)

/-- ITS FALSE NEIGHBOUR: 'it returns false'. Refute it at one input. -/
def fnExactRowMostWrong : ChangeSpec := { name := "fnExactRowMost", fn := fun _ => fun
  | [d1, d2] => { results := [.lit (.bool false)], args := [d1, d2] }
  | _ => none }
def FnExactRowMostWrongFalsely : Prop := fnExactRowMostRow.holds Try.pinned (OpenSpec.ofChange fnExactRowMostWrong)

/-- 'laws.FnExactRowDrop': WHATEVER THE INPUT: true; the input reads as it did. -/
def fnExactRowDropSpec : ChangeSpec := { name := "fnExactRowDrop", fn := fun _ => fun
  | [d1, d2, d3] => { results := [.lit (.bool true)], args := [d1, d2, d3] }
  | _ => none }
def fnExactRowDropRow : OpenClaim := { program := "ytpnmaimmmcgcoaa", sum := "1a03671a55a0dc5c33b32899bebd459bae944a0b14319d7aef9da556b557f02e", func := "loop.example/ordinalhydras/laws.FnExactRowDrop", spec := "fnExactRowDrop", apart := false }
def FnExactRowDropSaid : Prop := fnExactRowDropRow.holds Try.pinned (OpenSpec.ofChange fnExactRowDropSpec)

/-- ITS FALSE NEIGHBOUR: 'it returns false'. Refute it at one input. -/
def fnExactRowDropWrong : ChangeSpec := { name := "fnExactRowDrop", fn := fun _ => fun
  | [d1, d2, d3] => { results := [.lit (.bool false)], args := [d1, d2, d3] }
  | _ => none }
def FnExactRowDropWrongFalsely : Prop := fnExactRowDropRow.holds Try.pinned (OpenSpec.ofChange fnExactRowDropWrong)

/-- 'laws.FnRowValid': WHATEVER THE INPUT: true; the input reads as it did. -/
def fnRowValidSpec : ChangeSpec := { name := "fnRowValid", fn := fun _ => fun
  | [d] => { results := [.lit (.bool true)], args := [d] }
  | _ => none }
def fnRowValidRow : OpenClaim := { program := "ytpnmaimmmcgcoaa", sum := "1a03671a55a0dc5c33b32899bebd459bae944a0b14319d7aef9da556b557f02e", func := "loop.example/ordinalhydras/laws.FnRowValid", spec := "fnRowValid", recurses := true, apart := false }
def FnRowValidSaid : Prop := fnRowValidRow.holds Try.pinned (OpenSpec.ofChange fnRowValidSpec)

/-- ITS FALSE NEIGHBOUR: 'it returns false'. Refute it at one input. -/
def fnRowValidWrong : ChangeSpec := { name := "fnRowValid", fn := fun _ => fun
  | [d] => { results := [.lit (.bool false)], args := [d] }
  | _ => none }
def FnRowValidWrongFalsely : Prop := fnRowValidRow.holds Try.pinned (OpenSpec.ofChange fnRowValidWrong)

/-- 'laws.FnExactRowCompare': WHATEVER THE INPUT: true; the input reads as it did. -/
def fnExactRowCompareSpec : ChangeSpec := { name := "fnExactRowCompare", fn := fun _ => fun
  | [d1, d2] => { results := [.lit (.bool true)], args := [d1, d2] }
  | _ => none }
def fnExactRowCompareRow : OpenClaim := { program := "ytpnmaimmmcgcoaa", sum := "1a03671a55a0dc5c33b32899bebd459bae944a0b14319d7aef9da556b557f02e", func := "loop.example/ordinalhydras/laws.FnExactRowCompare", spec := "fnExactRowCompare", apart := false }
def FnExactRowCompareSaid : Prop := fnExactRowCompareRow.holds Try.pinned (OpenSpec.ofChange fnExactRowCompareSpec)

/-- ITS FALSE NEIGHBOUR: 'it returns false'. Refute it at one input. -/
def fnExactRowCompareWrong : ChangeSpec := { name := "fnExactRowCompare", fn := fun _ => fun
  | [d1, d2] => { results := [.lit (.bool false)], args := [d1, d2] }
  | _ => none }
def FnExactRowCompareWrongFalsely : Prop := fnExactRowCompareRow.holds Try.pinned (OpenSpec.ofChange fnExactRowCompareWrong)

/-- 'laws.FnExactRowOrd': WHATEVER THE INPUT: true; the input reads as it did. -/
def fnExactRowOrdSpec : ChangeSpec := { name := "fnExactRowOrd", fn := fun _ => fun
  | [d] => { results := [.lit (.bool true)], args := [d] }
  | _ => none }
def fnExactRowOrdRow : OpenClaim := { program := "ytpnmaimmmcgcoaa", sum := "1a03671a55a0dc5c33b32899bebd459bae944a0b14319d7aef9da556b557f02e", func := "loop.example/ordinalhydras/laws.FnExactRowOrd", spec := "fnExactRowOrd", recurses := true, apart := false }
def FnExactRowOrdSaid : Prop := fnExactRowOrdRow.holds Try.pinned (OpenSpec.ofChange fnExactRowOrdSpec)

/-- ITS FALSE NEIGHBOUR: 'it returns false'. Refute it at one input. -/
def fnExactRowOrdWrong : ChangeSpec := { name := "fnExactRowOrd", fn := fun _ => fun
  | [d] => { results := [.lit (.bool false)], args := [d] }
  | _ => none }
def FnExactRowOrdWrongFalsely : Prop := fnExactRowOrdRow.holds Try.pinned (OpenSpec.ofChange fnExactRowOrdWrong)

/-- 'laws.FnRowMost': WHATEVER THE INPUT: true; the input reads as it did. -/
def fnRowMostSpec : ChangeSpec := { name := "fnRowMost", fn := fun _ => fun
  | [d] => { results := [.lit (.bool true)], args := [d] }
  | _ => none }
def fnRowMostRow : OpenClaim := { program := "ytpnmaimmmcgcoaa", sum := "1a03671a55a0dc5c33b32899bebd459bae944a0b14319d7aef9da556b557f02e", func := "loop.example/ordinalhydras/laws.FnRowMost", spec := "fnRowMost", recurses := true, apart := false }
def FnRowMostSaid : Prop := fnRowMostRow.holds Try.pinned (OpenSpec.ofChange fnRowMostSpec)

/-- ITS FALSE NEIGHBOUR: 'it returns false'. Refute it at one input. -/
def fnRowMostWrong : ChangeSpec := { name := "fnRowMost", fn := fun _ => fun
  | [d] => { results := [.lit (.bool false)], args := [d] }
  | _ => none }
def FnRowMostWrongFalsely : Prop := fnRowMostRow.holds Try.pinned (OpenSpec.ofChange fnRowMostWrong)

/-- 'laws.FnRowCompare': WHATEVER THE INPUT: true; the input reads as it did. -/
def fnRowCompareSpec : ChangeSpec := { name := "fnRowCompare", fn := fun _ => fun
  | [d] => { results := [.lit (.bool true)], args := [d] }
  | _ => none }
def fnRowCompareRow : OpenClaim := { program := "ytpnmaimmmcgcoaa", sum := "1a03671a55a0dc5c33b32899bebd459bae944a0b14319d7aef9da556b557f02e", func := "loop.example/ordinalhydras/laws.FnRowCompare", spec := "fnRowCompare", recurses := true, apart := false }
def FnRowCompareSaid : Prop := fnRowCompareRow.holds Try.pinned (OpenSpec.ofChange fnRowCompareSpec)

/-- ITS FALSE NEIGHBOUR: 'it returns false'. Refute it at one input. -/
def fnRowCompareWrong : ChangeSpec := { name := "fnRowCompare", fn := fun _ => fun
  | [d] => { results := [.lit (.bool false)], args := [d] }
  | _ => none }
def FnRowCompareWrongFalsely : Prop := fnRowCompareRow.holds Try.pinned (OpenSpec.ofChange fnRowCompareWrong)

/-- 'laws.FnRowDrop': WHATEVER THE INPUT: true; the input reads as it did. -/
def fnRowDropSpec : ChangeSpec := { name := "fnRowDrop", fn := fun _ => fun
  | [d] => { results := [.lit (.bool true)], args := [d] }
  | _ => none }
def fnRowDropRow : OpenClaim := { program := "ytpnmaimmmcgcoaa", sum := "1a03671a55a0dc5c33b32899bebd459bae944a0b14319d7aef9da556b557f02e", func := "loop.example/ordinalhydras/laws.FnRowDrop", spec := "fnRowDrop", recurses := true, apart := false }
def FnRowDropSaid : Prop := fnRowDropRow.holds Try.pinned (OpenSpec.ofChange fnRowDropSpec)

/-- ITS FALSE NEIGHBOUR: 'it returns false'. Refute it at one input. -/
def fnRowDropWrong : ChangeSpec := { name := "fnRowDrop", fn := fun _ => fun
  | [d] => { results := [.lit (.bool false)], args := [d] }
  | _ => none }
def FnRowDropWrongFalsely : Prop := fnRowDropRow.holds Try.pinned (OpenSpec.ofChange fnRowDropWrong)

/-- 'laws.FnRowOrd': WHATEVER THE INPUT: true; the input reads as it did. -/
def fnRowOrdSpec : ChangeSpec := { name := "fnRowOrd", fn := fun _ => fun
  | [d] => { results := [.lit (.bool true)], args := [d] }
  | _ => none }
def fnRowOrdRow : OpenClaim := { program := "ytpnmaimmmcgcoaa", sum := "1a03671a55a0dc5c33b32899bebd459bae944a0b14319d7aef9da556b557f02e", func := "loop.example/ordinalhydras/laws.FnRowOrd", spec := "fnRowOrd", recurses := true, apart := false }
def FnRowOrdSaid : Prop := fnRowOrdRow.holds Try.pinned (OpenSpec.ofChange fnRowOrdSpec)

/-- ITS FALSE NEIGHBOUR: 'it returns false'. Refute it at one input. -/
def fnRowOrdWrong : ChangeSpec := { name := "fnRowOrd", fn := fun _ => fun
  | [d] => { results := [.lit (.bool false)], args := [d] }
  | _ => none }
def FnRowOrdWrongFalsely : Prop := fnRowOrdRow.holds Try.pinned (OpenSpec.ofChange fnRowOrdWrong)

/- THE SECOND FORM. 'bulk': how many values and letters a reading holds, each counted each time it is reached (what is shared counts as often as it is met; a slice's spare places count too). A statement '..UptoSaid' is the law's where the arguments, and the package variables that the reading takes, are together of bulk at most 1048576: NARROWER than '..Said'. Prove '..Said' where nothing that the law and all that it calls make is longer than what came in: it says more and counts as full. Else prove '..UptoSaid'. A law counts once. -/
mutual
def uptoBulk {H : Type} : DataW H → Nat
  | .lit (.string bytes) => bytes.length + 1
  | .lit _ => 1
  | .nil => 1
  | .ptr d => uptoBulk d + 1
  | .slice elems spare => uptoBulkAll elems + uptoBulkAll spare + 1
  | .agg parts => uptoBulkAll parts + 1
  | .iface _ d => uptoBulk d + 1
  | .map entries => uptoBulkEntries entries + 1
  | .held _ => 1
def uptoBulkAll {H : Type} : List (DataW H) → Nat
  | [] => 0
  | d :: r => uptoBulk d + uptoBulkAll r
def uptoBulkEntries {H : Type} : List (Lit × DataW H) → Nat
  | [] => 0
  | x :: r => uptoBulkEntry x + uptoBulkEntries r
def uptoBulkEntry {H : Type} : Lit × DataW H → Nat
  | (.string bytes, d) => bytes.length + uptoBulk d + 1
  | (_, d) => uptoBulk d + 1
 end
def uptoSmall : (H : Type) → List (DataW H) → Bool := fun _ ds => decide (uptoBulkAll ds ≤ 1048576)
def OpenSpec.upto (s : _root_.Go.ChangeSpec) : _root_.Go.OpenSpec := { _root_.Go.OpenSpec.ofChange s with cond := some uptoSmall }

/-- 'laws.FnExactRowValid', WHERE WHAT IT READS IS OF BULK AT MOST 1048576: true; the input reads as it did. -/
def fnExactRowValidUptoRow : OpenClaim := { program := "ytpnmaimmmcgcoaa", sum := "1a03671a55a0dc5c33b32899bebd459bae944a0b14319d7aef9da556b557f02e", func := "loop.example/ordinalhydras/laws.FnExactRowValid", spec := "fnExactRowValid", apart := false, narrowed := true }
def FnExactRowValidUptoSaid : Prop := fnExactRowValidUptoRow.holds Try.pinned (OpenSpec.upto fnExactRowValidSpec)

/-- 'laws.FnExactRowMost', WHERE WHAT IT READS IS OF BULK AT MOST 1048576: true; the input reads as it did. -/
def fnExactRowMostUptoRow : OpenClaim := { program := "ytpnmaimmmcgcoaa", sum := "1a03671a55a0dc5c33b32899bebd459bae944a0b14319d7aef9da556b557f02e", func := "loop.example/ordinalhydras/laws.FnExactRowMost", spec := "fnExactRowMost", apart := false, narrowed := true }
def FnExactRowMostUptoSaid : Prop := fnExactRowMostUptoRow.holds Try.pinned (OpenSpec.upto fnExactRowMostSpec)

/-- 'laws.FnExactRowDrop', WHERE WHAT IT READS IS OF BULK AT MOST 1048576: true; the input reads as it did. -/
def fnExactRowDropUptoRow : OpenClaim := { program := "ytpnmaimmmcgcoaa", sum := "1a03671a55a0dc5c33b32899bebd459bae944a0b14319d7aef9da556b557f02e", func := "loop.example/ordinalhydras/laws.FnExactRowDrop", spec := "fnExactRowDrop", apart := false, narrowed := true }
def FnExactRowDropUptoSaid : Prop := fnExactRowDropUptoRow.holds Try.pinned (OpenSpec.upto fnExactRowDropSpec)

/-- 'laws.FnRowValid', WHERE WHAT IT READS IS OF BULK AT MOST 1048576: true; the input reads as it did. -/
def fnRowValidUptoRow : OpenClaim := { program := "ytpnmaimmmcgcoaa", sum := "1a03671a55a0dc5c33b32899bebd459bae944a0b14319d7aef9da556b557f02e", func := "loop.example/ordinalhydras/laws.FnRowValid", spec := "fnRowValid", recurses := true, apart := false, narrowed := true }
def FnRowValidUptoSaid : Prop := fnRowValidUptoRow.holds Try.pinned (OpenSpec.upto fnRowValidSpec)

/-- 'laws.FnExactRowCompare', WHERE WHAT IT READS IS OF BULK AT MOST 1048576: true; the input reads as it did. -/
def fnExactRowCompareUptoRow : OpenClaim := { program := "ytpnmaimmmcgcoaa", sum := "1a03671a55a0dc5c33b32899bebd459bae944a0b14319d7aef9da556b557f02e", func := "loop.example/ordinalhydras/laws.FnExactRowCompare", spec := "fnExactRowCompare", apart := false, narrowed := true }
def FnExactRowCompareUptoSaid : Prop := fnExactRowCompareUptoRow.holds Try.pinned (OpenSpec.upto fnExactRowCompareSpec)

/-- 'laws.FnExactRowOrd', WHERE WHAT IT READS IS OF BULK AT MOST 1048576: true; the input reads as it did. -/
def fnExactRowOrdUptoRow : OpenClaim := { program := "ytpnmaimmmcgcoaa", sum := "1a03671a55a0dc5c33b32899bebd459bae944a0b14319d7aef9da556b557f02e", func := "loop.example/ordinalhydras/laws.FnExactRowOrd", spec := "fnExactRowOrd", recurses := true, apart := false, narrowed := true }
def FnExactRowOrdUptoSaid : Prop := fnExactRowOrdUptoRow.holds Try.pinned (OpenSpec.upto fnExactRowOrdSpec)

/-- 'laws.FnRowMost', WHERE WHAT IT READS IS OF BULK AT MOST 1048576: true; the input reads as it did. -/
def fnRowMostUptoRow : OpenClaim := { program := "ytpnmaimmmcgcoaa", sum := "1a03671a55a0dc5c33b32899bebd459bae944a0b14319d7aef9da556b557f02e", func := "loop.example/ordinalhydras/laws.FnRowMost", spec := "fnRowMost", recurses := true, apart := false, narrowed := true }
def FnRowMostUptoSaid : Prop := fnRowMostUptoRow.holds Try.pinned (OpenSpec.upto fnRowMostSpec)

/-- 'laws.FnRowCompare', WHERE WHAT IT READS IS OF BULK AT MOST 1048576: true; the input reads as it did. -/
def fnRowCompareUptoRow : OpenClaim := { program := "ytpnmaimmmcgcoaa", sum := "1a03671a55a0dc5c33b32899bebd459bae944a0b14319d7aef9da556b557f02e", func := "loop.example/ordinalhydras/laws.FnRowCompare", spec := "fnRowCompare", recurses := true, apart := false, narrowed := true }
def FnRowCompareUptoSaid : Prop := fnRowCompareUptoRow.holds Try.pinned (OpenSpec.upto fnRowCompareSpec)

/-- 'laws.FnRowDrop', WHERE WHAT IT READS IS OF BULK AT MOST 1048576: true; the input reads as it did. -/
def fnRowDropUptoRow : OpenClaim := { program := "ytpnmaimmmcgcoaa", sum := "1a03671a55a0dc5c33b32899bebd459bae944a0b14319d7aef9da556b557f02e", func := "loop.example/ordinalhydras/laws.FnRowDrop", spec := "fnRowDrop", recurses := true, apart := false, narrowed := true }
def FnRowDropUptoSaid : Prop := fnRowDropUptoRow.holds Try.pinned (OpenSpec.upto fnRowDropSpec)

/-- 'laws.FnRowOrd', WHERE WHAT IT READS IS OF BULK AT MOST 1048576: true; the input reads as it did. -/
def fnRowOrdUptoRow : OpenClaim := { program := "ytpnmaimmmcgcoaa", sum := "1a03671a55a0dc5c33b32899bebd459bae944a0b14319d7aef9da556b557f02e", func := "loop.example/ordinalhydras/laws.FnRowOrd", spec := "fnRowOrd", recurses := true, apart := false, narrowed := true }
def FnRowOrdUptoSaid : Prop := fnRowOrdUptoRow.holds Try.pinned (OpenSpec.upto fnRowOrdSpec)

end Rows
end Go.Proofs.Ytpnmaimmmcgcoaa

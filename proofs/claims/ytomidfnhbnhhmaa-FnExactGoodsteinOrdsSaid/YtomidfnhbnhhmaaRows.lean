/-
  No cell of these rows narrows 'for every input' (looked for: loops, veiled, ifaces, maps, wideKeys, modest, calm, conditions, laid).
  DERIVED. THE GIVEN ROWS OF THIS SEAT. 5 by the template 'for every input the law returns true; each argument reads behind the call as it read before'; 0 by the template 'total and deterministic' (their statements: YtomidfnhbnhhmaaTotals.lean).
  GIVEN WITH THE SEED: the statements are not yours to turn. If you find one false, say at which input.
  Laid BY PROGRAM, IN A SANDBOX (cutbox-rows.mjs): the forced cells as the released guide's own fill.sh prints them over the translation 43dbbb80bd12e081… (all of the seat's roots in one cut). By AI agents, Wed Nov 11 2026. No macro, syntax, notation, axiom, sorry.
-/
import Derived.Test.YtomidfnhbnhhmaaChecked
import GoSem.Claim
import GoSem.ClaimJoined
import GoSem.ClaimMapViews
import Derived.JoinedTies
import Derived.KernelRfl
namespace Go.Proofs.Ytomidfnhbnhhmaa
/- THE CELL 'sum', in the pinned program and in every row, IS THE sha256 OF THE DUMP (.gsa) THAT YtomidfnhbnhhmaaProg.lean LOADS. Nothing in Lean hashes anything: it is a label: what it is worth is what the hold of that sum in a sandbox is worth. -/
noncomputable def Try.pinned : Pinned := { name := "ytomidfnhbnhhmaa", sum := "43dbbb80bd12e081f37fa404017f8728cf8abc96361cc72f722c6f863420bb14", checked := Try.checked }
namespace Rows
def none {H : Type} : Left H := { results := [], args := [] }

/-- 'laws.FnGoodsteinEnd': WHATEVER THE INPUT: true; the input reads as it did. -/
def fnGoodsteinEndSpec : ChangeSpec := { name := "fnGoodsteinEnd", fn := fun _ => fun
  | [d] => { results := [.lit (.bool true)], args := [d] }
  | _ => none }
def fnGoodsteinEndRow : OpenClaim := { program := "ytomidfnhbnhhmaa", sum := "43dbbb80bd12e081f37fa404017f8728cf8abc96361cc72f722c6f863420bb14", func := "loop.example/ordinalhydras/laws.FnGoodsteinEnd", spec := "fnGoodsteinEnd", recurses := true, apart := false }
def FnGoodsteinEndSaid : Prop := fnGoodsteinEndRow.holds Try.pinned (OpenSpec.ofChange fnGoodsteinEndSpec)

/-- ITS FALSE NEIGHBOUR: 'it returns false'. Refute it at one input. -/
def fnGoodsteinEndWrong : ChangeSpec := { name := "fnGoodsteinEnd", fn := fun _ => fun
  | [d] => { results := [.lit (.bool false)], args := [d] }
  | _ => none }
def FnGoodsteinEndWrongFalsely : Prop := fnGoodsteinEndRow.holds Try.pinned (OpenSpec.ofChange fnGoodsteinEndWrong)

/-- 'laws.FnBaseOk': WHATEVER THE INPUT: true; the input reads as it did. -/
def fnBaseOkSpec : ChangeSpec := { name := "fnBaseOk", fn := fun _ => fun
  | [d] => { results := [.lit (.bool true)], args := [d] }
  | _ => none }
def fnBaseOkRow : OpenClaim := { program := "ytomidfnhbnhhmaa", sum := "43dbbb80bd12e081f37fa404017f8728cf8abc96361cc72f722c6f863420bb14", func := "loop.example/ordinalhydras/laws.FnBaseOk", spec := "fnBaseOk", recurses := true, apart := false }
def FnBaseOkSaid : Prop := fnBaseOkRow.holds Try.pinned (OpenSpec.ofChange fnBaseOkSpec)

/-- ITS FALSE NEIGHBOUR: 'it returns false'. Refute it at one input. -/
def fnBaseOkWrong : ChangeSpec := { name := "fnBaseOk", fn := fun _ => fun
  | [d] => { results := [.lit (.bool false)], args := [d] }
  | _ => none }
def FnBaseOkWrongFalsely : Prop := fnBaseOkRow.holds Try.pinned (OpenSpec.ofChange fnBaseOkWrong)

/-- 'laws.FnGoodsteinRun': WHATEVER THE INPUT: true; the input reads as it did. -/
def fnGoodsteinRunSpec : ChangeSpec := { name := "fnGoodsteinRun", fn := fun _ => fun
  | [d] => { results := [.lit (.bool true)], args := [d] }
  | _ => none }
def fnGoodsteinRunRow : OpenClaim := { program := "ytomidfnhbnhhmaa", sum := "43dbbb80bd12e081f37fa404017f8728cf8abc96361cc72f722c6f863420bb14", func := "loop.example/ordinalhydras/laws.FnGoodsteinRun", spec := "fnGoodsteinRun", recurses := true, apart := false }
def FnGoodsteinRunSaid : Prop := fnGoodsteinRunRow.holds Try.pinned (OpenSpec.ofChange fnGoodsteinRunSpec)

/-- ITS FALSE NEIGHBOUR: 'it returns false'. Refute it at one input. -/
def fnGoodsteinRunWrong : ChangeSpec := { name := "fnGoodsteinRun", fn := fun _ => fun
  | [d] => { results := [.lit (.bool false)], args := [d] }
  | _ => none }
def FnGoodsteinRunWrongFalsely : Prop := fnGoodsteinRunRow.holds Try.pinned (OpenSpec.ofChange fnGoodsteinRunWrong)

/-- 'laws.FnExactGoodsteinOrds': WHATEVER THE INPUT: true; the input reads as it did. -/
def fnExactGoodsteinOrdsSpec : ChangeSpec := { name := "fnExactGoodsteinOrds", fn := fun _ => fun
  | [d] => { results := [.lit (.bool true)], args := [d] }
  | _ => none }
def fnExactGoodsteinOrdsRow : OpenClaim := { program := "ytomidfnhbnhhmaa", sum := "43dbbb80bd12e081f37fa404017f8728cf8abc96361cc72f722c6f863420bb14", func := "loop.example/ordinalhydras/laws.FnExactGoodsteinOrds", spec := "fnExactGoodsteinOrds", recurses := true, apart := false }
def FnExactGoodsteinOrdsSaid : Prop := fnExactGoodsteinOrdsRow.holds Try.pinned (OpenSpec.ofChange fnExactGoodsteinOrdsSpec)

/-- ITS FALSE NEIGHBOUR: 'it returns false'. Refute it at one input. -/
def fnExactGoodsteinOrdsWrong : ChangeSpec := { name := "fnExactGoodsteinOrds", fn := fun _ => fun
  | [d] => { results := [.lit (.bool false)], args := [d] }
  | _ => none }
def FnExactGoodsteinOrdsWrongFalsely : Prop := fnExactGoodsteinOrdsRow.holds Try.pinned (OpenSpec.ofChange fnExactGoodsteinOrdsWrong)

/-- 'laws.FnGoodsteinOrds': WHATEVER THE INPUT: true; the input reads as it did. -/
def fnGoodsteinOrdsSpec : ChangeSpec := { name := "fnGoodsteinOrds", fn := fun _ => fun
  | [d] => { results := [.lit (.bool true)], args := [d] }
  | _ => none }
def fnGoodsteinOrdsRow : OpenClaim := { program := "ytomidfnhbnhhmaa", sum := "43dbbb80bd12e081f37fa404017f8728cf8abc96361cc72f722c6f863420bb14", func := "loop.example/ordinalhydras/laws.FnGoodsteinOrds", spec := "fnGoodsteinOrds", recurses := true, apart := false }
def FnGoodsteinOrdsSaid : Prop := fnGoodsteinOrdsRow.holds Try.pinned (OpenSpec.ofChange fnGoodsteinOrdsSpec)

/-- ITS FALSE NEIGHBOUR: 'it returns false'. Refute it at one input. -/
def fnGoodsteinOrdsWrong : ChangeSpec := { name := "fnGoodsteinOrds", fn := fun _ => fun
  | [d] => { results := [.lit (.bool false)], args := [d] }
  | _ => none }
def FnGoodsteinOrdsWrongFalsely : Prop := fnGoodsteinOrdsRow.holds Try.pinned (OpenSpec.ofChange fnGoodsteinOrdsWrong)

/- THE SECOND FORM. 'bulk': how many values and letters a reading holds, each counted each time it is reached (what is shared counts as often as it is met; a slice's spare places count too). A statement '..UptoSaid' is the law's where the arguments, and the package variables that the reading takes, are together of bulk at most 1048576: NARROWER than '..Said'. Prove '..Said' where nothing that the law and all that it calls make is longer than what came in: it says more and counts as full. Else prove '..UptoSaid'. A law counts once. -/
mutual
def uptoBulk {H : Type} : DataW H → Nat
  | .lit (.string bytes) => bytes.length + 1
  | .lit _ => 1
  | .nil => 1
  | .ptr d => uptoBulk d + 1
  | .slice elems spare => uptoBulkAll elems + uptoBulkAll spare + 1
  | .agg parts => uptoBulkAll parts + 1
  | .iface _ d => uptoBulk d + 1
  | .map entries => uptoBulkEntries entries + 1
  | .held _ => 1
def uptoBulkAll {H : Type} : List (DataW H) → Nat
  | [] => 0
  | d :: r => uptoBulk d + uptoBulkAll r
def uptoBulkEntries {H : Type} : List (Lit × DataW H) → Nat
  | [] => 0
  | x :: r => uptoBulkEntry x + uptoBulkEntries r
def uptoBulkEntry {H : Type} : Lit × DataW H → Nat
  | (.string bytes, d) => bytes.length + uptoBulk d + 1
  | (_, d) => uptoBulk d + 1
 end
def uptoSmall : (H : Type) → List (DataW H) → Bool := fun _ ds => decide (uptoBulkAll ds ≤ 1048576)
def OpenSpec.upto (s : _root_.Go.ChangeSpec) : _root_.Go.OpenSpec := { _root_.Go.OpenSpec.ofChange s with cond := some uptoSmall }

/-- 'laws.FnGoodsteinEnd', WHERE WHAT IT READS IS OF BULK AT MOST 1048576: true; the input reads as it did. -/
def fnGoodsteinEndUptoRow : OpenClaim := { program := "ytomidfnhbnhhmaa", sum := "43dbbb80bd12e081f37fa404017f8728cf8abc96361cc72f722c6f863420bb14", func := "loop.example/ordinalhydras/laws.FnGoodsteinEnd", spec := "fnGoodsteinEnd", recurses := true, apart := false, narrowed := true }
def FnGoodsteinEndUptoSaid : Prop := fnGoodsteinEndUptoRow.holds Try.pinned (OpenSpec.upto fnGoodsteinEndSpec)

/-- 'laws.FnBaseOk', WHERE WHAT IT READS IS OF BULK AT MOST 1048576: true; the input reads as it did. -/
def fnBaseOkUptoRow : OpenClaim := { program := "ytomidfnhbnhhmaa", sum := "43dbbb80bd12e081f37fa404017f8728cf8abc96361cc72f722c6f863420bb14", func := "loop.example/ordinalhydras/laws.FnBaseOk", spec := "fnBaseOk", recurses := true, apart := false, narrowed := true }
def FnBaseOkUptoSaid : Prop := fnBaseOkUptoRow.holds Try.pinned (OpenSpec.upto fnBaseOkSpec)

/-- 'laws.FnGoodsteinRun', WHERE WHAT IT READS IS OF BULK AT MOST 1048576: true; the input reads as it did. -/
def fnGoodsteinRunUptoRow : OpenClaim := { program := "ytomidfnhbnhhmaa", sum := "43dbbb80bd12e081f37fa404017f8728cf8abc96361cc72f722c6f863420bb14", func := "loop.example/ordinalhydras/laws.FnGoodsteinRun", spec := "fnGoodsteinRun", recurses := true, apart := false, narrowed := true }
def FnGoodsteinRunUptoSaid : Prop := fnGoodsteinRunUptoRow.holds Try.pinned (OpenSpec.upto fnGoodsteinRunSpec)

/-- 'laws.FnExactGoodsteinOrds', WHERE WHAT IT READS IS OF BULK AT MOST 1048576: true; the input reads as it did. -/
def fnExactGoodsteinOrdsUptoRow : OpenClaim := { program := "ytomidfnhbnhhmaa", sum := "43dbbb80bd12e081f37fa404017f8728cf8abc96361cc72f722c6f863420bb14", func := "loop.example/ordinalhydras/laws.FnExactGoodsteinOrds", spec := "fnExactGoodsteinOrds", recurses := true, apart := false, narrowed := true }
def FnExactGoodsteinOrdsUptoSaid : Prop := fnExactGoodsteinOrdsUptoRow.holds Try.pinned (OpenSpec.upto fnExactGoodsteinOrdsSpec)

/-- 'laws.FnGoodsteinOrds', WHERE WHAT IT READS IS OF BULK AT MOST 1048576: true; the input reads as it did. -/
def fnGoodsteinOrdsUptoRow : OpenClaim := { program := "ytomidfnhbnhhmaa", sum := "43dbbb80bd12e081f37fa404017f8728cf8abc96361cc72f722c6f863420bb14", func := "loop.example/ordinalhydras/laws.FnGoodsteinOrds", spec := "fnGoodsteinOrds", recurses := true, apart := false, narrowed := true }
def FnGoodsteinOrdsUptoSaid : Prop := fnGoodsteinOrdsUptoRow.holds Try.pinned (OpenSpec.upto fnGoodsteinOrdsSpec)

end Rows
end Go.Proofs.Ytomidfnhbnhhmaa

/-
  No cell of these rows narrows 'for every input' (looked for: loops, veiled, ifaces, maps, wideKeys, modest, calm, conditions, laid).
  DERIVED. THE GIVEN ROWS OF THIS SEAT. 6 by the template 'for every input the law returns true; each argument reads behind the call as it read before'; 0 by the template 'total and deterministic' (their statements: YtmidgjmlgjjobaaTotals.lean).
  GIVEN WITH THE SEED: the statements are not yours to turn. If you find one false, say at which input.
  Laid BY PROGRAM, IN A SANDBOX (cutbox-rows.mjs): the forced cells as the released guide's own fill.sh prints them over the translation e4503b823b87949d… (all of the seat's roots in one cut). By AI agents, Wed Nov 11 2026. No macro, syntax, notation, axiom, sorry.
-/
import Derived.Test.YtmidgjmlgjjobaaChecked
import GoSem.Claim
import GoSem.ClaimJoined
import GoSem.ClaimMapViews
import Derived.JoinedTies
import Derived.KernelRfl
namespace Go.Proofs.Ytmidgjmlgjjobaa
/- THE CELL 'sum', in the pinned program and in every row, IS THE sha256 OF THE DUMP (.gsa) THAT YtmidgjmlgjjobaaProg.lean LOADS. Nothing in Lean hashes anything: it is a label: what it is worth is what the hold of that sum in a sandbox is worth. -/
noncomputable def Try.pinned : Pinned := { name := "ytmidgjmlgjjobaa", sum := "e4503b823b87949debddc1e0f5898c99cb0aeb494766f36533023831e000627b", checked := Try.checked }
namespace Rows
def none {H : Type} : Left H := { results := [], args := [] }

/-- 'laws.FnExactHydraCut': WHATEVER THE INPUT: true; the input reads as it did. -/
def fnExactHydraCutSpec : ChangeSpec := { name := "fnExactHydraCut", fn := fun _ => fun
  | [d1, d2, d3] => { results := [.lit (.bool true)], args := [d1, d2, d3] }
  | _ => none }
def fnExactHydraCutRow : OpenClaim := { program := "ytmidgjmlgjjobaa", sum := "e4503b823b87949debddc1e0f5898c99cb0aeb494766f36533023831e000627b", func := "loop.example/ordinalhydras/laws.FnExactHydraCut", spec := "fnExactHydraCut", recurses := true, apart := false }
def FnExactHydraCutSaid : Prop := fnExactHydraCutRow.holds Try.pinned (OpenSpec.ofChange fnExactHydraCutSpec)

/-- ITS FALSE NEIGHBOUR: 'it returns false'. Refute it at one input. -/
def fnExactHydraCutWrong : ChangeSpec := { name := "fnExactHydraCut", fn := fun _ => fun
  | [d1, d2, d3] => { results := [.lit (.bool false)], args := [d1, d2, d3] }
  | _ => none }
def FnExactHydraCutWrongFalsely : Prop := fnExactHydraCutRow.holds Try.pinned (OpenSpec.ofChange fnExactHydraCutWrong)

/-- 'laws.FnExactHydraFight': WHATEVER THE INPUT: true; the input reads as it did. -/
def fnExactHydraFightSpec : ChangeSpec := { name := "fnExactHydraFight", fn := fun _ => fun
  | [d1, d2] => { results := [.lit (.bool true)], args := [d1, d2] }
  | _ => none }
def fnExactHydraFightRow : OpenClaim := { program := "ytmidgjmlgjjobaa", sum := "e4503b823b87949debddc1e0f5898c99cb0aeb494766f36533023831e000627b", func := "loop.example/ordinalhydras/laws.FnExactHydraFight", spec := "fnExactHydraFight", recurses := true, apart := false }
def FnExactHydraFightSaid : Prop := fnExactHydraFightRow.holds Try.pinned (OpenSpec.ofChange fnExactHydraFightSpec)

/-- ITS FALSE NEIGHBOUR: 'it returns false'. Refute it at one input. -/
def fnExactHydraFightWrong : ChangeSpec := { name := "fnExactHydraFight", fn := fun _ => fun
  | [d1, d2] => { results := [.lit (.bool false)], args := [d1, d2] }
  | _ => none }
def FnExactHydraFightWrongFalsely : Prop := fnExactHydraFightRow.holds Try.pinned (OpenSpec.ofChange fnExactHydraFightWrong)

/-- 'laws.FnExactHydraRun': WHATEVER THE INPUT: true; the input reads as it did. -/
def fnExactHydraRunSpec : ChangeSpec := { name := "fnExactHydraRun", fn := fun _ => fun
  | [d1, d2, d3] => { results := [.lit (.bool true)], args := [d1, d2, d3] }
  | _ => none }
def fnExactHydraRunRow : OpenClaim := { program := "ytmidgjmlgjjobaa", sum := "e4503b823b87949debddc1e0f5898c99cb0aeb494766f36533023831e000627b", func := "loop.example/ordinalhydras/laws.FnExactHydraRun", spec := "fnExactHydraRun", recurses := true, apart := false }
def FnExactHydraRunSaid : Prop := fnExactHydraRunRow.holds Try.pinned (OpenSpec.ofChange fnExactHydraRunSpec)

/-- ITS FALSE NEIGHBOUR: 'it returns false'. Refute it at one input. -/
def fnExactHydraRunWrong : ChangeSpec := { name := "fnExactHydraRun", fn := fun _ => fun
  | [d1, d2, d3] => { results := [.lit (.bool false)], args := [d1, d2, d3] }
  | _ => none }
def FnExactHydraRunWrongFalsely : Prop := fnExactHydraRunRow.holds Try.pinned (OpenSpec.ofChange fnExactHydraRunWrong)

/-- 'laws.FnHydraRun': WHATEVER THE INPUT: true; the input reads as it did. -/
def fnHydraRunSpec : ChangeSpec := { name := "fnHydraRun", fn := fun _ => fun
  | [d] => { results := [.lit (.bool true)], args := [d] }
  | _ => none }
def fnHydraRunRow : OpenClaim := { program := "ytmidgjmlgjjobaa", sum := "e4503b823b87949debddc1e0f5898c99cb0aeb494766f36533023831e000627b", func := "loop.example/ordinalhydras/laws.FnHydraRun", spec := "fnHydraRun", recurses := true, apart := false }
def FnHydraRunSaid : Prop := fnHydraRunRow.holds Try.pinned (OpenSpec.ofChange fnHydraRunSpec)

/-- ITS FALSE NEIGHBOUR: 'it returns false'. Refute it at one input. -/
def fnHydraRunWrong : ChangeSpec := { name := "fnHydraRun", fn := fun _ => fun
  | [d] => { results := [.lit (.bool false)], args := [d] }
  | _ => none }
def FnHydraRunWrongFalsely : Prop := fnHydraRunRow.holds Try.pinned (OpenSpec.ofChange fnHydraRunWrong)

/-- 'laws.FnHydraCut': WHATEVER THE INPUT: true; the input reads as it did. -/
def fnHydraCutSpec : ChangeSpec := { name := "fnHydraCut", fn := fun _ => fun
  | [d] => { results := [.lit (.bool true)], args := [d] }
  | _ => none }
def fnHydraCutRow : OpenClaim := { program := "ytmidgjmlgjjobaa", sum := "e4503b823b87949debddc1e0f5898c99cb0aeb494766f36533023831e000627b", func := "loop.example/ordinalhydras/laws.FnHydraCut", spec := "fnHydraCut", recurses := true, apart := false }
def FnHydraCutSaid : Prop := fnHydraCutRow.holds Try.pinned (OpenSpec.ofChange fnHydraCutSpec)

/-- ITS FALSE NEIGHBOUR: 'it returns false'. Refute it at one input. -/
def fnHydraCutWrong : ChangeSpec := { name := "fnHydraCut", fn := fun _ => fun
  | [d] => { results := [.lit (.bool false)], args := [d] }
  | _ => none }
def FnHydraCutWrongFalsely : Prop := fnHydraCutRow.holds Try.pinned (OpenSpec.ofChange fnHydraCutWrong)

/-- 'laws.FnHydraFight': WHATEVER THE INPUT: true; the input reads as it did. -/
def fnHydraFightSpec : ChangeSpec := { name := "fnHydraFight", fn := fun _ => fun
  | [d] => { results := [.lit (.bool true)], args := [d] }
  | _ => none }
def fnHydraFightRow : OpenClaim := { program := "ytmidgjmlgjjobaa", sum := "e4503b823b87949debddc1e0f5898c99cb0aeb494766f36533023831e000627b", func := "loop.example/ordinalhydras/laws.FnHydraFight", spec := "fnHydraFight", unfollowed := true, recurses := true, apart := false }
def FnHydraFightSaid : Prop := fnHydraFightRow.holds Try.pinned (OpenSpec.ofChange fnHydraFightSpec)

/-- ITS FALSE NEIGHBOUR: 'it returns false'. Refute it at one input. -/
def fnHydraFightWrong : ChangeSpec := { name := "fnHydraFight", fn := fun _ => fun
  | [d] => { results := [.lit (.bool false)], args := [d] }
  | _ => none }
def FnHydraFightWrongFalsely : Prop := fnHydraFightRow.holds Try.pinned (OpenSpec.ofChange fnHydraFightWrong)

/- THE SECOND FORM. 'bulk': how many values and letters a reading holds, each counted each time it is reached (what is shared counts as often as it is met; a slice's spare places count too). A statement '..UptoSaid' is the law's where the arguments, and the package variables that the reading takes, are together of bulk at most 1048576: NARROWER than '..Said'. Prove '..Said' where nothing that the law and all that it calls make is longer than what came in: it says more and counts as full. Else prove '..UptoSaid'. A law counts once. -/
mutual
def uptoBulk {H : Type} : DataW H → Nat
  | .lit (.string bytes) => bytes.length + 1
  | .lit _ => 1
  | .nil => 1
  | .ptr d => uptoBulk d + 1
  | .slice elems spare => uptoBulkAll elems + uptoBulkAll spare + 1
  | .agg parts => uptoBulkAll parts + 1
  | .iface _ d => uptoBulk d + 1
  | .map entries => uptoBulkEntries entries + 1
  | .held _ => 1
def uptoBulkAll {H : Type} : List (DataW H) → Nat
  | [] => 0
  | d :: r => uptoBulk d + uptoBulkAll r
def uptoBulkEntries {H : Type} : List (Lit × DataW H) → Nat
  | [] => 0
  | x :: r => uptoBulkEntry x + uptoBulkEntries r
def uptoBulkEntry {H : Type} : Lit × DataW H → Nat
  | (.string bytes, d) => bytes.length + uptoBulk d + 1
  | (_, d) => uptoBulk d + 1
 end
def uptoSmall : (H : Type) → List (DataW H) → Bool := fun _ ds => decide (uptoBulkAll ds ≤ 1048576)
def OpenSpec.upto (s : _root_.Go.ChangeSpec) : _root_.Go.OpenSpec := { _root_.Go.OpenSpec.ofChange s with cond := some uptoSmall }

/-- 'laws.FnExactHydraCut', WHERE WHAT IT READS IS OF BULK AT MOST 1048576: true; the input reads as it did. -/
def fnExactHydraCutUptoRow : OpenClaim := { program := "ytmidgjmlgjjobaa", sum := "e4503b823b87949debddc1e0f5898c99cb0aeb494766f36533023831e000627b", func := "loop.example/ordinalhydras/laws.FnExactHydraCut", spec := "fnExactHydraCut", recurses := true, apart := false, narrowed := true }
def FnExactHydraCutUptoSaid : Prop := fnExactHydraCutUptoRow.holds Try.pinned (OpenSpec.upto fnExactHydraCutSpec)

/-- 'laws.FnExactHydraFight', WHERE WHAT IT READS IS OF BULK AT MOST 1048576: true; the input reads as it did. -/
def fnExactHydraFightUptoRow : OpenClaim := { program := "ytmidgjmlgjjobaa", sum := "e4503b823b87949debddc1e0f5898c99cb0aeb494766f36533023831e000627b", func := "loop.example/ordinalhydras/laws.FnExactHydraFight", spec := "fnExactHydraFight", recurses := true, apart := false, narrowed := true }
def FnExactHydraFightUptoSaid : Prop := fnExactHydraFightUptoRow.holds Try.pinned (OpenSpec.upto fnExactHydraFightSpec)

/-- 'laws.FnExactHydraRun', WHERE WHAT IT READS IS OF BULK AT MOST 1048576: true; the input reads as it did. -/
def fnExactHydraRunUptoRow : OpenClaim := { program := "ytmidgjmlgjjobaa", sum := "e4503b823b87949debddc1e0f5898c99cb0aeb494766f36533023831e000627b", func := "loop.example/ordinalhydras/laws.FnExactHydraRun", spec := "fnExactHydraRun", recurses := true, apart := false, narrowed := true }
def FnExactHydraRunUptoSaid : Prop := fnExactHydraRunUptoRow.holds Try.pinned (OpenSpec.upto fnExactHydraRunSpec)

/-- 'laws.FnHydraRun', WHERE WHAT IT READS IS OF BULK AT MOST 1048576: true; the input reads as it did. -/
def fnHydraRunUptoRow : OpenClaim := { program := "ytmidgjmlgjjobaa", sum := "e4503b823b87949debddc1e0f5898c99cb0aeb494766f36533023831e000627b", func := "loop.example/ordinalhydras/laws.FnHydraRun", spec := "fnHydraRun", recurses := true, apart := false, narrowed := true }
def FnHydraRunUptoSaid : Prop := fnHydraRunUptoRow.holds Try.pinned (OpenSpec.upto fnHydraRunSpec)

/-- 'laws.FnHydraCut', WHERE WHAT IT READS IS OF BULK AT MOST 1048576: true; the input reads as it did. -/
def fnHydraCutUptoRow : OpenClaim := { program := "ytmidgjmlgjjobaa", sum := "e4503b823b87949debddc1e0f5898c99cb0aeb494766f36533023831e000627b", func := "loop.example/ordinalhydras/laws.FnHydraCut", spec := "fnHydraCut", recurses := true, apart := false, narrowed := true }
def FnHydraCutUptoSaid : Prop := fnHydraCutUptoRow.holds Try.pinned (OpenSpec.upto fnHydraCutSpec)

/-- 'laws.FnHydraFight', WHERE WHAT IT READS IS OF BULK AT MOST 1048576: true; the input reads as it did. -/
def fnHydraFightUptoRow : OpenClaim := { program := "ytmidgjmlgjjobaa", sum := "e4503b823b87949debddc1e0f5898c99cb0aeb494766f36533023831e000627b", func := "loop.example/ordinalhydras/laws.FnHydraFight", spec := "fnHydraFight", unfollowed := true, recurses := true, apart := false, narrowed := true }
def FnHydraFightUptoSaid : Prop := fnHydraFightUptoRow.holds Try.pinned (OpenSpec.upto fnHydraFightSpec)

end Rows
end Go.Proofs.Ytmidgjmlgjjobaa

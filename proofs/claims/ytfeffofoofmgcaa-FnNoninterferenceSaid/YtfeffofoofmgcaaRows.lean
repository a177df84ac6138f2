/-
  No cell of these rows narrows 'for every input' (looked for: loops, veiled, ifaces, maps, wideKeys, modest, calm, conditions, laid).
  DERIVED. THE GIVEN ROWS OF THIS SEAT. 18 by the template 'for every input the law returns true; each argument reads behind the call as it read before'; 0 by the template 'total and deterministic' (their statements: YtfeffofoofmgcaaTotals.lean).
  GIVEN WITH THE SEED: the statements are not yours to turn. If you find one false, say at which input.
  Laid BY PROGRAM, IN A SANDBOX (cutbox-rows.mjs): the forced cells as the released guide's own fill.sh prints them over the translation aa162a2a0fb7a930… (all of the seat's roots in one cut). By AI agents, Wed Nov 11 2026. No macro, syntax, notation, axiom, sorry.
-/
import Derived.Test.YtfeffofoofmgcaaChecked
import GoSem.Claim
import GoSem.ClaimJoined
import GoSem.ClaimMapViews
import Derived.JoinedTies
import Derived.KernelRfl
namespace Go.Proofs.Ytfeffofoofmgcaa
/- THE CELL 'sum', in the pinned program and in every row, IS THE sha256 OF THE DUMP (.gsa) THAT YtfeffofoofmgcaaProg.lean LOADS. Nothing in Lean hashes anything: it is a label: what it is worth is what the hold of that sum in a sandbox is worth. -/
noncomputable def Try.pinned : Pinned := { name := "ytfeffofoofmgcaa", sum := "aa162a2a0fb7a930a7cd2306febc377fd24d9e872c52eee1aeb1863b6a4395cf", checked := Try.checked }
namespace Rows
def none {H : Type} : Left H := { results := [], args := [] }

/-- 'laws.FnExactPartiesOf': WHATEVER THE INPUT: true; the input reads as it did. -/
def fnExactPartiesOfSpec : ChangeSpec := { name := "fnExactPartiesOf", fn := fun _ => fun
  | [d] => { results := [.lit (.bool true)], args := [d] }
  | _ => none }
def fnExactPartiesOfRow : OpenClaim := { program := "ytfeffofoofmgcaa", sum := "aa162a2a0fb7a930a7cd2306febc377fd24d9e872c52eee1aeb1863b6a4395cf", func := "loop.example/g00979/laws.FnExactPartiesOf", spec := "fnExactPartiesOf", apart := false }
def FnExactPartiesOfSaid : Prop := fnExactPartiesOfRow.holds Try.pinned (OpenSpec.ofChange fnExactPartiesOfSpec)

/-- ITS FALSE NEIGHBOUR: 'it returns false'. Refute it at one input. -/
def fnExactPartiesOfWrong : ChangeSpec := { name := "fnExactPartiesOf", fn := fun _ => fun
  | [d] => { results := [.lit (.bool false)], args := [d] }
  | _ => none }
def FnExactPartiesOfWrongFalsely : Prop := fnExactPartiesOfRow.holds Try.pinned (OpenSpec.ofChange fnExactPartiesOfWrong)

/-- 'laws.FnExactLoopDepth': WHATEVER THE INPUT: true; the input reads as it did. -/
def fnExactLoopDepthSpec : ChangeSpec := { name := "fnExactLoopDepth", fn := fun _ => fun
  | [d] => { results := [.lit (.bool true)], args := [d] }
  | _ => none }
def fnExactLoopDepthRow : OpenClaim := { program := "ytfeffofoofmgcaa", sum := "aa162a2a0fb7a930a7cd2306febc377fd24d9e872c52eee1aeb1863b6a4395cf", func := "loop.example/g00979/laws.FnExactLoopDepth", spec := "fnExactLoopDepth", apart := false }
def FnExactLoopDepthSaid : Prop := fnExactLoopDepthRow.holds Try.pinned (OpenSpec.ofChange fnExactLoopDepthSpec)

/-- ITS FALSE NEIGHBOUR: 'it returns false'. Refute it at one input. -/
def fnExactLoopDepthWrong : ChangeSpec := { name := "fnExactLoopDepth", fn := fun _ => fun
  | [d] => { results := [.lit (.bool false)], args := [d] }
  | _ => none }
def FnExactLoopDepthWrongFalsely : Prop := fnExactLoopDepthRow.holds Try.pinned (OpenSpec.ofChange fnExactLoopDepthWrong)

/-- 'laws.FnExactUnrolledSize': WHATEVER THE INPUT: true; the input reads as it did. -/
def fnExactUnrolledSizeSpec : ChangeSpec := { name := "fnExactUnrolledSize", fn := fun _ => fun
  | [d] => { results := [.lit (.bool true)], args := [d] }
  | _ => none }
def fnExactUnrolledSizeRow : OpenClaim := { program := "ytfeffofoofmgcaa", sum := "aa162a2a0fb7a930a7cd2306febc377fd24d9e872c52eee1aeb1863b6a4395cf", func := "loop.example/g00979/laws.FnExactUnrolledSize", spec := "fnExactUnrolledSize", recurses := true, apart := false }
def FnExactUnrolledSizeSaid : Prop := fnExactUnrolledSizeRow.holds Try.pinned (OpenSpec.ofChange fnExactUnrolledSizeSpec)

/-- ITS FALSE NEIGHBOUR: 'it returns false'. Refute it at one input. -/
def fnExactUnrolledSizeWrong : ChangeSpec := { name := "fnExactUnrolledSize", fn := fun _ => fun
  | [d] => { results := [.lit (.bool false)], args := [d] }
  | _ => none }
def FnExactUnrolledSizeWrongFalsely : Prop := fnExactUnrolledSizeRow.holds Try.pinned (OpenSpec.ofChange fnExactUnrolledSizeWrong)

/-- 'laws.FnExactFlowStep': WHATEVER THE INPUT: true; the input reads as it did. -/
def fnExactFlowStepSpec : ChangeSpec := { name := "fnExactFlowStep", fn := fun _ => fun
  | [d1, d2] => { results := [.lit (.bool true)], args := [d1, d2] }
  | _ => none }
def fnExactFlowStepRow : OpenClaim := { program := "ytfeffofoofmgcaa", sum := "aa162a2a0fb7a930a7cd2306febc377fd24d9e872c52eee1aeb1863b6a4395cf", func := "loop.example/g00979/laws.FnExactFlowStep", spec := "fnExactFlowStep", apart := false }
def FnExactFlowStepSaid : Prop := fnExactFlowStepRow.holds Try.pinned (OpenSpec.ofChange fnExactFlowStepSpec)

/-- ITS FALSE NEIGHBOUR: 'it returns false'. Refute it at one input. -/
def fnExactFlowStepWrong : ChangeSpec := { name := "fnExactFlowStep", fn := fun _ => fun
  | [d1, d2] => { results := [.lit (.bool false)], args := [d1, d2] }
  | _ => none }
def FnExactFlowStepWrongFalsely : Prop := fnExactFlowStepRow.holds Try.pinned (OpenSpec.ofChange fnExactFlowStepWrong)

/-- 'laws.FnExactOutputCount': WHATEVER THE INPUT: true; the input reads as it did. -/
def fnExactOutputCountSpec : ChangeSpec := { name := "fnExactOutputCount", fn := fun _ => fun
  | [d] => { results := [.lit (.bool true)], args := [d] }
  | _ => none }
def fnExactOutputCountRow : OpenClaim := { program := "ytfeffofoofmgcaa", sum := "aa162a2a0fb7a930a7cd2306febc377fd24d9e872c52eee1aeb1863b6a4395cf", func := "loop.example/g00979/laws.FnExactOutputCount", spec := "fnExactOutputCount", recurses := true, apart := false }
def FnExactOutputCountSaid : Prop := fnExactOutputCountRow.holds Try.pinned (OpenSpec.ofChange fnExactOutputCountSpec)

/-- ITS FALSE NEIGHBOUR: 'it returns false'. Refute it at one input. -/
def fnExactOutputCountWrong : ChangeSpec := { name := "fnExactOutputCount", fn := fun _ => fun
  | [d] => { results := [.lit (.bool false)], args := [d] }
  | _ => none }
def FnExactOutputCountWrongFalsely : Prop := fnExactOutputCountRow.holds Try.pinned (OpenSpec.ofChange fnExactOutputCountWrong)

/-- 'laws.FnExactUnroll': WHATEVER THE INPUT: true; the input reads as it did. -/
def fnExactUnrollSpec : ChangeSpec := { name := "fnExactUnroll", fn := fun _ => fun
  | [d] => { results := [.lit (.bool true)], args := [d] }
  | _ => none }
def fnExactUnrollRow : OpenClaim := { program := "ytfeffofoofmgcaa", sum := "aa162a2a0fb7a930a7cd2306febc377fd24d9e872c52eee1aeb1863b6a4395cf", func := "loop.example/g00979/laws.FnExactUnroll", spec := "fnExactUnroll", recurses := true, apart := false }
def FnExactUnrollSaid : Prop := fnExactUnrollRow.holds Try.pinned (OpenSpec.ofChange fnExactUnrollSpec)

/-- ITS FALSE NEIGHBOUR: 'it returns false'. Refute it at one input. -/
def fnExactUnrollWrong : ChangeSpec := { name := "fnExactUnroll", fn := fun _ => fun
  | [d] => { results := [.lit (.bool false)], args := [d] }
  | _ => none }
def FnExactUnrollWrongFalsely : Prop := fnExactUnrollRow.holds Try.pinned (OpenSpec.ofChange fnExactUnrollWrong)

/-- 'laws.FnExactFlowOk': WHATEVER THE INPUT: true; the input reads as it did. -/
def fnExactFlowOkSpec : ChangeSpec := { name := "fnExactFlowOk", fn := fun _ => fun
  | [d1, d2] => { results := [.lit (.bool true)], args := [d1, d2] }
  | _ => none }
def fnExactFlowOkRow : OpenClaim := { program := "ytfeffofoofmgcaa", sum := "aa162a2a0fb7a930a7cd2306febc377fd24d9e872c52eee1aeb1863b6a4395cf", func := "loop.example/g00979/laws.FnExactFlowOk", spec := "fnExactFlowOk", recurses := true, apart := false }
def FnExactFlowOkSaid : Prop := fnExactFlowOkRow.holds Try.pinned (OpenSpec.ofChange fnExactFlowOkSpec)

/-- ITS FALSE NEIGHBOUR: 'it returns false'. Refute it at one input. -/
def fnExactFlowOkWrong : ChangeSpec := { name := "fnExactFlowOk", fn := fun _ => fun
  | [d1, d2] => { results := [.lit (.bool false)], args := [d1, d2] }
  | _ => none }
def FnExactFlowOkWrongFalsely : Prop := fnExactFlowOkRow.holds Try.pinned (OpenSpec.ofChange fnExactFlowOkWrong)

/-- 'laws.FnExactOutputDeps': WHATEVER THE INPUT: true; the input reads as it did. -/
def fnExactOutputDepsSpec : ChangeSpec := { name := "fnExactOutputDeps", fn := fun _ => fun
  | [d] => { results := [.lit (.bool true)], args := [d] }
  | _ => none }
def fnExactOutputDepsRow : OpenClaim := { program := "ytfeffofoofmgcaa", sum := "aa162a2a0fb7a930a7cd2306febc377fd24d9e872c52eee1aeb1863b6a4395cf", func := "loop.example/g00979/laws.FnExactOutputDeps", spec := "fnExactOutputDeps", recurses := true, apart := false }
def FnExactOutputDepsSaid : Prop := fnExactOutputDepsRow.holds Try.pinned (OpenSpec.ofChange fnExactOutputDepsSpec)

/-- ITS FALSE NEIGHBOUR: 'it returns false'. Refute it at one input. -/
def fnExactOutputDepsWrong : ChangeSpec := { name := "fnExactOutputDeps", fn := fun _ => fun
  | [d] => { results := [.lit (.bool false)], args := [d] }
  | _ => none }
def FnExactOutputDepsWrongFalsely : Prop := fnExactOutputDepsRow.holds Try.pinned (OpenSpec.ofChange fnExactOutputDepsWrong)

/-- 'laws.FnExactStepState': WHATEVER THE INPUT: true; the input reads as it did. -/
def fnExactStepStateSpec : ChangeSpec := { name := "fnExactStepState", fn := fun _ => fun
  | [d1, d2, d3] => { results := [.lit (.bool true)], args := [d1, d2, d3] }
  | _ => none }
def fnExactStepStateRow : OpenClaim := { program := "ytfeffofoofmgcaa", sum := "aa162a2a0fb7a930a7cd2306febc377fd24d9e872c52eee1aeb1863b6a4395cf", func := "loop.example/g00979/laws.FnExactStepState", spec := "fnExactStepState", apart := false }
def FnExactStepStateSaid : Prop := fnExactStepStateRow.holds Try.pinned (OpenSpec.ofChange fnExactStepStateSpec)

/-- ITS FALSE NEIGHBOUR: 'it returns false'. Refute it at one input. -/
def fnExactStepStateWrong : ChangeSpec := { name := "fnExactStepState", fn := fun _ => fun
  | [d1, d2, d3] => { results := [.lit (.bool false)], args := [d1, d2, d3] }
  | _ => none }
def FnExactStepStateWrongFalsely : Prop := fnExactStepStateRow.holds Try.pinned (OpenSpec.ofChange fnExactStepStateWrong)

/-- 'laws.FnExactRunProgram': WHATEVER THE INPUT: true; the input reads as it did. -/
def fnExactRunProgramSpec : ChangeSpec := { name := "fnExactRunProgram", fn := fun _ => fun
  | [d1, d2] => { results := [.lit (.bool true)], args := [d1, d2] }
  | _ => none }
def fnExactRunProgramRow : OpenClaim := { program := "ytfeffofoofmgcaa", sum := "aa162a2a0fb7a930a7cd2306febc377fd24d9e872c52eee1aeb1863b6a4395cf", func := "loop.example/g00979/laws.FnExactRunProgram", spec := "fnExactRunProgram", recurses := true, apart := false }
def FnExactRunProgramSaid : Prop := fnExactRunProgramRow.holds Try.pinned (OpenSpec.ofChange fnExactRunProgramSpec)

/-- ITS FALSE NEIGHBOUR: 'it returns false'. Refute it at one input. -/
def fnExactRunProgramWrong : ChangeSpec := { name := "fnExactRunProgram", fn := fun _ => fun
  | [d1, d2] => { results := [.lit (.bool false)], args := [d1, d2] }
  | _ => none }
def FnExactRunProgramWrongFalsely : Prop := fnExactRunProgramRow.holds Try.pinned (OpenSpec.ofChange fnExactRunProgramWrong)

/-- 'laws.FnStatements': WHATEVER THE INPUT: true; the input reads as it did. -/
def fnStatementsSpec : ChangeSpec := { name := "fnStatements", fn := fun _ => fun
  | [d] => { results := [.lit (.bool true)], args := [d] }
  | _ => none }
def fnStatementsRow : OpenClaim := { program := "ytfeffofoofmgcaa", sum := "aa162a2a0fb7a930a7cd2306febc377fd24d9e872c52eee1aeb1863b6a4395cf", func := "loop.example/g00979/laws.FnStatements", spec := "fnStatements", recurses := true, apart := false }
def FnStatementsSaid : Prop := fnStatementsRow.holds Try.pinned (OpenSpec.ofChange fnStatementsSpec)

/-- ITS FALSE NEIGHBOUR: 'it returns false'. Refute it at one input. -/
def fnStatementsWrong : ChangeSpec := { name := "fnStatements", fn := fun _ => fun
  | [d] => { results := [.lit (.bool false)], args := [d] }
  | _ => none }
def FnStatementsWrongFalsely : Prop := fnStatementsRow.holds Try.pinned (OpenSpec.ofChange fnStatementsWrong)

/-- 'laws.FnTwice': WHATEVER THE INPUT: true; the input reads as it did. -/
def fnTwiceSpec : ChangeSpec := { name := "fnTwice", fn := fun _ => fun
  | [d] => { results := [.lit (.bool true)], args := [d] }
  | _ => none }
def fnTwiceRow : OpenClaim := { program := "ytfeffofoofmgcaa", sum := "aa162a2a0fb7a930a7cd2306febc377fd24d9e872c52eee1aeb1863b6a4395cf", func := "loop.example/g00979/laws.FnTwice", spec := "fnTwice", recurses := true, apart := false }
def FnTwiceSaid : Prop := fnTwiceRow.holds Try.pinned (OpenSpec.ofChange fnTwiceSpec)

/-- ITS FALSE NEIGHBOUR: 'it returns false'. Refute it at one input. -/
def fnTwiceWrong : ChangeSpec := { name := "fnTwice", fn := fun _ => fun
  | [d] => { results := [.lit (.bool false)], args := [d] }
  | _ => none }
def FnTwiceWrongFalsely : Prop := fnTwiceRow.holds Try.pinned (OpenSpec.ofChange fnTwiceWrong)

/-- 'laws.FnUnrolled': WHATEVER THE INPUT: true; the input reads as it did. -/
def fnUnrolledSpec : ChangeSpec := { name := "fnUnrolled", fn := fun _ => fun
  | [d] => { results := [.lit (.bool true)], args := [d] }
  | _ => none }
def fnUnrolledRow : OpenClaim := { program := "ytfeffofoofmgcaa", sum := "aa162a2a0fb7a930a7cd2306febc377fd24d9e872c52eee1aeb1863b6a4395cf", func := "loop.example/g00979/laws.FnUnrolled", spec := "fnUnrolled", recurses := true, apart := false }
def FnUnrolledSaid : Prop := fnUnrolledRow.holds Try.pinned (OpenSpec.ofChange fnUnrolledSpec)

/-- ITS FALSE NEIGHBOUR: 'it returns false'. Refute it at one input. -/
def fnUnrolledWrong : ChangeSpec := { name := "fnUnrolled", fn := fun _ => fun
  | [d] => { results := [.lit (.bool false)], args := [d] }
  | _ => none }
def FnUnrolledWrongFalsely : Prop := fnUnrolledRow.holds Try.pinned (OpenSpec.ofChange fnUnrolledWrong)

/-- 'laws.FnSteps': WHATEVER THE INPUT: true; the input reads as it did. -/
def fnStepsSpec : ChangeSpec := { name := "fnSteps", fn := fun _ => fun
  | [d] => { results := [.lit (.bool true)], args := [d] }
  | _ => none }
def fnStepsRow : OpenClaim := { program := "ytfeffofoofmgcaa", sum := "aa162a2a0fb7a930a7cd2306febc377fd24d9e872c52eee1aeb1863b6a4395cf", func := "loop.example/g00979/laws.FnSteps", spec := "fnSteps", recurses := true, apart := false }
def FnStepsSaid : Prop := fnStepsRow.holds Try.pinned (OpenSpec.ofChange fnStepsSpec)

/-- ITS FALSE NEIGHBOUR: 'it returns false'. Refute it at one input. -/
def fnStepsWrong : ChangeSpec := { name := "fnSteps", fn := fun _ => fun
  | [d] => { results := [.lit (.bool false)], args := [d] }
  | _ => none }
def FnStepsWrongFalsely : Prop := fnStepsRow.holds Try.pinned (OpenSpec.ofChange fnStepsWrong)

/-- 'laws.FnFlows': WHATEVER THE INPUT: true; the input reads as it did. -/
def fnFlowsSpec : ChangeSpec := { name := "fnFlows", fn := fun _ => fun
  | [d] => { results := [.lit (.bool true)], args := [d] }
  | _ => none }
def fnFlowsRow : OpenClaim := { program := "ytfeffofoofmgcaa", sum := "aa162a2a0fb7a930a7cd2306febc377fd24d9e872c52eee1aeb1863b6a4395cf", func := "loop.example/g00979/laws.FnFlows", spec := "fnFlows", recurses := true, apart := false }
def FnFlowsSaid : Prop := fnFlowsRow.holds Try.pinned (OpenSpec.ofChange fnFlowsSpec)

/-- ITS FALSE NEIGHBOUR: 'it returns false'. Refute it at one input. -/
def fnFlowsWrong : ChangeSpec := { name := "fnFlows", fn := fun _ => fun
  | [d] => { results := [.lit (.bool false)], args := [d] }
  | _ => none }
def FnFlowsWrongFalsely : Prop := fnFlowsRow.holds Try.pinned (OpenSpec.ofChange fnFlowsWrong)

/-- 'laws.FnNoninterference': WHATEVER THE INPUT: true; the input reads as it did. -/
def fnNoninterferenceSpec : ChangeSpec := { name := "fnNoninterference", fn := fun _ => fun
  | [d] => { results := [.lit (.bool true)], args := [d] }
  | _ => none }
def fnNoninterferenceRow : OpenClaim := { program := "ytfeffofoofmgcaa", sum := "aa162a2a0fb7a930a7cd2306febc377fd24d9e872c52eee1aeb1863b6a4395cf", func := "loop.example/g00979/laws.FnNoninterference", spec := "fnNoninterference", recurses := true, apart := false }
def FnNoninterferenceSaid : Prop := fnNoninterferenceRow.holds Try.pinned (OpenSpec.ofChange fnNoninterferenceSpec)

/-- ITS FALSE NEIGHBOUR: 'it returns false'. Refute it at one input. -/
def fnNoninterferenceWrong : ChangeSpec := { name := "fnNoninterference", fn := fun _ => fun
  | [d] => { results := [.lit (.bool false)], args := [d] }
  | _ => none }
def FnNoninterferenceWrongFalsely : Prop := fnNoninterferenceRow.holds Try.pinned (OpenSpec.ofChange fnNoninterferenceWrong)

/-- 'laws.FnLoopRuns': WHATEVER THE INPUT: true; the input reads as it did. -/
def fnLoopRunsSpec : ChangeSpec := { name := "fnLoopRuns", fn := fun _ => fun
  | [d] => { results := [.lit (.bool true)], args := [d] }
  | _ => none }
def fnLoopRunsRow : OpenClaim := { program := "ytfeffofoofmgcaa", sum := "aa162a2a0fb7a930a7cd2306febc377fd24d9e872c52eee1aeb1863b6a4395cf", func := "loop.example/g00979/laws.FnLoopRuns", spec := "fnLoopRuns", recurses := true, apart := false }
def FnLoopRunsSaid : Prop := fnLoopRunsRow.holds Try.pinned (OpenSpec.ofChange fnLoopRunsSpec)

/-- ITS FALSE NEIGHBOUR: 'it returns false'. Refute it at one input. -/
def fnLoopRunsWrong : ChangeSpec := { name := "fnLoopRuns", fn := fun _ => fun
  | [d] => { results := [.lit (.bool false)], args := [d] }
  | _ => none }
def FnLoopRunsWrongFalsely : Prop := fnLoopRunsRow.holds Try.pinned (OpenSpec.ofChange fnLoopRunsWrong)

/-- 'laws.FnInputBits': WHATEVER THE INPUT: true; the input reads as it did. -/
def fnInputBitsSpec : ChangeSpec := { name := "fnInputBits", fn := fun _ => fun
  | [d] => { results := [.lit (.bool true)], args := [d] }
  | _ => none }
def fnInputBitsRow : OpenClaim := { program := "ytfeffofoofmgcaa", sum := "aa162a2a0fb7a930a7cd2306febc377fd24d9e872c52eee1aeb1863b6a4395cf", func := "loop.example/g00979/laws.FnInputBits", spec := "fnInputBits", recurses := true, apart := false }
def FnInputBitsSaid : Prop := fnInputBitsRow.holds Try.pinned (OpenSpec.ofChange fnInputBitsSpec)

/-- ITS FALSE NEIGHBOUR: 'it returns false'. Refute it at one input. -/
def fnInputBitsWrong : ChangeSpec := { name := "fnInputBits", fn := fun _ => fun
  | [d] => { results := [.lit (.bool false)], args := [d] }
  | _ => none }
def FnInputBitsWrongFalsely : Prop := fnInputBitsRow.holds Try.pinned (OpenSpec.ofChange fnInputBitsWrong)

/- THE SECOND FORM. 'bulk': how many values and letters a reading holds, each counted each time it is reached (what is shared counts as often as it is met; a slice's spare places count too). A statement '..UptoSaid' is the law's where the arguments, and the package variables that the reading takes, are together of bulk at most 1048576: NARROWER than '..Said'. Prove '..Said' where nothing that the law and all that it calls make is longer than what came in: it says more and counts as full. Else prove '..UptoSaid'. A law counts once. -/
mutual
def uptoBulk {H : Type} : DataW H → Nat
  | .lit (.string bytes) => bytes.length + 1
  | .lit _ => 1
  | .nil => 1
  | .ptr d => uptoBulk d + 1
  | .slice elems spare => uptoBulkAll elems + uptoBulkAll spare + 1
  | .agg parts => uptoBulkAll parts + 1
  | .iface _ d => uptoBulk d + 1
  | .map entries => uptoBulkEntries entries + 1
  | .held _ => 1
def uptoBulkAll {H : Type} : List (DataW H) → Nat
  | [] => 0
  | d :: r => uptoBulk d + uptoBulkAll r
def uptoBulkEntries {H : Type} : List (Lit × DataW H) → Nat
  | [] => 0
  | x :: r => uptoBulkEntry x + uptoBulkEntries r
def uptoBulkEntry {H : Type} : Lit × DataW H → Nat
  | (.string bytes, d) => bytes.length + uptoBulk d + 1
  | (_, d) => uptoBulk d + 1
 end
def uptoSmall : (H : Type) → List (DataW H) → Bool := fun _ ds => decide (uptoBulkAll ds ≤ 1048576)
def OpenSpec.upto (s : _root_.Go.ChangeSpec) : _root_.Go.OpenSpec := { _root_.Go.OpenSpec.ofChange s with cond := some uptoSmall }

/-- 'laws.FnExactPartiesOf', WHERE WHAT IT READS IS OF BULK AT MOST 1048576: true; the input reads as it did. -/
def fnExactPartiesOfUptoRow : OpenClaim := { program := "ytfeffofoofmgcaa", sum := "aa162a2a0fb7a930a7cd2306febc377fd24d9e872c52eee1aeb1863b6a4395cf", func := "loop.example/g00979/laws.FnExactPartiesOf", spec := "fnExactPartiesOf", apart := false, narrowed := true }
def FnExactPartiesOfUptoSaid : Prop := fnExactPartiesOfUptoRow.holds Try.pinned (OpenSpec.upto fnExactPartiesOfSpec)

/-- 'laws.FnExactLoopDepth', WHERE WHAT IT READS IS OF BULK AT MOST 1048576: true; the input reads as it did. -/
def fnExactLoopDepthUptoRow : OpenClaim := { program := "ytfeffofoofmgcaa", sum := "aa162a2a0fb7a930a7cd2306febc377fd24d9e872c52eee1aeb1863b6a4395cf", func := "loop.example/g00979/laws.FnExactLoopDepth", spec := "fnExactLoopDepth", apart := false, narrowed := true }
def FnExactLoopDepthUptoSaid : Prop := fnExactLoopDepthUptoRow.holds Try.pinned (OpenSpec.upto fnExactLoopDepthSpec)

/-- 'laws.FnExactUnrolledSize', WHERE WHAT IT READS IS OF BULK AT MOST 1048576: true; the input reads as it did. -/
def fnExactUnrolledSizeUptoRow : OpenClaim := { program := "ytfeffofoofmgcaa", sum := "aa162a2a0fb7a930a7cd2306febc377fd24d9e872c52eee1aeb1863b6a4395cf", func := "loop.example/g00979/laws.FnExactUnrolledSize", spec := "fnExactUnrolledSize", recurses := true, apart := false, narrowed := true }
def FnExactUnrolledSizeUptoSaid : Prop := fnExactUnrolledSizeUptoRow.holds Try.pinned (OpenSpec.upto fnExactUnrolledSizeSpec)

/-- 'laws.FnExactFlowStep', WHERE WHAT IT READS IS OF BULK AT MOST 1048576: true; the input reads as it did. -/
def fnExactFlowStepUptoRow : OpenClaim := { program := "ytfeffofoofmgcaa", sum := "aa162a2a0fb7a930a7cd2306febc377fd24d9e872c52eee1aeb1863b6a4395cf", func := "loop.example/g00979/laws.FnExactFlowStep", spec := "fnExactFlowStep", apart := false, narrowed := true }
def FnExactFlowStepUptoSaid : Prop := fnExactFlowStepUptoRow.holds Try.pinned (OpenSpec.upto fnExactFlowStepSpec)

/-- 'laws.FnExactOutputCount', WHERE WHAT IT READS IS OF BULK AT MOST 1048576: true; the input reads as it did. -/
def fnExactOutputCountUptoRow : OpenClaim := { program := "ytfeffofoofmgcaa", sum := "aa162a2a0fb7a930a7cd2306febc377fd24d9e872c52eee1aeb1863b6a4395cf", func := "loop.example/g00979/laws.FnExactOutputCount", spec := "fnExactOutputCount", recurses := true, apart := false, narrowed := true }
def FnExactOutputCountUptoSaid : Prop := fnExactOutputCountUptoRow.holds Try.pinned (OpenSpec.upto fnExactOutputCountSpec)

/-- 'laws.FnExactUnroll', WHERE WHAT IT READS IS OF BULK AT MOST 1048576: true; the input reads as it did. -/
def fnExactUnrollUptoRow : OpenClaim := { program := "ytfeffofoofmgcaa", sum := "aa162a2a0fb7a930a7cd2306febc377fd24d9e872c52eee1aeb1863b6a4395cf", func := "loop.example/g00979/laws.FnExactUnroll", spec := "fnExactUnroll", recurses := true, apart := false, narrowed := true }
def FnExactUnrollUptoSaid : Prop := fnExactUnrollUptoRow.holds Try.pinned (OpenSpec.upto fnExactUnrollSpec)

/-- 'laws.FnExactFlowOk', WHERE WHAT IT READS IS OF BULK AT MOST 1048576: true; the input reads as it did. -/
def fnExactFlowOkUptoRow : OpenClaim := { program := "ytfeffofoofmgcaa", sum := "aa162a2a0fb7a930a7cd2306febc377fd24d9e872c52eee1aeb1863b6a4395cf", func := "loop.example/g00979/laws.FnExactFlowOk", spec := "fnExactFlowOk", recurses := true, apart := false, narrowed := true }
def FnExactFlowOkUptoSaid : Prop := fnExactFlowOkUptoRow.holds Try.pinned (OpenSpec.upto fnExactFlowOkSpec)

/-- 'laws.FnExactOutputDeps', WHERE WHAT IT READS IS OF BULK AT MOST 1048576: true; the input reads as it did. -/
def fnExactOutputDepsUptoRow : OpenClaim := { program := "ytfeffofoofmgcaa", sum := "aa162a2a0fb7a930a7cd2306febc377fd24d9e872c52eee1aeb1863b6a4395cf", func := "loop.example/g00979/laws.FnExactOutputDeps", spec := "fnExactOutputDeps", recurses := true, apart := false, narrowed := true }
def FnExactOutputDepsUptoSaid : Prop := fnExactOutputDepsUptoRow.holds Try.pinned (OpenSpec.upto fnExactOutputDepsSpec)

/-- 'laws.FnExactStepState', WHERE WHAT IT READS IS OF BULK AT MOST 1048576: true; the input reads as it did. -/
def fnExactStepStateUptoRow : OpenClaim := { program := "ytfeffofoofmgcaa", sum := "aa162a2a0fb7a930a7cd2306febc377fd24d9e872c52eee1aeb1863b6a4395cf", func := "loop.example/g00979/laws.FnExactStepState", spec := "fnExactStepState", apart := false, narrowed := true }
def FnExactStepStateUptoSaid : Prop := fnExactStepStateUptoRow.holds Try.pinned (OpenSpec.upto fnExactStepStateSpec)

/-- 'laws.FnExactRunProgram', WHERE WHAT IT READS IS OF BULK AT MOST 1048576: true; the input reads as it did. -/
def fnExactRunProgramUptoRow : OpenClaim := { program := "ytfeffofoofmgcaa", sum := "aa162a2a0fb7a930a7cd2306febc377fd24d9e872c52eee1aeb1863b6a4395cf", func := "loop.example/g00979/laws.FnExactRunProgram", spec := "fnExactRunProgram", recurses := true, apart := false, narrowed := true }
def FnExactRunProgramUptoSaid : Prop := fnExactRunProgramUptoRow.holds Try.pinned (OpenSpec.upto fnExactRunProgramSpec)

/-- 'laws.FnStatements', WHERE WHAT IT READS IS OF BULK AT MOST 1048576: true; the input reads as it did. -/
def fnStatementsUptoRow : OpenClaim := { program := "ytfeffofoofmgcaa", sum := "aa162a2a0fb7a930a7cd2306febc377fd24d9e872c52eee1aeb1863b6a4395cf", func := "loop.example/g00979/laws.FnStatements", spec := "fnStatements", recurses := true, apart := false, narrowed := true }
def FnStatementsUptoSaid : Prop := fnStatementsUptoRow.holds Try.pinned (OpenSpec.upto fnStatementsSpec)

/-- 'laws.FnTwice', WHERE WHAT IT READS IS OF BULK AT MOST 1048576: true; the input reads as it did. -/
def fnTwiceUptoRow : OpenClaim := { program := "ytfeffofoofmgcaa", sum := "aa162a2a0fb7a930a7cd2306febc377fd24d9e872c52eee1aeb1863b6a4395cf", func := "loop.example/g00979/laws.FnTwice", spec := "fnTwice", recurses := true, apart := false, narrowed := true }
def FnTwiceUptoSaid : Prop := fnTwiceUptoRow.holds Try.pinned (OpenSpec.upto fnTwiceSpec)

/-- 'laws.FnUnrolled', WHERE WHAT IT READS IS OF BULK AT MOST 1048576: true; the input reads as it did. -/
def fnUnrolledUptoRow : OpenClaim := { program := "ytfeffofoofmgcaa", sum := "aa162a2a0fb7a930a7cd2306febc377fd24d9e872c52eee1aeb1863b6a4395cf", func := "loop.example/g00979/laws.FnUnrolled", spec := "fnUnrolled", recurses := true, apart := false, narrowed := true }
def FnUnrolledUptoSaid : Prop := fnUnrolledUptoRow.holds Try.pinned (OpenSpec.upto fnUnrolledSpec)

/-- 'laws.FnSteps', WHERE WHAT IT READS IS OF BULK AT MOST 1048576: true; the input reads as it did. -/
def fnStepsUptoRow : OpenClaim := { program := "ytfeffofoofmgcaa", sum := "aa162a2a0fb7a930a7cd2306febc377fd24d9e872c52eee1aeb1863b6a4395cf", func := "loop.example/g00979/laws.FnSteps", spec := "fnSteps", recurses := true, apart := false, narrowed := true }
def FnStepsUptoSaid : Prop := fnStepsUptoRow.holds Try.pinned (OpenSpec.upto fnStepsSpec)

/-- 'laws.FnFlows', WHERE WHAT IT READS IS OF BULK AT MOST 1048576: true; the input reads as it did. -/
def fnFlowsUptoRow : OpenClaim := { program := "ytfeffofoofmgcaa", sum := "aa162a2a0fb7a930a7cd2306febc377fd24d9e872c52eee1aeb1863b6a4395cf", func := "loop.example/g00979/laws.FnFlows", spec := "fnFlows", recurses := true, apart := false, narrowed := true }
def FnFlowsUptoSaid : Prop := fnFlowsUptoRow.holds Try.pinned (OpenSpec.upto fnFlowsSpec)

/-- 'laws.FnNoninterference', WHERE WHAT IT READS IS OF BULK AT MOST 1048576: true; the input reads as it did. -/
def fnNoninterferenceUptoRow : OpenClaim := { program := "ytfeffofoofmgcaa", sum := "aa162a2a0fb7a930a7cd2306febc377fd24d9e872c52eee1aeb1863b6a4395cf", func := "loop.example/g00979/laws.FnNoninterference", spec := "fnNoninterference", recurses := true, apart := false, narrowed := true }
def FnNoninterferenceUptoSaid : Prop := fnNoninterferenceUptoRow.holds Try.pinned (OpenSpec.upto fnNoninterferenceSpec)

/-- 'laws.FnLoopRuns', WHERE WHAT IT READS IS OF BULK AT MOST 1048576: true; the input reads as it did. -/
def fnLoopRunsUptoRow : OpenClaim := { program := "ytfeffofoofmgcaa", sum := "aa162a2a0fb7a930a7cd2306febc377fd24d9e872c52eee1aeb1863b6a4395cf", func := "loop.example/g00979/laws.FnLoopRuns", spec := "fnLoopRuns", recurses := true, apart := false, narrowed := true }
def FnLoopRunsUptoSaid : Prop := fnLoopRunsUptoRow.holds Try.pinned (OpenSpec.upto fnLoopRunsSpec)

/-- 'laws.FnInputBits', WHERE WHAT IT READS IS OF BULK AT MOST 1048576: true; the input reads as it did. -/
def fnInputBitsUptoRow : OpenClaim := { program := "ytfeffofoofmgcaa", sum := "aa162a2a0fb7a930a7cd2306febc377fd24d9e872c52eee1aeb1863b6a4395cf", func := "loop.example/g00979/laws.FnInputBits", spec := "fnInputBits", recurses := true, apart := false, narrowed := true }
def FnInputBitsUptoSaid : Prop := fnInputBitsUptoRow.holds Try.pinned (OpenSpec.upto fnInputBitsSpec)

end Rows
end Go.Proofs.Ytfeffofoofmgcaa
